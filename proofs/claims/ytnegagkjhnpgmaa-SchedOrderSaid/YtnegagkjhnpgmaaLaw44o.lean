/- Jobs of one handle are done in order. -/
import Derived.Test.YtnegagkjhnpgmaaScOrd
namespace Go.Proofs.Ytnegagkjhnpgmaa.X
open Go.RowKit Go.Proofs.YtnegagkjhnpgmaaW.PrintWords Go.Proofs.YtnegagkjhnpgmaaW.PrintMore Go.Proofs.YtnegagkjhnpgmaaW.PrintLast
set_option linter.unusedVariables false
noncomputable def mewslaw44_SchedOrder.f (_k : Nat) (l0 l1 : List Int) : Option Bool := open Classical in if (∀ x ∈ l0, 0 ≤ x ∧ x ≤ 255) ∧ (∀ x ∈ l1, 0 ≤ x ∧ x ≤ 255) then some true else none
end Go.Proofs.Ytnegagkjhnpgmaa.X
namespace Go.Proofs.Ytnegagkjhnpgmaa.Sc
open Go.RowKit Go.Proofs.YtnegagkjhnpgmaaW.PrintWords Go.Proofs.YtnegagkjhnpgmaaW.PrintMore Go.Proofs.YtnegagkjhnpgmaaW.PrintLast Go.Proofs.Ytnegagkjhnpgmaa.Dq Go.Proofs.Ytnegagkjhnpgmaa.X
set_option linter.unusedVariables false
set_option linter.unusedSimpArgs false
attribute [local go_sem ↓] Go.wp_at_zero Go.wp_at_succ
theorem o_i (z : Int) (h : -1000000 ≤ z ∧ z ≤ 1000000) : IntKind.i64.wrap z = z := by rw [IntKind.wrap_i64]; omega
theorem o_w (z : Int) (h : -1000000 ≤ z ∧ z ≤ 1000000) : wrap64 z = z := by unfold wrap64; omega
theorem o_8 (z : Int) (h : 0 ≤ z ∧ z ≤ 255) : IntKind.u8.wrap z = z := by rw [IntKind.wrap_u8]; omega
theorem o_n (k : Nat) (h : k ≤ 1000) : -1000000 ≤ (k : Int) + 1 ∧ (k : Int) + 1 ≤ 1000000 := by omega
theorem o_m (k : Nat) (h : k ≤ 1000) : -1000000 ≤ (k : Int) ∧ (k : Int) ≤ 1000000 := by omega
theorem C_cell {kd : IntKind} {w : World} {A : Option Addr} {n : Nat} {l : List Int} (h : Kd.C (Kd.int kd) w A n l) (i : Nat) (hi : i < l.length) : ∃ ad, A = some ad ∧ w.cell? (ad.add i) = some (.int kd (l.getD i 0)) := by
  obtain ⟨hn, hm, hc⟩ := h
  obtain ⟨ad, e, hc⟩ := hc (by omega)
  obtain ⟨c, hs, hr, hcell⟩ := hc i _ (List.getElem?_eq_getElem hi)
  have hr' : c = [.int kd (l[i]'hi)] := hr
  subst hr'
  refine ⟨ad, e, ?_⟩
  have := hcell 0 _ rfl
  rw [show i * (Kd.int kd).sz + 0 = i from by show i * 1 + 0 = i; omega] at this
  rw [this, List.getD_eq_getElem?_getD, List.getElem?_eq_getElem hi]
  rfl
theorem last_cell {W : World} {ga xh : Nat} {last : Int → Int} (h : W.heap[ga]? = some (.cells #[.int .i64 (last 0), .int .i64 (last 1), .int .i64 (last 2), .int .i64 (last 3)] 30 (0, 0))) (hx : xh < 4) : W.cell? ⟨ga, xh, none⟩ = some (.int .i64 (last (xh : Int))) := by
  have hc : xh = 0 ∨ xh = 1 ∨ xh = 2 ∨ xh = 3 := by omega
  rcases hc with rfl | rfl | rfl | rfl
  · exact (blk_cell h 0).trans rfl
  · exact (blk_cell h 1).trans rfl
  · exact (blk_cell h 2).trans rfl
  · exact (blk_cell h 3).trans rfl
theorem last_put {W : World} {ga xh : Nat} {last : Int → Int} {v : Int} (h : W.heap[ga]? = some (.cells #[.int .i64 (last 0), .int .i64 (last 1), .int .i64 (last 2), .int .i64 (last 3)] 30 (0, 0))) (hx : xh < 4) : (W.setCell ⟨ga, xh, none⟩ (.int .i64 v)).heap[ga]? = some (.cells #[.int .i64 (setI last (xh : Int) v 0), .int .i64 (setI last (xh : Int) v 1), .int .i64 (setI last (xh : Int) v 2), .int .i64 (setI last (xh : Int) v 3)] 30 (0, 0)) := by
  have hc : xh = 0 ∨ xh = 1 ∨ xh = 2 ∨ xh = 3 := by omega
  rcases hc with rfl | rfl | rfl | rfl
  · exact blk_put h 0 _ rfl
  · exact blk_put h 1 _ rfl
  · exact blk_put h 2 _ rfl
  · exact blk_put h 3 _ rfl
def RelA (w : World) (g n : Nat) (l0 : List Int) (v : Value) (wr : World) : Prop := ∃ i : Nat, v = .int .i64 i ∧ i ≤ n ∧ LSt w g (jos l0 i) (fun _ => []) (fun _ => False) wr
def RelB2 (w : World) (g ga n m : Nat) (v9 v10 v46 : Value) (wr : World) : Prop := ∃ (i dn : Nat) (q : List Jb) (S : Int → List Jb) (bl : Int) (last : Int → Int), v46 = .int .i64 i ∧ v9 = .int .i64 bl ∧ v10 = .int .i64 dn ∧ i ≤ m ∧ LSt w g q S (fun k => k = ga) wr ∧ OI n last q S bl dn ∧ wr.heap[ga]? = some (.cells #[.int .i64 (last 0), .int .i64 (last 1), .int .i64 (last 2), .int .i64 (last 3)] 30 (0, 0)) ∧ (bl = -1 ∨ (0 ≤ bl ∧ bl ≤ 4))
def sumS (S : Int → List Jb) : Nat → Nat
  | 0 => 0
  | h + 1 => sumS S h + (S (h : Int)).length
theorem sumS_le (S : Int → List Jb) : ∀ h, h ≤ 4 → sumS S h ≤ (S 0).length + (S 1).length + (S 2).length + (S 3).length
  | 0, _ => Nat.zero_le _
  | 1, _ => by show 0 + (S 0).length ≤ _; omega
  | 2, _ => by show 0 + (S 0).length + (S 1).length ≤ _; omega
  | 3, _ => by show 0 + (S 0).length + (S 1).length + (S 2).length ≤ _; omega
  | 4, _ => by show 0 + (S 0).length + (S 1).length + (S 2).length + (S 3).length ≤ _; omega
  | h + 5, hh => by omega
theorem order_far (A0 A1 : Option Addr) (c0 c1 n m : Nat) (w : World) (hn : 100 < n ∨ 300 < m) : Calls Try.prog 3 #[.slice A0 n c0, .slice A1 m c1] w fun e w' => e = .returned (.bool true) ∧ Below w.heap.size w w' := by
  by_cases h1 : 100 < n
  · have i2 : (100 : Int) < (n : Int) := by omega
    have i3 : decide ((100 : Int) < (n : Int)) = true := decide_eq_true i2
    have i4 := eq_true i2
    clear hn h1
    go_enter Try.func3, Try.ntmps3
    go_wp2_with (first | (go_at_call 7; (with_reducible refine (alive_calls _).mono ?_); rintro e wZ ⟨rfl, hB⟩; have HZ := Aside0.mk hB; clear hB))
    go_ret
    exact ⟨rfl, HZ.out⟩
  · have i2 : ¬ (100 : Int) < (n : Int) := by omega
    have i3 : decide ((100 : Int) < (n : Int)) = false := decide_eq_false i2
    have i4 := eq_false i2
    have j2 : (300 : Int) < (m : Int) := by omega
    have j3 : decide ((300 : Int) < (m : Int)) = true := decide_eq_true j2
    have j4 := eq_true j2
    clear hn h1
    go_enter Try.func3, Try.ntmps3
    go_wp2_with (first | (go_at_call 7; (with_reducible refine (alive_calls _).mono ?_); rintro e wZ ⟨rfl, hB⟩; have HZ := Aside0.mk hB; clear hB))
    go_ret
    exact ⟨rfl, HZ.out⟩
set_option maxHeartbeats 40000000 in
set_option maxRecDepth 100000 in
theorem order_near (A0 A1 : Option Addr) (c0 c1 n m : Nat) (l0 l1 : List Int) (w : World) (hn : n = l0.length) (hm : m = l1.length) (h0 : n ≤ 100) (h1 : m ≤ 300) (hC0 : Kd.C (Kd.int .u8) w A0 l0.length l0) (hC1 : Kd.C (Kd.int .u8) w A1 l1.length l1) (hr0 : ∀ x ∈ l0, 0 ≤ x ∧ x ≤ 255) (hr1 : ∀ x ∈ l1, 0 ≤ x ∧ x ≤ 255) :
    Calls Try.prog 3 #[.slice A0 n c0, .slice A1 m c1] w fun e w' => e = .returned (.bool true) ∧ Below w.heap.size w w' := by
  have hu := Try.underlying29
  have HN := Aside0.mk hn
  have HM := Aside0.mk hm
  have H100 := Aside0.mk h0
  have H300 := Aside0.mk h1
  have HC0 := Aside0.mk hC0
  have HC1 := Aside0.mk hC1
  have HR0 := Aside0.mk hr0
  have HR1 := Aside0.mk hr1
  have i2 : ¬ (100 : Int) < (n : Int) := by omega
  have i3 : decide ((100 : Int) < (n : Int)) = false := decide_eq_false i2
  have i4 := eq_false i2
  have j2 : ¬ (300 : Int) < (m : Int) := by omega
  have j3 : decide ((300 : Int) < (m : Int)) = false := decide_eq_false j2
  have j4 := eq_false j2
  clear hn hm h0 h1 hC0 hC1 hr0 hr1
  go_enter Try.func3, Try.ntmps3
  go_wp2_with (first | (go_at_call 8; (with_reducible refine (LSt.new (w0 := w) (Below.refl _ _) (fun _ => False) (fun _ h => h.elim)).mono ?_); rintro e w1 ⟨g, rfl, h1, hb1⟩; have H1 := Aside0.mk h1; clear h1 hb1))
  clear i2 i3 i4 j2 j3 j4
  go_loopw [29] (fun v29 wr => RelA w g n l0 v29 wr) (fun v29 _ => n - (intOf v29).toNat)
  case atStart => exact ⟨0, rfl, Nat.zero_le _, H1.out⟩
  case round =>
    obtain ⟨i, rfl, hi, hst⟩ := hrel
    have HST := Aside0.mk hst
    clear hst
    by_cases hlt : i < n
    · have HLT := Aside0.mk hlt
      have e1 : ((i : Int) < (n : Int)) := by omega
      have e3 := eq_true e1
      have e4 := eq_true (show (0 : Int) ≤ (i : Int) from Int.natCast_nonneg _)
      have m2 : wrap64 ((i : Int) + 1) = (i : Int) + 1 := o_w _ (o_n _ (by have := H100.out; omega))
      have m3 : IntKind.i64.wrap ((i : Int) + 1) = (i : Int) + 1 := o_i _ (o_n _ (by have := H100.out; omega))
      obtain ⟨ad, hAd, hcl⟩ := C_cell HC0.out i (by have := HN.out; omega)
      subst hAd
      have hr := HR0.out (l0.getD i 0) (by rw [List.getD_eq_getElem?_getD, List.getElem?_eq_getElem (by have := HN.out; omega)]; exact List.getElem_mem _)
      have x0 : wr.cell? (ad.add i) = some (.int .u8 (l0.getD i 0)) := cell_below hcl HST.out.out
      obtain ⟨hv, hhv⟩ : ∃ hv : Int, hv = l0.getD i 0 := ⟨_, rfl⟩
      rw [← hhv] at hr x0
      obtain ⟨mm, hmm⟩ : ∃ mm : Int, mm = hv % 4 := ⟨_, rfl⟩
      have m1 : Int.tmod hv 4 = mm := by rw [Int.tmod_eq_emod_of_nonneg hr.1]; exact hmm.symm
      have m4 : IntKind.i64.wrap mm = mm := o_i _ (by omega)
      have m5 : wrap64 mm = mm := o_w _ (by omega)
      have m6 : IntKind.u8.wrap mm = mm := o_8 _ (by omega)
      have HMM := Aside0.mk (show (Value.int .i64 mm) = .int .i64 (l0.getD i 0 % 4) from by rw [hmm, hhv])
      clear hlt hmm hhv hr hcl
      go_wp2_with fail
      clear x0
      go_at_call 9
      have hP : Calls Try.prog 9 #[.pointer (some ⟨g, 0, none⟩), .slice (some ⟨wr.heap.size, 0, none⟩) 1 1] (wr.alloc (.cells #[.int .i64 mm, .slice none 0 0, .int .i64 ((i : Int) + 1), .string (⟨#[]⟩ : ByteArray)] 29 (0, 0))) _ :=
        LSt.push (w0 := w) (P := fun k => k = wr.heap.size) (R := [jo l0 i]) (n := 1) (c := 1) (HST.out.more (below_alloc (Below.refl _ _) _) (fun k hk => .inr ⟨Nat.le_of_eq hk.symm, by rw [hk]; simp⟩)) rfl (reads_block (blk_new wr _) (by rw [HMM.out]; rfl)) (fun ad e => .inl (by injection e with e; rw [← e])) (by have := H100.out; have := HLT.out; rw [jos_len]; simp only [List.length_singleton]; omega)
      with_reducible refine Calls.mono hP ?_
      clear hP
      rintro e w2 ⟨rfl, h2, -⟩
      have H2 := Aside0.mk (h2.weak (P' := fun _ => False) (fun _ h => h.elim))
      clear h2
      go_wp2_with fail
      go_roundw
      case rel => exact ⟨i + 1, by simp, HLT.out, by rw [jos_next]; exact H2.out⟩
      case measure => have := HLT.out; simp [intOf] <;> omega
    · have e1 : ¬ ((i : Int) < (n : Int)) := by omega
      have e3 := eq_false e1
      have hin : i = n := by omega
      subst hin
      clear hi hlt
      go_wp2_with (first | ((with_reducible refine gate_dst (N := 8) rfl ?_); refine box_event ?hg (N := 8) ?hd (cs := #[.int .i64 0, .int .i64 0, .int .i64 0, .int .i64 0]) (t := 30) ?hr ?_; (case hd => rfl); (case hg => rfl); (case hr => first | (go_simp; done) | (go_simp; rfl)); intro ga hg_ w2 hbox hb; have GA := Aside0.mk hg_; have BA := Aside0.mk hb; have XA := Aside0.mk hbox; clear hbox hb hg_))
      have HA := Aside0.mk (HST.out.more (P' := fun k => k = ga) BA.out (fun k hk => .inr ⟨by rw [hk]; exact Nat.le_of_eq GA.out.symm, by rw [hk]; exact blk_lt XA.out⟩))
      have GAL := Aside0.mk (show w.heap.size ≤ ga from by have := HST.out.out.size; have := GA.out; omega)
      have HOI := Aside0.mk (jos_start l0 i)
      clear HST
      go_loopw [9, 10, 46] (fun v9 v10 v46 wr => RelB2 w g ga i m v9 v10 v46 wr) (fun _ _ v46 _ => m - (intOf v46).toNat)
      case atStart => exact ⟨0, 0, jos l0 i, fun _ => [], -1, fun _ => 0, rfl, rfl, rfl, Nat.zero_le _, HA.out, HOI.out, XA.out, .inl rfl⟩
      case round =>
        clear HA HOI XA e1 e3
        obtain ⟨j, dn, q, S, bl, last, rfl, rfl, rfl, hj, hst, hoi, hxa, hbl⟩ := hrel
        have HST := Aside0.mk hst
        have HOI := Aside0.mk hoi
        have XR := Aside0.mk hxa
        clear hst hoi hxa
        by_cases hlt : j < m
        · have HLT := Aside0.mk hlt
          have e1 : ((j : Int) < (m : Int)) := by omega
          have e3 := eq_true e1
          have e4 := eq_true (show (0 : Int) ≤ (j : Int) from Int.natCast_nonneg _)
          have m2 : wrap64 ((j : Int) + 1) = (j : Int) + 1 := o_w _ (o_n _ (by have := H300.out; omega))
          have m3 : IntKind.i64.wrap ((j : Int) + 1) = (j : Int) + 1 := o_i _ (o_n _ (by have := H300.out; omega))
          have HDN := Aside0.mk (show dn ≤ 1000 from by have := HOI.out.len; have := H100.out; omega)
          have m7 : wrap64 ((dn : Int) + 1) = (dn : Int) + 1 := o_w _ (o_n _ HDN.out)
          have m8 : IntKind.i64.wrap ((dn : Int) + 1) = (dn : Int) + 1 := o_i _ (o_n _ HDN.out)
          obtain ⟨ad, hAd, hcl⟩ := C_cell HC1.out j (by have := HM.out; omega)
          subst hAd
          have hr := HR1.out (l1.getD j 0) (by rw [List.getD_eq_getElem?_getD, List.getElem?_eq_getElem (by have := HM.out; omega)]; exact List.getElem_mem _)
          have x0 : wr.cell? (ad.add j) = some (.int .u8 (l1.getD j 0)) := cell_below hcl HST.out.out
          obtain ⟨hv, hhv⟩ : ∃ hv : Int, hv = l1.getD j 0 := ⟨_, rfl⟩
          rw [← hhv] at hr x0
          obtain ⟨b, hb⟩ : ∃ b : Int, b = hv % 5 := ⟨_, rfl⟩
          have m1 : Int.tmod hv 5 = b := by rw [Int.tmod_eq_emod_of_nonneg hr.1]; exact hb.symm
          have m4 : IntKind.i64.wrap b = b := o_i _ (by omega)
          have m5 : wrap64 b = b := o_w _ (by omega)
          have m6 : IntKind.u8.wrap b = b := o_8 _ (by omega)
          have HB := Aside0.mk (show 0 ≤ b ∧ b ≤ 4 by omega)
          have HBK0 := Aside0.mk HOI.out.back
          clear hlt hb hhv hr hcl
          rcases hbl with rfl | hbl
          · have HS0 := Aside0.mk (show S = fun _ => [] from by
              funext k
              by_cases e : k = -1
              · cases hx : S k with
                | nil => rfl
                | cons x l =>
                  obtain ⟨h1, h2, _⟩ := HOI.out.hs k x (by rw [hx]; simp)
                  omega
              · exact HOI.out.only k e)
            have HOI0 := Aside0.mk (show OI i last q (fun _ => []) (-1) dn from by rw [← HS0.out]; exact HOI.out)
            have HNO := Aside0.mk (HOI0.out.next b)
            have QLEN := Aside0.mk (show q.length ≤ 1000 from by have := HOI0.out.len; have := H100.out; omega)
            have HQ1 := Aside0.mk (show LSt w g q (fun _ => []) (fun k => k = ga) wr from by rw [← HS0.out]; exact HST.out)
            have XQ1 := Aside0.mk XR.out
            clear HST XR HS0
            rcases HNO.out with ⟨q2, S2, hnx, hoi⟩ | ⟨x, q2, S2, hnx, hx0, hx3, hxb, hxl, hoi⟩
            · have HOI2 := Aside0.mk hoi
              have hP : Calls Try.prog 11 #[.pointer (some ⟨g, 0, none⟩), .slice (some ⟨wr.heap.size, 0, none⟩) 1 1] (wr.alloc (.cells #[.int .i64 b] 3 (0, 0))) _ :=
                LSt.next (w0 := w) (A0 := some ⟨wr.heap.size, 0, none⟩) (P := fun k => k = ga ∨ k = wr.heap.size) (l0 := [b]) (c0 := 1) (HQ1.out.more (below_alloc (Below.refl _ _) (.cells #[.int .i64 b] 3 (0, 0))) (fun k hk => by rcases hk with hk | hk; exact .inl hk; exact .inr ⟨Nat.le_of_eq hk.symm, by rw [hk]; simp⟩)) (Nat.le_refl 1) (by simp) (C_lit (blk_new wr _) rfl (by simp)) (fun ad e => .inl (.inr (by injection e with e; rw [← e]))) (fun k => by have := QLEN.out; simp only [List.length_nil]; omega)
              rw [hnx] at hP
              have HNX := Aside0.mk hP
              clear hP
              have XQ2 := Aside0.mk (old_blk XQ1.out (below_alloc (Below.refl wr.heap.size wr) (.cells #[.int .i64 b] 3 (0, 0))))
              clear hnx hoi
              go_wp2_with (first | (go_at_call 11; (with_reducible refine HNX.out.mono ?_); rintro e w3 ⟨rfl, h3, hk3⟩; have H3 := Aside0.mk (h3.weak (P' := fun k => k = ga) (fun k hk => .inl hk)); have X3 := Aside0.mk (hk3 ga (.inl rfl)); clear h3 hk3) | ((with_reducible refine gate_dst (N := 13) rfl ?_); refine box_event ?hg (N := 13) ?hd (cs := #[.int .i64 0, .slice none 0 0, .int .i64 0, .string (⟨#[]⟩ : ByteArray)]) (t := 29) ?hr ?_; (case hd => rfl); (case hg => rfl); (case hr => first | (go_simp; done) | (go_simp; rfl)); intro g9 hg_ w4 hbox hb; have G9 := Aside0.mk hg_; have BW3 := Aside0.mk hb; have B9 := Aside0.mk hbox; clear hbox hb hg_; obtain ⟨u0, u1, u2, u3, v0, v1, v2, v3⟩ := cells4 B9.out) | ((with_reducible refine gate_store (t := 29) (p := 13) rfl ?_); refine store_event2 (w1 := ((((w4.setCell ⟨g9, 0, none⟩ (.int .i64 0)).setCell ⟨g9, 1, none⟩ (.slice none 0 0)).setCell ⟨g9, 2, none⟩ (.int .i64 0)).setCell ⟨g9, 3, none⟩ (.string (⟨#[]⟩ : ByteArray)))) ?hg ?hn ?hr ?_; (case hg => rfl); (case hn => rfl); (case hr => first | (go_simp; done) | (go_simp; rfl)); intro w5 hW_; have HW4 := Aside0.mk hW_; clear hW_; have BW := Aside0.mk (show Below w3.heap.size w3 w5 from by rw [HW4.out]; exact below_set (below_set (below_set (below_set BW3.out (Nat.le_of_eq G9.out.symm)) (Nat.le_of_eq G9.out.symm)) (Nat.le_of_eq G9.out.symm)) (Nat.le_of_eq G9.out.symm)); have BX := Aside0.mk (show w5.heap[g9]? = some (.cells #[.int .i64 0, .slice none 0 0, .int .i64 0, .string (⟨#[]⟩ : ByteArray)] 29 (0, 0)) from by rw [HW4.out]; exact put4 B9.out _ _ _ _); clear u0 u1 u2 u3 v0 v1 v2 v3 BW3 B9 HW4))
              go_roundw
              case rel => exact ⟨j + 1, dn, q2, S2, b, last, by simp, rfl, rfl, HLT.out, H3.out.below BW.out, HOI2.out, old_blk (X3.out.trans XQ2.out) BW.out, .inr HB.out⟩
              case measure => have := HLT.out; simp [intOf] <;> omega
            · obtain ⟨xh', xA, xn, xc, xs, xf⟩ := x
              obtain ⟨xh, hxh, hx4⟩ : ∃ xh : Nat, xh' = (xh : Int) ∧ xh < 4 := ⟨xh'.toNat, by dsimp only at hx0; omega, by dsimp only at hx3 hx0; omega⟩
              subst hxh
              dsimp only at hx0 hx3 hxb hxl hoi
              have HOI2 := Aside0.mk hoi
              have hP : Calls Try.prog 11 #[.pointer (some ⟨g, 0, none⟩), .slice (some ⟨wr.heap.size, 0, none⟩) 1 1] (wr.alloc (.cells #[.int .i64 b] 3 (0, 0))) _ :=
                LSt.next (w0 := w) (A0 := some ⟨wr.heap.size, 0, none⟩) (P := fun k => k = ga ∨ k = wr.heap.size) (l0 := [b]) (c0 := 1) (HQ1.out.more (below_alloc (Below.refl _ _) (.cells #[.int .i64 b] 3 (0, 0))) (fun k hk => by rcases hk with hk | hk; exact .inl hk; exact .inr ⟨Nat.le_of_eq hk.symm, by rw [hk]; simp⟩)) (Nat.le_refl 1) (by simp) (C_lit (blk_new wr _) rfl (by simp)) (fun ad e => .inl (.inr (by injection e with e; rw [← e]))) (fun k => by have := QLEN.out; simp only [List.length_nil]; omega)
              rw [hnx] at hP
              have HNX := Aside0.mk hP
              clear hP
              have XQ2 := Aside0.mk (old_blk XQ1.out (below_alloc (Below.refl wr.heap.size wr) (.cells #[.int .i64 b] 3 (0, 0))))
              have HL4 := Aside0.mk hx4
              have c1 : ¬ ((xh : Int) < 0) := by omega
              have c2 : decide ((xh : Int) < 0) = false := decide_eq_false c1
              have c3 : ¬ ((3 : Int) < (xh : Int)) := by omega
              have c4 : decide ((3 : Int) < (xh : Int)) = false := decide_eq_false c3
              have c5 : ((xh : Int) == b) = false := by simp [hxb]
              have c6 : decide ((xh : Int) = b) = false := decide_eq_false hxb
              have c7 : ¬ (xs ≤ last (xh : Int)) := by omega
              have c8 : decide (xs ≤ last (xh : Int)) = false := decide_eq_false c7
              have c9 := eq_true (show (0 : Int) ≤ (xh : Int) from Int.natCast_nonneg _)
              have c10 := eq_true (show ((xh : Int)) < 4 by omega)
              clear hnx hoi hx0 hx3 hxb hxl hx4 c1 c3 c7
              go_wp2_with (first | (go_at_call 11; (with_reducible refine HNX.out.mono ?_); rintro e w3 ⟨rfl, h3, hk3⟩; have H3 := Aside0.mk (h3.weak (P' := fun k => k = ga) (fun k hk => .inl hk)); have X3 := Aside0.mk (hk3 ga (.inl rfl)); clear h3 hk3) | ((with_reducible refine gate_dst (N := 13) rfl ?_); refine box_event ?hg (N := 13) ?hd (cs := #[.int .i64 0, .slice none 0 0, .int .i64 0, .string (⟨#[]⟩ : ByteArray)]) (t := 29) ?hr ?_; (case hd => rfl); (case hg => rfl); (case hr => first | (go_simp; done) | (go_simp; rfl)); intro g9 hg_ w4 hbox hb; have G9 := Aside0.mk hg_; have BW3 := Aside0.mk hb; have B9 := Aside0.mk hbox; clear hbox hb hg_; obtain ⟨u0, u1, u2, u3, v0, v1, v2, v3⟩ := cells4 B9.out) | ((with_reducible refine gate_store (t := 29) (p := 13) rfl ?_); refine store_event2 (w1 := ((((w4.setCell ⟨g9, 0, none⟩ (.int .i64 (xh : Int))).setCell ⟨g9, 1, none⟩ (.slice xA xn xc)).setCell ⟨g9, 2, none⟩ (.int .i64 xs)).setCell ⟨g9, 3, none⟩ (.string xf))) ?hg ?hn ?hr ?_; (case hg => rfl); (case hn => rfl); (case hr => first | (go_simp; done) | (go_simp; rfl)); intro w5 hW_; have HW4 := Aside0.mk hW_; clear hW_; have BW := Aside0.mk (show Below w3.heap.size w3 w5 from by rw [HW4.out]; exact below_set (below_set (below_set (below_set BW3.out (Nat.le_of_eq G9.out.symm)) (Nat.le_of_eq G9.out.symm)) (Nat.le_of_eq G9.out.symm)) (Nat.le_of_eq G9.out.symm)); have BX := Aside0.mk (show w5.heap[g9]? = some (.cells #[.int .i64 (xh : Int), .slice xA xn xc, .int .i64 xs, .string xf] 29 (0, 0)) from by rw [HW4.out]; exact put4 B9.out _ _ _ _); clear u0 u1 u2 u3 v0 v1 v2 v3 BW3 B9 HW4))
              have XA5 := Aside0.mk (old_blk (X3.out.trans XQ2.out) BW.out)
              have GL := Aside0.mk (show w.heap.size ≤ ga from GAL.out)
              have a0 : w5.cell? ⟨ga, xh, none⟩ = some (.int .i64 (last (xh : Int))) := last_cell XA5.out HL4.out
              have z0 : w5.frozen? ⟨ga, xh, none⟩ = false := blk_frozen XA5.out xh
              obtain ⟨y0, y1, y2, y3, -, -, -, -⟩ := cells4 BX.out
              go_quiet (fail)
              have B6 := Aside0.mk (show Below w5.heap.size w5 (w5.drewN nq) from pw_below_drewN (Below.refl _ _) nq)
              clear a0 z0 y0 y1 y2 y3
              generalize w5.drewN nq = w6 at B6 ⊢
              have XA6 := Aside0.mk (old_blk XA5.out B6.out)
              have XB6 := Aside0.mk (old_blk BX.out B6.out)
              have a0 : w6.cell? ⟨ga, xh, none⟩ = some (.int .i64 (last (xh : Int))) := last_cell XA6.out HL4.out
              have z0 : w6.frozen? ⟨ga, xh, none⟩ = false := blk_frozen XA6.out xh
              obtain ⟨y0, y1, y2, y3, -, -, -, -⟩ := cells4 XB6.out
              go_wp2_with (first | ((with_reducible refine gate_store (t := 3) (p := 94) rfl ?_); refine store_event2 (w1 := w6.setCell ⟨ga, xh, none⟩ (.int .i64 xs)) ?hg ?hn ?hr ?_; (case hg => rfl); (case hn => rfl); (case hr => first | (go_simp; done) | (go_simp; rfl)); intro w7 hW_; have HW7 := Aside0.mk hW_; clear hW_ a0 z0 y0 y1 y2 y3))
              go_roundw
              case rel =>
                have L6 := H3.out.below (below_tr BW.out B6.out)
                have L7 : LSt w g q2 S2 (fun k => k = ga) w7 := by
                  rw [HW7.out]
                  exact L6.step (below_set L6.out GL.out) (fun k hk hne => heap_other hne _) (fun k hk => ⟨by rw [size_set]; exact L6.lt k hk, .inl hk⟩)
                refine ⟨j + 1, dn + 1, q2, S2, b, setI last (xh : Int) xs, by simp, rfl, by simp, HLT.out, L7, HOI2.out, ?_, .inr HB.out⟩
                rw [HW7.out]
                exact last_put XA6.out HL4.out
              case measure => have := HLT.out; simp [intOf] <;> omega

          · have b1 := eq_true hbl.1
            have b2 : decide ((0 : Int) ≤ bl) = true := decide_eq_true hbl.1
            have HBK := Aside0.mk (HST.out.back bl (by have := HOI.out.len.2.2 bl; have := H100.out; omega))
            rw [HBK0.out.2] at HBK
            have HNO := Aside0.mk (HBK0.out.1.next b)
            have QLEN := Aside0.mk (show (bk bl q S).length ≤ 1000 from by have := HBK0.out.1.len; have := H100.out; omega)
            clear hbl
            go_wp2_with (first | (go_at_call 10; (with_reducible refine HBK.out.mono ?_); rintro e wb ⟨rfl, hb1, hk1⟩; have HQ1 := Aside0.mk hb1; have XQ1 := Aside0.mk ((hk1 ga rfl).trans XR.out); clear hb1 hk1 HBK))
            rcases HNO.out with ⟨q2, S2, hnx, hoi⟩ | ⟨x, q2, S2, hnx, hx0, hx3, hxb, hxl, hoi⟩
            · have HOI2 := Aside0.mk hoi
              have hP : Calls Try.prog 11 #[.pointer (some ⟨g, 0, none⟩), .slice (some ⟨wb.heap.size, 0, none⟩) 1 1] (wb.alloc (.cells #[.int .i64 b] 3 (0, 0))) _ :=
                LSt.next (w0 := w) (A0 := some ⟨wb.heap.size, 0, none⟩) (P := fun k => k = ga ∨ k = wb.heap.size) (l0 := [b]) (c0 := 1) (HQ1.out.more (below_alloc (Below.refl _ _) (.cells #[.int .i64 b] 3 (0, 0))) (fun k hk => by rcases hk with hk | hk; exact .inl hk; exact .inr ⟨Nat.le_of_eq hk.symm, by rw [hk]; simp⟩)) (Nat.le_refl 1) (by simp) (C_lit (blk_new wb _) rfl (by simp)) (fun ad e => .inl (.inr (by injection e with e; rw [← e]))) (fun k => by have := QLEN.out; simp only [List.length_nil]; omega)
              rw [hnx] at hP
              have HNX := Aside0.mk hP
              clear hP
              have XQ2 := Aside0.mk (old_blk XQ1.out (below_alloc (Below.refl wb.heap.size wb) (.cells #[.int .i64 b] 3 (0, 0))))
              clear hnx hoi
              go_wp2_with (first | (go_at_call 11; (with_reducible refine HNX.out.mono ?_); rintro e w3 ⟨rfl, h3, hk3⟩; have H3 := Aside0.mk (h3.weak (P' := fun k => k = ga) (fun k hk => .inl hk)); have X3 := Aside0.mk (hk3 ga (.inl rfl)); clear h3 hk3) | ((with_reducible refine gate_dst (N := 13) rfl ?_); refine box_event ?hg (N := 13) ?hd (cs := #[.int .i64 0, .slice none 0 0, .int .i64 0, .string (⟨#[]⟩ : ByteArray)]) (t := 29) ?hr ?_; (case hd => rfl); (case hg => rfl); (case hr => first | (go_simp; done) | (go_simp; rfl)); intro g9 hg_ w4 hbox hb; have G9 := Aside0.mk hg_; have BW3 := Aside0.mk hb; have B9 := Aside0.mk hbox; clear hbox hb hg_; obtain ⟨u0, u1, u2, u3, v0, v1, v2, v3⟩ := cells4 B9.out) | ((with_reducible refine gate_store (t := 29) (p := 13) rfl ?_); refine store_event2 (w1 := ((((w4.setCell ⟨g9, 0, none⟩ (.int .i64 0)).setCell ⟨g9, 1, none⟩ (.slice none 0 0)).setCell ⟨g9, 2, none⟩ (.int .i64 0)).setCell ⟨g9, 3, none⟩ (.string (⟨#[]⟩ : ByteArray)))) ?hg ?hn ?hr ?_; (case hg => rfl); (case hn => rfl); (case hr => first | (go_simp; done) | (go_simp; rfl)); intro w5 hW_; have HW4 := Aside0.mk hW_; clear hW_; have BW := Aside0.mk (show Below w3.heap.size w3 w5 from by rw [HW4.out]; exact below_set (below_set (below_set (below_set BW3.out (Nat.le_of_eq G9.out.symm)) (Nat.le_of_eq G9.out.symm)) (Nat.le_of_eq G9.out.symm)) (Nat.le_of_eq G9.out.symm)); have BX := Aside0.mk (show w5.heap[g9]? = some (.cells #[.int .i64 0, .slice none 0 0, .int .i64 0, .string (⟨#[]⟩ : ByteArray)] 29 (0, 0)) from by rw [HW4.out]; exact put4 B9.out _ _ _ _); clear u0 u1 u2 u3 v0 v1 v2 v3 BW3 B9 HW4))
              go_roundw
              case rel => exact ⟨j + 1, dn, q2, S2, b, last, by simp, rfl, rfl, HLT.out, H3.out.below BW.out, HOI2.out, old_blk (X3.out.trans XQ2.out) BW.out, .inr HB.out⟩
              case measure => have := HLT.out; simp [intOf] <;> omega
            · obtain ⟨xh', xA, xn, xc, xs, xf⟩ := x
              obtain ⟨xh, hxh, hx4⟩ : ∃ xh : Nat, xh' = (xh : Int) ∧ xh < 4 := ⟨xh'.toNat, by dsimp only at hx0; omega, by dsimp only at hx3 hx0; omega⟩
              subst hxh
              dsimp only at hx0 hx3 hxb hxl hoi
              have HOI2 := Aside0.mk hoi
              have hP : Calls Try.prog 11 #[.pointer (some ⟨g, 0, none⟩), .slice (some ⟨wb.heap.size, 0, none⟩) 1 1] (wb.alloc (.cells #[.int .i64 b] 3 (0, 0))) _ :=
                LSt.next (w0 := w) (A0 := some ⟨wb.heap.size, 0, none⟩) (P := fun k => k = ga ∨ k = wb.heap.size) (l0 := [b]) (c0 := 1) (HQ1.out.more (below_alloc (Below.refl _ _) (.cells #[.int .i64 b] 3 (0, 0))) (fun k hk => by rcases hk with hk | hk; exact .inl hk; exact .inr ⟨Nat.le_of_eq hk.symm, by rw [hk]; simp⟩)) (Nat.le_refl 1) (by simp) (C_lit (blk_new wb _) rfl (by simp)) (fun ad e => .inl (.inr (by injection e with e; rw [← e]))) (fun k => by have := QLEN.out; simp only [List.length_nil]; omega)
              rw [hnx] at hP
              have HNX := Aside0.mk hP
              clear hP
              have XQ2 := Aside0.mk (old_blk XQ1.out (below_alloc (Below.refl wb.heap.size wb) (.cells #[.int .i64 b] 3 (0, 0))))
              have HL4 := Aside0.mk hx4
              have c1 : ¬ ((xh : Int) < 0) := by omega
              have c2 : decide ((xh : Int) < 0) = false := decide_eq_false c1
              have c3 : ¬ ((3 : Int) < (xh : Int)) := by omega
              have c4 : decide ((3 : Int) < (xh : Int)) = false := decide_eq_false c3
              have c5 : ((xh : Int) == b) = false := by simp [hxb]
              have c6 : decide ((xh : Int) = b) = false := decide_eq_false hxb
              have c7 : ¬ (xs ≤ last (xh : Int)) := by omega
              have c8 : decide (xs ≤ last (xh : Int)) = false := decide_eq_false c7
              have c9 := eq_true (show (0 : Int) ≤ (xh : Int) from Int.natCast_nonneg _)
              have c10 := eq_true (show ((xh : Int)) < 4 by omega)
              clear hnx hoi hx0 hx3 hxb hxl hx4 c1 c3 c7
              go_wp2_with (first | (go_at_call 11; (with_reducible refine HNX.out.mono ?_); rintro e w3 ⟨rfl, h3, hk3⟩; have H3 := Aside0.mk (h3.weak (P' := fun k => k = ga) (fun k hk => .inl hk)); have X3 := Aside0.mk (hk3 ga (.inl rfl)); clear h3 hk3) | ((with_reducible refine gate_dst (N := 13) rfl ?_); refine box_event ?hg (N := 13) ?hd (cs := #[.int .i64 0, .slice none 0 0, .int .i64 0, .string (⟨#[]⟩ : ByteArray)]) (t := 29) ?hr ?_; (case hd => rfl); (case hg => rfl); (case hr => first | (go_simp; done) | (go_simp; rfl)); intro g9 hg_ w4 hbox hb; have G9 := Aside0.mk hg_; have BW3 := Aside0.mk hb; have B9 := Aside0.mk hbox; clear hbox hb hg_; obtain ⟨u0, u1, u2, u3, v0, v1, v2, v3⟩ := cells4 B9.out) | ((with_reducible refine gate_store (t := 29) (p := 13) rfl ?_); refine store_event2 (w1 := ((((w4.setCell ⟨g9, 0, none⟩ (.int .i64 (xh : Int))).setCell ⟨g9, 1, none⟩ (.slice xA xn xc)).setCell ⟨g9, 2, none⟩ (.int .i64 xs)).setCell ⟨g9, 3, none⟩ (.string xf))) ?hg ?hn ?hr ?_; (case hg => rfl); (case hn => rfl); (case hr => first | (go_simp; done) | (go_simp; rfl)); intro w5 hW_; have HW4 := Aside0.mk hW_; clear hW_; have BW := Aside0.mk (show Below w3.heap.size w3 w5 from by rw [HW4.out]; exact below_set (below_set (below_set (below_set BW3.out (Nat.le_of_eq G9.out.symm)) (Nat.le_of_eq G9.out.symm)) (Nat.le_of_eq G9.out.symm)) (Nat.le_of_eq G9.out.symm)); have BX := Aside0.mk (show w5.heap[g9]? = some (.cells #[.int .i64 (xh : Int), .slice xA xn xc, .int .i64 xs, .string xf] 29 (0, 0)) from by rw [HW4.out]; exact put4 B9.out _ _ _ _); clear u0 u1 u2 u3 v0 v1 v2 v3 BW3 B9 HW4))
              have XA5 := Aside0.mk (old_blk (X3.out.trans XQ2.out) BW.out)
              have GL := Aside0.mk (show w.heap.size ≤ ga from GAL.out)
              have a0 : w5.cell? ⟨ga, xh, none⟩ = some (.int .i64 (last (xh : Int))) := last_cell XA5.out HL4.out
              have z0 : w5.frozen? ⟨ga, xh, none⟩ = false := blk_frozen XA5.out xh
              obtain ⟨y0, y1, y2, y3, -, -, -, -⟩ := cells4 BX.out
              go_quiet (fail)
              have B6 := Aside0.mk (show Below w5.heap.size w5 (w5.drewN nq) from pw_below_drewN (Below.refl _ _) nq)
              clear a0 z0 y0 y1 y2 y3
              generalize w5.drewN nq = w6 at B6 ⊢
              have XA6 := Aside0.mk (old_blk XA5.out B6.out)
              have XB6 := Aside0.mk (old_blk BX.out B6.out)
              have a0 : w6.cell? ⟨ga, xh, none⟩ = some (.int .i64 (last (xh : Int))) := last_cell XA6.out HL4.out
              have z0 : w6.frozen? ⟨ga, xh, none⟩ = false := blk_frozen XA6.out xh
              obtain ⟨y0, y1, y2, y3, -, -, -, -⟩ := cells4 XB6.out
              go_wp2_with (first | ((with_reducible refine gate_store (t := 3) (p := 94) rfl ?_); refine store_event2 (w1 := w6.setCell ⟨ga, xh, none⟩ (.int .i64 xs)) ?hg ?hn ?hr ?_; (case hg => rfl); (case hn => rfl); (case hr => first | (go_simp; done) | (go_simp; rfl)); intro w7 hW_; have HW7 := Aside0.mk hW_; clear hW_ a0 z0 y0 y1 y2 y3))
              go_roundw
              case rel =>
                have L6 := H3.out.below (below_tr BW.out B6.out)
                have L7 : LSt w g q2 S2 (fun k => k = ga) w7 := by
                  rw [HW7.out]
                  exact L6.step (below_set L6.out GL.out) (fun k hk hne => heap_other hne _) (fun k hk => ⟨by rw [size_set]; exact L6.lt k hk, .inl hk⟩)
                refine ⟨j + 1, dn + 1, q2, S2, b, setI last (xh : Int) xs, by simp, rfl, by simp, HLT.out, L7, HOI2.out, ?_, .inr HB.out⟩
                rw [HW7.out]
                exact last_put XA6.out HL4.out
              case measure => have := HLT.out; simp [intOf] <;> omega

        · have e1 : ¬ ((j : Int) < (m : Int)) := by omega
          have e3 := eq_false e1
          have HO2 := Aside0.mk (show OI i last q S bl dn ∧ dn ≤ i from ⟨HOI.out, HOI.out.len.2.1⟩)
          clear hbl hlt hj e1
          go_wp2_with (first | (go_at_call 12; (with_reducible refine HST.out.len.mono ?_); rintro e w_ ⟨rfl, rfl⟩))
          go_loopw [15, 100] (fun v15 v100 w_ => ∃ h lf : Nat, v15 = .int .i64 lf ∧ v100 = .int .i64 h ∧ h ≤ 4 ∧ lf = q.length + sumS S h ∧ w_ = wr) (fun _ v100 _ => 4 - (intOf v100).toNat)
          case atStart => exact ⟨0, q.length, rfl, rfl, by omega, rfl, rfl⟩
          case round =>
            obtain ⟨h, lf, rfl, rfl, hh, hlf, rfl⟩ := hrel
            have HLF := Aside0.mk hlf
            have HLB := Aside0.mk (show lf ≤ 100 from by have h1 := HO2.out.1.cnt; have := H100.out; have h2 := sumS_le S h hh; omega)
            clear hlf
            by_cases hlt : h < 4
            · have HLT := Aside0.mk hlt
              have f1 : ((h : Int) < 4) := by omega
              have f3 := eq_true f1
              have HSB := Aside0.mk (show lf + (S (h : Int)).length ≤ 1000 from by have h1 := HO2.out.1.cnt; have := H100.out; have h2 := sumS_le S (h + 1) hlt; have h3 := HLF.out; unfold sumS at h2; omega)
              obtain ⟨sl, hsl⟩ : ∃ sl, sl = (S (h : Int)).length := ⟨_, rfl⟩
              have HELD_ := Aside0.mk (HST.out.held (h : Int))
              rw [← hsl] at HELD_ HSB
              have HSL := Aside0.mk hsl
              have g1 : (lf : Int) + (sl : Int) = ((lf + sl : Nat) : Int) := by omega
              have g2 : IntKind.i64.wrap ((lf : Int) + (sl : Int)) = ((lf + sl : Nat) : Int) := by rw [g1]; exact o_i _ (o_m _ HSB.out)
              have g3 : wrap64 ((lf : Int) + (sl : Int)) = ((lf + sl : Nat) : Int) := by rw [g1]; exact o_w _ (o_m _ HSB.out)
              have g4 : IntKind.i64.wrap ((h : Int) + 1) = (h : Int) + 1 := o_i _ (o_n _ (by have := HLT.out; omega))
              have g5 : wrap64 ((h : Int) + 1) = (h : Int) + 1 := o_w _ (o_n _ (by have := HLT.out; omega))
              clear hlt hsl g1
              go_wp2_with (first | (go_at_call 13; (with_reducible refine HELD_.out.mono ?_); rintro e w_ ⟨rfl, rfl⟩))
              go_roundw
              case rel => exact ⟨h + 1, lf + sl, by first | rfl | simp, by simp, HLT.out, by have h1 := HLF.out; have h2 := HSL.out; unfold sumS; omega, by first | rfl | trivial⟩
              case measure => have := HLT.out; simp [intOf] <;> omega
            · have f1 : ¬ ((h : Int) < 4) := by omega
              have f3 := eq_false f1
              have hh4 : h = 4 := by omega
              subst hh4
              have TOT := Aside0.mk (show lf + dn = i from by have h1 := HO2.out.1.cnt; have h2 := HLF.out; rw [show sumS S 4 = 0 + (S 0).length + (S 1).length + (S 2).length + (S 3).length from rfl] at h2; omega)
              have g1 : (lf : Int) + (dn : Int) = (i : Int) := by have := TOT.out; omega
              have g2 : IntKind.i64.wrap ((lf : Int) + (dn : Int)) = (i : Int) := by rw [g1]; exact o_i _ (o_m _ (by have := H100.out; omega))
              have g3 : wrap64 ((lf : Int) + (dn : Int)) = (i : Int) := by rw [g1]; exact o_w _ (o_m _ (by have := H100.out; omega))
              have g4 : IntKind.i64.wrap (i : Int) = (i : Int) := o_i _ (o_m _ (by have := H100.out; omega))
              have g5 : wrap64 (i : Int) = (i : Int) := o_w _ (o_m _ (by have := H100.out; omega))
              clear hlt hh
              go_wp2_with (first | (go_at_call 7; (with_reducible refine (alive_calls _).mono ?_); rintro e wZ ⟨rfl, hB⟩; have HZ := Aside0.mk (below_all hB HST.out.out.size HST.out.out); clear hB))
              go_ret
              exact ⟨rfl, HZ.out⟩
end Go.Proofs.Ytnegagkjhnpgmaa.Sc
namespace Go.Proofs.Ytnegagkjhnpgmaa.X
set_option linter.unusedVariables false
open Go.RowKit Go.Proofs.YtnegagkjhnpgmaaW.PrintWords Go.Proofs.YtnegagkjhnpgmaaW.PrintMore Go.Proofs.YtnegagkjhnpgmaaW.PrintLast Go.Proofs.Ytnegagkjhnpgmaa.Sc
theorem mewslaw44_SchedOrder.calls (k : Nat) (A0 : Option Addr) (c0 : Nat) (l0 : List Int) (A1 : Option Addr) (c1 : Nat) (l1 : List Int) (r : Bool) (w : World) (hr0 : Kd.C (Kd.int .u8) w A0 l0.length l0) (hc0 : l0.length ≤ c0) (hr1 : Kd.C (Kd.int .u8) w A1 l1.length l1) (hc1 : l1.length ≤ c1) (hr_ : Aside0 (r = true)) (h : mewslaw44_SchedOrder.f k l0 l1 = some r) :
    Calls Try.prog 3 #[.slice A0 l0.length c0, .slice A1 l1.length c1] w fun e w' => e = .returned (.bool r) ∧ Below w.heap.size w w' := by
  have hbd : (∀ x ∈ l0, 0 ≤ x ∧ x ≤ 255) ∧ (∀ x ∈ l1, 0 ≤ x ∧ x ≤ 255) := by
    unfold mewslaw44_SchedOrder.f at h
    by_cases b : (∀ x ∈ l0, 0 ≤ x ∧ x ≤ 255) ∧ (∀ x ∈ l1, 0 ≤ x ∧ x ≤ 255)
    · exact b
    · rw [if_neg b] at h; cases h
  rw [hr_.out]
  by_cases c : 100 < l0.length ∨ 300 < l1.length
  · exact order_far A0 A1 c0 c1 l0.length l1.length w c
  · exact order_near A0 A1 c0 c1 l0.length l1.length l0 l1 w rfl rfl (by omega) (by omega) hr0 hr1 hbd.1 hbd.2
end Go.Proofs.Ytnegagkjhnpgmaa.X
