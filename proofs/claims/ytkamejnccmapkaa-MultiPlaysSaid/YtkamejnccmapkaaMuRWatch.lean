/- The document's Watch: as what it does to values, and to the rows that are read. -/
import Derived.Test.YtkamejnccmapkaaMuMark
import Derived.Deep.RegionLaw
namespace Go.Proofs.Ytkamejnccmapkaa.Mu
open Go.RowKit Go.Proofs.YtkamejnccmapkaaW.PrintWords Go.Proofs.YtkamejnccmapkaaW.PrintMore Go.Proofs.YtkamejnccmapkaaW.PrintLast
set_option linter.unusedVariables false
set_option linter.unusedSimpArgs false
attribute [local go_sem ↓] Go.wp_at_zero Go.wp_at_succ
theorem quiet_of_drawn {f : FuncId} {args : Array Value} {w : World} {n : Nat} {v : Value} (h : Calls Try.prog f args (w.drewN n) fun e w' => e = .returned v ∧ Drawn0 (w.drewN n) w') : Calls Try.prog f args (w.drewN n) fun e w'' => e = .returned v ∧ ∃ m, w'' = w.drewN m :=
  h.mono fun _ _ ⟨he, hm⟩ => ⟨he, by
    obtain ⟨m, rfl⟩ := hm
    exact ⟨n + m, World.drewN_drewN ..⟩⟩
theorem own_lower {w : World} {base base' n : Nat} {e : TypeId} {size : Nat} {v : Value} {xs : List Value} (h : w.ownsRow base e size v n xs) (hb : base' ≤ base) : w.ownsRow base' e size v n xs := by
  obtain ⟨h1, h2⟩ := h
  refine ⟨h1, ?_⟩
  rcases h2 with h2 | ⟨g, cap, cur, rfl, hg, r⟩
  · exact .inl h2
  · exact .inr ⟨g, cap, cur, rfl, Nat.le_trans hb hg, r⟩
theorem reads_one_d (W : World) (x : ByteArray) : ReadsOf Value.string ByteArray.empty ((W.alloc (.cells #[Value.string x] 9)).drew) (some ⟨W.heap.size, 0, none⟩) 1 [x] := reads_one W x
theorem cell_below {w w1 : World} {a : Addr} {v : Value} (h : w.cell? a = some v) (hb : Below w.heap.size w w1) : w1.cell? a = some v := by
  have hlt := World.block_lt_of_cell? w a h
  rw [← h]
  unfold World.cell?
  rw [hb.block _ hlt]
/-- 'append' behind nil: a row of the call's own; all else is as it was. -/
theorem step_appN {ops : Array Oper} {o : Oper} {a : Act} {W : World} {K : Act → World → Prop} {Q : Exit → Act → World → Prop} {E : Prop} (hgd : o.guard = none) (x : Operand)
    (ho : o.op = .call { callee := .builtin .append, args := #[.const (.slice none 0 0), x], argTypes := #[23, 23] })
    (ys : List ByteArray) (A : Option Addr) (m c : Nat) (hx : a.eval x = .slice A m c)
    (HR : ReadsOf Value.string ByteArray.empty W A m ys) (hl : m * 16 ≤ 140737488355328)
    (h : ∀ v1 w1, w1.ownsRow W.heap.size 9 1 v1 ys.length (encs Value.string ys) → Below W.heap.size W w1 → K (a.put o.dst v1) w1) :
    if Region.wanted o (yielded ops a.tmps) = true then Oper.wp Try.prog o a W K Q else E :=
  step_app hgd (.const (.slice none 0 0)) x ho W W.heap.size (.slice none 0 0) [] ys A m c rfl hx (own_nil _ _ _ _) HR (Below.refl _ _) (Nat.le_refl _) (by simpa using hl) (fun v1 w1 h1 h2 _ => h v1 w1 h1 h2)
def watchT2 : ByteArray := ⟨#[69, 82, 82, 32, 87, 65, 84, 67, 72, 32, 105, 110, 115, 105, 100, 101, 32, 77, 85, 76, 84, 73, 32, 105, 115, 32, 110, 111, 116, 32, 97, 108, 108, 111, 119, 101, 100]⟩
set_option maxHeartbeats 1000000 in
set_option maxRecDepth 100000 in
theorem rwatch_shut (b d : Bool) (qA : Option Addr) (qn qc : Nat) (sz : Int) (wA : Option Addr) (wn wc : Nat) (v : Value) (w : World) :
    Calls Try.prog 21 #[.agg #[.bool true, .bool b, .bool d, .slice qA qn qc, .int .i64 sz, .slice wA wn wc], v] w fun e w' => e = .returned (.tuple #[.agg #[.bool true, .bool true, .bool d, .slice qA qn qc, .int .i64 sz, .slice wA wn wc], .agg #[.int .i64 2, .int .i64 0, .string watchT, .slice none 0 0]]) ∧ Below w.heap.size w w' := by
  have hu := Try.underlying27
  have hu2 := Try.underlying30
  have BB := Aside0.mk (Below.refl w.heap.size w)
  go_enter Try.func21, Try.ntmps21
  go_wp2_with (first | ((with_reducible refine gate_dst (N := 2) rfl ?_); refine box_event ?hg (N := 2) ?hd (cs := #[.bool true, .bool b, .bool d, .slice qA qn qc, .int .i64 sz, .slice wA wn wc]) (t := 27) ?hr ?_; (case hd => rfl); (case hg => rfl); (case hr => first | (go_simp; done) | (go_simp; rfl)); intro g1 hg w1 hbox hb; have GE1 := Aside0.mk (show w.heap.size ≤ g1 from by rw [hg]; exact BB.out.size); have T_ := Aside0.mk (BB.out.trans (hb.mono BB.out.size)); clear BB; have BB := T_; clear T_; have BK1 := Aside0.mk hbox; clear hbox hb hg) | ((with_reducible refine gate_dst (N := 4) rfl ?_); refine box_event ?hg (N := 4) ?hd (cs := #[.bool false, .bool false, .bool false, .slice none 0 0, .int .i64 0, .slice none 0 0]) (t := 27) ?hr ?_; (case hd => rfl); (case hg => rfl); (case hr => first | (go_simp; done) | (go_simp; rfl)); intro g2 hg w2 hbox hb; have NE1_2 := Aside0.mk (show g1 ≠ g2 from by rw [hg]; exact Nat.ne_of_lt (blk_lt BK1.out)); have T_ := Aside0.mk (old_blk BK1.out hb); clear BK1; have BK1 := T_; clear T_; have GE2 := Aside0.mk (show w.heap.size ≤ g2 from by rw [hg]; exact BB.out.size); have T_ := Aside0.mk (BB.out.trans (hb.mono BB.out.size)); clear BB; have BB := T_; clear T_; have BK2 := Aside0.mk hbox; clear hbox hb hg) | ((with_reducible refine gate_dst (N := 5) rfl ?_); refine box_event ?hg (N := 5) ?hd (cs := #[.int .i64 0, .int .i64 0, .string (⟨#[]⟩ : ByteArray), .slice none 0 0]) (t := 30) ?hr ?_; (case hd => rfl); (case hg => rfl); (case hr => first | (go_simp; done) | (go_simp; rfl)); intro g3 hg w3 hbox hb; have NE1_3 := Aside0.mk (show g1 ≠ g3 from by rw [hg]; exact Nat.ne_of_lt (blk_lt BK1.out)); have T_ := Aside0.mk (old_blk BK1.out hb); clear BK1; have BK1 := T_; clear T_; have NE2_3 := Aside0.mk (show g2 ≠ g3 from by rw [hg]; exact Nat.ne_of_lt (blk_lt BK2.out)); have T_ := Aside0.mk (old_blk BK2.out hb); clear BK2; have BK2 := T_; clear T_; have GE3 := Aside0.mk (show w.heap.size ≤ g3 from by rw [hg]; exact BB.out.size); have T_ := Aside0.mk (BB.out.trans (hb.mono BB.out.size)); clear BB; have BB := T_; clear T_; have BK3 := Aside0.mk hbox; clear hbox hb hg; obtain ⟨p1_0, p1_1, p1_2, p1_3, p1_4, p1_5, f1_0, f1_1, f1_2, f1_3, f1_4, f1_5⟩ := cells6 BK1.out; obtain ⟨p2_0, p2_1, p2_2, p2_3, p2_4, p2_5, f2_0, f2_1, f2_2, f2_3, f2_4, f2_5⟩ := cells6 BK2.out; obtain ⟨p3_0, p3_1, p3_2, p3_3, f3_0, f3_1, f3_2, f3_3⟩ := cells4 BK3.out; have ne1_2 := NE1_2.out; have ne2_1 := Ne.symm NE1_2.out; have ne1_3 := NE1_3.out; have ne3_1 := Ne.symm NE1_3.out; have ne2_3 := NE2_3.out; have ne3_2 := Ne.symm NE2_3.out))
  obtain ⟨W4, hW_⟩ : ∃ W, W = w3.setCell ⟨g1, 1, none⟩ (.bool true) := ⟨_, rfl⟩
  rw [← hW_]
  have T1 := Aside0.mk (show W4.heap[g1]? = some (.cells #[.bool true, .bool true, .bool d, .slice qA qn qc, .int .i64 sz, .slice wA wn wc] 27 (0, 0)) by rw [hW_]; exact blk_put BK1.out 1 _ rfl)
  have T2 := Aside0.mk (show W4.heap[g2]? = some (.cells #[.bool false, .bool false, .bool false, .slice none 0 0, .int .i64 0, .slice none 0 0] 27 (0, 0)) by rw [hW_]; exact blk_far BK2.out NE1_2.out.symm _)
  have T3 := Aside0.mk (show W4.heap[g3]? = some (.cells #[.int .i64 0, .int .i64 0, .string (⟨#[]⟩ : ByteArray), .slice none 0 0] 30 (0, 0)) by rw [hW_]; exact blk_far BK3.out NE1_3.out.symm _)
  have T4 := Aside0.mk (show Below w.heap.size w W4 by rw [hW_]; first | exact below_set BB.out GE1.out | exact below_set (pw_below_drewN BB.out _) GE1.out | exact below_set (below_drew BB.out) GE1.out)
  clear p1_0 f1_0 p1_1 f1_1 p1_2 f1_2 p1_3 f1_3 p1_4 f1_4 p1_5 f1_5 p2_0 f2_0 p2_1 f2_1 p2_2 f2_2 p2_3 f2_3 p2_4 f2_4 p2_5 f2_5 p3_0 f3_0 p3_1 f3_1 p3_2 f3_2 p3_3 f3_3
  clear BK1 BK2 BK3 BB hW_
  have BK1 := T1
  have BK2 := T2
  have BK3 := T3
  have BB := T4
  clear T1 T2 T3 T4
  obtain ⟨p1_0, p1_1, p1_2, p1_3, p1_4, p1_5, f1_0, f1_1, f1_2, f1_3, f1_4, f1_5⟩ := cells6 BK1.out
  go_region_held3 (fun w' => w'.cell? ⟨g1, 0, none⟩ = some (.bool true) ∧ w'.cell? ⟨g1, 1, none⟩ = some (.bool true) ∧ w'.cell? ⟨g1, 2, none⟩ = some (.bool d) ∧ w'.cell? ⟨g1, 3, none⟩ = some (.slice qA qn qc) ∧ w'.cell? ⟨g1, 4, none⟩ = some (.int .i64 sz) ∧ w'.cell? ⟨g1, 5, none⟩ = some (.slice wA wn wc)) (go_keep) (first | (go_at_call 35; (with_reducible refine Calls.mono (rfail_calls _ _) ?_); rintro e w5 ⟨rfl, hb⟩; have T_ := Aside0.mk (old_blk (blk_drew BK1.out) hb); clear BK1; have BK1 := T_; clear T_; have T_ := Aside0.mk (old_blk (blk_drew BK2.out) hb); clear BK2; have BK2 := T_; clear T_; have T_ := Aside0.mk (old_blk (blk_drew BK3.out) hb); clear BK3; have BK3 := T_; clear T_; have T_ := Aside0.mk (BB.out.trans ((show Below _ _ _ from (below_drew (Below.refl _ _)).trans hb).mono BB.out.size)); clear BB; have BB := T_; clear T_; clear hb; obtain ⟨p1_0, p1_1, p1_2, p1_3, p1_4, p1_5, f1_0, f1_1, f1_2, f1_3, f1_4, f1_5⟩ := cells6 BK1.out; obtain ⟨p2_0, p2_1, p2_2, p2_3, p2_4, p2_5, f2_0, f2_1, f2_2, f2_3, f2_4, f2_5⟩ := cells6 BK2.out; obtain ⟨p3_0, p3_1, p3_2, p3_3, f3_0, f3_1, f3_2, f3_3⟩ := cells4 BK3.out))
  all_goals
    go_wp2
    refine bodyPost_ret (results_cc rfl _ _ g2 g3 27 30 #[.bool true, .bool true, .bool d, .slice qA qn qc, .int .i64 sz, .slice wA wn wc] #[.int .i64 2, .int .i64 0, .string watchT, .slice none 0 0] (0, 0) (0, 0) _ _ rfl (by (repeat (with_reducible refine blk_far ?_ NE2_3.out _)); refine put6 ?_ _ _ _ _ _ _; exact BK2.out) Try.underlying27 rfl (by kernel_rfl) rfl (by refine put4 ?_ _ _ _ _; (repeat (with_reducible refine blk_far ?_ NE2_3.out.symm _)); exact BK3.out) Try.underlying30 rfl (by kernel_rfl)) rfl ?_
    exact ⟨by first | rfl | (simp; done) | (simp; rfl), by repeat (with_reducible first | exact BB.out | refine below_set ?_ GE3.out | refine below_set ?_ GE2.out)⟩
def RelRW (w : World) (g1 g2 g3 : Nat) (b d : Bool) (qA : Option Addr) (qn qc : Nat) (sz : Int) (w0 : Value) (wl keys : List ByteArray) (v : Value) (wr : World) : Prop :=
  ∃ (k : Nat) (A : Option Addr) (c : Nat), k ≤ keys.length ∧ v = .int .i64 k ∧ Rd wr (.slice A (watchF wl (keys.take k)).length c) (watchF wl (keys.take k)) ∧
    (∀ q, (Value.slice A (watchF wl (keys.take k)).length c).ownBlock = some q → (q ≠ g1 ∧ q ≠ g2 ∧ q ≠ g3) ∧ q < wr.heap.size ∧ (w0.ownBlock = some q ∨ w.heap.size ≤ q)) ∧
    wr.heap[g1]? = some (.cells #[.bool false, .bool b, .bool d, .slice qA qn qc, .int .i64 sz, .slice A (watchF wl (keys.take k)).length c] 27 (0, 0)) ∧ wr.heap[g2]? = some (.cells #[.bool false, .bool false, .bool false, .slice none 0 0, .int .i64 0, .slice none 0 0] 27 (0, 0)) ∧ wr.heap[g3]? = some (.cells #[.int .i64 0, .int .i64 0, .string (⟨#[]⟩ : ByteArray), .slice none 0 0] 30 (0, 0)) ∧ Below w.heap.size w wr
set_option maxHeartbeats 4000000 in
set_option maxRecDepth 100000 in
theorem rwatch_good (b d : Bool) (qA : Option Addr) (qn qc : Nat) (sz : Int) (wA : Option Addr) (wc : Nat) (wl : List ByteArray) (v : Value) (keys : List ByteArray) (w : World) (hW : Rd w (.slice wA wl.length wc) wl) (hlt0 : ∀ k, (Value.slice wA wl.length wc).ownBlock = some k → k < w.heap.size) (hv : Rd w v keys) (hl : wl.length ≤ 1000000) (hk : keys.length ≤ 1000000) :
    Calls Try.prog 21 #[.agg #[.bool false, .bool b, .bool d, .slice qA qn qc, .int .i64 sz, .slice wA wl.length wc], v] w fun e w' => ∃ A' c', e = .returned (.tuple #[.agg #[.bool false, .bool b, .bool d, .slice qA qn qc, .int .i64 sz, .slice A' (watchF wl keys).length c'], .agg #[.int .i64 1, .int .i64 0, .string (⟨#[79, 75]⟩ : ByteArray), .slice none 0 0]]) ∧ Rd w' (.slice A' (watchF wl keys).length c') (watchF wl keys) ∧ (∀ k, (Value.slice A' (watchF wl keys).length c').ownBlock = some k → k < w'.heap.size ∧ ((Value.slice wA wl.length wc).ownBlock = some k ∨ w.heap.size ≤ k)) ∧ Below w.heap.size w w' := by
  have hu := Try.underlying27
  have hu2 := Try.underlying30
  have BB := Aside0.mk (Below.refl w.heap.size w)
  have HW := Aside0.mk hW
  have HLT0 := Aside0.mk hlt0
  have HWL := Aside0.mk hl
  have HKL := Aside0.mk hk
  obtain ⟨wn, hwn⟩ : ∃ wn, wn = wl.length := ⟨_, rfl⟩
  have HWN := Aside0.mk hwn
  rw [← hwn] at HW HLT0 ⊢
  obtain ⟨kA, kc, rfl, hkc, hkr⟩ := hv
  have HKR := Aside0.mk hkr
  obtain ⟨kn, hkn⟩ : ∃ kn, kn = keys.length := ⟨_, rfl⟩
  have HKN := Aside0.mk hkn
  rw [← hkn] at HKR ⊢
  have hk9 : (kn : Int) ≤ 1000000 := by omega
  clear hW hlt0 hl hk hwn hkc hkr hkn
  go_enter Try.func21, Try.ntmps21
  go_wp2_with (first | ((with_reducible refine gate_dst (N := 2) rfl ?_); refine box_event ?hg (N := 2) ?hd (cs := #[.bool false, .bool b, .bool d, .slice qA qn qc, .int .i64 sz, .slice wA wn wc]) (t := 27) ?hr ?_; (case hd => rfl); (case hg => rfl); (case hr => first | (go_simp; done) | (go_simp; rfl)); intro g1 hg w1 hbox hb; have GE1 := Aside0.mk (show w.heap.size ≤ g1 from by rw [hg]; exact BB.out.size); have T_ := Aside0.mk (BB.out.trans (hb.mono BB.out.size)); clear BB; have BB := T_; clear T_; have BK1 := Aside0.mk hbox; clear hbox hb hg) | ((with_reducible refine gate_dst (N := 4) rfl ?_); refine box_event ?hg (N := 4) ?hd (cs := #[.bool false, .bool false, .bool false, .slice none 0 0, .int .i64 0, .slice none 0 0]) (t := 27) ?hr ?_; (case hd => rfl); (case hg => rfl); (case hr => first | (go_simp; done) | (go_simp; rfl)); intro g2 hg w2 hbox hb; have NE1_2 := Aside0.mk (show g1 ≠ g2 from by rw [hg]; exact Nat.ne_of_lt (blk_lt BK1.out)); have T_ := Aside0.mk (old_blk BK1.out hb); clear BK1; have BK1 := T_; clear T_; have GE2 := Aside0.mk (show w.heap.size ≤ g2 from by rw [hg]; exact BB.out.size); have T_ := Aside0.mk (BB.out.trans (hb.mono BB.out.size)); clear BB; have BB := T_; clear T_; have BK2 := Aside0.mk hbox; clear hbox hb hg) | ((with_reducible refine gate_dst (N := 5) rfl ?_); refine box_event ?hg (N := 5) ?hd (cs := #[.int .i64 0, .int .i64 0, .string (⟨#[]⟩ : ByteArray), .slice none 0 0]) (t := 30) ?hr ?_; (case hd => rfl); (case hg => rfl); (case hr => first | (go_simp; done) | (go_simp; rfl)); intro g3 hg w3 hbox hb; have NE1_3 := Aside0.mk (show g1 ≠ g3 from by rw [hg]; exact Nat.ne_of_lt (blk_lt BK1.out)); have T_ := Aside0.mk (old_blk BK1.out hb); clear BK1; have BK1 := T_; clear T_; have NE2_3 := Aside0.mk (show g2 ≠ g3 from by rw [hg]; exact Nat.ne_of_lt (blk_lt BK2.out)); have T_ := Aside0.mk (old_blk BK2.out hb); clear BK2; have BK2 := T_; clear T_; have GE3 := Aside0.mk (show w.heap.size ≤ g3 from by rw [hg]; exact BB.out.size); have T_ := Aside0.mk (BB.out.trans (hb.mono BB.out.size)); clear BB; have BB := T_; clear T_; have BK3 := Aside0.mk hbox; clear hbox hb hg; obtain ⟨p1_0, p1_1, p1_2, p1_3, p1_4, p1_5, f1_0, f1_1, f1_2, f1_3, f1_4, f1_5⟩ := cells6 BK1.out; obtain ⟨p2_0, p2_1, p2_2, p2_3, p2_4, p2_5, f2_0, f2_1, f2_2, f2_3, f2_4, f2_5⟩ := cells6 BK2.out; obtain ⟨p3_0, p3_1, p3_2, p3_3, f3_0, f3_1, f3_2, f3_3⟩ := cells4 BK3.out; have ne1_2 := NE1_2.out; have ne2_1 := Ne.symm NE1_2.out; have ne1_3 := NE1_3.out; have ne3_1 := Ne.symm NE1_3.out; have ne2_3 := NE2_3.out; have ne3_2 := Ne.symm NE2_3.out))
  clear p1_0 f1_0 p1_1 f1_1 p1_2 f1_2 p1_3 f1_3 p1_4 f1_4 p1_5 f1_5 p2_0 f2_0 p2_1 f2_1 p2_2 f2_2 p2_3 f2_3 p2_4 f2_4 p2_5 f2_5 p3_0 f3_0 p3_1 f3_1 p3_2 f3_2 p3_3 f3_3
  go_loopw [6] (fun v6 wr => RelRW w g1 g2 g3 b d qA qn qc sz (.slice wA wn wc) wl keys v6 wr) (fun v6 _ => kn - (intOf v6).toNat)
  case atStart =>
    refine ⟨0, wA, wc, Nat.zero_le _, rfl, ?_, ?_, ?_, BK2.out, BK3.out, BB.out⟩
    · rw [show watchF wl (keys.take 0) = wl from rfl, ← HWN.out]; exact HW.out.below BB.out
    · rw [show watchF wl (keys.take 0) = wl from rfl, ← HWN.out]
      intro q hq
      have h1 := HLT0.out q hq
      have h2 := GE1.out
      have h3 := GE2.out
      have h4 := GE3.out
      have h5 := BB.out.size
      exact ⟨⟨by omega, by omega, by omega⟩, by omega, .inl hq⟩
    · rw [show watchF wl (keys.take 0) = wl from rfl, ← HWN.out]; exact BK1.out
  case round =>
    obtain ⟨k, A, c, hkk, rfl, ho, hqb, h1, h2, h3, hb⟩ := hrel
    clear BK1 BK2 BK3 BB
    rw [← HKN.out] at hkk
    obtain ⟨L, hL⟩ : ∃ L, L = watchF wl (keys.take k) := ⟨_, rfl⟩
    rw [← hL] at ho h1 hqb
    have hLlen : L.length ≤ 2000000 := by
      have h5 := watchF_len wl (keys.take k)
      rw [← hL, List.length_take] at h5
      have h6 := HWL.out
      have h7 := HKL.out
      omega
    obtain ⟨m, hm⟩ : ∃ m, m = L.length := ⟨_, rfl⟩
    rw [← hm] at ho h1 hqb
    have HRd := Aside0.mk ho
    have HQB := Aside0.mk hqb
    have BK1 := Aside0.mk h1
    have BK2 := Aside0.mk h2
    have BK3 := Aside0.mk h3
    have BB := Aside0.mk hb
    have HM := Aside0.mk hm
    have HLL := Aside0.mk hLlen
    have HLd := Aside0.mk hL
    have hkr := HKR.out.below hb
    clear ho h1 h2 h3 hm hLlen hL hqb
    obtain ⟨p1_0, p1_1, p1_2, p1_3, p1_4, p1_5, f1_0, f1_1, f1_2, f1_3, f1_4, f1_5⟩ := cells6 BK1.out; obtain ⟨p2_0, p2_1, p2_2, p2_3, p2_4, p2_5, f2_0, f2_1, f2_2, f2_3, f2_4, f2_5⟩ := cells6 BK2.out; obtain ⟨p3_0, p3_1, p3_2, p3_3, f3_0, f3_1, f3_2, f3_3⟩ := cells4 BK3.out
    by_cases hlt : k < kn
    · have e1 : decide ((k : Int) < (kn : Int)) = true := decide_eq_true (by omega)
      have e2 : decide (k < kn) = true := decide_eq_true hlt
      have hkl : k < keys.length := by rw [← HKN.out]; exact hlt
      obtain ⟨adl, rfl, hcl2⟩ := hkr.2.2 (by omega)
      have xl := hcl2 k hlt
      obtain ⟨x, hx⟩ : ∃ x, x = keys.getD k ByteArray.empty := ⟨_, rfl⟩
      rw [← hx] at xl
      have htk : keys.take (k + 1) = keys.take k ++ [x] := by
        rw [List.take_add_one, List.getElem?_eq_getElem hkl]
        rw [hx, List.getD_eq_getElem?_getD, List.getElem?_eq_getElem hkl]
        rfl
      have HNX := Aside0.mk (show watchF wl (keys.take (k + 1)) = addK L x by rw [htk, watchF_snoc, ← HLd.out])
      have hct := fun n => rhas_calls (.slice A m c) L x (wr.drewN n) (HRd.out.below (pw_below_drewN (Below.refl _ _) n)) (by have := HLL.out; omega)
      obtain ⟨q, hq⟩ : ∃ q, q = hasB L x := ⟨_, rfl⟩
      rw [← hq] at hct
      have i0 : (0 : Int) ≤ (k : Int) := Int.natCast_nonneg _
      have i1 : (k : Int) < (kn : Int) := by omega
      have i2 := eq_true i1
      have hk8 : (k : Int) ≤ 1000000 := by omega
      have Hlt := Aside0.mk hlt
      have XL := Aside0.mk xl
      cases q with
      | true =>
        have HCT := Aside0.mk hct
        have HA := Aside0.mk (show addK L x = L from if_pos hq.symm)
        clear hlt hkr hcl2 htk hkl hx hct hq hkk hb
        go_wp2_with fail
        go_quiet ((go_at_call 36; exact quiet_of_drawn (HCT.out _)))
        go_wp2
        go_roundw
        case rel =>
          refine ⟨k + 1, A, c, by have := Hlt.out; have := HKN.out; omega, by simp, ?_, ?_, ?_, BK2.out, BK3.out, pw_below_drewN BB.out _⟩
          · rw [HNX.out, HA.out, ← HM.out]; exact HRd.out.below (pw_below_drewN (Below.refl _ _) _)
          · rw [HNX.out, HA.out, ← HM.out]; exact HQB.out
          · rw [HNX.out, HA.out, ← HM.out]; exact BK1.out
        case measure => have := Hlt.out; simp [intOf]; omega
      | false =>
        have HCT := Aside0.mk hct
        have HA := Aside0.mk (show addK L x = L ++ [x] from if_neg (by rw [← hq]; decide))
        clear hlt hkr hcl2 htk hkl hx hct hq hkk hb
        go_wp2_with fail
        go_quiet ((go_at_call 36; exact quiet_of_drawn (HCT.out _)))
        have BK1' := Aside0.mk (show (wr.drewN nq).heap[g1]? = _ from BK1.out)
        have BK2' := Aside0.mk (show (wr.drewN nq).heap[g2]? = _ from BK2.out)
        have BK3' := Aside0.mk (show (wr.drewN nq).heap[g3]? = _ from BK3.out)
        have BB' := Aside0.mk (pw_below_drewN BB.out nq)
        have HR' := Aside0.mk (HRd.out.below (pw_below_drewN (Below.refl _ _) nq))
        have XL' := Aside0.mk (show (wr.drewN nq).cell? (adl.add k) = some (Value.string x) from XL.out)
        have HG := Aside0.mk (show g1 < (wr.drewN nq).heap.size ∧ g2 < (wr.drewN nq).heap.size ∧ g3 < (wr.drewN nq).heap.size from ⟨blk_lt BK1.out, blk_lt BK2.out, blk_lt BK3.out⟩)
        have HWS := Aside0.mk (show w.heap.size ≤ (wr.drewN nq).heap.size from BB.out.size)
        clear BK1 BK2 BK3 BB HRd XL xl HQB HCT p1_0 f1_0 p1_1 f1_1 p1_2 f1_2 p1_3 f1_3 p1_4 f1_4 p1_5 f1_5 p2_0 f2_0 p2_1 f2_1 p2_2 f2_2 p2_3 f2_3 p2_4 f2_4 p2_5 f2_5 p3_0 f3_0 p3_1 f3_1 p3_2 f3_2 p3_3 f3_3
        generalize wr.drewN nq = w9 at BK1' BK2' BK3' BB' HR' XL' HG HWS ⊢
        clear wr
        revert BK1' BK2' BK3' BB' HR' XL' HG HWS
        generalize w9 = wr
        intro BK1 BK2 BK3 BB HRd XL HG HWS
        have xl := XL.out
        obtain ⟨p1_0, p1_1, p1_2, p1_3, p1_4, p1_5, f1_0, f1_1, f1_2, f1_3, f1_4, f1_5⟩ := cells6 BK1.out; obtain ⟨p2_0, p2_1, p2_2, p2_3, p2_4, p2_5, f2_0, f2_1, f2_2, f2_3, f2_4, f2_5⟩ := cells6 BK2.out; obtain ⟨p3_0, p3_1, p3_2, p3_3, f3_0, f3_1, f3_2, f3_3⟩ := cells4 BK3.out
        have HRL := Aside0.mk (show ∀ W, Below wr.heap.size wr W → ReadsOf Value.string ByteArray.empty W A m L from fun W hW => by obtain ⟨A', c', e', _, hr'⟩ := HRd.out.below hW; injection e' with e1 e2 e3; subst e1; rw [HM.out]; exact hr')
        have hpa : ∀ o : Obj, (wr.alloc o).cell? ⟨g1, 5, none⟩ = some (.slice A m c) := fun o => (blk_cell (blk_alloc BK1.out o) 5).trans rfl
        go_wp2_with fail
        go_region_law (first | (refine step_appN rfl (.tmp 27) (by rfl) L A m c (by rfl) (HRL.out _ (by repeat (first | exact Below.refl _ _ | refine below_drew ?_ | refine Below.alloc ?_ (by first | exact Nat.le_refl _ | (simp; done)) _))) (by have := HLL.out; have := HM.out; omega) ?_; intro v5 w5 ho5 hb5; have H5 := Aside0.mk hb5; have HB5 := Aside0.mk (below_tr (w := wr) (by repeat (first | exact Below.refl _ _ | refine below_drew ?_ | refine Below.alloc ?_ (by first | exact Nat.le_refl _ | (simp; done)) _)) hb5); have HO5 := Aside0.mk (own_lower (base' := wr.heap.size) ho5 (by first | exact Nat.le_refl _ | (simp; done))); have HS5 := Aside0.mk HB5.out.size; have xl5 := cell_below XL.out HB5.out; clear ho5 hb5) | (refine step_app rfl (.tmp 28) (.tmp 33) (by rfl) wr wr.heap.size v5 L [x] (some _) 1 1 (by rfl) (by rfl) (by first | exact HO5.out | exact own_alloc HO5.out _) (by first | exact reads_one _ x | exact (reads_one _ x).below H5.out | exact (reads_one_d wr x).below H5.out) (by first | exact HB5.out | exact HB5.out.alloc HS5.out _) (by first | exact HS5.out | (have := HS5.out; simp; omega)) (by have := HLL.out; omega) ?_; intro v6 w6 ho6 hb6 hs6; rw [show (L ++ [x]).length = m + 1 by rw [List.length_append, HM.out]; rfl] at ho6; have HO6 := Aside0.mk ho6; have T_ := Aside0.mk (old_blk BK1.out hb6); clear BK1; have BK1 := T_; clear T_; have T_ := Aside0.mk (old_blk BK2.out hb6); clear BK2; have BK2 := T_; clear T_; have T_ := Aside0.mk (old_blk BK3.out hb6); clear BK3; have BK3 := T_; clear T_; have T_ := Aside0.mk (below_tr BB.out hb6); clear BB; have BB := T_; clear T_; clear ho6 hb6 hs6; obtain ⟨A6, c6, e6⟩ := own_slice HO6.out; subst e6; obtain ⟨p1_0, p1_1, p1_2, p1_3, p1_4, p1_5, f1_0, f1_1, f1_2, f1_3, f1_4, f1_5⟩ := cells6 BK1.out; obtain ⟨p2_0, p2_1, p2_2, p2_3, p2_4, p2_5, f2_0, f2_1, f2_2, f2_3, f2_4, f2_5⟩ := cells6 BK2.out; obtain ⟨p3_0, p3_1, p3_2, p3_3, f3_0, f3_1, f3_2, f3_3⟩ := cells4 BK3.out))
        all_goals
          go_wp2
          go_roundw
          case rel =>
            have NA1 : some g1 ≠ (Value.slice A6 (m + 1) c6).ownBlock := fun e => by have h1 := own_base HO6.out _ e.symm; have h2 := HG.out.1; omega
            have hF : World.ownsRow _ wr.heap.size 9 1 (.slice A6 (m + 1) c6) (m + 1) (encs Value.string (L ++ [x])) := own_setCell (p := ⟨g1, 5, none⟩) HO6.out NA1 (.slice A6 (m + 1) c6)
            refine ⟨k + 1, A6, c6, by have := Hlt.out; have := HKN.out; omega, by simp, ?_, ?_, ?_, blk_far BK2.out NE1_2.out.symm _, blk_far BK3.out NE1_3.out.symm _, below_set BB.out GE1.out⟩
            · rw [HNX.out, HA.out, show (L ++ [x]).length = m + 1 by rw [List.length_append, HM.out]; rfl]
              have h := rd_of_own (l := L ++ [x]) (v := .slice A6 (m + 1) c6) (by rw [show (L ++ [x]).length = m + 1 by rw [List.length_append, HM.out]; rfl]; exact hF)
              exact h
            · rw [HNX.out, HA.out, show (L ++ [x]).length = m + 1 by rw [List.length_append, HM.out]; rfl]
              intro q hq
              have h1 := own_base hF q hq
              have h2 := own_lt hF q hq
              have h3 := HG.out
              have h4 := HWS.out
              exact ⟨⟨by omega, by omega, by omega⟩, h2, .inr (by omega)⟩
            · rw [HNX.out, HA.out, show (L ++ [x]).length = m + 1 by rw [List.length_append, HM.out]; rfl]
              exact blk_put BK1.out 5 _ rfl
          case measure => have := Hlt.out; simp [intOf]; omega
    · have e1 : decide ((k : Int) < (kn : Int)) = false := decide_eq_false (by omega)
      have e2 : decide (k < kn) = false := decide_eq_false hlt
      have hk : k = keys.length := by have := HKN.out; omega
      have htk : keys.take k = keys := by rw [hk]; exact List.take_length
      have HLK := Aside0.mk (show L = watchF wl keys by rw [HLd.out, htk])
      clear hlt hkr hkk htk hk hb
      go_wp2_with fail
      go_region_held3 (fun w' => w'.cell? ⟨g1, 0, none⟩ = some (.bool false) ∧ w'.cell? ⟨g1, 1, none⟩ = some (.bool b) ∧ w'.cell? ⟨g1, 2, none⟩ = some (.bool d) ∧ w'.cell? ⟨g1, 3, none⟩ = some (.slice qA qn qc) ∧ w'.cell? ⟨g1, 4, none⟩ = some (.int .i64 sz) ∧ w'.cell? ⟨g1, 5, none⟩ = some (.slice A m c)) (go_keep) (first | (go_at_call 26; (with_reducible refine Calls.mono (rok_calls _) ?_); rintro e w5 ⟨rfl, hb⟩; have T_ := Aside0.mk (old_blk (blk_drew BK1.out) hb); clear BK1; have BK1 := T_; clear T_; have T_ := Aside0.mk (old_blk (blk_drew BK2.out) hb); clear BK2; have BK2 := T_; clear T_; have T_ := Aside0.mk (old_blk (blk_drew BK3.out) hb); clear BK3; have BK3 := T_; clear T_; have T_ := Aside0.mk (BB.out.trans ((show Below _ _ _ from (below_drew (Below.refl _ _)).trans hb).mono BB.out.size)); clear BB; have BB := T_; clear T_; have HRe := Aside0.mk ((show Rd (World.drew wr) (.slice A m c) L from HRd.out).below hb); have HSe := Aside0.mk (show wr.heap.size ≤ _ from hb.size); clear hb; obtain ⟨p1_0, p1_1, p1_2, p1_3, p1_4, p1_5, f1_0, f1_1, f1_2, f1_3, f1_4, f1_5⟩ := cells6 BK1.out; obtain ⟨p2_0, p2_1, p2_2, p2_3, p2_4, p2_5, f2_0, f2_1, f2_2, f2_3, f2_4, f2_5⟩ := cells6 BK2.out; obtain ⟨p3_0, p3_1, p3_2, p3_3, f3_0, f3_1, f3_2, f3_3⟩ := cells4 BK3.out))
      all_goals
        go_wp2
        refine bodyPost_ret (results_cc rfl _ _ g2 g3 27 30 #[.bool false, .bool b, .bool d, .slice qA qn qc, .int .i64 sz, .slice A m c] #[.int .i64 1, .int .i64 0, .string (⟨#[79, 75]⟩ : ByteArray), .slice none 0 0] (0, 0) (0, 0) _ _ rfl (by (repeat (with_reducible refine blk_far ?_ NE2_3.out _)); refine put6 ?_ _ _ _ _ _ _; exact BK2.out) Try.underlying27 rfl (by kernel_rfl) rfl (by refine put4 ?_ _ _ _ _; (repeat (with_reducible refine blk_far ?_ NE2_3.out.symm _)); exact BK3.out) Try.underlying30 rfl (by kernel_rfl)) rfl ?_
        refine ⟨A, c, by first | (rw [← HLK.out, ← HM.out]; done) | (rw [← HLK.out, ← HM.out]; rfl) | (rw [← HLK.out, ← HM.out]; simp; done), ?_, ?_, by repeat (with_reducible first | exact BB.out | refine below_set ?_ GE3.out | refine below_set ?_ GE2.out)⟩
        · rw [← HLK.out, ← HM.out]
          refine HRe.out.keep fun k_ hk_ => ?_
          have h9 := (HQB.out k_ hk_).1
          repeat (with_reducible first | exact rfl | refine (heap_set_ne h9.2.1 _).trans ?_ | refine (heap_set_ne h9.2.2 _).trans ?_)
        · rw [← HLK.out, ← HM.out]
          exact fun k_ hk_ => ⟨by simp only [size_set]; exact Nat.lt_of_lt_of_le (HQB.out k_ hk_).2.1 HSe.out, (HQB.out k_ hk_).2.2⟩
end Go.Proofs.Ytkamejnccmapkaa.Mu
