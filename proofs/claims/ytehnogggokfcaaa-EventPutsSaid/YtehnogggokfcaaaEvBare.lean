/- The bare event. -/
import Derived.Test.YtehnogggokfcaaaEvMem
namespace Go.Proofs.Ytehnogggokfcaaa.Ev
open Go.RowKit Go.Proofs.YtehnogggokfcaaaW.PrintWords Go.Proofs.YtehnogggokfcaaaW.PrintMore Go.Proofs.YtehnogggokfcaaaW.PrintLast
set_option linter.unusedVariables false
set_option linter.unusedSimpArgs false
attribute [local go_sem ↓] Go.wp_at_zero Go.wp_at_succ
def bareE (e : Ec) : Ec :=
  if e.k = 1 ∨ e.k = 4 then { Ec.z with k := e.k, h := e.h } else if e.k = 2 then { Ec.z with k := e.k, h := e.h, s := e.s } else if e.k = 3 then { Ec.z with k := e.k, h := e.h, n := e.n } else if e.k = 5 then { Ec.z with k := e.k, n := e.n } else if e.k = 7 then { Ec.z with k := e.k, t := e.t, fn := e.fn, fk := e.fk, fz := e.fz } else if e.k = 8 then { Ec.z with k := e.k, A := e.A, nl := e.nl, c := e.c } else { Ec.z with k := e.k }
theorem st_fault {W : World} {g : Nat} {e : Ec} {fn : ByteArray} {fk fz : Int} (ev : Operand → Value) (o : Oper) (p s : Tmp) (ho : o.op = .store 23 (.tmp p) (.tmp s)) (hp : ev (.tmp p) = .pointer (some ⟨g, 5, none⟩)) (hs : ev (.tmp s) = .agg #[.string fn, .int .i64 fk, .int .i64 fz]) (h : EB W g e) :
    (execOp ev o).run Try.prog W = .ok .skip (((W.setCell ⟨g, 5, none⟩ (.string fn)).setCell ⟨g, 6, none⟩ (.int .i64 fk)).setCell ⟨g, 7, none⟩ (.int .i64 fz)) := by
  have hu := Try.underlying23
  obtain ⟨-, -, -, -, -, q5, q6, q7, -⟩ := h.cells
  obtain ⟨-, -, -, -, -, r5, r6, r7, -⟩ := h.free
  unfold execOp
  simp only [ho, hp, hs]
  clear ho hp hs h
  first | (go_simp; done) | (go_simp; rfl)
theorem bare_start_ {w W W1 : World} (h : Below w.heap.size w W) (hb : Below W.heap.size W W1) : Below w.heap.size w W1 := h.trans ⟨hb.os, hb.tape, hb.output, hb.size, fun k hk => hb.block k (Nat.lt_of_lt_of_le hk h.size)⟩
theorem bare_start {w w1 w2 w3 w4 : World} {g1 g2 g3 : Nat} {e ek : Ec} (h1 : g1 = w.heap.size) (e1 : EB w1 g1 e) (b1 : Below w.heap.size w w1) (h2 : g2 = w1.heap.size) (e2 : EB w2 g2 Ec.z) (b2 : Below w1.heap.size w1 w2) (h3 : g3 = w2.heap.size) (e3 : EB w3 g3 Ec.z) (b3 : Below w2.heap.size w2 w3) (hw : w4 = w9 w3 g3 ek) :
    Aside0 (EB w4 g3 ek) ∧ Aside0 (g1 ≠ g3) ∧ Aside0 (g2 ≠ g3) ∧ Aside0 (EB w4 g1 e) ∧ Aside0 (EB w4 g2 Ec.z) ∧ Aside0 (w.heap.size ≤ g2) ∧ Aside0 (w.heap.size ≤ g3) ∧ Aside0 (Below w.heap.size w w4) := by
  have l1 := e1.lt
  have l2 := e2.lt
  have s1 := b1.size
  have s2 := b2.size
  have n13 : g1 ≠ g3 := by omega
  have n23 : g2 ≠ g3 := by omega
  subst hw
  exact ⟨⟨e3.put ek⟩, ⟨n13⟩, ⟨n23⟩, ⟨(w9_other n13 ek).trans ((e1.below b2).below b3)⟩, ⟨(w9_other n23 ek).trans (e2.below b3)⟩, ⟨by omega⟩, ⟨by omega⟩, ⟨w9_below (bare_start_ (bare_start_ b1 b2) b3) (by omega) ek⟩⟩
theorem below_all_ {w W W1 : World} (h : Below w.heap.size w W) (hb : Below W.heap.size W W1) : Below w.heap.size w W1 := h.trans ⟨hb.os, hb.tape, hb.output, hb.size, fun k hk => hb.block k (Nat.lt_of_lt_of_le hk h.size)⟩
set_option maxHeartbeats 40000000 in
set_option maxRecDepth 100000 in
theorem bare_calls (e : Ec) (w : World) : Calls Try.prog 14 #[.agg (ecL e)] w fun x w' => x = .returned (.agg (ecL (bareE e))) ∧ Below w.heap.size w w' := by
  have hu := Try.underlying26
  obtain ⟨R, hR⟩ : ∃ R, R = bareE e := ⟨_, rfl⟩
  rw [← hR]
  have HR := Aside0.mk hR
  clear hR
  obtain ⟨k, h, s, n, t, fn, fk, fz, A, nl, c⟩ := e
  have ARG : ecL ⟨k, h, s, n, t, fn, fk, fz, A, nl, c⟩ = #[.int .i64 k, .int .i64 h, .string s, .int .i64 n, .int .i64 t, .string fn, .int .i64 fk, .int .i64 fz, .slice A nl c] := rfl
  rw [ARG]
  clear ARG
  by_cases h1 : k = 1
  · subst h1
    go_enter Try.func14, Try.ntmps14
    go_wp2_with (first | ((with_reducible refine gate_dst (N := 1) rfl ?_); refine box_event ?hg (N := 1) ?hd (cs := #[.int .i64 1, .int .i64 h, .string s, .int .i64 n, .int .i64 t, .string fn, .int .i64 fk, .int .i64 fz, .slice A nl c]) (t := 26) ?hr ?_; (case hd => rfl); (case hg => rfl); (case hr => first | (go_simp; done) | (go_simp; rfl)); intro g1 hg_ w1 hbox hb; have Gg1 := Aside0.mk hg_; have Eg1 := Aside0.mk (show EB w1 g1 ⟨1, h, s, n, t, fn, fk, fz, A, nl, c⟩ from hbox); have Bg1 := Aside0.mk hb; clear hbox hb hg_; ) | ((with_reducible refine gate_dst (N := 2) rfl ?_); refine box_event ?hg (N := 2) ?hd (cs := #[.int .i64 0, .int .i64 0, .string (⟨#[]⟩ : ByteArray), .int .i64 0, .int .i64 0, .string (⟨#[]⟩ : ByteArray), .int .i64 0, .int .i64 0, .slice none 0 0]) (t := 26) ?hr ?_; (case hd => rfl); (case hg => rfl); (case hr => first | (go_simp; done) | (go_simp; rfl)); intro g2 hg_ w2 hbox hb; have Gg2 := Aside0.mk hg_; have Eg2 := Aside0.mk (show EB w2 g2 ⟨0, 0, ⟨#[]⟩, 0, 0, ⟨#[]⟩, 0, 0, none, 0, 0⟩ from hbox); have Bg2 := Aside0.mk hb; clear hbox hb hg_; obtain ⟨k0, k1, k2, k3, k4, k5, k6, k7, k8⟩ := (Eg1.out.below Bg2.out).cells; dsimp only at k0 k1 k2 k3 k4 k5 k6 k7 k8) | ((with_reducible refine gate_dst (N := 3) rfl ?_); refine box_event ?hg (N := 3) ?hd (cs := #[.int .i64 0, .int .i64 0, .string (⟨#[]⟩ : ByteArray), .int .i64 0, .int .i64 0, .string (⟨#[]⟩ : ByteArray), .int .i64 0, .int .i64 0, .slice none 0 0]) (t := 26) ?hr ?_; (case hd => rfl); (case hg => rfl); (case hr => first | (go_simp; done) | (go_simp; rfl)); intro g3 hg_ w3 hbox hb; have Gg3 := Aside0.mk hg_; have Eg3 := Aside0.mk (show EB w3 g3 ⟨0, 0, ⟨#[]⟩, 0, 0, ⟨#[]⟩, 0, 0, none, 0, 0⟩ from hbox); have Bg3 := Aside0.mk hb; clear hbox hb hg_; clear k0 k1 k2 k3 k4 k5 k6 k7 k8; obtain ⟨u0, u1, u2, u3, u4, u5, u6, u7, u8⟩ := Eg3.out.cells; obtain ⟨v0, v1, v2, v3, v4, v5, v6, v7, v8⟩ := Eg3.out.free) | ((with_reducible refine gate_store (t := 26) (p := 3) rfl ?_); refine ev_store (w1 := (((((((((w3.setCell ⟨g3, 0, none⟩ (.int .i64 1)).setCell ⟨g3, 1, none⟩ (.int .i64 0)).setCell ⟨g3, 2, none⟩ (.string (⟨#[]⟩ : ByteArray))).setCell ⟨g3, 3, none⟩ (.int .i64 0)).setCell ⟨g3, 4, none⟩ (.int .i64 0)).setCell ⟨g3, 5, none⟩ (.string (⟨#[]⟩ : ByteArray))).setCell ⟨g3, 6, none⟩ (.int .i64 0)).setCell ⟨g3, 7, none⟩ (.int .i64 0)).setCell ⟨g3, 8, none⟩ (.slice none 0 0))) ?hg ?hn ?hr ?_; (case hg => rfl); (case hn => rfl); (case hr => first | (go_simp; done) | (go_simp; rfl)); intro w4 hW_; have HW4 := Aside0.mk hW_; clear hW_; clear u0 u1 u2 u3 u4 u5 u6 u7 u8 v0 v1 v2 v3 v4 v5 v6 v7 v8; obtain ⟨E3, N13, N23, E1, E2, HG2, HG3, B4⟩ := bare_start (e := ⟨1, h, s, n, t, fn, fk, fz, A, nl, c⟩) (ek := ⟨1, 0, ⟨#[]⟩, 0, 0, ⟨#[]⟩, 0, 0, none, 0, 0⟩) Gg1.out Eg1.out Bg1.out Gg2.out Eg2.out Bg2.out Gg3.out Eg3.out Bg3.out HW4.out; clear HW4; obtain ⟨k0, k1, k2, k3, k4, k5, k6, k7, k8⟩ := E1.out.cells; dsimp only at k0 k1 k2 k3 k4 k5 k6 k7 k8; obtain ⟨v0, v1, v2, v3, v4, v5, v6, v7, v8⟩ := E3.out.free; obtain ⟨u0, u1, u2, u3, u4, u5, u6, u7, u8⟩ := E3.out.cells; dsimp only at u0 u1 u2 u3 u4 u5 u6 u7 u8) | ((with_reducible refine gate_store (t := 3) (p := 14) rfl ?_); refine ev_store (w1 := w4.setCell ⟨g3, 1, none⟩ (.int .i64 h)) ?hg ?hn ?hr ?_; (case hg => rfl); (case hn => rfl); (case hr => first | (go_simp; done) | (go_simp; rfl)); intro w5 hW_; have HW5 := Aside0.mk hW_; clear hW_; have EX := Aside0.mk (show EB w5 g3 ⟨1, h, ⟨#[]⟩, 0, 0, ⟨#[]⟩, 0, 0, none, 0, 0⟩ from by rw [HW5.out]; exact E3.out.setH h); have EY := Aside0.mk (show EB w5 g2 ⟨0, 0, ⟨#[]⟩, 0, 0, ⟨#[]⟩, 0, 0, none, 0, 0⟩ from by rw [HW5.out]; exact E2.out.other N23.out _); clear k0 k1 k2 k3 k4 k5 k6 k7 k8 u0 u1 u2 u3 u4 u5 u6 u7 u8 v0 v1 v2 v3 v4 v5 v6 v7 v8; have BZ := Aside0.mk (show Below w.heap.size w w5 from by rw [HW5.out]; exact ev_below_set B4.out HG3.out); obtain ⟨k0, k1, k2, k3, k4, k5, k6, k7, k8⟩ := EX.out.cells; dsimp only at k0 k1 k2 k3 k4 k5 k6 k7 k8; obtain ⟨p0, p1, p2, p3, p4, p5, p6, p7, p8⟩ := EY.out.cells; obtain ⟨r0, r1, r2, r3, r4, r5, r6, r7, r8⟩ := EY.out.free) | ((with_reducible refine gate_store (t := 26) (p := 2) rfl ?_); refine ev_store (w1 := (((((((((w5.setCell ⟨g2, 0, none⟩ (.int .i64 1)).setCell ⟨g2, 1, none⟩ (.int .i64 h)).setCell ⟨g2, 2, none⟩ (.string (⟨#[]⟩ : ByteArray))).setCell ⟨g2, 3, none⟩ (.int .i64 0)).setCell ⟨g2, 4, none⟩ (.int .i64 0)).setCell ⟨g2, 5, none⟩ (.string (⟨#[]⟩ : ByteArray))).setCell ⟨g2, 6, none⟩ (.int .i64 0)).setCell ⟨g2, 7, none⟩ (.int .i64 0)).setCell ⟨g2, 8, none⟩ (.slice none 0 0))) ?hg ?hn ?hr ?_; (case hg => rfl); (case hn => rfl); (case hr => first | (go_simp; done) | (go_simp; rfl)); intro wz hW_; have HWZ := Aside0.mk hW_; clear hW_; clear p0 p1 p2 p3 p4 p5 p6 p7 p8 r0 r1 r2 r3 r4 r5 r6 r7 r8))
    have EZ := Aside0.mk (show EB wz g2 ⟨1, h, ⟨#[]⟩, 0, 0, ⟨#[]⟩, 0, 0, none, 0, 0⟩ from by rw [HWZ.out]; exact EB.put EY.out ⟨1, h, ⟨#[]⟩, 0, 0, ⟨#[]⟩, 0, 0, none, 0, 0⟩)
    refine bodyPost_ret (results_cell_row rfl _ _ g2 26 #[.int .i64 1, .int .i64 h, .string (⟨#[]⟩ : ByteArray), .int .i64 0, .int .i64 0, .string (⟨#[]⟩ : ByteArray), .int .i64 0, .int .i64 0, .slice none 0 0] (0, 0) _ rfl EZ.out Try.underlying26 rfl (by kernel_rfl)) rfl ?_
    refine ⟨?_, ?_⟩
    · rw [HR.out]; unfold bareE; rw [if_pos (.inl rfl)]; rfl
    · rw [HWZ.out]; exact w9_below BZ.out HG2.out ⟨1, h, ⟨#[]⟩, 0, 0, ⟨#[]⟩, 0, 0, none, 0, 0⟩
  · have i1 : decide (k = 1) = false := decide_eq_false h1
    have j1 : (k == 1) = false := by simp [h1]
    by_cases h4 : k = 4
    · subst h4
      go_enter Try.func14, Try.ntmps14
      go_wp2_with (first | ((with_reducible refine gate_dst (N := 1) rfl ?_); refine box_event ?hg (N := 1) ?hd (cs := #[.int .i64 4, .int .i64 h, .string s, .int .i64 n, .int .i64 t, .string fn, .int .i64 fk, .int .i64 fz, .slice A nl c]) (t := 26) ?hr ?_; (case hd => rfl); (case hg => rfl); (case hr => first | (go_simp; done) | (go_simp; rfl)); intro g1 hg_ w1 hbox hb; have Gg1 := Aside0.mk hg_; have Eg1 := Aside0.mk (show EB w1 g1 ⟨4, h, s, n, t, fn, fk, fz, A, nl, c⟩ from hbox); have Bg1 := Aside0.mk hb; clear hbox hb hg_; ) | ((with_reducible refine gate_dst (N := 2) rfl ?_); refine box_event ?hg (N := 2) ?hd (cs := #[.int .i64 0, .int .i64 0, .string (⟨#[]⟩ : ByteArray), .int .i64 0, .int .i64 0, .string (⟨#[]⟩ : ByteArray), .int .i64 0, .int .i64 0, .slice none 0 0]) (t := 26) ?hr ?_; (case hd => rfl); (case hg => rfl); (case hr => first | (go_simp; done) | (go_simp; rfl)); intro g2 hg_ w2 hbox hb; have Gg2 := Aside0.mk hg_; have Eg2 := Aside0.mk (show EB w2 g2 ⟨0, 0, ⟨#[]⟩, 0, 0, ⟨#[]⟩, 0, 0, none, 0, 0⟩ from hbox); have Bg2 := Aside0.mk hb; clear hbox hb hg_; obtain ⟨k0, k1, k2, k3, k4, k5, k6, k7, k8⟩ := (Eg1.out.below Bg2.out).cells; dsimp only at k0 k1 k2 k3 k4 k5 k6 k7 k8) | ((with_reducible refine gate_dst (N := 3) rfl ?_); refine box_event ?hg (N := 3) ?hd (cs := #[.int .i64 0, .int .i64 0, .string (⟨#[]⟩ : ByteArray), .int .i64 0, .int .i64 0, .string (⟨#[]⟩ : ByteArray), .int .i64 0, .int .i64 0, .slice none 0 0]) (t := 26) ?hr ?_; (case hd => rfl); (case hg => rfl); (case hr => first | (go_simp; done) | (go_simp; rfl)); intro g3 hg_ w3 hbox hb; have Gg3 := Aside0.mk hg_; have Eg3 := Aside0.mk (show EB w3 g3 ⟨0, 0, ⟨#[]⟩, 0, 0, ⟨#[]⟩, 0, 0, none, 0, 0⟩ from hbox); have Bg3 := Aside0.mk hb; clear hbox hb hg_; clear k0 k1 k2 k3 k4 k5 k6 k7 k8; obtain ⟨u0, u1, u2, u3, u4, u5, u6, u7, u8⟩ := Eg3.out.cells; obtain ⟨v0, v1, v2, v3, v4, v5, v6, v7, v8⟩ := Eg3.out.free) | ((with_reducible refine gate_store (t := 26) (p := 3) rfl ?_); refine ev_store (w1 := (((((((((w3.setCell ⟨g3, 0, none⟩ (.int .i64 4)).setCell ⟨g3, 1, none⟩ (.int .i64 0)).setCell ⟨g3, 2, none⟩ (.string (⟨#[]⟩ : ByteArray))).setCell ⟨g3, 3, none⟩ (.int .i64 0)).setCell ⟨g3, 4, none⟩ (.int .i64 0)).setCell ⟨g3, 5, none⟩ (.string (⟨#[]⟩ : ByteArray))).setCell ⟨g3, 6, none⟩ (.int .i64 0)).setCell ⟨g3, 7, none⟩ (.int .i64 0)).setCell ⟨g3, 8, none⟩ (.slice none 0 0))) ?hg ?hn ?hr ?_; (case hg => rfl); (case hn => rfl); (case hr => first | (go_simp; done) | (go_simp; rfl)); intro w4 hW_; have HW4 := Aside0.mk hW_; clear hW_; clear u0 u1 u2 u3 u4 u5 u6 u7 u8 v0 v1 v2 v3 v4 v5 v6 v7 v8; obtain ⟨E3, N13, N23, E1, E2, HG2, HG3, B4⟩ := bare_start (e := ⟨4, h, s, n, t, fn, fk, fz, A, nl, c⟩) (ek := ⟨4, 0, ⟨#[]⟩, 0, 0, ⟨#[]⟩, 0, 0, none, 0, 0⟩) Gg1.out Eg1.out Bg1.out Gg2.out Eg2.out Bg2.out Gg3.out Eg3.out Bg3.out HW4.out; clear HW4; obtain ⟨k0, k1, k2, k3, k4, k5, k6, k7, k8⟩ := E1.out.cells; dsimp only at k0 k1 k2 k3 k4 k5 k6 k7 k8; obtain ⟨v0, v1, v2, v3, v4, v5, v6, v7, v8⟩ := E3.out.free; obtain ⟨u0, u1, u2, u3, u4, u5, u6, u7, u8⟩ := E3.out.cells; dsimp only at u0 u1 u2 u3 u4 u5 u6 u7 u8) | ((with_reducible refine gate_store (t := 3) (p := 14) rfl ?_); refine ev_store (w1 := w4.setCell ⟨g3, 1, none⟩ (.int .i64 h)) ?hg ?hn ?hr ?_; (case hg => rfl); (case hn => rfl); (case hr => first | (go_simp; done) | (go_simp; rfl)); intro w5 hW_; have HW5 := Aside0.mk hW_; clear hW_; have EX := Aside0.mk (show EB w5 g3 ⟨4, h, ⟨#[]⟩, 0, 0, ⟨#[]⟩, 0, 0, none, 0, 0⟩ from by rw [HW5.out]; exact E3.out.setH h); have EY := Aside0.mk (show EB w5 g2 ⟨0, 0, ⟨#[]⟩, 0, 0, ⟨#[]⟩, 0, 0, none, 0, 0⟩ from by rw [HW5.out]; exact E2.out.other N23.out _); clear k0 k1 k2 k3 k4 k5 k6 k7 k8 u0 u1 u2 u3 u4 u5 u6 u7 u8 v0 v1 v2 v3 v4 v5 v6 v7 v8; have BZ := Aside0.mk (show Below w.heap.size w w5 from by rw [HW5.out]; exact ev_below_set B4.out HG3.out); obtain ⟨k0, k1, k2, k3, k4, k5, k6, k7, k8⟩ := EX.out.cells; dsimp only at k0 k1 k2 k3 k4 k5 k6 k7 k8; obtain ⟨p0, p1, p2, p3, p4, p5, p6, p7, p8⟩ := EY.out.cells; obtain ⟨r0, r1, r2, r3, r4, r5, r6, r7, r8⟩ := EY.out.free) | ((with_reducible refine gate_store (t := 26) (p := 2) rfl ?_); refine ev_store (w1 := (((((((((w5.setCell ⟨g2, 0, none⟩ (.int .i64 4)).setCell ⟨g2, 1, none⟩ (.int .i64 h)).setCell ⟨g2, 2, none⟩ (.string (⟨#[]⟩ : ByteArray))).setCell ⟨g2, 3, none⟩ (.int .i64 0)).setCell ⟨g2, 4, none⟩ (.int .i64 0)).setCell ⟨g2, 5, none⟩ (.string (⟨#[]⟩ : ByteArray))).setCell ⟨g2, 6, none⟩ (.int .i64 0)).setCell ⟨g2, 7, none⟩ (.int .i64 0)).setCell ⟨g2, 8, none⟩ (.slice none 0 0))) ?hg ?hn ?hr ?_; (case hg => rfl); (case hn => rfl); (case hr => first | (go_simp; done) | (go_simp; rfl)); intro wz hW_; have HWZ := Aside0.mk hW_; clear hW_; clear p0 p1 p2 p3 p4 p5 p6 p7 p8 r0 r1 r2 r3 r4 r5 r6 r7 r8))
      have EZ := Aside0.mk (show EB wz g2 ⟨4, h, ⟨#[]⟩, 0, 0, ⟨#[]⟩, 0, 0, none, 0, 0⟩ from by rw [HWZ.out]; exact EB.put EY.out ⟨4, h, ⟨#[]⟩, 0, 0, ⟨#[]⟩, 0, 0, none, 0, 0⟩)
      refine bodyPost_ret (results_cell_row rfl _ _ g2 26 #[.int .i64 4, .int .i64 h, .string (⟨#[]⟩ : ByteArray), .int .i64 0, .int .i64 0, .string (⟨#[]⟩ : ByteArray), .int .i64 0, .int .i64 0, .slice none 0 0] (0, 0) _ rfl EZ.out Try.underlying26 rfl (by kernel_rfl)) rfl ?_
      refine ⟨?_, ?_⟩
      · rw [HR.out]; unfold bareE; rw [if_pos (.inr rfl)]; rfl
      · rw [HWZ.out]; exact w9_below BZ.out HG2.out ⟨4, h, ⟨#[]⟩, 0, 0, ⟨#[]⟩, 0, 0, none, 0, 0⟩
    · have i4 : decide (k = 4) = false := decide_eq_false h4
      have j4 : (k == 4) = false := by simp [h4]
      by_cases h2 : k = 2
      · subst h2
        go_enter Try.func14, Try.ntmps14
        go_wp2_with (first | ((with_reducible refine gate_dst (N := 1) rfl ?_); refine box_event ?hg (N := 1) ?hd (cs := #[.int .i64 2, .int .i64 h, .string s, .int .i64 n, .int .i64 t, .string fn, .int .i64 fk, .int .i64 fz, .slice A nl c]) (t := 26) ?hr ?_; (case hd => rfl); (case hg => rfl); (case hr => first | (go_simp; done) | (go_simp; rfl)); intro g1 hg_ w1 hbox hb; have Gg1 := Aside0.mk hg_; have Eg1 := Aside0.mk (show EB w1 g1 ⟨2, h, s, n, t, fn, fk, fz, A, nl, c⟩ from hbox); have Bg1 := Aside0.mk hb; clear hbox hb hg_; ) | ((with_reducible refine gate_dst (N := 2) rfl ?_); refine box_event ?hg (N := 2) ?hd (cs := #[.int .i64 0, .int .i64 0, .string (⟨#[]⟩ : ByteArray), .int .i64 0, .int .i64 0, .string (⟨#[]⟩ : ByteArray), .int .i64 0, .int .i64 0, .slice none 0 0]) (t := 26) ?hr ?_; (case hd => rfl); (case hg => rfl); (case hr => first | (go_simp; done) | (go_simp; rfl)); intro g2 hg_ w2 hbox hb; have Gg2 := Aside0.mk hg_; have Eg2 := Aside0.mk (show EB w2 g2 ⟨0, 0, ⟨#[]⟩, 0, 0, ⟨#[]⟩, 0, 0, none, 0, 0⟩ from hbox); have Bg2 := Aside0.mk hb; clear hbox hb hg_; obtain ⟨k0, k1, k2, k3, k4, k5, k6, k7, k8⟩ := (Eg1.out.below Bg2.out).cells; dsimp only at k0 k1 k2 k3 k4 k5 k6 k7 k8) | ((with_reducible refine gate_dst (N := 3) rfl ?_); refine box_event ?hg (N := 3) ?hd (cs := #[.int .i64 0, .int .i64 0, .string (⟨#[]⟩ : ByteArray), .int .i64 0, .int .i64 0, .string (⟨#[]⟩ : ByteArray), .int .i64 0, .int .i64 0, .slice none 0 0]) (t := 26) ?hr ?_; (case hd => rfl); (case hg => rfl); (case hr => first | (go_simp; done) | (go_simp; rfl)); intro g3 hg_ w3 hbox hb; have Gg3 := Aside0.mk hg_; have Eg3 := Aside0.mk (show EB w3 g3 ⟨0, 0, ⟨#[]⟩, 0, 0, ⟨#[]⟩, 0, 0, none, 0, 0⟩ from hbox); have Bg3 := Aside0.mk hb; clear hbox hb hg_; clear k0 k1 k2 k3 k4 k5 k6 k7 k8; obtain ⟨u0, u1, u2, u3, u4, u5, u6, u7, u8⟩ := Eg3.out.cells; obtain ⟨v0, v1, v2, v3, v4, v5, v6, v7, v8⟩ := Eg3.out.free) | ((with_reducible refine gate_store (t := 26) (p := 3) rfl ?_); refine ev_store (w1 := (((((((((w3.setCell ⟨g3, 0, none⟩ (.int .i64 2)).setCell ⟨g3, 1, none⟩ (.int .i64 0)).setCell ⟨g3, 2, none⟩ (.string (⟨#[]⟩ : ByteArray))).setCell ⟨g3, 3, none⟩ (.int .i64 0)).setCell ⟨g3, 4, none⟩ (.int .i64 0)).setCell ⟨g3, 5, none⟩ (.string (⟨#[]⟩ : ByteArray))).setCell ⟨g3, 6, none⟩ (.int .i64 0)).setCell ⟨g3, 7, none⟩ (.int .i64 0)).setCell ⟨g3, 8, none⟩ (.slice none 0 0))) ?hg ?hn ?hr ?_; (case hg => rfl); (case hn => rfl); (case hr => first | (go_simp; done) | (go_simp; rfl)); intro w4 hW_; have HW4 := Aside0.mk hW_; clear hW_; clear u0 u1 u2 u3 u4 u5 u6 u7 u8 v0 v1 v2 v3 v4 v5 v6 v7 v8; obtain ⟨E3, N13, N23, E1, E2, HG2, HG3, B4⟩ := bare_start (e := ⟨2, h, s, n, t, fn, fk, fz, A, nl, c⟩) (ek := ⟨2, 0, ⟨#[]⟩, 0, 0, ⟨#[]⟩, 0, 0, none, 0, 0⟩) Gg1.out Eg1.out Bg1.out Gg2.out Eg2.out Bg2.out Gg3.out Eg3.out Bg3.out HW4.out; clear HW4; obtain ⟨k0, k1, k2, k3, k4, k5, k6, k7, k8⟩ := E1.out.cells; dsimp only at k0 k1 k2 k3 k4 k5 k6 k7 k8; obtain ⟨v0, v1, v2, v3, v4, v5, v6, v7, v8⟩ := E3.out.free; obtain ⟨u0, u1, u2, u3, u4, u5, u6, u7, u8⟩ := E3.out.cells; dsimp only at u0 u1 u2 u3 u4 u5 u6 u7 u8))
        clear k0 k1 k2 k3 k4 k5 k6 k7 k8 u0 u1 u2 u3 u4 u5 u6 u7 u8 v0 v1 v2 v3 v4 v5 v6 v7 v8
        refine region_drew (fun W_ => EB W_ g1 ⟨2, h, s, n, t, fn, fk, fz, A, nl, c⟩) (by kernel_rfl) (fun d1 hd1 he1 => ?_)
        have D1 := Aside0.mk (E1.out.below hd1)
        have D2 := Aside0.mk (E2.out.below hd1)
        have D3 := Aside0.mk (E3.out.below hd1)
        have BD := Aside0.mk (below_all_ B4.out hd1)
        clear hd1 he1
        refine ⟨D1.out, fun hHeld => ?_⟩
        refine wpAnyH_take (i := 0) (v := .pointer (some ⟨g1, 1, none⟩)) rfl (by kernel_rfl) (by kernel_rfl) (by kernel_rfl) (fun _ _ _ h => h) (Or.inl ⟨by kernel_rfl, ?_⟩) (by assumption) ?_
        · intro W_ hSw
          obtain ⟨q0, q1, q2, q3, q4, q5, q6, q7, q8⟩ := EB.cells (e := ⟨2, h, s, n, t, fn, fk, fz, A, nl, c⟩) hSw
          dsimp only at q0 q1 q2 q3 q4 q5 q6 q7 q8
          clear hSw
          first | (go_simp; done) | (go_simp; with_reducible rfl) | (go_simp; rfl)
        refine wpAnyH_take (i := 1) (v := .int .i64 h) rfl (by kernel_rfl) (by kernel_rfl) (by kernel_rfl) (fun _ _ _ h => h) (Or.inl ⟨by kernel_rfl, ?_⟩) (by assumption) ?_
        · intro W_ hSw
          obtain ⟨q0, q1, q2, q3, q4, q5, q6, q7, q8⟩ := EB.cells (e := ⟨2, h, s, n, t, fn, fk, fz, A, nl, c⟩) hSw
          dsimp only at q0 q1 q2 q3 q4 q5 q6 q7 q8
          clear hSw
          first | (go_simp; done) | (go_simp; with_reducible rfl) | (go_simp; rfl)
        refine wpAnyH_take (i := 2) (v := .pointer (some ⟨g1, 2, none⟩)) rfl (by kernel_rfl) (by kernel_rfl) (by kernel_rfl) (fun _ _ _ h => h) (Or.inl ⟨by kernel_rfl, ?_⟩) (by assumption) ?_
        · intro W_ hSw
          obtain ⟨q0, q1, q2, q3, q4, q5, q6, q7, q8⟩ := EB.cells (e := ⟨2, h, s, n, t, fn, fk, fz, A, nl, c⟩) hSw
          dsimp only at q0 q1 q2 q3 q4 q5 q6 q7 q8
          clear hSw
          first | (go_simp; done) | (go_simp; with_reducible rfl) | (go_simp; rfl)
        refine wpAnyH_take (i := 3) (v := .string s) rfl (by kernel_rfl) (by kernel_rfl) (by kernel_rfl) (fun _ _ _ h => h) (Or.inl ⟨by kernel_rfl, ?_⟩) (by assumption) ?_
        · intro W_ hSw
          obtain ⟨q0, q1, q2, q3, q4, q5, q6, q7, q8⟩ := EB.cells (e := ⟨2, h, s, n, t, fn, fk, fz, A, nl, c⟩) hSw
          dsimp only at q0 q1 q2 q3 q4 q5 q6 q7 q8
          clear hSw
          first | (go_simp; done) | (go_simp; with_reducible rfl) | (go_simp; rfl)
        refine wpAnyH_take (i := 4) (v := .pointer (some ⟨g3, 1, none⟩)) rfl (by kernel_rfl) (by kernel_rfl) (by kernel_rfl) (fun _ _ _ h => h) (Or.inl ⟨by kernel_rfl, ?_⟩) (by assumption) ?_
        · intro W_ hSw
          obtain ⟨q0, q1, q2, q3, q4, q5, q6, q7, q8⟩ := EB.cells (e := ⟨2, h, s, n, t, fn, fk, fz, A, nl, c⟩) hSw
          dsimp only at q0 q1 q2 q3 q4 q5 q6 q7 q8
          clear hSw
          first | (go_simp; done) | (go_simp; with_reducible rfl) | (go_simp; rfl)
        try simp only [Act.put, List.getElem_toArray, List.getElem_cons_succ, List.getElem_cons_zero, List.setIfInBounds_toArray, List.set_cons_zero, List.set_cons_succ]
        clear hHeld
        refine next_le (i := 5) (rs := []) (by kernel_rfl) ?_
        refine cons_skip 5 (op := .store 3 (.tmp 21) (.tmp 18)) (d1.setCell ⟨g3, 1, none⟩ (.int .i64 h)) (by kernel_rfl) (fun o ho => st_int _ o 21 18 ho (by kernel_rfl) (by kernel_rfl) D3.out.cells.2.1 D3.out.free.2.1) (fun wa hw_ => ?_) AllReadyH.nil
        have Hwa := Aside0.mk hw_
        clear hw_
        have D1wa := Aside0.mk (show EB wa g1 ⟨2, h, s, n, t, fn, fk, fz, A, nl, c⟩ from by rw [Hwa.out]; exact D1.out.other N13.out _)
        have D2wa := Aside0.mk (show EB wa g2 ⟨0, 0, ⟨#[]⟩, 0, 0, ⟨#[]⟩, 0, 0, none, 0, 0⟩ from by rw [Hwa.out]; exact D2.out.other N23.out _)
        have D3wa := Aside0.mk (show EB wa g3 ⟨2, h, ⟨#[]⟩, 0, 0, ⟨#[]⟩, 0, 0, none, 0, 0⟩ from by rw [Hwa.out]; exact D3.out.setH h)
        have Bwa := Aside0.mk (show Below w.heap.size w wa from by rw [Hwa.out]; exact ev_below_set BD.out HG3.out)
        refine ⟨D1wa.out, ?_⟩
        have hHeld := D1wa.out
        refine wpAnyH_take (i := 6) (v := .pointer (some ⟨g3, 2, none⟩)) rfl (by kernel_rfl) (by kernel_rfl) (by kernel_rfl) (fun _ _ _ h => h) (Or.inl ⟨by kernel_rfl, ?_⟩) (by assumption) ?_
        · intro W_ hSw
          obtain ⟨q0, q1, q2, q3, q4, q5, q6, q7, q8⟩ := EB.cells (e := ⟨2, h, s, n, t, fn, fk, fz, A, nl, c⟩) hSw
          dsimp only at q0 q1 q2 q3 q4 q5 q6 q7 q8
          clear hSw
          first | (go_simp; done) | (go_simp; with_reducible rfl) | (go_simp; rfl)
        try simp only [Act.put, List.getElem_toArray, List.getElem_cons_succ, List.getElem_cons_zero, List.setIfInBounds_toArray, List.set_cons_zero, List.set_cons_succ]
        clear hHeld
        refine next_le (i := 7) (rs := []) (by kernel_rfl) ?_
        refine cons_skip 7 (op := .store 9 (.tmp 22) (.tmp 20)) (wa.setCell ⟨g3, 2, none⟩ (.string s)) (by kernel_rfl) (fun o ho => st_str _ o 22 20 ho (by kernel_rfl) (by kernel_rfl) D3wa.out.cells.2.2.1 D3wa.out.free.2.2.1) (fun wb hw_ => ?_) AllReadyH.nil
        have Hwb := Aside0.mk hw_
        clear hw_
        have D1wb := Aside0.mk (show EB wb g1 ⟨2, h, s, n, t, fn, fk, fz, A, nl, c⟩ from by rw [Hwb.out]; exact D1wa.out.other N13.out _)
        have D2wb := Aside0.mk (show EB wb g2 ⟨0, 0, ⟨#[]⟩, 0, 0, ⟨#[]⟩, 0, 0, none, 0, 0⟩ from by rw [Hwb.out]; exact D2wa.out.other N23.out _)
        have D3wb := Aside0.mk (show EB wb g3 ⟨2, h, s, 0, 0, ⟨#[]⟩, 0, 0, none, 0, 0⟩ from by rw [Hwb.out]; exact D3wa.out.setS s)
        have Bwb := Aside0.mk (show Below w.heap.size w wb from by rw [Hwb.out]; exact ev_below_set Bwa.out HG3.out)
        refine ⟨D1wb.out, ?_⟩
        refine wpAnyH_done (by kernel_rfl) ?_ _
        have EX := Aside0.mk D3wb.out
        have EY := Aside0.mk D2wb.out
        have BZ := Aside0.mk Bwb.out
        obtain ⟨u0, u1, u2, u3, u4, u5, u6, u7, u8⟩ := EX.out.cells
        dsimp only at u0 u1 u2 u3 u4 u5 u6 u7 u8
        obtain ⟨p0, p1, p2, p3, p4, p5, p6, p7, p8⟩ := EY.out.cells
        obtain ⟨r0, r1, r2, r3, r4, r5, r6, r7, r8⟩ := EY.out.free
        go_wp2_with (first | ((with_reducible refine gate_store (t := 26) (p := 2) rfl ?_); refine ev_store (w1 := (((((((((wb.setCell ⟨g2, 0, none⟩ (.int .i64 2)).setCell ⟨g2, 1, none⟩ (.int .i64 h)).setCell ⟨g2, 2, none⟩ (.string s)).setCell ⟨g2, 3, none⟩ (.int .i64 0)).setCell ⟨g2, 4, none⟩ (.int .i64 0)).setCell ⟨g2, 5, none⟩ (.string (⟨#[]⟩ : ByteArray))).setCell ⟨g2, 6, none⟩ (.int .i64 0)).setCell ⟨g2, 7, none⟩ (.int .i64 0)).setCell ⟨g2, 8, none⟩ (.slice none 0 0))) ?hg ?hn ?hr ?_; (case hg => rfl); (case hn => rfl); (case hr => first | (go_simp; done) | (go_simp; rfl)); intro wz hW_; have HWZ := Aside0.mk hW_; clear hW_; clear p0 p1 p2 p3 p4 p5 p6 p7 p8 r0 r1 r2 r3 r4 r5 r6 r7 r8))
        have EZ := Aside0.mk (show EB wz g2 ⟨2, h, s, 0, 0, ⟨#[]⟩, 0, 0, none, 0, 0⟩ from by rw [HWZ.out]; exact EB.put EY.out ⟨2, h, s, 0, 0, ⟨#[]⟩, 0, 0, none, 0, 0⟩)
        refine bodyPost_ret (results_cell_row rfl _ _ g2 26 #[.int .i64 2, .int .i64 h, .string s, .int .i64 0, .int .i64 0, .string (⟨#[]⟩ : ByteArray), .int .i64 0, .int .i64 0, .slice none 0 0] (0, 0) _ rfl EZ.out Try.underlying26 rfl (by kernel_rfl)) rfl ?_
        refine ⟨?_, ?_⟩
        · rw [HR.out]; unfold bareE; rw [if_neg (by simp), if_pos rfl]; rfl
        · rw [HWZ.out]; exact w9_below BZ.out HG2.out ⟨2, h, s, 0, 0, ⟨#[]⟩, 0, 0, none, 0, 0⟩
      · have i2 : decide (k = 2) = false := decide_eq_false h2
        have j2 : (k == 2) = false := by simp [h2]
        by_cases h3 : k = 3
        · subst h3
          go_enter Try.func14, Try.ntmps14
          go_wp2_with (first | ((with_reducible refine gate_dst (N := 1) rfl ?_); refine box_event ?hg (N := 1) ?hd (cs := #[.int .i64 3, .int .i64 h, .string s, .int .i64 n, .int .i64 t, .string fn, .int .i64 fk, .int .i64 fz, .slice A nl c]) (t := 26) ?hr ?_; (case hd => rfl); (case hg => rfl); (case hr => first | (go_simp; done) | (go_simp; rfl)); intro g1 hg_ w1 hbox hb; have Gg1 := Aside0.mk hg_; have Eg1 := Aside0.mk (show EB w1 g1 ⟨3, h, s, n, t, fn, fk, fz, A, nl, c⟩ from hbox); have Bg1 := Aside0.mk hb; clear hbox hb hg_; ) | ((with_reducible refine gate_dst (N := 2) rfl ?_); refine box_event ?hg (N := 2) ?hd (cs := #[.int .i64 0, .int .i64 0, .string (⟨#[]⟩ : ByteArray), .int .i64 0, .int .i64 0, .string (⟨#[]⟩ : ByteArray), .int .i64 0, .int .i64 0, .slice none 0 0]) (t := 26) ?hr ?_; (case hd => rfl); (case hg => rfl); (case hr => first | (go_simp; done) | (go_simp; rfl)); intro g2 hg_ w2 hbox hb; have Gg2 := Aside0.mk hg_; have Eg2 := Aside0.mk (show EB w2 g2 ⟨0, 0, ⟨#[]⟩, 0, 0, ⟨#[]⟩, 0, 0, none, 0, 0⟩ from hbox); have Bg2 := Aside0.mk hb; clear hbox hb hg_; obtain ⟨k0, k1, k2, k3, k4, k5, k6, k7, k8⟩ := (Eg1.out.below Bg2.out).cells; dsimp only at k0 k1 k2 k3 k4 k5 k6 k7 k8) | ((with_reducible refine gate_dst (N := 3) rfl ?_); refine box_event ?hg (N := 3) ?hd (cs := #[.int .i64 0, .int .i64 0, .string (⟨#[]⟩ : ByteArray), .int .i64 0, .int .i64 0, .string (⟨#[]⟩ : ByteArray), .int .i64 0, .int .i64 0, .slice none 0 0]) (t := 26) ?hr ?_; (case hd => rfl); (case hg => rfl); (case hr => first | (go_simp; done) | (go_simp; rfl)); intro g3 hg_ w3 hbox hb; have Gg3 := Aside0.mk hg_; have Eg3 := Aside0.mk (show EB w3 g3 ⟨0, 0, ⟨#[]⟩, 0, 0, ⟨#[]⟩, 0, 0, none, 0, 0⟩ from hbox); have Bg3 := Aside0.mk hb; clear hbox hb hg_; clear k0 k1 k2 k3 k4 k5 k6 k7 k8; obtain ⟨u0, u1, u2, u3, u4, u5, u6, u7, u8⟩ := Eg3.out.cells; obtain ⟨v0, v1, v2, v3, v4, v5, v6, v7, v8⟩ := Eg3.out.free) | ((with_reducible refine gate_store (t := 26) (p := 3) rfl ?_); refine ev_store (w1 := (((((((((w3.setCell ⟨g3, 0, none⟩ (.int .i64 3)).setCell ⟨g3, 1, none⟩ (.int .i64 0)).setCell ⟨g3, 2, none⟩ (.string (⟨#[]⟩ : ByteArray))).setCell ⟨g3, 3, none⟩ (.int .i64 0)).setCell ⟨g3, 4, none⟩ (.int .i64 0)).setCell ⟨g3, 5, none⟩ (.string (⟨#[]⟩ : ByteArray))).setCell ⟨g3, 6, none⟩ (.int .i64 0)).setCell ⟨g3, 7, none⟩ (.int .i64 0)).setCell ⟨g3, 8, none⟩ (.slice none 0 0))) ?hg ?hn ?hr ?_; (case hg => rfl); (case hn => rfl); (case hr => first | (go_simp; done) | (go_simp; rfl)); intro w4 hW_; have HW4 := Aside0.mk hW_; clear hW_; clear u0 u1 u2 u3 u4 u5 u6 u7 u8 v0 v1 v2 v3 v4 v5 v6 v7 v8; obtain ⟨E3, N13, N23, E1, E2, HG2, HG3, B4⟩ := bare_start (e := ⟨3, h, s, n, t, fn, fk, fz, A, nl, c⟩) (ek := ⟨3, 0, ⟨#[]⟩, 0, 0, ⟨#[]⟩, 0, 0, none, 0, 0⟩) Gg1.out Eg1.out Bg1.out Gg2.out Eg2.out Bg2.out Gg3.out Eg3.out Bg3.out HW4.out; clear HW4; obtain ⟨k0, k1, k2, k3, k4, k5, k6, k7, k8⟩ := E1.out.cells; dsimp only at k0 k1 k2 k3 k4 k5 k6 k7 k8; obtain ⟨v0, v1, v2, v3, v4, v5, v6, v7, v8⟩ := E3.out.free; obtain ⟨u0, u1, u2, u3, u4, u5, u6, u7, u8⟩ := E3.out.cells; dsimp only at u0 u1 u2 u3 u4 u5 u6 u7 u8))
          clear k0 k1 k2 k3 k4 k5 k6 k7 k8 u0 u1 u2 u3 u4 u5 u6 u7 u8 v0 v1 v2 v3 v4 v5 v6 v7 v8
          refine region_drew (fun W_ => EB W_ g1 ⟨3, h, s, n, t, fn, fk, fz, A, nl, c⟩) (by kernel_rfl) (fun d1 hd1 he1 => ?_)
          have D1 := Aside0.mk (E1.out.below hd1)
          have D2 := Aside0.mk (E2.out.below hd1)
          have D3 := Aside0.mk (E3.out.below hd1)
          have BD := Aside0.mk (below_all_ B4.out hd1)
          clear hd1 he1
          refine ⟨D1.out, fun hHeld => ?_⟩
          refine wpAnyH_take (i := 0) (v := .pointer (some ⟨g1, 1, none⟩)) rfl (by kernel_rfl) (by kernel_rfl) (by kernel_rfl) (fun _ _ _ h => h) (Or.inl ⟨by kernel_rfl, ?_⟩) (by assumption) ?_
          · intro W_ hSw
            obtain ⟨q0, q1, q2, q3, q4, q5, q6, q7, q8⟩ := EB.cells (e := ⟨3, h, s, n, t, fn, fk, fz, A, nl, c⟩) hSw
            dsimp only at q0 q1 q2 q3 q4 q5 q6 q7 q8
            clear hSw
            first | (go_simp; done) | (go_simp; with_reducible rfl) | (go_simp; rfl)
          refine wpAnyH_take (i := 1) (v := .int .i64 h) rfl (by kernel_rfl) (by kernel_rfl) (by kernel_rfl) (fun _ _ _ h => h) (Or.inl ⟨by kernel_rfl, ?_⟩) (by assumption) ?_
          · intro W_ hSw
            obtain ⟨q0, q1, q2, q3, q4, q5, q6, q7, q8⟩ := EB.cells (e := ⟨3, h, s, n, t, fn, fk, fz, A, nl, c⟩) hSw
            dsimp only at q0 q1 q2 q3 q4 q5 q6 q7 q8
            clear hSw
            first | (go_simp; done) | (go_simp; with_reducible rfl) | (go_simp; rfl)
          refine wpAnyH_take (i := 2) (v := .pointer (some ⟨g1, 3, none⟩)) rfl (by kernel_rfl) (by kernel_rfl) (by kernel_rfl) (fun _ _ _ h => h) (Or.inl ⟨by kernel_rfl, ?_⟩) (by assumption) ?_
          · intro W_ hSw
            obtain ⟨q0, q1, q2, q3, q4, q5, q6, q7, q8⟩ := EB.cells (e := ⟨3, h, s, n, t, fn, fk, fz, A, nl, c⟩) hSw
            dsimp only at q0 q1 q2 q3 q4 q5 q6 q7 q8
            clear hSw
            first | (go_simp; done) | (go_simp; with_reducible rfl) | (go_simp; rfl)
          refine wpAnyH_take (i := 3) (v := .int .i64 n) rfl (by kernel_rfl) (by kernel_rfl) (by kernel_rfl) (fun _ _ _ h => h) (Or.inl ⟨by kernel_rfl, ?_⟩) (by assumption) ?_
          · intro W_ hSw
            obtain ⟨q0, q1, q2, q3, q4, q5, q6, q7, q8⟩ := EB.cells (e := ⟨3, h, s, n, t, fn, fk, fz, A, nl, c⟩) hSw
            dsimp only at q0 q1 q2 q3 q4 q5 q6 q7 q8
            clear hSw
            first | (go_simp; done) | (go_simp; with_reducible rfl) | (go_simp; rfl)
          refine wpAnyH_take (i := 4) (v := .pointer (some ⟨g3, 1, none⟩)) rfl (by kernel_rfl) (by kernel_rfl) (by kernel_rfl) (fun _ _ _ h => h) (Or.inl ⟨by kernel_rfl, ?_⟩) (by assumption) ?_
          · intro W_ hSw
            obtain ⟨q0, q1, q2, q3, q4, q5, q6, q7, q8⟩ := EB.cells (e := ⟨3, h, s, n, t, fn, fk, fz, A, nl, c⟩) hSw
            dsimp only at q0 q1 q2 q3 q4 q5 q6 q7 q8
            clear hSw
            first | (go_simp; done) | (go_simp; with_reducible rfl) | (go_simp; rfl)
          try simp only [Act.put, List.getElem_toArray, List.getElem_cons_succ, List.getElem_cons_zero, List.setIfInBounds_toArray, List.set_cons_zero, List.set_cons_succ]
          clear hHeld
          refine next_le (i := 5) (rs := []) (by kernel_rfl) ?_
          refine cons_skip 5 (op := .store 3 (.tmp 29) (.tmp 26)) (d1.setCell ⟨g3, 1, none⟩ (.int .i64 h)) (by kernel_rfl) (fun o ho => st_int _ o 29 26 ho (by kernel_rfl) (by kernel_rfl) D3.out.cells.2.1 D3.out.free.2.1) (fun wa hw_ => ?_) AllReadyH.nil
          have Hwa := Aside0.mk hw_
          clear hw_
          have D1wa := Aside0.mk (show EB wa g1 ⟨3, h, s, n, t, fn, fk, fz, A, nl, c⟩ from by rw [Hwa.out]; exact D1.out.other N13.out _)
          have D2wa := Aside0.mk (show EB wa g2 ⟨0, 0, ⟨#[]⟩, 0, 0, ⟨#[]⟩, 0, 0, none, 0, 0⟩ from by rw [Hwa.out]; exact D2.out.other N23.out _)
          have D3wa := Aside0.mk (show EB wa g3 ⟨3, h, ⟨#[]⟩, 0, 0, ⟨#[]⟩, 0, 0, none, 0, 0⟩ from by rw [Hwa.out]; exact D3.out.setH h)
          have Bwa := Aside0.mk (show Below w.heap.size w wa from by rw [Hwa.out]; exact ev_below_set BD.out HG3.out)
          refine ⟨D1wa.out, ?_⟩
          have hHeld := D1wa.out
          refine wpAnyH_take (i := 6) (v := .pointer (some ⟨g3, 3, none⟩)) rfl (by kernel_rfl) (by kernel_rfl) (by kernel_rfl) (fun _ _ _ h => h) (Or.inl ⟨by kernel_rfl, ?_⟩) (by assumption) ?_
          · intro W_ hSw
            obtain ⟨q0, q1, q2, q3, q4, q5, q6, q7, q8⟩ := EB.cells (e := ⟨3, h, s, n, t, fn, fk, fz, A, nl, c⟩) hSw
            dsimp only at q0 q1 q2 q3 q4 q5 q6 q7 q8
            clear hSw
            first | (go_simp; done) | (go_simp; with_reducible rfl) | (go_simp; rfl)
          try simp only [Act.put, List.getElem_toArray, List.getElem_cons_succ, List.getElem_cons_zero, List.setIfInBounds_toArray, List.set_cons_zero, List.set_cons_succ]
          clear hHeld
          refine next_le (i := 7) (rs := []) (by kernel_rfl) ?_
          refine cons_skip 7 (op := .store 2 (.tmp 30) (.tmp 28)) (wa.setCell ⟨g3, 3, none⟩ (.int .i64 n)) (by kernel_rfl) (fun o ho => st_i64 _ o 30 28 ho (by kernel_rfl) (by kernel_rfl) D3wa.out.cells.2.2.2.1 D3wa.out.free.2.2.2.1) (fun wb hw_ => ?_) AllReadyH.nil
          have Hwb := Aside0.mk hw_
          clear hw_
          have D1wb := Aside0.mk (show EB wb g1 ⟨3, h, s, n, t, fn, fk, fz, A, nl, c⟩ from by rw [Hwb.out]; exact D1wa.out.other N13.out _)
          have D2wb := Aside0.mk (show EB wb g2 ⟨0, 0, ⟨#[]⟩, 0, 0, ⟨#[]⟩, 0, 0, none, 0, 0⟩ from by rw [Hwb.out]; exact D2wa.out.other N23.out _)
          have D3wb := Aside0.mk (show EB wb g3 ⟨3, h, ⟨#[]⟩, n, 0, ⟨#[]⟩, 0, 0, none, 0, 0⟩ from by rw [Hwb.out]; exact D3wa.out.setN n)
          have Bwb := Aside0.mk (show Below w.heap.size w wb from by rw [Hwb.out]; exact ev_below_set Bwa.out HG3.out)
          refine ⟨D1wb.out, ?_⟩
          refine wpAnyH_done (by kernel_rfl) ?_ _
          have EX := Aside0.mk D3wb.out
          have EY := Aside0.mk D2wb.out
          have BZ := Aside0.mk Bwb.out
          obtain ⟨u0, u1, u2, u3, u4, u5, u6, u7, u8⟩ := EX.out.cells
          dsimp only at u0 u1 u2 u3 u4 u5 u6 u7 u8
          obtain ⟨p0, p1, p2, p3, p4, p5, p6, p7, p8⟩ := EY.out.cells
          obtain ⟨r0, r1, r2, r3, r4, r5, r6, r7, r8⟩ := EY.out.free
          go_wp2_with (first | ((with_reducible refine gate_store (t := 26) (p := 2) rfl ?_); refine ev_store (w1 := (((((((((wb.setCell ⟨g2, 0, none⟩ (.int .i64 3)).setCell ⟨g2, 1, none⟩ (.int .i64 h)).setCell ⟨g2, 2, none⟩ (.string (⟨#[]⟩ : ByteArray))).setCell ⟨g2, 3, none⟩ (.int .i64 n)).setCell ⟨g2, 4, none⟩ (.int .i64 0)).setCell ⟨g2, 5, none⟩ (.string (⟨#[]⟩ : ByteArray))).setCell ⟨g2, 6, none⟩ (.int .i64 0)).setCell ⟨g2, 7, none⟩ (.int .i64 0)).setCell ⟨g2, 8, none⟩ (.slice none 0 0))) ?hg ?hn ?hr ?_; (case hg => rfl); (case hn => rfl); (case hr => first | (go_simp; done) | (go_simp; rfl)); intro wz hW_; have HWZ := Aside0.mk hW_; clear hW_; clear p0 p1 p2 p3 p4 p5 p6 p7 p8 r0 r1 r2 r3 r4 r5 r6 r7 r8))
          have EZ := Aside0.mk (show EB wz g2 ⟨3, h, ⟨#[]⟩, n, 0, ⟨#[]⟩, 0, 0, none, 0, 0⟩ from by rw [HWZ.out]; exact EB.put EY.out ⟨3, h, ⟨#[]⟩, n, 0, ⟨#[]⟩, 0, 0, none, 0, 0⟩)
          refine bodyPost_ret (results_cell_row rfl _ _ g2 26 #[.int .i64 3, .int .i64 h, .string (⟨#[]⟩ : ByteArray), .int .i64 n, .int .i64 0, .string (⟨#[]⟩ : ByteArray), .int .i64 0, .int .i64 0, .slice none 0 0] (0, 0) _ rfl EZ.out Try.underlying26 rfl (by kernel_rfl)) rfl ?_
          refine ⟨?_, ?_⟩
          · rw [HR.out]; unfold bareE; rw [if_neg (by simp), if_neg (by simp), if_pos rfl]; rfl
          · rw [HWZ.out]; exact w9_below BZ.out HG2.out ⟨3, h, ⟨#[]⟩, n, 0, ⟨#[]⟩, 0, 0, none, 0, 0⟩
        · have i3 : decide (k = 3) = false := decide_eq_false h3
          have j3 : (k == 3) = false := by simp [h3]
          by_cases h5 : k = 5
          · subst h5
            go_enter Try.func14, Try.ntmps14
            go_wp2_with (first | ((with_reducible refine gate_dst (N := 1) rfl ?_); refine box_event ?hg (N := 1) ?hd (cs := #[.int .i64 5, .int .i64 h, .string s, .int .i64 n, .int .i64 t, .string fn, .int .i64 fk, .int .i64 fz, .slice A nl c]) (t := 26) ?hr ?_; (case hd => rfl); (case hg => rfl); (case hr => first | (go_simp; done) | (go_simp; rfl)); intro g1 hg_ w1 hbox hb; have Gg1 := Aside0.mk hg_; have Eg1 := Aside0.mk (show EB w1 g1 ⟨5, h, s, n, t, fn, fk, fz, A, nl, c⟩ from hbox); have Bg1 := Aside0.mk hb; clear hbox hb hg_; ) | ((with_reducible refine gate_dst (N := 2) rfl ?_); refine box_event ?hg (N := 2) ?hd (cs := #[.int .i64 0, .int .i64 0, .string (⟨#[]⟩ : ByteArray), .int .i64 0, .int .i64 0, .string (⟨#[]⟩ : ByteArray), .int .i64 0, .int .i64 0, .slice none 0 0]) (t := 26) ?hr ?_; (case hd => rfl); (case hg => rfl); (case hr => first | (go_simp; done) | (go_simp; rfl)); intro g2 hg_ w2 hbox hb; have Gg2 := Aside0.mk hg_; have Eg2 := Aside0.mk (show EB w2 g2 ⟨0, 0, ⟨#[]⟩, 0, 0, ⟨#[]⟩, 0, 0, none, 0, 0⟩ from hbox); have Bg2 := Aside0.mk hb; clear hbox hb hg_; obtain ⟨k0, k1, k2, k3, k4, k5, k6, k7, k8⟩ := (Eg1.out.below Bg2.out).cells; dsimp only at k0 k1 k2 k3 k4 k5 k6 k7 k8) | ((with_reducible refine gate_dst (N := 3) rfl ?_); refine box_event ?hg (N := 3) ?hd (cs := #[.int .i64 0, .int .i64 0, .string (⟨#[]⟩ : ByteArray), .int .i64 0, .int .i64 0, .string (⟨#[]⟩ : ByteArray), .int .i64 0, .int .i64 0, .slice none 0 0]) (t := 26) ?hr ?_; (case hd => rfl); (case hg => rfl); (case hr => first | (go_simp; done) | (go_simp; rfl)); intro g3 hg_ w3 hbox hb; have Gg3 := Aside0.mk hg_; have Eg3 := Aside0.mk (show EB w3 g3 ⟨0, 0, ⟨#[]⟩, 0, 0, ⟨#[]⟩, 0, 0, none, 0, 0⟩ from hbox); have Bg3 := Aside0.mk hb; clear hbox hb hg_; clear k0 k1 k2 k3 k4 k5 k6 k7 k8; obtain ⟨u0, u1, u2, u3, u4, u5, u6, u7, u8⟩ := Eg3.out.cells; obtain ⟨v0, v1, v2, v3, v4, v5, v6, v7, v8⟩ := Eg3.out.free) | ((with_reducible refine gate_store (t := 26) (p := 3) rfl ?_); refine ev_store (w1 := (((((((((w3.setCell ⟨g3, 0, none⟩ (.int .i64 5)).setCell ⟨g3, 1, none⟩ (.int .i64 0)).setCell ⟨g3, 2, none⟩ (.string (⟨#[]⟩ : ByteArray))).setCell ⟨g3, 3, none⟩ (.int .i64 0)).setCell ⟨g3, 4, none⟩ (.int .i64 0)).setCell ⟨g3, 5, none⟩ (.string (⟨#[]⟩ : ByteArray))).setCell ⟨g3, 6, none⟩ (.int .i64 0)).setCell ⟨g3, 7, none⟩ (.int .i64 0)).setCell ⟨g3, 8, none⟩ (.slice none 0 0))) ?hg ?hn ?hr ?_; (case hg => rfl); (case hn => rfl); (case hr => first | (go_simp; done) | (go_simp; rfl)); intro w4 hW_; have HW4 := Aside0.mk hW_; clear hW_; clear u0 u1 u2 u3 u4 u5 u6 u7 u8 v0 v1 v2 v3 v4 v5 v6 v7 v8; obtain ⟨E3, N13, N23, E1, E2, HG2, HG3, B4⟩ := bare_start (e := ⟨5, h, s, n, t, fn, fk, fz, A, nl, c⟩) (ek := ⟨5, 0, ⟨#[]⟩, 0, 0, ⟨#[]⟩, 0, 0, none, 0, 0⟩) Gg1.out Eg1.out Bg1.out Gg2.out Eg2.out Bg2.out Gg3.out Eg3.out Bg3.out HW4.out; clear HW4; obtain ⟨k0, k1, k2, k3, k4, k5, k6, k7, k8⟩ := E1.out.cells; dsimp only at k0 k1 k2 k3 k4 k5 k6 k7 k8; obtain ⟨v0, v1, v2, v3, v4, v5, v6, v7, v8⟩ := E3.out.free; obtain ⟨u0, u1, u2, u3, u4, u5, u6, u7, u8⟩ := E3.out.cells; dsimp only at u0 u1 u2 u3 u4 u5 u6 u7 u8) | ((with_reducible refine gate_store (t := 2) (p := 35) rfl ?_); refine ev_store (w1 := w4.setCell ⟨g3, 3, none⟩ (.int .i64 n)) ?hg ?hn ?hr ?_; (case hg => rfl); (case hn => rfl); (case hr => first | (go_simp; done) | (go_simp; rfl)); intro w5 hW_; have HW5 := Aside0.mk hW_; clear hW_; have EX := Aside0.mk (show EB w5 g3 ⟨5, 0, ⟨#[]⟩, n, 0, ⟨#[]⟩, 0, 0, none, 0, 0⟩ from by rw [HW5.out]; exact E3.out.setN n); have EY := Aside0.mk (show EB w5 g2 ⟨0, 0, ⟨#[]⟩, 0, 0, ⟨#[]⟩, 0, 0, none, 0, 0⟩ from by rw [HW5.out]; exact E2.out.other N23.out _); clear k0 k1 k2 k3 k4 k5 k6 k7 k8 u0 u1 u2 u3 u4 u5 u6 u7 u8 v0 v1 v2 v3 v4 v5 v6 v7 v8; have BZ := Aside0.mk (show Below w.heap.size w w5 from by rw [HW5.out]; exact ev_below_set B4.out HG3.out); obtain ⟨k0, k1, k2, k3, k4, k5, k6, k7, k8⟩ := EX.out.cells; dsimp only at k0 k1 k2 k3 k4 k5 k6 k7 k8; obtain ⟨p0, p1, p2, p3, p4, p5, p6, p7, p8⟩ := EY.out.cells; obtain ⟨r0, r1, r2, r3, r4, r5, r6, r7, r8⟩ := EY.out.free) | ((with_reducible refine gate_store (t := 26) (p := 2) rfl ?_); refine ev_store (w1 := (((((((((w5.setCell ⟨g2, 0, none⟩ (.int .i64 5)).setCell ⟨g2, 1, none⟩ (.int .i64 0)).setCell ⟨g2, 2, none⟩ (.string (⟨#[]⟩ : ByteArray))).setCell ⟨g2, 3, none⟩ (.int .i64 n)).setCell ⟨g2, 4, none⟩ (.int .i64 0)).setCell ⟨g2, 5, none⟩ (.string (⟨#[]⟩ : ByteArray))).setCell ⟨g2, 6, none⟩ (.int .i64 0)).setCell ⟨g2, 7, none⟩ (.int .i64 0)).setCell ⟨g2, 8, none⟩ (.slice none 0 0))) ?hg ?hn ?hr ?_; (case hg => rfl); (case hn => rfl); (case hr => first | (go_simp; done) | (go_simp; rfl)); intro wz hW_; have HWZ := Aside0.mk hW_; clear hW_; clear p0 p1 p2 p3 p4 p5 p6 p7 p8 r0 r1 r2 r3 r4 r5 r6 r7 r8))
            have EZ := Aside0.mk (show EB wz g2 ⟨5, 0, ⟨#[]⟩, n, 0, ⟨#[]⟩, 0, 0, none, 0, 0⟩ from by rw [HWZ.out]; exact EB.put EY.out ⟨5, 0, ⟨#[]⟩, n, 0, ⟨#[]⟩, 0, 0, none, 0, 0⟩)
            refine bodyPost_ret (results_cell_row rfl _ _ g2 26 #[.int .i64 5, .int .i64 0, .string (⟨#[]⟩ : ByteArray), .int .i64 n, .int .i64 0, .string (⟨#[]⟩ : ByteArray), .int .i64 0, .int .i64 0, .slice none 0 0] (0, 0) _ rfl EZ.out Try.underlying26 rfl (by kernel_rfl)) rfl ?_
            refine ⟨?_, ?_⟩
            · rw [HR.out]; unfold bareE; rw [if_neg (by simp), if_neg (by simp), if_neg (by simp), if_pos rfl]; rfl
            · rw [HWZ.out]; exact w9_below BZ.out HG2.out ⟨5, 0, ⟨#[]⟩, n, 0, ⟨#[]⟩, 0, 0, none, 0, 0⟩
          · have i5 : decide (k = 5) = false := decide_eq_false h5
            have j5 : (k == 5) = false := by simp [h5]
            by_cases h7 : k = 7
            · subst h7
              go_enter Try.func14, Try.ntmps14
              go_wp2_with (first | ((with_reducible refine gate_dst (N := 1) rfl ?_); refine box_event ?hg (N := 1) ?hd (cs := #[.int .i64 7, .int .i64 h, .string s, .int .i64 n, .int .i64 t, .string fn, .int .i64 fk, .int .i64 fz, .slice A nl c]) (t := 26) ?hr ?_; (case hd => rfl); (case hg => rfl); (case hr => first | (go_simp; done) | (go_simp; rfl)); intro g1 hg_ w1 hbox hb; have Gg1 := Aside0.mk hg_; have Eg1 := Aside0.mk (show EB w1 g1 ⟨7, h, s, n, t, fn, fk, fz, A, nl, c⟩ from hbox); have Bg1 := Aside0.mk hb; clear hbox hb hg_; ) | ((with_reducible refine gate_dst (N := 2) rfl ?_); refine box_event ?hg (N := 2) ?hd (cs := #[.int .i64 0, .int .i64 0, .string (⟨#[]⟩ : ByteArray), .int .i64 0, .int .i64 0, .string (⟨#[]⟩ : ByteArray), .int .i64 0, .int .i64 0, .slice none 0 0]) (t := 26) ?hr ?_; (case hd => rfl); (case hg => rfl); (case hr => first | (go_simp; done) | (go_simp; rfl)); intro g2 hg_ w2 hbox hb; have Gg2 := Aside0.mk hg_; have Eg2 := Aside0.mk (show EB w2 g2 ⟨0, 0, ⟨#[]⟩, 0, 0, ⟨#[]⟩, 0, 0, none, 0, 0⟩ from hbox); have Bg2 := Aside0.mk hb; clear hbox hb hg_; obtain ⟨k0, k1, k2, k3, k4, k5, k6, k7, k8⟩ := (Eg1.out.below Bg2.out).cells; dsimp only at k0 k1 k2 k3 k4 k5 k6 k7 k8) | ((with_reducible refine gate_dst (N := 3) rfl ?_); refine box_event ?hg (N := 3) ?hd (cs := #[.int .i64 0, .int .i64 0, .string (⟨#[]⟩ : ByteArray), .int .i64 0, .int .i64 0, .string (⟨#[]⟩ : ByteArray), .int .i64 0, .int .i64 0, .slice none 0 0]) (t := 26) ?hr ?_; (case hd => rfl); (case hg => rfl); (case hr => first | (go_simp; done) | (go_simp; rfl)); intro g3 hg_ w3 hbox hb; have Gg3 := Aside0.mk hg_; have Eg3 := Aside0.mk (show EB w3 g3 ⟨0, 0, ⟨#[]⟩, 0, 0, ⟨#[]⟩, 0, 0, none, 0, 0⟩ from hbox); have Bg3 := Aside0.mk hb; clear hbox hb hg_; clear k0 k1 k2 k3 k4 k5 k6 k7 k8; obtain ⟨u0, u1, u2, u3, u4, u5, u6, u7, u8⟩ := Eg3.out.cells; obtain ⟨v0, v1, v2, v3, v4, v5, v6, v7, v8⟩ := Eg3.out.free) | ((with_reducible refine gate_store (t := 26) (p := 3) rfl ?_); refine ev_store (w1 := (((((((((w3.setCell ⟨g3, 0, none⟩ (.int .i64 7)).setCell ⟨g3, 1, none⟩ (.int .i64 0)).setCell ⟨g3, 2, none⟩ (.string (⟨#[]⟩ : ByteArray))).setCell ⟨g3, 3, none⟩ (.int .i64 0)).setCell ⟨g3, 4, none⟩ (.int .i64 0)).setCell ⟨g3, 5, none⟩ (.string (⟨#[]⟩ : ByteArray))).setCell ⟨g3, 6, none⟩ (.int .i64 0)).setCell ⟨g3, 7, none⟩ (.int .i64 0)).setCell ⟨g3, 8, none⟩ (.slice none 0 0))) ?hg ?hn ?hr ?_; (case hg => rfl); (case hn => rfl); (case hr => first | (go_simp; done) | (go_simp; rfl)); intro w4 hW_; have HW4 := Aside0.mk hW_; clear hW_; clear u0 u1 u2 u3 u4 u5 u6 u7 u8 v0 v1 v2 v3 v4 v5 v6 v7 v8; obtain ⟨E3, N13, N23, E1, E2, HG2, HG3, B4⟩ := bare_start (e := ⟨7, h, s, n, t, fn, fk, fz, A, nl, c⟩) (ek := ⟨7, 0, ⟨#[]⟩, 0, 0, ⟨#[]⟩, 0, 0, none, 0, 0⟩) Gg1.out Eg1.out Bg1.out Gg2.out Eg2.out Bg2.out Gg3.out Eg3.out Bg3.out HW4.out; clear HW4; obtain ⟨k0, k1, k2, k3, k4, k5, k6, k7, k8⟩ := E1.out.cells; dsimp only at k0 k1 k2 k3 k4 k5 k6 k7 k8; obtain ⟨v0, v1, v2, v3, v4, v5, v6, v7, v8⟩ := E3.out.free; obtain ⟨u0, u1, u2, u3, u4, u5, u6, u7, u8⟩ := E3.out.cells; dsimp only at u0 u1 u2 u3 u4 u5 u6 u7 u8))
              clear k0 k1 k2 k3 k4 k5 k6 k7 k8 u0 u1 u2 u3 u4 u5 u6 u7 u8 v0 v1 v2 v3 v4 v5 v6 v7 v8
              refine region_drew (fun W_ => EB W_ g1 ⟨7, h, s, n, t, fn, fk, fz, A, nl, c⟩) (by kernel_rfl) (fun d1 hd1 he1 => ?_)
              have D1 := Aside0.mk (E1.out.below hd1)
              have D2 := Aside0.mk (E2.out.below hd1)
              have D3 := Aside0.mk (E3.out.below hd1)
              have BD := Aside0.mk (below_all_ B4.out hd1)
              clear hd1 he1
              refine ⟨D1.out, fun hHeld => ?_⟩
              refine wpAnyH_take (i := 0) (v := .pointer (some ⟨g1, 4, none⟩)) rfl (by kernel_rfl) (by kernel_rfl) (by kernel_rfl) (fun _ _ _ h => h) (Or.inl ⟨by kernel_rfl, ?_⟩) (by assumption) ?_
              · intro W_ hSw
                obtain ⟨q0, q1, q2, q3, q4, q5, q6, q7, q8⟩ := EB.cells (e := ⟨7, h, s, n, t, fn, fk, fz, A, nl, c⟩) hSw
                dsimp only at q0 q1 q2 q3 q4 q5 q6 q7 q8
                clear hSw
                first | (go_simp; done) | (go_simp; with_reducible rfl) | (go_simp; rfl)
              refine wpAnyH_take (i := 1) (v := .int .i64 t) rfl (by kernel_rfl) (by kernel_rfl) (by kernel_rfl) (fun _ _ _ h => h) (Or.inl ⟨by kernel_rfl, ?_⟩) (by assumption) ?_
              · intro W_ hSw
                obtain ⟨q0, q1, q2, q3, q4, q5, q6, q7, q8⟩ := EB.cells (e := ⟨7, h, s, n, t, fn, fk, fz, A, nl, c⟩) hSw
                dsimp only at q0 q1 q2 q3 q4 q5 q6 q7 q8
                clear hSw
                first | (go_simp; done) | (go_simp; with_reducible rfl) | (go_simp; rfl)
              refine wpAnyH_take (i := 2) (v := .pointer (some ⟨g1, 5, none⟩)) rfl (by kernel_rfl) (by kernel_rfl) (by kernel_rfl) (fun _ _ _ h => h) (Or.inl ⟨by kernel_rfl, ?_⟩) (by assumption) ?_
              · intro W_ hSw
                obtain ⟨q0, q1, q2, q3, q4, q5, q6, q7, q8⟩ := EB.cells (e := ⟨7, h, s, n, t, fn, fk, fz, A, nl, c⟩) hSw
                dsimp only at q0 q1 q2 q3 q4 q5 q6 q7 q8
                clear hSw
                first | (go_simp; done) | (go_simp; with_reducible rfl) | (go_simp; rfl)
              refine wpAnyH_take (i := 3) (v := .agg #[.string fn, .int .i64 fk, .int .i64 fz]) rfl (by kernel_rfl) (by kernel_rfl) (by kernel_rfl) (fun _ _ _ h => h) (Or.inl ⟨by kernel_rfl, ?_⟩) (by assumption) ?_
              · intro W_ hSw
                obtain ⟨q0, q1, q2, q3, q4, q5, q6, q7, q8⟩ := EB.cells (e := ⟨7, h, s, n, t, fn, fk, fz, A, nl, c⟩) hSw
                dsimp only at q0 q1 q2 q3 q4 q5 q6 q7 q8
                clear hSw
                first | (go_simp; done) | (go_simp; with_reducible rfl) | (go_simp; rfl)
              refine wpAnyH_take (i := 4) (v := .pointer (some ⟨g3, 4, none⟩)) rfl (by kernel_rfl) (by kernel_rfl) (by kernel_rfl) (fun _ _ _ h => h) (Or.inl ⟨by kernel_rfl, ?_⟩) (by assumption) ?_
              · intro W_ hSw
                obtain ⟨q0, q1, q2, q3, q4, q5, q6, q7, q8⟩ := EB.cells (e := ⟨7, h, s, n, t, fn, fk, fz, A, nl, c⟩) hSw
                dsimp only at q0 q1 q2 q3 q4 q5 q6 q7 q8
                clear hSw
                first | (go_simp; done) | (go_simp; with_reducible rfl) | (go_simp; rfl)
              try simp only [Act.put, List.getElem_toArray, List.getElem_cons_succ, List.getElem_cons_zero, List.setIfInBounds_toArray, List.set_cons_zero, List.set_cons_succ]
              clear hHeld
              refine next_le (i := 5) (rs := []) (by kernel_rfl) ?_
              refine cons_skip 5 (op := .store 3 (.tmp 42) (.tmp 39)) (d1.setCell ⟨g3, 4, none⟩ (.int .i64 t)) (by kernel_rfl) (fun o ho => st_int _ o 42 39 ho (by kernel_rfl) (by kernel_rfl) D3.out.cells.2.2.2.2.1 D3.out.free.2.2.2.2.1) (fun wa hw_ => ?_) AllReadyH.nil
              have Hwa := Aside0.mk hw_
              clear hw_
              have D1wa := Aside0.mk (show EB wa g1 ⟨7, h, s, n, t, fn, fk, fz, A, nl, c⟩ from by rw [Hwa.out]; exact D1.out.other N13.out _)
              have D2wa := Aside0.mk (show EB wa g2 ⟨0, 0, ⟨#[]⟩, 0, 0, ⟨#[]⟩, 0, 0, none, 0, 0⟩ from by rw [Hwa.out]; exact D2.out.other N23.out _)
              have D3wa := Aside0.mk (show EB wa g3 ⟨7, 0, ⟨#[]⟩, 0, t, ⟨#[]⟩, 0, 0, none, 0, 0⟩ from by rw [Hwa.out]; exact D3.out.setT t)
              have Bwa := Aside0.mk (show Below w.heap.size w wa from by rw [Hwa.out]; exact ev_below_set BD.out HG3.out)
              refine ⟨D1wa.out, ?_⟩
              have hHeld := D1wa.out
              refine wpAnyH_take (i := 6) (v := .pointer (some ⟨g3, 5, none⟩)) rfl (by kernel_rfl) (by kernel_rfl) (by kernel_rfl) (fun _ _ _ h => h) (Or.inl ⟨by kernel_rfl, ?_⟩) (by assumption) ?_
              · intro W_ hSw
                obtain ⟨q0, q1, q2, q3, q4, q5, q6, q7, q8⟩ := EB.cells (e := ⟨7, h, s, n, t, fn, fk, fz, A, nl, c⟩) hSw
                dsimp only at q0 q1 q2 q3 q4 q5 q6 q7 q8
                clear hSw
                first | (go_simp; done) | (go_simp; with_reducible rfl) | (go_simp; rfl)
              try simp only [Act.put, List.getElem_toArray, List.getElem_cons_succ, List.getElem_cons_zero, List.setIfInBounds_toArray, List.set_cons_zero, List.set_cons_succ]
              clear hHeld
              refine next_le (i := 7) (rs := []) (by kernel_rfl) ?_
              refine cons_skip 7 (op := .store 23 (.tmp 43) (.tmp 41)) (((wa.setCell ⟨g3, 5, none⟩ (.string fn)).setCell ⟨g3, 6, none⟩ (.int .i64 fk)).setCell ⟨g3, 7, none⟩ (.int .i64 fz)) (by kernel_rfl) (fun o ho => st_fault _ o 43 41 ho (by kernel_rfl) (by kernel_rfl) D3wa.out) (fun wb hw_ => ?_) AllReadyH.nil
              have Hwb := Aside0.mk hw_
              clear hw_
              have D1wb := Aside0.mk (show EB wb g1 ⟨7, h, s, n, t, fn, fk, fz, A, nl, c⟩ from by rw [Hwb.out]; exact ((D1wa.out.other N13.out _).other N13.out _).other N13.out _)
              have D2wb := Aside0.mk (show EB wb g2 ⟨0, 0, ⟨#[]⟩, 0, 0, ⟨#[]⟩, 0, 0, none, 0, 0⟩ from by rw [Hwb.out]; exact ((D2wa.out.other N23.out _).other N23.out _).other N23.out _)
              have D3wb := Aside0.mk (show EB wb g3 ⟨7, 0, ⟨#[]⟩, 0, t, fn, fk, fz, none, 0, 0⟩ from by rw [Hwb.out]; exact D3wa.out.setF fn fk fz)
              have Bwb := Aside0.mk (show Below w.heap.size w wb from by rw [Hwb.out]; exact ev_below_set (ev_below_set (ev_below_set Bwa.out HG3.out) HG3.out) HG3.out)
              refine ⟨D1wb.out, ?_⟩
              refine wpAnyH_done (by kernel_rfl) ?_ _
              have EX := Aside0.mk D3wb.out
              have EY := Aside0.mk D2wb.out
              have BZ := Aside0.mk Bwb.out
              obtain ⟨u0, u1, u2, u3, u4, u5, u6, u7, u8⟩ := EX.out.cells
              dsimp only at u0 u1 u2 u3 u4 u5 u6 u7 u8
              obtain ⟨p0, p1, p2, p3, p4, p5, p6, p7, p8⟩ := EY.out.cells
              obtain ⟨r0, r1, r2, r3, r4, r5, r6, r7, r8⟩ := EY.out.free
              go_wp2_with (first | ((with_reducible refine gate_store (t := 26) (p := 2) rfl ?_); refine ev_store (w1 := (((((((((wb.setCell ⟨g2, 0, none⟩ (.int .i64 7)).setCell ⟨g2, 1, none⟩ (.int .i64 0)).setCell ⟨g2, 2, none⟩ (.string (⟨#[]⟩ : ByteArray))).setCell ⟨g2, 3, none⟩ (.int .i64 0)).setCell ⟨g2, 4, none⟩ (.int .i64 t)).setCell ⟨g2, 5, none⟩ (.string fn)).setCell ⟨g2, 6, none⟩ (.int .i64 fk)).setCell ⟨g2, 7, none⟩ (.int .i64 fz)).setCell ⟨g2, 8, none⟩ (.slice none 0 0))) ?hg ?hn ?hr ?_; (case hg => rfl); (case hn => rfl); (case hr => first | (go_simp; done) | (go_simp; rfl)); intro wz hW_; have HWZ := Aside0.mk hW_; clear hW_; clear p0 p1 p2 p3 p4 p5 p6 p7 p8 r0 r1 r2 r3 r4 r5 r6 r7 r8))
              have EZ := Aside0.mk (show EB wz g2 ⟨7, 0, ⟨#[]⟩, 0, t, fn, fk, fz, none, 0, 0⟩ from by rw [HWZ.out]; exact EB.put EY.out ⟨7, 0, ⟨#[]⟩, 0, t, fn, fk, fz, none, 0, 0⟩)
              refine bodyPost_ret (results_cell_row rfl _ _ g2 26 #[.int .i64 7, .int .i64 0, .string (⟨#[]⟩ : ByteArray), .int .i64 0, .int .i64 t, .string fn, .int .i64 fk, .int .i64 fz, .slice none 0 0] (0, 0) _ rfl EZ.out Try.underlying26 rfl (by kernel_rfl)) rfl ?_
              refine ⟨?_, ?_⟩
              · rw [HR.out]; unfold bareE; rw [if_neg (by simp), if_neg (by simp), if_neg (by simp), if_neg (by simp), if_pos rfl]; rfl
              · rw [HWZ.out]; exact w9_below BZ.out HG2.out ⟨7, 0, ⟨#[]⟩, 0, t, fn, fk, fz, none, 0, 0⟩
            · have i7 : decide (k = 7) = false := decide_eq_false h7
              have j7 : (k == 7) = false := by simp [h7]
              by_cases h8 : k = 8
              · subst h8
                go_enter Try.func14, Try.ntmps14
                go_wp2_with (first | ((with_reducible refine gate_dst (N := 1) rfl ?_); refine box_event ?hg (N := 1) ?hd (cs := #[.int .i64 8, .int .i64 h, .string s, .int .i64 n, .int .i64 t, .string fn, .int .i64 fk, .int .i64 fz, .slice A nl c]) (t := 26) ?hr ?_; (case hd => rfl); (case hg => rfl); (case hr => first | (go_simp; done) | (go_simp; rfl)); intro g1 hg_ w1 hbox hb; have Gg1 := Aside0.mk hg_; have Eg1 := Aside0.mk (show EB w1 g1 ⟨8, h, s, n, t, fn, fk, fz, A, nl, c⟩ from hbox); have Bg1 := Aside0.mk hb; clear hbox hb hg_; ) | ((with_reducible refine gate_dst (N := 2) rfl ?_); refine box_event ?hg (N := 2) ?hd (cs := #[.int .i64 0, .int .i64 0, .string (⟨#[]⟩ : ByteArray), .int .i64 0, .int .i64 0, .string (⟨#[]⟩ : ByteArray), .int .i64 0, .int .i64 0, .slice none 0 0]) (t := 26) ?hr ?_; (case hd => rfl); (case hg => rfl); (case hr => first | (go_simp; done) | (go_simp; rfl)); intro g2 hg_ w2 hbox hb; have Gg2 := Aside0.mk hg_; have Eg2 := Aside0.mk (show EB w2 g2 ⟨0, 0, ⟨#[]⟩, 0, 0, ⟨#[]⟩, 0, 0, none, 0, 0⟩ from hbox); have Bg2 := Aside0.mk hb; clear hbox hb hg_; obtain ⟨k0, k1, k2, k3, k4, k5, k6, k7, k8⟩ := (Eg1.out.below Bg2.out).cells; dsimp only at k0 k1 k2 k3 k4 k5 k6 k7 k8) | ((with_reducible refine gate_dst (N := 3) rfl ?_); refine box_event ?hg (N := 3) ?hd (cs := #[.int .i64 0, .int .i64 0, .string (⟨#[]⟩ : ByteArray), .int .i64 0, .int .i64 0, .string (⟨#[]⟩ : ByteArray), .int .i64 0, .int .i64 0, .slice none 0 0]) (t := 26) ?hr ?_; (case hd => rfl); (case hg => rfl); (case hr => first | (go_simp; done) | (go_simp; rfl)); intro g3 hg_ w3 hbox hb; have Gg3 := Aside0.mk hg_; have Eg3 := Aside0.mk (show EB w3 g3 ⟨0, 0, ⟨#[]⟩, 0, 0, ⟨#[]⟩, 0, 0, none, 0, 0⟩ from hbox); have Bg3 := Aside0.mk hb; clear hbox hb hg_; clear k0 k1 k2 k3 k4 k5 k6 k7 k8; obtain ⟨u0, u1, u2, u3, u4, u5, u6, u7, u8⟩ := Eg3.out.cells; obtain ⟨v0, v1, v2, v3, v4, v5, v6, v7, v8⟩ := Eg3.out.free) | ((with_reducible refine gate_store (t := 26) (p := 3) rfl ?_); refine ev_store (w1 := (((((((((w3.setCell ⟨g3, 0, none⟩ (.int .i64 8)).setCell ⟨g3, 1, none⟩ (.int .i64 0)).setCell ⟨g3, 2, none⟩ (.string (⟨#[]⟩ : ByteArray))).setCell ⟨g3, 3, none⟩ (.int .i64 0)).setCell ⟨g3, 4, none⟩ (.int .i64 0)).setCell ⟨g3, 5, none⟩ (.string (⟨#[]⟩ : ByteArray))).setCell ⟨g3, 6, none⟩ (.int .i64 0)).setCell ⟨g3, 7, none⟩ (.int .i64 0)).setCell ⟨g3, 8, none⟩ (.slice none 0 0))) ?hg ?hn ?hr ?_; (case hg => rfl); (case hn => rfl); (case hr => first | (go_simp; done) | (go_simp; rfl)); intro w4 hW_; have HW4 := Aside0.mk hW_; clear hW_; clear u0 u1 u2 u3 u4 u5 u6 u7 u8 v0 v1 v2 v3 v4 v5 v6 v7 v8; obtain ⟨E3, N13, N23, E1, E2, HG2, HG3, B4⟩ := bare_start (e := ⟨8, h, s, n, t, fn, fk, fz, A, nl, c⟩) (ek := ⟨8, 0, ⟨#[]⟩, 0, 0, ⟨#[]⟩, 0, 0, none, 0, 0⟩) Gg1.out Eg1.out Bg1.out Gg2.out Eg2.out Bg2.out Gg3.out Eg3.out Bg3.out HW4.out; clear HW4; obtain ⟨k0, k1, k2, k3, k4, k5, k6, k7, k8⟩ := E1.out.cells; dsimp only at k0 k1 k2 k3 k4 k5 k6 k7 k8; obtain ⟨v0, v1, v2, v3, v4, v5, v6, v7, v8⟩ := E3.out.free; obtain ⟨u0, u1, u2, u3, u4, u5, u6, u7, u8⟩ := E3.out.cells; dsimp only at u0 u1 u2 u3 u4 u5 u6 u7 u8) | ((with_reducible refine gate_store (t := 24) (p := 48) rfl ?_); refine ev_store (w1 := w4.setCell ⟨g3, 8, none⟩ (.slice A nl c)) ?hg ?hn ?hr ?_; (case hg => rfl); (case hn => rfl); (case hr => first | (go_simp; done) | (go_simp; rfl)); intro w5 hW_; have HW5 := Aside0.mk hW_; clear hW_; have EX := Aside0.mk (show EB w5 g3 ⟨8, 0, ⟨#[]⟩, 0, 0, ⟨#[]⟩, 0, 0, A, nl, c⟩ from by rw [HW5.out]; exact E3.out.setL A nl c); have EY := Aside0.mk (show EB w5 g2 ⟨0, 0, ⟨#[]⟩, 0, 0, ⟨#[]⟩, 0, 0, none, 0, 0⟩ from by rw [HW5.out]; exact E2.out.other N23.out _); clear k0 k1 k2 k3 k4 k5 k6 k7 k8 u0 u1 u2 u3 u4 u5 u6 u7 u8 v0 v1 v2 v3 v4 v5 v6 v7 v8; have BZ := Aside0.mk (show Below w.heap.size w w5 from by rw [HW5.out]; exact ev_below_set B4.out HG3.out); obtain ⟨k0, k1, k2, k3, k4, k5, k6, k7, k8⟩ := EX.out.cells; dsimp only at k0 k1 k2 k3 k4 k5 k6 k7 k8; obtain ⟨p0, p1, p2, p3, p4, p5, p6, p7, p8⟩ := EY.out.cells; obtain ⟨r0, r1, r2, r3, r4, r5, r6, r7, r8⟩ := EY.out.free) | ((with_reducible refine gate_store (t := 26) (p := 2) rfl ?_); refine ev_store (w1 := (((((((((w5.setCell ⟨g2, 0, none⟩ (.int .i64 8)).setCell ⟨g2, 1, none⟩ (.int .i64 0)).setCell ⟨g2, 2, none⟩ (.string (⟨#[]⟩ : ByteArray))).setCell ⟨g2, 3, none⟩ (.int .i64 0)).setCell ⟨g2, 4, none⟩ (.int .i64 0)).setCell ⟨g2, 5, none⟩ (.string (⟨#[]⟩ : ByteArray))).setCell ⟨g2, 6, none⟩ (.int .i64 0)).setCell ⟨g2, 7, none⟩ (.int .i64 0)).setCell ⟨g2, 8, none⟩ (.slice A nl c))) ?hg ?hn ?hr ?_; (case hg => rfl); (case hn => rfl); (case hr => first | (go_simp; done) | (go_simp; rfl)); intro wz hW_; have HWZ := Aside0.mk hW_; clear hW_; clear p0 p1 p2 p3 p4 p5 p6 p7 p8 r0 r1 r2 r3 r4 r5 r6 r7 r8))
                have EZ := Aside0.mk (show EB wz g2 ⟨8, 0, ⟨#[]⟩, 0, 0, ⟨#[]⟩, 0, 0, A, nl, c⟩ from by rw [HWZ.out]; exact EB.put EY.out ⟨8, 0, ⟨#[]⟩, 0, 0, ⟨#[]⟩, 0, 0, A, nl, c⟩)
                refine bodyPost_ret (results_cell_row rfl _ _ g2 26 #[.int .i64 8, .int .i64 0, .string (⟨#[]⟩ : ByteArray), .int .i64 0, .int .i64 0, .string (⟨#[]⟩ : ByteArray), .int .i64 0, .int .i64 0, .slice A nl c] (0, 0) _ rfl EZ.out Try.underlying26 rfl (by kernel_rfl)) rfl ?_
                refine ⟨?_, ?_⟩
                · rw [HR.out]; unfold bareE; rw [if_neg (by simp), if_neg (by simp), if_neg (by simp), if_neg (by simp), if_neg (by simp), if_pos rfl]; rfl
                · rw [HWZ.out]; exact w9_below BZ.out HG2.out ⟨8, 0, ⟨#[]⟩, 0, 0, ⟨#[]⟩, 0, 0, A, nl, c⟩
              · have i8 : decide (k = 8) = false := decide_eq_false h8
                have j8 : (k == 8) = false := by simp [h8]
                have HK1 := Aside0.mk h1
                have HK4 := Aside0.mk h4
                have HK2 := Aside0.mk h2
                have HK3 := Aside0.mk h3
                have HK5 := Aside0.mk h5
                have HK7 := Aside0.mk h7
                have HK8 := Aside0.mk h8
                clear h1 h4 h2 h3 h5 h7 h8
                go_enter Try.func14, Try.ntmps14
                go_wp2_with (first | ((with_reducible refine gate_dst (N := 1) rfl ?_); refine box_event ?hg (N := 1) ?hd (cs := #[.int .i64 k, .int .i64 h, .string s, .int .i64 n, .int .i64 t, .string fn, .int .i64 fk, .int .i64 fz, .slice A nl c]) (t := 26) ?hr ?_; (case hd => rfl); (case hg => rfl); (case hr => first | (go_simp; done) | (go_simp; rfl)); intro g1 hg_ w1 hbox hb; have Gg1 := Aside0.mk hg_; have Eg1 := Aside0.mk (show EB w1 g1 ⟨k, h, s, n, t, fn, fk, fz, A, nl, c⟩ from hbox); have Bg1 := Aside0.mk hb; clear hbox hb hg_; ) | ((with_reducible refine gate_dst (N := 2) rfl ?_); refine box_event ?hg (N := 2) ?hd (cs := #[.int .i64 0, .int .i64 0, .string (⟨#[]⟩ : ByteArray), .int .i64 0, .int .i64 0, .string (⟨#[]⟩ : ByteArray), .int .i64 0, .int .i64 0, .slice none 0 0]) (t := 26) ?hr ?_; (case hd => rfl); (case hg => rfl); (case hr => first | (go_simp; done) | (go_simp; rfl)); intro g2 hg_ w2 hbox hb; have Gg2 := Aside0.mk hg_; have Eg2 := Aside0.mk (show EB w2 g2 ⟨0, 0, ⟨#[]⟩, 0, 0, ⟨#[]⟩, 0, 0, none, 0, 0⟩ from hbox); have Bg2 := Aside0.mk hb; clear hbox hb hg_; obtain ⟨k0, k1, k2, k3, k4, k5, k6, k7, k8⟩ := (Eg1.out.below Bg2.out).cells; dsimp only at k0 k1 k2 k3 k4 k5 k6 k7 k8) | ((with_reducible refine gate_dst (N := 3) rfl ?_); refine box_event ?hg (N := 3) ?hd (cs := #[.int .i64 0, .int .i64 0, .string (⟨#[]⟩ : ByteArray), .int .i64 0, .int .i64 0, .string (⟨#[]⟩ : ByteArray), .int .i64 0, .int .i64 0, .slice none 0 0]) (t := 26) ?hr ?_; (case hd => rfl); (case hg => rfl); (case hr => first | (go_simp; done) | (go_simp; rfl)); intro g3 hg_ w3 hbox hb; have Gg3 := Aside0.mk hg_; have Eg3 := Aside0.mk (show EB w3 g3 ⟨0, 0, ⟨#[]⟩, 0, 0, ⟨#[]⟩, 0, 0, none, 0, 0⟩ from hbox); have Bg3 := Aside0.mk hb; clear hbox hb hg_; clear k0 k1 k2 k3 k4 k5 k6 k7 k8; obtain ⟨u0, u1, u2, u3, u4, u5, u6, u7, u8⟩ := Eg3.out.cells; obtain ⟨v0, v1, v2, v3, v4, v5, v6, v7, v8⟩ := Eg3.out.free) | ((with_reducible refine gate_store (t := 26) (p := 3) rfl ?_); refine ev_store (w1 := (((((((((w3.setCell ⟨g3, 0, none⟩ (.int .i64 k)).setCell ⟨g3, 1, none⟩ (.int .i64 0)).setCell ⟨g3, 2, none⟩ (.string (⟨#[]⟩ : ByteArray))).setCell ⟨g3, 3, none⟩ (.int .i64 0)).setCell ⟨g3, 4, none⟩ (.int .i64 0)).setCell ⟨g3, 5, none⟩ (.string (⟨#[]⟩ : ByteArray))).setCell ⟨g3, 6, none⟩ (.int .i64 0)).setCell ⟨g3, 7, none⟩ (.int .i64 0)).setCell ⟨g3, 8, none⟩ (.slice none 0 0))) ?hg ?hn ?hr ?_; (case hg => rfl); (case hn => rfl); (case hr => first | (go_simp; done) | (go_simp; rfl)); intro w4 hW_; have HW4 := Aside0.mk hW_; clear hW_; clear u0 u1 u2 u3 u4 u5 u6 u7 u8 v0 v1 v2 v3 v4 v5 v6 v7 v8; obtain ⟨E3, N13, N23, E1, E2, HG2, HG3, B4⟩ := bare_start (e := ⟨k, h, s, n, t, fn, fk, fz, A, nl, c⟩) (ek := ⟨k, 0, ⟨#[]⟩, 0, 0, ⟨#[]⟩, 0, 0, none, 0, 0⟩) Gg1.out Eg1.out Bg1.out Gg2.out Eg2.out Bg2.out Gg3.out Eg3.out Bg3.out HW4.out; clear HW4; obtain ⟨k0, k1, k2, k3, k4, k5, k6, k7, k8⟩ := E1.out.cells; dsimp only at k0 k1 k2 k3 k4 k5 k6 k7 k8; obtain ⟨v0, v1, v2, v3, v4, v5, v6, v7, v8⟩ := E3.out.free; obtain ⟨u0, u1, u2, u3, u4, u5, u6, u7, u8⟩ := E3.out.cells; dsimp only at u0 u1 u2 u3 u4 u5 u6 u7 u8; have EX := Aside0.mk E3.out; have EY := Aside0.mk E2.out; have BZ := Aside0.mk B4.out; clear k0 k1 k2 k3 k4 k5 k6 k7 k8 v0 v1 v2 v3 v4 v5 v6 v7 v8 u0 u1 u2 u3 u4 u5 u6 u7 u8; obtain ⟨p0, p1, p2, p3, p4, p5, p6, p7, p8⟩ := E2.out.cells; obtain ⟨r0, r1, r2, r3, r4, r5, r6, r7, r8⟩ := E2.out.free; obtain ⟨u0, u1, u2, u3, u4, u5, u6, u7, u8⟩ := E3.out.cells; dsimp only at u0 u1 u2 u3 u4 u5 u6 u7 u8; obtain ⟨k0, k1, k2, k3, k4, k5, k6, k7, k8⟩ := E1.out.cells; dsimp only at k0 k1 k2 k3 k4 k5 k6 k7 k8) | ((with_reducible refine gate_store (t := 26) (p := 2) rfl ?_); refine ev_store (w1 := (((((((((w4.setCell ⟨g2, 0, none⟩ (.int .i64 k)).setCell ⟨g2, 1, none⟩ (.int .i64 0)).setCell ⟨g2, 2, none⟩ (.string (⟨#[]⟩ : ByteArray))).setCell ⟨g2, 3, none⟩ (.int .i64 0)).setCell ⟨g2, 4, none⟩ (.int .i64 0)).setCell ⟨g2, 5, none⟩ (.string (⟨#[]⟩ : ByteArray))).setCell ⟨g2, 6, none⟩ (.int .i64 0)).setCell ⟨g2, 7, none⟩ (.int .i64 0)).setCell ⟨g2, 8, none⟩ (.slice none 0 0))) ?hg ?hn ?hr ?_; (case hg => rfl); (case hn => rfl); (case hr => first | (go_simp; done) | (go_simp; rfl)); intro wz hW_; have HWZ := Aside0.mk hW_; clear hW_; clear p0 p1 p2 p3 p4 p5 p6 p7 p8 r0 r1 r2 r3 r4 r5 r6 r7 r8))
                have EZ := Aside0.mk (show EB wz g2 ⟨k, 0, ⟨#[]⟩, 0, 0, ⟨#[]⟩, 0, 0, none, 0, 0⟩ from by rw [HWZ.out]; exact EB.put EY.out ⟨k, 0, ⟨#[]⟩, 0, 0, ⟨#[]⟩, 0, 0, none, 0, 0⟩)
                refine bodyPost_ret (results_cell_row rfl _ _ g2 26 #[.int .i64 k, .int .i64 0, .string (⟨#[]⟩ : ByteArray), .int .i64 0, .int .i64 0, .string (⟨#[]⟩ : ByteArray), .int .i64 0, .int .i64 0, .slice none 0 0] (0, 0) _ rfl EZ.out Try.underlying26 rfl (by kernel_rfl)) rfl ?_
                refine ⟨?_, ?_⟩
                · rw [HR.out]; unfold bareE; rw [if_neg (fun e => e.elim HK1.out HK4.out), if_neg HK2.out, if_neg HK3.out, if_neg HK5.out, if_neg HK7.out, if_neg HK8.out]; rfl
                · rw [HWZ.out]; exact w9_below BZ.out HG2.out ⟨k, 0, ⟨#[]⟩, 0, 0, ⟨#[]⟩, 0, 0, none, 0, 0⟩
end Go.Proofs.Ytehnogggokfcaaa.Ev
