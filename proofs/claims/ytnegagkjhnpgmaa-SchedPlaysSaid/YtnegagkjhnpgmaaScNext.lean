/- The line's Next. -/
import Derived.Test.YtnegagkjhnpgmaaScHas
namespace Go.Proofs.Ytnegagkjhnpgmaa.Sc
open Go.RowKit Go.Proofs.YtnegagkjhnpgmaaW.PrintWords Go.Proofs.YtnegagkjhnpgmaaW.PrintMore Go.Proofs.YtnegagkjhnpgmaaW.PrintLast Go.Proofs.Ytnegagkjhnpgmaa.Dq
set_option linter.unusedVariables false
set_option linter.unusedSimpArgs false
attribute [local go_sem ↓] Go.wp_at_zero Go.wp_at_succ
def p4 (W : World) (g : Nat) (x : Jb) : World := (((W.setCell ⟨g, 0, none⟩ (.int .i64 x.h)).setCell ⟨g, 1, none⟩ (.slice x.A x.n x.c)).setCell ⟨g, 2, none⟩ (.int .i64 x.sz)).setCell ⟨g, 3, none⟩ (.string x.ft)
theorem p4_other {W : World} {k g : Nat} (h : k ≠ g) (x : Jb) : (p4 W g x).heap[k]? = W.heap[k]? := by
  unfold p4
  rw [heap_other h, heap_other h, heap_other h, heap_other h]
theorem p4_size (W : World) (g : Nat) (x : Jb) : (p4 W g x).heap.size = W.heap.size := by
  unfold p4
  simp only [size_set]
theorem p4_below {w0 W : World} {g : Nat} (h : Below w0.heap.size w0 W) (hg : w0.heap.size ≤ g) (x : Jb) : Below w0.heap.size w0 (p4 W g x) := below_set (below_set (below_set (below_set h hg) hg) hg) hg
theorem p4_at {W : World} {g : Nat} {t : TypeId} {c0 c1 c2 c3 : Value} (h : W.heap[g]? = some (.cells #[c0, c1, c2, c3] t (0, 0))) (x : Jb) : (p4 W g x).heap[g]? = some (.cells #[.int .i64 x.h, .slice x.A x.n x.c, .int .i64 x.sz, .string x.ft] t (0, 0)) := put4 h _ _ _ _
theorem FrL.p4 {w W : World} {base g : Nat} {F F' : Nat → Prop} (h : FrL w W base F F') (hg : w.heap.size ≤ g) (hb : base ≤ w.heap.size) (x : Jb) : FrL w (p4 W g x) base F F' :=
  ⟨by rw [p4_size]; exact h.size, fun k hk hF => (p4_other (by omega) x).trans (h.keep k hk hF), fun w0 e hb0 => p4_below (h.below w0 e hb0) (by omega) x, h.new⟩
theorem LnA.p4 {w : World} {base g d r k : Nat} {A : Option Addr} {M : List (Int × Value)} {q : List Jb} {S : Int → List Jb} (h : LnA w base g d r A M q S) (hk : ¬ foot g d r A M k) (x : Jb) : LnA (p4 w k x) base g d r A M q S :=
  h.kept fun j hj => p4_other (fun e => hk (by rw [← e]; exact hj)) x
def RelX (w1 : World) (base g d r : Nat) (A : Option Addr) (F0 : Nat → Prop) (l0 : List Int) (q : List Jb) (S : Int → List Jb) (g4 : Nat) (wr : World) : Prop :=
  ∃ q1 S1 M1, LnA wr base g d r A M1 q1 S1 ∧ nx l0 q1 S1 = nx l0 q S ∧ FrL w1 wr base F0 (foot g d r A M1) ∧ wr.heap[g4]? = some (.cells #[.int .i64 0, .slice none 0 0, .int .i64 0, .string (⟨#[]⟩ : ByteArray)] 29 (0, 0)) ∧ ∀ k, (S1 k).length + q1.length ≤ 1000000
theorem jb_agg (x : Jb) : Value.agg #[.int .i64 x.h, .slice x.A x.n x.c, .int .i64 x.sz, .string x.ft] = .agg #[.int .i64 x.h, .slice x.A x.n x.c, .int .i64 x.sz, .string x.ft] := rfl
theorem put_len {S : Int → List Jb} {x : Jb} {q : List Jb} (h : ∀ k, (S k).length + (x :: q).length ≤ 1000000) : ∀ k, (put S x k).length + q.length ≤ 1000000 := fun k => by
  have := h k
  unfold put
  rw [List.length_cons] at this
  split
  · rw [List.length_append, List.length_singleton]; omega
  · omega
set_option maxHeartbeats 40000000 in
set_option maxRecDepth 100000 in
theorem lnnext_calls (base g : Nat) (q : List Jb) (S : Int → List Jb) (F : Nat → Prop) (A0 : Option Addr) (c0 : Nat) (l0 : List Int) (w : World) (h : Ln w base g q S F) (hc0 : l0.length ≤ c0) (hl0 : l0.length ≤ 1000000000)
    (hw : ∀ W : World, (∀ k, k < w.heap.size → ¬ F k → W.heap[k]? = w.heap[k]?) → Kd.C (Kd.int .i64) W A0 l0.length l0) (hb : ∀ k, (S k).length + q.length ≤ 1000000) :
    Calls Try.prog 11 #[.pointer (some ⟨g, 0, none⟩), .slice A0 l0.length c0] w fun e w' => e = .returned (.tuple #[.agg #[.int .i64 ((nx l0 q S).1.getD Jb.z).h, .slice ((nx l0 q S).1.getD Jb.z).A ((nx l0 q S).1.getD Jb.z).n ((nx l0 q S).1.getD Jb.z).c, .int .i64 ((nx l0 q S).1.getD Jb.z).sz, .string ((nx l0 q S).1.getD Jb.z).ft], .bool (nx l0 q S).1.isSome]) ∧ ∃ F', Ln w' base g (nx l0 q S).2.1 (nx l0 q S).2.2 F' ∧ FrL w w' base F F' := by
  have hu := Try.underlying29
  obtain ⟨d, r, A, M, hla, hF⟩ := h
  subst hF
  have LA := Aside0.mk hla
  have HB := Aside0.mk hb
  have HX := Aside0.mk (fun (s : Int) (W : World) (hk : ∀ k, k < w.heap.size → ¬ foot g d r A M k → W.heap[k]? = w.heap[k]?) => contains_calls A0 c0 l0 s W (hw W hk) hc0 hl0)
  have hbase := hla.base_le
  clear hla hb hw hc0 hl0
  go_enter Try.func11, Try.ntmps11
  go_wp2_with (first | ((with_reducible refine gate_dst (N := 4) rfl ?_); refine box_event ?hg (N := 4) ?hd (cs := #[.int .i64 0, .slice none 0 0, .int .i64 0, .string (⟨#[]⟩ : ByteArray)]) (t := 29) ?hr ?_; (case hd => rfl); (case hg => rfl); (case hr => first | (go_simp; done) | (go_simp; rfl)); intro g4 hg_ w1 hbox hb; have G4 := Aside0.mk hg_; have BW1 := Aside0.mk hb; have B4 := Aside0.mk hbox; clear hbox hb hg_; ))
  have L1 := Aside0.mk (LA.out.below BW1.out)
  have G4L := Aside0.mk (blk_lt B4.out)
  go_loopw [5] (fun v5 wr => RelX w1 base g d r A (foot g d r A M) l0 q S g4 wr) (fun _ wr => mz d wr)
  case atStart => exact ⟨q, S, M, L1.out, rfl, FrL.refl _ _ _, B4.out, HB.out⟩
  case round =>
    obtain ⟨q1, S1, M1, hla, hnx, hfr, hb4, hbd⟩ := hrel
    have LA1 := Aside0.mk hla
    have HNX := Aside0.mk hnx
    have HFR := Aside0.mk hfr
    have B4R := Aside0.mk hb4
    have HBD := Aside0.mk hbd
    have NF4 := Aside0.mk (show ¬ foot g d r A M1 g4 from fun hf => by
      rcases hfr.new g4 hf with h1 | h1
      · have := (LA.out.foot_lt g4 h1).2; have := G4.out; omega
      · have := G4L.out; omega)
    have N4D := Aside0.mk (show g4 ≠ d from fun e => NF4.out (.inr (.inl e)))
    have N4R := Aside0.mk (show ∀ r0, A = some ⟨r0, 0, none⟩ → g4 ≠ r0 from fun r0 e0 e => NF4.out (.inr (.inr (.inr (.inl (by rw [e]; exact e0))))))
    have FR1 := Aside0.mk ((FrL.of_below (foot g d r A M) BW1.out hbase).trans hfr)
    have HSZ := Aside0.mk (show w.heap.size ≤ wr.heap.size from FR1.out.size)
    have KP := Aside0.mk (fun (w3 : World) (hf : FrL wr w3 base (foot g d r A M1) (foot g d r A M1)) (k : Nat) (hk : k < w.heap.size) (hF : ¬ foot g d r A M k) => (FR1.out.trans hf).keep k hk hF)
    clear hla hnx hfr hb4 hbd
    cases q1 with
    | nil =>
      have HLEN := Aside0.mk (lnlen_calls base g [] S1 _ wr ⟨d, r, A, M1, LA1.out, rfl⟩)
      rw [show (([] : List Jb).length : Int) = 0 from rfl] at HLEN
      obtain ⟨y0, y1, y2, y3, t0, t1, t2, t3⟩ := cells4 B4R.out
      go_wp2_with (first | (go_at_call 12; (with_reducible refine HLEN.out.mono ?_); rintro e w_ ⟨rfl, rfl⟩) | ((with_reducible refine gate_store (t := 29) (p := 4) rfl ?_); refine store_event2 (w1 := ((((wr.setCell ⟨g4, 0, none⟩ (.int .i64 0)).setCell ⟨g4, 1, none⟩ (.slice none 0 0)).setCell ⟨g4, 2, none⟩ (.int .i64 0)).setCell ⟨g4, 3, none⟩ (.string (⟨#[]⟩ : ByteArray)))) ?hg ?hn ?hr ?_; (case hg => rfl); (case hn => rfl); (case hr => first | (go_simp; done) | (go_simp; rfl)); intro w7 hW_; have HW7 := Aside0.mk hW_; clear hW_; clear y0 y1 y2 y3 t0 t1 t2 t3))
      have B47 := Aside0.mk (show w7.heap[g4]? = some (.cells #[.int .i64 0, .slice none 0 0, .int .i64 0, .string (⟨#[]⟩ : ByteArray)] 29 (0, 0)) from by rw [HW7.out]; exact put4 B4R.out _ _ _ _)
      refine bodyPost_ret (results_ct rfl _ _ g4 29 #[.int .i64 0, .slice none 0 0, .int .i64 0, .string (⟨#[]⟩ : ByteArray)] (0, 0) _ rfl B47.out Try.underlying29 rfl (by kernel_rfl)) rfl ?_
      have hW : w7 = p4 wr g4 Jb.z := HW7.out
      have hnx : nx l0 q S = (none, [], S1) := HNX.out.symm
      rw [hnx, hW]
      exact ⟨rfl, _, ⟨d, r, A, M1, LA1.out.p4 NF4.out _, rfl⟩, FR1.out.p4 (Nat.le_of_eq G4.out.symm) hbase _⟩
    | cons x q2 =>
      have HLEN := Aside0.mk (lnlen_calls base g (x :: q2) S1 _ wr ⟨d, r, A, M1, LA1.out, rfl⟩)
      obtain ⟨n, hn⟩ : ∃ n, n = q2.length := ⟨_, rfl⟩
      rw [show ((x :: q2).length : Int) = (n : Int) + 1 from by rw [hn]; simp] at HLEN
      have i1 : (0 : Int) < (n : Int) + 1 := by omega
      have i2 : decide ((0 : Int) < (n : Int) + 1) = true := decide_eq_true i1
      have i3 : decide ((n : Int) + 1 > 0) = true := decide_eq_true i1
      have HPOP := Aside0.mk (pop_front d base A x q2 wr LA1.out.dq)
      obtain ⟨L, hL⟩ : ∃ L, L = nx l0 q S := ⟨_, rfl⟩
      rw [← hL] at HNX
      obtain ⟨k0, k1, z0, z1⟩ := LA1.out.cells
      by_cases hx : x.h ∈ l0
      · have HCON := Aside0.mk (fun W hk => HX.out x.h W hk)
        rw [decide_eq_true hx] at HCON
        have HNX2 := Aside0.mk ((nx_wait q2 S1 hx).symm.trans HNX.out)
        obtain ⟨v, hv, hvo, hlk⟩ := LA1.out.look x.h
        have HVO := Aside0.mk hvo
        have HLK := Aside0.mk hlk
        have HV := Aside0.mk hv
        obtain ⟨xh, xA, xn, xc, xs, xf⟩ := x
        clear hn hx hvo hlk hv HNX
        go_wp2_with (first | (go_at_call 12; (with_reducible refine HLEN.out.mono ?_); rintro e w_ ⟨rfl, rfl⟩) | (go_at_call 28; (with_reducible refine HPOP.out.mono ?_); rintro e w3 ⟨rfl, hd3, hf3⟩; have L3 := Aside0.mk (LA1.out.setq hd3 hf3); have B43 := Aside0.mk ((hf3.keep g4 (blk_lt B4R.out) N4D.out (fun r0 e0 => N4R.out r0 e0)).trans B4R.out); have KQ := Aside0.mk (fun (k : Nat) (h1 : k < wr.heap.size) (h2 : k ≠ d) (h3 : A ≠ some ⟨k, 0, none⟩) => hf3.keep k h1 h2 (fun r0 e e2 => h3 (by rw [e, e2]))); clear hd3 hf3 HPOP HLEN k0 k1 z0 z1) | ((with_reducible refine gate_dst (N := 6) rfl ?_); refine box_event ?hg (N := 6) ?hd (cs := #[.int .i64 0, .slice none 0 0, .int .i64 0, .string (⟨#[]⟩ : ByteArray)]) (t := 29) ?hr ?_; (case hd => rfl); (case hg => rfl); (case hr => first | (go_simp; done) | (go_simp; rfl)); intro g6 hg_ w4 hbox hb; have G6 := Aside0.mk hg_; have BW6 := Aside0.mk hb; have B6 := Aside0.mk hbox; clear hbox hb hg_; obtain ⟨u0, u1, u2, u3, v0, v1, v2, v3⟩ := cells4 B6.out) | ((with_reducible refine gate_store (t := 29) (p := 6) rfl ?_); refine store_event2 (w1 := ((((w4.setCell ⟨g6, 0, none⟩ (.int .i64 xh)).setCell ⟨g6, 1, none⟩ (.slice xA xn xc)).setCell ⟨g6, 2, none⟩ (.int .i64 xs)).setCell ⟨g6, 3, none⟩ (.string xf))) ?hg ?hn ?hr ?_; (case hg => rfl); (case hn => rfl); (case hr => first | (go_simp; done) | (go_simp; rfl)); intro w5 hW_; have HW5 := Aside0.mk hW_; clear hW_; have BW := Aside0.mk (show Below w3.heap.size w3 w5 from by rw [HW5.out]; exact below_set (below_set (below_set (below_set BW6.out (Nat.le_of_eq G6.out.symm)) (Nat.le_of_eq G6.out.symm)) (Nat.le_of_eq G6.out.symm)) (Nat.le_of_eq G6.out.symm)); have BX := Aside0.mk (show w5.heap[g6]? = some (.cells #[.int .i64 xh, .slice xA xn xc, .int .i64 xs, .string xf] 29 (0, 0)) from by rw [HW5.out]; exact put4 B6.out _ _ _ _); clear u0 u1 u2 u3 v0 v1 v2 v3 BW6 B6 HW5; obtain ⟨u0, u1, u2, u3, v0, v1, v2, v3⟩ := cells4 BX.out) | (go_at_call 29; (with_reducible refine (HCON.out w5 (by have := BW.out; have h1 := L3.out.2; exact fun k hk hF => (this.block k (by have := h1.size; have := HSZ.out; omega)).trans (KP.out w3 h1 k hk hF))).mono ?_); rintro e w6 ⟨rfl, hb6, he6⟩; have BW7 := Aside0.mk (below_tr BW.out hb6); have B6 := Aside0.mk (show w6.heap[g6]? = some (.cells #[.int .i64 xh, .slice xA xn xc, .int .i64 xs, .string xf] 29 (0, 0)) from by rw [he6]; exact BX.out); clear hb6 he6 u0 u1 u2 u3 v0 v1 v2 v3 BX BW; obtain ⟨u0, u1, u2, u3, v0, v1, v2, v3⟩ := cells4 B6.out; have B44 := Aside0.mk (old_blk B43.out BW7.out); obtain ⟨y0, y1, y2, y3, t0, t1, t2, t3⟩ := cells4 B44.out))
        clear u0 u1 u2 u3 v0 v1 v2 v3 y0 y1 y2 y3 t0 t1 t2 t3
        have L6 := Aside0.mk (L3.out.1.below BW7.out)
        refine region_drew (fun W_ => W_.heap[g]? = some (.cells #[.pointer (some ⟨d, 0, none⟩), .map (some r)] 54 (0, 0)) ∧ W_.heap[g6]? = some (.cells #[.int .i64 xh, .slice xA xn xc, .int .i64 xs, .string xf] 29 (0, 0))) (by kernel_rfl) (fun d1 hd1 he1 => ?_)
        have L7 := Aside0.mk (L6.out.below hd1)
        have B7 := Aside0.mk (old_blk B6.out hd1)
        refine ⟨⟨L7.out.blk, B7.out⟩, fun hHeld => ?_⟩
        refine wpAnyH_take (i := 0) (v := .pointer (some ⟨g, 0, none⟩)) rfl (by kernel_rfl) (by kernel_rfl) (by kernel_rfl) (fun _ _ _ h => h) (Or.inl ⟨by rfl, ?_⟩) (by assumption) ?_
        · intro W_ hSw
          obtain ⟨s0, s1⟩ := hSw
          have q0 := (blk_cell s0 0).trans rfl
          have q1 := (blk_cell s0 1).trans rfl
          obtain ⟨u0, u1, u2, u3, _, _, _, _⟩ := cells4 s1
          clear s0 s1
          first | (go_simp; done) | (go_simp; with_reducible rfl) | (go_simp; rfl)
        try simp only [Act.put, List.setIfInBounds_toArray, List.set_cons_zero, List.set_cons_succ]
        refine wpAnyH_take (i := 1) (v := .pointer (some ⟨g, 0, none⟩)) rfl (by kernel_rfl) (by kernel_rfl) (by kernel_rfl) (fun _ _ _ h => h) (Or.inl ⟨by rfl, ?_⟩) (by assumption) ?_
        · intro W_ hSw
          obtain ⟨s0, s1⟩ := hSw
          have q0 := (blk_cell s0 0).trans rfl
          have q1 := (blk_cell s0 1).trans rfl
          obtain ⟨u0, u1, u2, u3, _, _, _, _⟩ := cells4 s1
          clear s0 s1
          first | (go_simp; done) | (go_simp; with_reducible rfl) | (go_simp; rfl)
        try simp only [Act.put, List.setIfInBounds_toArray, List.set_cons_zero, List.set_cons_succ]
        refine wpAnyH_take (i := 2) (v := .pointer (some ⟨g, 1, none⟩)) rfl (by kernel_rfl) (by kernel_rfl) (by kernel_rfl) (fun _ _ _ h => h) (Or.inl ⟨by rfl, ?_⟩) (by assumption) ?_
        · intro W_ hSw
          obtain ⟨s0, s1⟩ := hSw
          have q0 := (blk_cell s0 0).trans rfl
          have q1 := (blk_cell s0 1).trans rfl
          obtain ⟨u0, u1, u2, u3, _, _, _, _⟩ := cells4 s1
          clear s0 s1
          first | (go_simp; done) | (go_simp; with_reducible rfl) | (go_simp; rfl)
        try simp only [Act.put, List.setIfInBounds_toArray, List.set_cons_zero, List.set_cons_succ]
        refine wpAnyH_take (i := 3) (v := .map (some r)) rfl (by kernel_rfl) (by kernel_rfl) (by kernel_rfl) (fun _ _ _ h => h) (Or.inl ⟨by rfl, ?_⟩) (by assumption) ?_
        · intro W_ hSw
          obtain ⟨s0, s1⟩ := hSw
          have q0 := (blk_cell s0 0).trans rfl
          have q1 := (blk_cell s0 1).trans rfl
          obtain ⟨u0, u1, u2, u3, _, _, _, _⟩ := cells4 s1
          clear s0 s1
          first | (go_simp; done) | (go_simp; with_reducible rfl) | (go_simp; rfl)
        try simp only [Act.put, List.setIfInBounds_toArray, List.set_cons_zero, List.set_cons_succ]
        refine wpAnyH_take (i := 4) (v := .pointer (some ⟨g6, 0, none⟩)) rfl (by kernel_rfl) (by kernel_rfl) (by kernel_rfl) (fun _ _ _ h => h) (Or.inl ⟨by rfl, ?_⟩) (by assumption) ?_
        · intro W_ hSw
          obtain ⟨s0, s1⟩ := hSw
          have q0 := (blk_cell s0 0).trans rfl
          have q1 := (blk_cell s0 1).trans rfl
          obtain ⟨u0, u1, u2, u3, _, _, _, _⟩ := cells4 s1
          clear s0 s1
          first | (go_simp; done) | (go_simp; with_reducible rfl) | (go_simp; rfl)
        try simp only [Act.put, List.setIfInBounds_toArray, List.set_cons_zero, List.set_cons_succ]
        refine wpAnyH_take (i := 5) (v := .int .i64 xh) rfl (by kernel_rfl) (by kernel_rfl) (by kernel_rfl) (fun _ _ _ h => h) (Or.inl ⟨by rfl, ?_⟩) (by assumption) ?_
        · intro W_ hSw
          obtain ⟨s0, s1⟩ := hSw
          have q0 := (blk_cell s0 0).trans rfl
          have q1 := (blk_cell s0 1).trans rfl
          obtain ⟨u0, u1, u2, u3, _, _, _, _⟩ := cells4 s1
          clear s0 s1
          first | (go_simp; done) | (go_simp; with_reducible rfl) | (go_simp; rfl)
        try simp only [Act.put, List.setIfInBounds_toArray, List.set_cons_zero, List.set_cons_succ]
        refine wpAnyH_take (i := 6) (v := .pointer (some ⟨g, 0, none⟩)) rfl (by kernel_rfl) (by kernel_rfl) (by kernel_rfl) (fun _ _ _ h => h) (Or.inl ⟨by rfl, ?_⟩) (by assumption) ?_
        · intro W_ hSw
          obtain ⟨s0, s1⟩ := hSw
          have q0 := (blk_cell s0 0).trans rfl
          have q1 := (blk_cell s0 1).trans rfl
          obtain ⟨u0, u1, u2, u3, _, _, _, _⟩ := cells4 s1
          clear s0 s1
          first | (go_simp; done) | (go_simp; with_reducible rfl) | (go_simp; rfl)
        try simp only [Act.put, List.setIfInBounds_toArray, List.set_cons_zero, List.set_cons_succ]
        refine wpAnyH_take (i := 7) (v := .pointer (some ⟨g, 0, none⟩)) rfl (by kernel_rfl) (by kernel_rfl) (by kernel_rfl) (fun _ _ _ h => h) (Or.inl ⟨by rfl, ?_⟩) (by assumption) ?_
        · intro W_ hSw
          obtain ⟨s0, s1⟩ := hSw
          have q0 := (blk_cell s0 0).trans rfl
          have q1 := (blk_cell s0 1).trans rfl
          obtain ⟨u0, u1, u2, u3, _, _, _, _⟩ := cells4 s1
          clear s0 s1
          first | (go_simp; done) | (go_simp; with_reducible rfl) | (go_simp; rfl)
        try simp only [Act.put, List.setIfInBounds_toArray, List.set_cons_zero, List.set_cons_succ]
        refine wpAnyH_take (i := 8) (v := .pointer (some ⟨g, 1, none⟩)) rfl (by kernel_rfl) (by kernel_rfl) (by kernel_rfl) (fun _ _ _ h => h) (Or.inl ⟨by rfl, ?_⟩) (by assumption) ?_
        · intro W_ hSw
          obtain ⟨s0, s1⟩ := hSw
          have q0 := (blk_cell s0 0).trans rfl
          have q1 := (blk_cell s0 1).trans rfl
          obtain ⟨u0, u1, u2, u3, _, _, _, _⟩ := cells4 s1
          clear s0 s1
          first | (go_simp; done) | (go_simp; with_reducible rfl) | (go_simp; rfl)
        try simp only [Act.put, List.setIfInBounds_toArray, List.set_cons_zero, List.set_cons_succ]
        refine wpAnyH_take (i := 9) (v := .map (some r)) rfl (by kernel_rfl) (by kernel_rfl) (by kernel_rfl) (fun _ _ _ h => h) (Or.inl ⟨by rfl, ?_⟩) (by assumption) ?_
        · intro W_ hSw
          obtain ⟨s0, s1⟩ := hSw
          have q0 := (blk_cell s0 0).trans rfl
          have q1 := (blk_cell s0 1).trans rfl
          obtain ⟨u0, u1, u2, u3, _, _, _, _⟩ := cells4 s1
          clear s0 s1
          first | (go_simp; done) | (go_simp; with_reducible rfl) | (go_simp; rfl)
        try simp only [Act.put, List.setIfInBounds_toArray, List.set_cons_zero, List.set_cons_succ]
        refine wpAnyH_take (i := 10) (v := .pointer (some ⟨g6, 0, none⟩)) rfl (by kernel_rfl) (by kernel_rfl) (by kernel_rfl) (fun _ _ _ h => h) (Or.inl ⟨by rfl, ?_⟩) (by assumption) ?_
        · intro W_ hSw
          obtain ⟨s0, s1⟩ := hSw
          have q0 := (blk_cell s0 0).trans rfl
          have q1 := (blk_cell s0 1).trans rfl
          obtain ⟨u0, u1, u2, u3, _, _, _, _⟩ := cells4 s1
          clear s0 s1
          first | (go_simp; done) | (go_simp; with_reducible rfl) | (go_simp; rfl)
        try simp only [Act.put, List.setIfInBounds_toArray, List.set_cons_zero, List.set_cons_succ]
        refine wpAnyH_take (i := 11) (v := .int .i64 xh) rfl (by kernel_rfl) (by kernel_rfl) (by kernel_rfl) (fun _ _ _ h => h) (Or.inl ⟨by rfl, ?_⟩) (by assumption) ?_
        · intro W_ hSw
          obtain ⟨s0, s1⟩ := hSw
          have q0 := (blk_cell s0 0).trans rfl
          have q1 := (blk_cell s0 1).trans rfl
          obtain ⟨u0, u1, u2, u3, _, _, _, _⟩ := cells4 s1
          clear s0 s1
          first | (go_simp; done) | (go_simp; with_reducible rfl) | (go_simp; rfl)
        try simp only [Act.put, List.setIfInBounds_toArray, List.set_cons_zero, List.set_cons_succ]
        refine wpAnyH_take (i := 13) (v := .agg #[.int .i64 xh, .slice xA xn xc, .int .i64 xs, .string xf]) rfl (by kernel_rfl) (by kernel_rfl) (by kernel_rfl) (fun _ _ _ h => h) (Or.inl ⟨by rfl, ?_⟩) (by assumption) ?_
        · intro W_ hSw
          obtain ⟨s0, s1⟩ := hSw
          have q0 := (blk_cell s0 0).trans rfl
          have q1 := (blk_cell s0 1).trans rfl
          obtain ⟨u0, u1, u2, u3, _, _, _, _⟩ := cells4 s1
          clear s0 s1
          first | (go_simp; done) | (go_simp; with_reducible rfl) | (go_simp; rfl)
        try simp only [Act.put, List.setIfInBounds_toArray, List.set_cons_zero, List.set_cons_succ]
        clear hHeld
        refine next_lk_bs 12 14 37 34 36 39 38 r xh v ⟨xh, xA, xn, xc, xs, xf⟩ (by kernel_rfl) (by kernel_rfl) (by kernel_rfl) (by decide) (by decide) (by kernel_rfl) (by kernel_rfl) (by kernel_rfl) (fun c => by kernel_rfl) (fun c => by kernel_rfl) (by kernel_rfl) (by kernel_rfl) (fun c => by kernel_rfl) (fun W1 hb1 => by have := run_look (L7.out.below hb1).map xh; rw [HV.out] at this; exact this) (fun W1 hb1 => ⟨(hb1.block g L7.out.glt).trans L7.out.blk, old_blk B7.out hb1⟩) (fun b wb hbs hbb hbl hsz => ?_)
        have L8 := Aside0.mk (L7.out.below hbl)
        have B8 := Aside0.mk (old_blk B7.out hbl)
        have HAB := Aside0.mk (below_tr hd1 hbl)
        have OV := Aside0.mk ((((HVO.out.kept (fun k e => by
          obtain ⟨cs, hc⟩ := HVO.out.kind e
          obtain ⟨h1, h2, h3⟩ := LA1.out.job hc
          rcases HLK.out with ⟨rfl, _⟩ | hm
          · cases e
          · have hA := (LA1.out.rows _ hm).2.2 k e
            exact KQ.out k (World.ownsRow.lt HVO.out k e).2 h2 hA)) : OwnJ w3 base v (S1 xh)).below BW7.out).below HAB.out)
        refine next_one (i := 15) (by kernel_rfl) ?_
        refine cons_app 15 40 37 39 base 0 b v (S1 xh) ⟨xh, xA, xn, xc, xs, xf⟩ (by kernel_rfl) (by kernel_rfl) (by kernel_rfl) OV.out hbb (by have := HBD.out xh; rw [List.length_cons] at this; omega) L8.out.base_le (fun gg cap wc hown hgrow hat => ?_) AllReadyH.nil
        have HOW := Aside0.mk hown
        have HGR := Aside0.mk hgrow
        have HAT := Aside0.mk (show v.ownBlock = some gg ∨ w6.heap.size ≤ gg from hat.imp id (fun e => by rw [e]; exact HAB.out.size))
        have hjb : ∀ k, v.ownBlock = some k → k ≠ g ∧ k ≠ d ∧ k ≠ r ∧ k ≠ g6 := fun k e => by
          obtain ⟨cs, hc⟩ := HVO.out.kind e
          obtain ⟨h1, h2, h3⟩ := LA1.out.job hc
          refine ⟨h1, h2, h3, ?_⟩
          have := (World.ownsRow.lt HVO.out k e).2
          have h4 := L3.out.2.size
          have := G6.out
          omega
        have HM9 := Aside0.mk (show MapAt wc r M1 from L8.out.map.kept (hgrow.block r L8.out.map.lt (fun e => (hjb r e.symm).2.2.1 rfl)))
        have HG9 := Aside0.mk ((hgrow.block g L8.out.glt (fun e => (hjb g e.symm).1 rfl)).trans L8.out.blk)
        have HB9 := Aside0.mk ((hgrow.block g6 (blk_lt B8.out) (fun e => (hjb g6 e.symm).2.2.2 rfl)).trans B8.out)
        have NR6 := Aside0.mk (show g6 ≠ r from (L8.out.job B8.out).2.2)
        refine ⟨⟨HG9.out, HB9.out⟩, ?_⟩
        clear hown hgrow hat hjb
        refine next_one (i := 16) (by kernel_rfl) ?_
        refine cons_upd 16 28 30 40 r xh (.slice (some ⟨gg, 0, none⟩) ((S1 xh).length + 1) cap) M1 (by kernel_rfl) (by kernel_rfl) (by kernel_rfl) (by kernel_rfl) HM9.out (fun o1 wz hwz hm1 => ?_) AllReadyH.nil
        have HM1 := Aside0.mk hm1
        clear hm1
        refine ⟨⟨by rw [hwz]; exact (oset_other L8.out.gr o1).trans HG9.out, by rw [hwz]; exact (oset_other NR6.out o1).trans HB9.out⟩, ?_⟩
        refine wpAnyH_done (by kernel_rfl) ?_ _
        have UP := Aside0.mk (L6.out.upd (x := ⟨xh, xA, xn, xc, xs, xf⟩) (v := v) (v' := .slice (some ⟨gg, 0, none⟩) ((S1 xh).length + 1) cap) (wa := wb) (wb := wc) (wz := wz) HLK.out rfl HAB.out HOW.out HGR.out HAT.out (by rw [hwz, oset_size]; exact Nat.le_refl _) (fun k hk hne => by rw [hwz]; exact oset_other hne o1) HM1.out (fun w0 h0 hb => by rw [hwz]; exact oset_below hb h0 o1))
        have B4Z := Aside0.mk (show wz.heap[g4]? = some (.cells #[.int .i64 0, .slice none 0 0, .int .i64 0, .string (⟨#[]⟩ : ByteArray)] 29 (0, 0)) from (UP.out.2.keep g4 (blk_lt B44.out) NF4.out).trans B44.out)
        clear hwz HM1 HM9 HG9 HB9 HGR HOW OV
        go_wp2_with fail
        go_roundw
        case rel => exact ⟨q2, put S1 ⟨xh, xA, xn, xc, xs, xf⟩, _, UP.out.1, by rw [HNX2.out, hL], ((HFR.out.trans L3.out.2).trans (FrL.of_below _ BW7.out L3.out.1.base_le)).trans UP.out.2, B4Z.out, put_len HBD.out⟩
        case measure =>
          show mz d _ < mz d _
          rw [mz_of UP.out.1.dq, mz_of LA1.out.dq]
          simp
      · have HCON := Aside0.mk (fun W hk => HX.out x.h W hk)
        rw [decide_eq_false hx] at HCON
        have HNX2 := Aside0.mk ((nx_free q2 S1 hx).symm.trans HNX.out)
        obtain ⟨xh, xA, xn, xc, xs, xf⟩ := x
        clear hn hx HNX
        go_wp2_with (first | (go_at_call 12; (with_reducible refine HLEN.out.mono ?_); rintro e w_ ⟨rfl, rfl⟩) | (go_at_call 28; (with_reducible refine HPOP.out.mono ?_); rintro e w3 ⟨rfl, hd3, hf3⟩; have L3 := Aside0.mk (LA1.out.setq hd3 hf3); have B43 := Aside0.mk ((hf3.keep g4 (blk_lt B4R.out) N4D.out (fun r0 e0 => N4R.out r0 e0)).trans B4R.out); clear hd3 hf3 HPOP HLEN k0 k1 z0 z1) | ((with_reducible refine gate_dst (N := 6) rfl ?_); refine box_event ?hg (N := 6) ?hd (cs := #[.int .i64 0, .slice none 0 0, .int .i64 0, .string (⟨#[]⟩ : ByteArray)]) (t := 29) ?hr ?_; (case hd => rfl); (case hg => rfl); (case hr => first | (go_simp; done) | (go_simp; rfl)); intro g6 hg_ w4 hbox hb; have G6 := Aside0.mk hg_; have BW6 := Aside0.mk hb; have B6 := Aside0.mk hbox; clear hbox hb hg_; obtain ⟨u0, u1, u2, u3, v0, v1, v2, v3⟩ := cells4 B6.out) | ((with_reducible refine gate_store (t := 29) (p := 6) rfl ?_); refine store_event2 (w1 := ((((w4.setCell ⟨g6, 0, none⟩ (.int .i64 xh)).setCell ⟨g6, 1, none⟩ (.slice xA xn xc)).setCell ⟨g6, 2, none⟩ (.int .i64 xs)).setCell ⟨g6, 3, none⟩ (.string xf))) ?hg ?hn ?hr ?_; (case hg => rfl); (case hn => rfl); (case hr => first | (go_simp; done) | (go_simp; rfl)); intro w5 hW_; have HW5 := Aside0.mk hW_; clear hW_; have BW := Aside0.mk (show Below w3.heap.size w3 w5 from by rw [HW5.out]; exact below_set (below_set (below_set (below_set BW6.out (Nat.le_of_eq G6.out.symm)) (Nat.le_of_eq G6.out.symm)) (Nat.le_of_eq G6.out.symm)) (Nat.le_of_eq G6.out.symm)); have BX := Aside0.mk (show w5.heap[g6]? = some (.cells #[.int .i64 xh, .slice xA xn xc, .int .i64 xs, .string xf] 29 (0, 0)) from by rw [HW5.out]; exact put4 B6.out _ _ _ _); clear u0 u1 u2 u3 v0 v1 v2 v3 BW6 B6 HW5; obtain ⟨u0, u1, u2, u3, v0, v1, v2, v3⟩ := cells4 BX.out) | (go_at_call 29; (with_reducible refine (HCON.out w5 (by have := BW.out; have h1 := L3.out.2; exact fun k hk hF => (this.block k (by have := h1.size; have := HSZ.out; omega)).trans (KP.out w3 h1 k hk hF))).mono ?_); rintro e w6 ⟨rfl, hb6, he6⟩; have BW7 := Aside0.mk (below_tr BW.out hb6); have B6 := Aside0.mk (show w6.heap[g6]? = some (.cells #[.int .i64 xh, .slice xA xn xc, .int .i64 xs, .string xf] 29 (0, 0)) from by rw [he6]; exact BX.out); clear hb6 he6 u0 u1 u2 u3 v0 v1 v2 v3 BX BW; obtain ⟨u0, u1, u2, u3, v0, v1, v2, v3⟩ := cells4 B6.out; have B44 := Aside0.mk (old_blk B43.out BW7.out); obtain ⟨y0, y1, y2, y3, t0, t1, t2, t3⟩ := cells4 B44.out) | ((with_reducible refine gate_store (t := 29) (p := 4) rfl ?_); refine store_event2 (w1 := ((((w6.setCell ⟨g4, 0, none⟩ (.int .i64 xh)).setCell ⟨g4, 1, none⟩ (.slice xA xn xc)).setCell ⟨g4, 2, none⟩ (.int .i64 xs)).setCell ⟨g4, 3, none⟩ (.string xf))) ?hg ?hn ?hr ?_; (case hg => rfl); (case hn => rfl); (case hr => first | (go_simp; done) | (go_simp; rfl)); intro w7 hW_; have HW7 := Aside0.mk hW_; clear hW_; clear u0 u1 u2 u3 v0 v1 v2 v3 y0 y1 y2 y3 t0 t1 t2 t3))
        have L6 := Aside0.mk (L3.out.1.below BW7.out)
        have B47 := Aside0.mk (show w7.heap[g4]? = some (.cells #[.int .i64 xh, .slice xA xn xc, .int .i64 xs, .string xf] 29 (0, 0)) from by rw [HW7.out]; exact put4 B44.out _ _ _ _)
        refine bodyPost_ret (results_ct rfl _ _ g4 29 #[.int .i64 xh, .slice xA xn xc, .int .i64 xs, .string xf] (0, 0) _ rfl B47.out Try.underlying29 rfl (by kernel_rfl)) rfl ?_
        have hW : w7 = p4 w6 g4 ⟨xh, xA, xn, xc, xs, xf⟩ := HW7.out
        rw [← hL, ← HNX2.out, hW]
        exact ⟨rfl, _, ⟨d, r, A, M1, L6.out.p4 NF4.out _, rfl⟩, (((FR1.out.trans L3.out.2).trans (FrL.of_below _ BW7.out L3.out.1.base_le))).p4 (Nat.le_of_eq G4.out.symm) hbase _⟩
end Go.Proofs.Ytnegagkjhnpgmaa.Sc
