/- The deque's Push at its end, for jobs. -/
import Derived.Test.YtnegagkjhnpgmaaScGrow
namespace Go.Proofs.Ytnegagkjhnpgmaa.Sc
open Go.RowKit Go.Proofs.YtnegagkjhnpgmaaW.PrintWords Go.Proofs.YtnegagkjhnpgmaaW.PrintMore Go.Proofs.YtnegagkjhnpgmaaW.PrintLast Go.Proofs.Ytnegagkjhnpgmaa.Dq
set_option linter.unusedVariables false
set_option linter.unusedSimpArgs false
attribute [local go_sem ↓] Go.wp_at_zero Go.wp_at_succ
theorem Fr.of_below {w w1 : World} {base g : Nat} (A : Option Addr) (h : Below w.heap.size w w1) (hb : base ≤ w.heap.size) : Fr w w1 base g A A :=
  ⟨h.size, fun k hk _ _ => h.block k hk, fun w0 e hb0 => below_all h (by omega) hb0, .inl rfl⟩
theorem grow_calls (g base : Nat) (A : Option Addr) (l : List Jb) (w : World) (h : DqJ w base g A l) (hb : l.length < 1048576) :
    Calls Try.prog 36 #[.pointer (some ⟨g, 0, none⟩)] w fun e w' => e = .returned (.tuple #[]) ∧ ∃ r f R, l.length < R.length ∧ DqA w' base g (some ⟨r, 0, none⟩) R f l ∧ Fr w w' base g A (some ⟨r, 0, none⟩) := by
  obtain ⟨R, f, h⟩ := h
  have hbase : base ≤ w.heap.size := by have := h.hg; have := h.lt; omega
  by_cases c : l.length < R.length
  · refine (grow_room g l.length R.length R.length A w h.cells.1 h.cells.2.2.1 c).mono fun e w' he => ?_
    obtain ⟨rfl, k, rfl⟩ := he
    have hB : Below w.heap.size w (w.drewN k) := pw_below_drewN (Below.refl _ _) k
    rcases h.room with e | ⟨r, e, _, _⟩
    · rw [e.1] at c; exact absurd c (by simp)
    · subst e
      exact ⟨rfl, r, f, R, c, h.below hB, Fr.of_below _ hB hbase⟩
  · refine (grow_more g f base A R l w h (by have := h.rep.le; omega) hb).mono fun e w' he => ?_
    obtain ⟨rfl, r, R', _, hl, h', hu⟩ := he
    exact ⟨rfl, r, 0, R', hl, h', hu⟩
theorem s4_size (W : World) (r i : Nat) (x : Jb) : (s4 W r i x).heap.size = W.heap.size := by
  unfold s4
  simp only [size_set]
theorem push_end {W : World} {base g r f s : Nat} {R l : List Jb} (h : DqA W base g (some ⟨r, 0, none⟩) R f l) (hs : s = slotN R.length f l.length) (hl : l.length < R.length) (x : Jb) :
    DqA ((s4 W r s x).setCell ⟨g, 2, none⟩ (.int .i64 ((l.length : Int) + 1))) base g (some ⟨r, 0, none⟩) (R.set s x) f (l ++ [x]) ∧ Fr W ((s4 W r s x).setCell ⟨g, 2, none⟩ (.int .i64 ((l.length : Int) + 1))) base g (some ⟨r, 0, none⟩) (some ⟨r, 0, none⟩) := by
  have hslt : s < R.length := by rw [hs]; exact slotN_lt hl h.rep.fr
  obtain ⟨r', e, hR, hbr⟩ : ∃ r', (some ⟨r, 0, none⟩ : Option Addr) = some ⟨r', 0, none⟩ ∧ Room W r' R ∧ base ≤ r' := by
    rcases h.room with e | h'
    · rw [e.1] at hl; exact absurd hl (by simp)
    · exact h'
  injection e with e
  injection e with e _ _
  subst e
  have hne := h.ne hR
  have hbk : (s4 W r s x).heap[g]? = W.heap[g]? := s4_other (fun e => hne e.symm) x
  refine ⟨⟨h.hg, ?_, .inr ⟨r, rfl, ?_, hbr⟩, by rw [hs]; exact h.rep.back hl x, by rw [List.length_set]; exact h.cap⟩, ⟨?_, fun k hk hkg hkr => ?_, fun w0 e hb => ?_, .inl rfl⟩⟩
  · have e : (((l ++ [x]).length : Nat) : Int) = (l.length : Int) + 1 := by simp
    rw [List.length_set, e]
    exact blk_put (hbk.trans h.blk) 2 _ rfl
  · unfold Room
    rw [heap_other hne]
    exact hR.set s hslt x
  · rw [size_set, s4_size]; exact Nat.le_refl _
  · rw [heap_other hkg]
    exact s4_other (hkr r rfl) x
  · exact below_set (s4_below hb (by rw [e]; exact hbr) x) (by rw [e]; exact h.hg)
theorem drew_heap (w : World) : (World.drew w).heap = w.heap := rfl
theorem DqA.of_heap {w w1 : World} {base g f : Nat} {A : Option Addr} {R l : List Jb} (h : DqA w base g A R f l) (e : w1.heap = w.heap) : DqA w1 base g A R f l := h.kept (by rw [e]) (fun r _ _ => by rw [e])
theorem push_end2 {W : World} {base g r f s : Nat} {R l : List Jb} (h : DqA W base g (some ⟨r, 0, none⟩) R f l) {x : Jb} (hs : s = slotN R.length f l.length) (hl : l.length < R.length) :
    DqA (((s4 W r s x).setCell ⟨g, 2, none⟩ (.int .i64 ((l.length : Int) + 1))).drew) base g (some ⟨r, 0, none⟩) (R.set s x) f (l ++ [x]) ∧ Fr W (((s4 W r s x).setCell ⟨g, 2, none⟩ (.int .i64 ((l.length : Int) + 1))).drew) base g (some ⟨r, 0, none⟩) (some ⟨r, 0, none⟩) := by
  obtain ⟨h1, h2⟩ := push_end h hs hl x
  have e : (((s4 W r s x).setCell ⟨g, 2, none⟩ (.int .i64 ((l.length : Int) + 1))).drew).heap = ((s4 W r s x).setCell ⟨g, 2, none⟩ (.int .i64 ((l.length : Int) + 1))).heap := drew_heap _
  have hbr := (h.room_lt rfl).2
  exact ⟨h1.of_heap e, ⟨by rw [e]; exact h2.size, fun k a b c => by rw [e]; exact h2.keep k a b c, fun w0 e0 hb => below_drew (below_set (s4_below hb (by rw [e0]; exact hbr) x) (by rw [e0]; exact h.hg)), h2.row⟩⟩
set_option maxHeartbeats 4000000 in
set_option maxRecDepth 100000 in
theorem push_back (g base : Nat) (A : Option Addr) (l : List Jb) (x : Jb) (w : World) (h : DqJ w base g A l) (hb : l.length < 1048576) :
    Calls Try.prog 27 #[.pointer (some ⟨g, 0, none⟩), .bool false, .agg #[.int .i64 x.h, .slice x.A x.n x.c, .int .i64 x.sz, .string x.ft]] w fun e w' => e = .returned (.bool true) ∧ ∃ A', DqJ w' base g A' (l ++ [x]) ∧ Fr w w' base g A A' := by
  have hu := Try.underlying29
  obtain ⟨xh, xA, xn, xc, xs, xf⟩ := x
  have H := Aside0.mk h
  obtain ⟨R, f, h0⟩ := h
  obtain ⟨k0, k1, k2, z0, z1, z2⟩ := h0.cells
  obtain ⟨n, hn⟩ : ∃ n, n = l.length := ⟨_, rfl⟩
  rw [← hn] at k2 hb
  have Hn := Aside0.mk hn
  have HNL := Aside0.mk hb
  have Hbase := Aside0.mk (show base ≤ w.heap.size by have := h0.hg; have := h0.lt; omega)
  have c1 : decide (1048576 ≤ (n : Int)) = false := decide_eq_false (by omega)
  have c2 : decide (1048576 ≤ n) = false := decide_eq_false (by omega)
  have hgs := Aside0.mk h0.lt
  have hroom := Aside0.mk (fun r (e : A = some ⟨r, 0, none⟩) => (h0.room_lt e).1)
  have HG := Aside0.mk (fun (W : World) (hW : Below w.heap.size w W) => grow_calls g base A l W (H.out.below hW) (by rw [← hn]; exact hb))
  clear h0 hn hb
  go_enter Try.func27, Try.ntmps27
  go_wp2_with (first | ((with_reducible refine gate_dst (N := 5) rfl ?_); refine box_event ?hg (N := 5) ?hd (cs := #[.int .i64 xh, .slice xA xn xc, .int .i64 xs, .string xf]) (t := 29) ?hr ?_; (case hd => rfl); (case hg => rfl); (case hr => first | (go_simp; done) | (go_simp; rfl)); intro g5 hg w1 hbox hb; have GE := Aside0.mk (show w.heap.size ≤ g5 from by rw [hg]; exact Nat.le_refl _); have BB := Aside0.mk hb; have B5 := Aside0.mk hbox; have k0 := cell_below k0 hb; have k1 := cell_below k1 hb; have k2 := cell_below k2 hb; clear hbox hb hg))
  go_at_call 36
  with_reducible refine (HG.out _ BB.out).mono ?_
  rintro e w2 ⟨rfl, r, f1, R1, hl, hd, hfr⟩
  clear k0 k1 k2 z0 z1 z2
  have HB5 := Aside0.mk (show w2.heap[g5]? = some (.cells #[.int .i64 xh, .slice xA xn xc, .int .i64 xs, .string xf] 29 (0, 0)) from (hfr.keep g5 (blk_lt B5.out) (by have := hgs.out; have := GE.out; omega) (fun r0 e => by have := (hroom.out r0 e); have := GE.out; omega)).trans B5.out)
  have n3 : ¬ g5 = r := by
    have hg5 := blk_lt B5.out
    rcases hfr.row with e | ⟨q, e, hq⟩
    · have := hroom.out r e.symm
      have := GE.out
      omega
    · injection e with e
      injection e with e _ _
      omega
  have n4 : ¬ r = g5 := fun e => n3 e.symm
  have HD := Aside0.mk hd
  have HFR := Aside0.mk ((Fr.of_below A BB.out Hbase.out).trans hfr)
  obtain ⟨m, hmm⟩ : ∃ m, m = R1.length := ⟨_, rfl⟩
  obtain ⟨s, hs⟩ : ∃ s, s = slotN m f1 n := ⟨_, rfl⟩
  have hfm := hd.rep.fr
  have hcm := hd.cap
  rw [← Hn.out] at hl
  rw [← hmm] at hl hfm hcm
  have hslt : s < m := by rw [hs]; exact slotN_lt hl hfm
  obtain ⟨k0, k1, k2, z0, z1, z2⟩ := hd.cells
  rw [← hmm] at k0
  rw [← Hn.out] at k2
  obtain ⟨r', e', hR, hbr⟩ : ∃ r', (some ⟨r, 0, none⟩ : Option Addr) = some ⟨r', 0, none⟩ ∧ Room w2 r' R1 ∧ base ≤ r' := by
    rcases hd.room with e | h'
    · rw [e.1] at hmm; rw [hmm] at hl; exact absurd hl (by simp)
    · exact h'
  injection e' with e'
  injection e' with e' _ _
  subst e'
  have hne := hd.ne hR
  obtain ⟨⟨yh, yA, yn, yc, ys, yf⟩, y0, y1, y2, y3⟩ : ∃ y : Jb, w2.cell? ⟨r, s * 4, none⟩ = some (.int .i64 y.h) ∧ w2.cell? ⟨r, s * 4 + 1, none⟩ = some (.slice y.A y.n y.c) ∧ w2.cell? ⟨r, s * 4 + 2, none⟩ = some (.int .i64 y.sz) ∧ w2.cell? ⟨r, s * 4 + 3, none⟩ = some (.string y.ft) := ⟨_, hR.at s (by rw [← hmm]; exact hslt)⟩
  have t0 := hR.free (s * 4)
  have t1 := hR.free (s * 4 + 1)
  have t2 := hR.free (s * 4 + 2)
  have t3 := hR.free (s * 4 + 3)
  have HS := Aside0.mk (fun (W : World) h0 h1 => slot_calls g f1 n m (some ⟨r, 0, none⟩) W h0 h1 (by omega) hcm (by omega))
  rw [← hs] at HS
  have n1 : ¬ g = r := fun e => hne e.symm
  have n2 : ¬ r = g := hne
  have i1 : (0 : Int) ≤ (s : Int) := Int.natCast_nonneg _
  have i2 : (s : Int) < (m : Int) := by omega
  have i3 := eq_true i1
  have i4 := eq_true i2
  have b0 := (blk_cell HB5.out 0).trans rfl
  have b1 := (blk_cell HB5.out 1).trans rfl
  have b2 := (blk_cell HB5.out 2).trans rfl
  have b3 := (blk_cell HB5.out 3).trans rfl
  have Hs := Aside0.mk hs
  have Hm := Aside0.mk hmm
  have HL := Aside0.mk hl
  clear hs hmm hd hfr hfm hcm hslt hl hR hne hbr hu
  have hu := Try.underlying29
  go_wp2_with fail
  go_region_held3 (fun w' => w'.cell? ⟨g, 0, none⟩ = some (.slice (some ⟨r, 0, none⟩) m m) ∧ w'.cell? ⟨g, 1, none⟩ = some (.int .i64 (f1 : Int)) ∧ w'.cell? ⟨g, 2, none⟩ = some (.int .i64 (n : Int)) ∧ w'.cell? ⟨g5, 0, none⟩ = some (.int .i64 xh) ∧ w'.cell? ⟨g5, 1, none⟩ = some (.slice xA xn xc) ∧ w'.cell? ⟨g5, 2, none⟩ = some (.int .i64 xs) ∧ w'.cell? ⟨g5, 3, none⟩ = some (.string xf)) (go_keep)
    ((go_at_call 37; refine (HS.out _ (by assumption) (by assumption)).mono ?_; rintro e w' ⟨rfl, rfl⟩))
  go_wp2
  go_ret
  rw [show wrap64 ((n : Int) + 1) = (n : Int) + 1 from by have := HNL.out; unfold wrap64; omega]
  have hp := push_end2 (s := s) HD.out (x := ⟨xh, xA, xn, xc, xs, xf⟩) (by rw [Hs.out, Hm.out, Hn.out]) (by rw [← Hn.out, ← Hm.out]; exact HL.out)
  rw [← Hn.out] at hp
  exact ⟨rfl, some ⟨r, 0, none⟩, ⟨_, _, hp.1⟩, HFR.out.trans hp.2⟩
end Go.Proofs.Ytnegagkjhnpgmaa.Sc
