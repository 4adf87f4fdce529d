/- The event of a line (event.Take). -/
import Derived.Test.YtehnogggokfcaaaEA
namespace Go.Proofs.Ytehnogggokfcaaa.Ev
open Go.RowKit Go.Proofs.YtehnogggokfcaaaW.PrintWords Go.Proofs.YtehnogggokfcaaaW.PrintMore Go.Proofs.YtehnogggokfcaaaW.PrintLast Go.Proofs.Ytehnogggokfcaaa.Y Go.Proofs.Ytehnogggokfcaaa.X Go.Proofs.Ytehnogggokfcaaa.Pure Go.Proofs.Ytehnogggokfcaaa.LM
set_option linter.unusedVariables false
set_option linter.unusedSimpArgs false
attribute [local go_sem ↓] Go.wp_at_zero Go.wp_at_succ
theorem own_w9 {W : World} {base g : Nat} {v : Value} {L : List S43} {e : Ec} (h : OwnL W base v L) (hb : EB W g e) (x : Ec) : OwnL (w9 W g x) base v L := by
  skip
  have b0 : ∀ (W : World) (cs : Array Value), W.heap[g]? = some (.cells cs 26 (0, 0)) → OwnL W base v L → ∀ (j : Nat) (u : Value), (W.setCell ⟨g, j, none⟩ u).heap[g]? = some (.cells (cs.setIfInBounds j u) 26 (0, 0)) ∧ OwnL (W.setCell ⟨g, j, none⟩ u) base v L := fun W cs hb h j u => ⟨blk_put hb j u rfl, h.set hb (by decide) j u⟩
  obtain ⟨h0, o0⟩ := b0 _ _ hb h 0 (.int .i64 x.k)
  obtain ⟨h1, o1⟩ := b0 _ _ h0 o0 1 (.int .i64 x.h)
  obtain ⟨h2, o2⟩ := b0 _ _ h1 o1 2 (.string x.s)
  obtain ⟨h3, o3⟩ := b0 _ _ h2 o2 3 (.int .i64 x.n)
  obtain ⟨h4, o4⟩ := b0 _ _ h3 o3 4 (.int .i64 x.t)
  obtain ⟨h5, o5⟩ := b0 _ _ h4 o4 5 (.string x.fn)
  obtain ⟨h6, o6⟩ := b0 _ _ h5 o5 6 (.int .i64 x.fk)
  obtain ⟨h7, o7⟩ := b0 _ _ h6 o6 7 (.int .i64 x.fz)
  exact (b0 _ _ h7 o7 8 (.slice x.A x.nl x.c)).2
theorem ecOf_8 (L : List S43) (A : Option Addr) (c n : Nat) (hn : n = L.length) : ecOf { k0 8 with f6 := L } A c = ⟨8, 0, ⟨#[]⟩, 0, 0, ⟨#[]⟩, 0, 0, A, n, c⟩ := by rw [hn]; rfl
def Rel8 (w : World) (g2 g4 g7 g9 gl c m : Nat) (a : List ByteArray) (v10 : Value) (wl : World) : Prop := ∃ (i j n : Nat) (A : Option Addr) (c9 : Nat), v10 = .int .i64 (i : Int) ∧ i = 3 * j ∧ n = j ∧ i ≤ m ∧ Tk w wl g2 g4 g7 g9 gl 1 (c + 1) m a (wr8 a j) ⟨8, 0, ⟨#[]⟩, 0, 0, ⟨#[]⟩, 0, 0, A, n, c9⟩ ∧ OwnL wl w.heap.size (.slice A n c9) (lf8 a j)
theorem TxB_nil {W : World} {g off off2 : Nat} {x : ByteArray} (h : TxB W g off [x]) : TxB W g off2 [] := by
  obtain ⟨cells, hb, _⟩ := h
  exact ⟨cells, hb, fun i hi => absurd hi (by simp)⟩
theorem len1 {l : List ByteArray} (h : l.length = 1) : ∃ x, l = [x] := List.length_eq_one_iff.1 h
theorem len2 {l : List ByteArray} (h : l.length = 2) : ∃ x y, l = [x, y] := by
  match l, h with
  | [x, y], _ => exact ⟨x, y, rfl⟩
theorem len4 {l : List ByteArray} (h : l.length = 4) : ∃ x y z u, l = [x, y, z, u] := by
  match l, h with
  | [x, y, z, u], _ => exact ⟨x, y, z, u, rfl⟩

set_option maxHeartbeats 40000000 in
set_option maxRecDepth 100000 in
theorem take_words (s wd : ByteArray) (a : List ByteArray) (m : Nat) (hm : m = a.length) (hm2 : m ≤ 100000000) (hs : s.size ≤ 1000000000) (hwd : wd.size ≤ 1000000000) (hsp : splitB s = some (wd :: a)) (R : S26 × Int) (hR : R = kindP (kindOf (up wd)) a) (w : World) : Calls Try.prog 12 #[.string s] w fun e w' => ∃ A c, e = .returned (.tuple #[.agg (ecL (ecOf R.1 A c)), .int .i64 R.2]) ∧ R.1.f6.length ≤ c ∧ Kd.C k43 w' A R.1.f6.length R.1.f6 ∧ Below w.heap.size w w' := by
  have hu := Try.underlying26
  obtain ⟨r1, r2, hr, hcon, -⟩ := split_c s hs
  rw [hsp] at hr
  injection hr with hr1 hr2
  obtain rfl : r1 = wd :: a := hr1
  obtain rfl : r2 = true := hr2


  try clear hr1
  try clear hr2
  have HCON := Aside0.mk hcon
  have HM := Aside0.mk hm
  have HM2 := Aside0.mk hm2
  have HWD := Aside0.mk hwd
  have HR := Aside0.mk hR
  clear hcon hm hm2 hwd hR hsp
  have dd1 : decide (((m + 1 : Nat) : Int) = 0) = false := decide_eq_false (by omega)
  have dd2 : (((m + 1 : Nat) : Int) == 0) = false := beq_eq_false_iff_ne.2 (by omega)
  go_enter Try.func12, Try.ntmps12
  go_wp2_with (first | ((with_reducible refine gate_dst (N := 2) rfl ?_); refine box_event ?hg (N := 2) ?hd (cs := #[.int .i64 0, .int .i64 0, .string (⟨#[]⟩ : ByteArray), .int .i64 0, .int .i64 0, .string (⟨#[]⟩ : ByteArray), .int .i64 0, .int .i64 0, .slice none 0 0]) (t := 26) ?hr ?_; (case hd => rfl); (case hg => rfl); (case hr => first | (go_simp; done) | (go_simp; rfl)); intro g2 hg_ w1 hbox hb; have Gg2 := Aside0.mk hg_; have Eg2 := Aside0.mk (show EB w1 g2 Ec.z from hbox); have Bg2 := Aside0.mk hb; clear hbox hb hg_; ) | (go_at_call 24; (with_reducible refine Calls.mono (HCON.out _) ?_); rintro _ wx ⟨v0_, rfl, hOT, hb⟩; obtain ⟨gl, c1, hv, hc1, htx⟩ := hOT.txb (by simp); rw [List.length_cons, ← HM.out] at hv hc1; subst hv; obtain ⟨cc, hcc⟩ : ∃ cc, c1 = cc + 1 := ⟨c1 - 1, by omega⟩; subst hcc; have BX := Aside0.mk hb; have TX := Aside0.mk htx; have HC1 := Aside0.mk hc1; clear hOT hb htx hc1) | ((with_reducible refine gate_dst (N := 4) rfl ?_); refine box_event ?hg (N := 4) ?hd (cs := #[.slice none 0 0]) (t := 45) ?hr ?_; (case hd => rfl); (case hg => rfl); (case hr => first | (go_simp; done) | (go_simp; rfl)); intro g4 hg_ w3 hbox hb; have G4 := Aside0.mk hg_; have E40 := Aside0.mk hbox; have BG4 := Aside0.mk hb; have c40 := (blk_cell hbox 0).trans rfl; have f40 := blk_frozen hbox 0; clear hbox hb hg_; ) | ((with_reducible refine gate_store (t := 45) (p := 4) rfl ?_); refine ev_store (w1 := w3.setCell ⟨g4, 0, none⟩ (.slice (some ⟨gl, 0, none⟩) (m + 1) (cc + 1))) ?hg ?hn ?hr ?_; (case hg => rfl); (case hn => rfl); (case hr => first | (go_simp; done) | (go_simp; rfl)); intro w4 hW_; have HW4 := Aside0.mk hW_; clear hW_; clear c40 f40; have E4 := Aside0.mk (show w4.heap[g4]? = some (.cells #[.slice (some ⟨gl, 0, none⟩) (m + 1) (cc + 1)] 45 (0, 0)) from by rw [HW4.out]; exact blk_put E40.out 0 _ rfl); have N24 := Aside0.mk (show g2 ≠ g4 from by have := Eg2.out.lt; have := BX.out.size; have := G4.out; omega); have E2 := Aside0.mk (show EB w4 g2 Ec.z from by rw [HW4.out]; exact ((Eg2.out.below BX.out).below BG4.out).other N24.out _); have ET := Aside0.mk (show TxB w4 gl 0 (wd :: a) from by rw [HW4.out]; exact (TX.out.below BG4.out).set E40.out (by decide) _); have HG2 := Aside0.mk (show w.heap.size ≤ g2 from Nat.le_of_eq Gg2.out.symm); have HG4 := Aside0.mk (show w.heap.size ≤ g4 from by have := Bg2.out.size; have := BX.out.size; have := G4.out; omega); have B4 := Aside0.mk (show Below w.heap.size w w4 from by rw [HW4.out]; exact ev_below_set (below_all_ (below_all_ Bg2.out BX.out) BG4.out) HG4.out); have c4 : w4.cell? ⟨g4, 0, none⟩ = some (.slice (some ⟨gl, 0, none⟩) (m + 1) (cc + 1)) := (blk_cell E4.out 0).trans rfl; clear HW4 E40 BG4 TX))
  refine region_drew (fun W_ => W_.heap[g4]? = some (.cells #[.slice (some ⟨gl, 0, none⟩) (m + 1) (cc + 1)] 45 (0, 0)) ∧ TxB W_ gl 0 (wd :: a)) (by kernel_rfl) (fun d1_ hd1 he1 => ?_)
  have D4 := Aside0.mk (show d1_.heap[g4]? = some (.cells #[.slice (some ⟨gl, 0, none⟩) (m + 1) (cc + 1)] 45 (0, 0)) from by rw [he1]; exact E4.out)
  have D2 := Aside0.mk (E2.out.below hd1)
  have DT := Aside0.mk (ET.out.below hd1)
  have BD := Aside0.mk (below_all_ B4.out hd1)
  clear hd1 he1 c4
  refine ⟨⟨D4.out, DT.out⟩, fun hHeld => ?_⟩
  refine wpAnyH_take (i := 1) (v := .slice (some ⟨gl, 0, none⟩) (m + 1) (cc + 1)) rfl (by kernel_rfl) (by kernel_rfl) (by kernel_rfl) (fun _ _ _ h => h) (Or.inl ⟨by kernel_rfl, ?_⟩) (by assumption) ?_
  · intro W_ hSw
    obtain ⟨hs1, hs2⟩ := hSw
    have q1 := (blk_cell hs1 0).trans rfl
    have q2 := hs2.at 0 (by simp)
    simp only [List.getElem_cons_zero, Nat.add_zero] at q2
    clear hs1 hs2
    skip
    first | (go_simp; done) | (go_simp; with_reducible rfl) | (go_simp; rfl)
  refine wpAnyH_take (i := 2) (v := .pointer (some ⟨gl, 0, none⟩)) rfl (by kernel_rfl) (by kernel_rfl) (by kernel_rfl) (fun _ _ _ h => h) (Or.inl ⟨by kernel_rfl, ?_⟩) (by assumption) ?_
  · intro W_ hSw
    obtain ⟨hs1, hs2⟩ := hSw
    have q1 := (blk_cell hs1 0).trans rfl
    have q2 := hs2.at 0 (by simp)
    simp only [List.getElem_cons_zero, Nat.add_zero] at q2
    clear hs1 hs2
    skip
    first | (go_simp; done) | (go_simp; with_reducible rfl) | (go_simp; rfl)
  refine wpAnyH_take (i := 3) (v := .string wd) rfl (by kernel_rfl) (by kernel_rfl) (by kernel_rfl) (fun _ _ _ h => h) (Or.inl ⟨by kernel_rfl, ?_⟩) (by assumption) ?_
  · intro W_ hSw
    obtain ⟨hs1, hs2⟩ := hSw
    have q1 := (blk_cell hs1 0).trans rfl
    have q2 := hs2.at 0 (by simp)
    simp only [List.getElem_cons_zero, Nat.add_zero] at q2
    clear hs1 hs2
    skip
    first | (go_simp; done) | (go_simp; with_reducible rfl) | (go_simp; rfl)
  try simp only [Act.put, List.getElem_toArray, List.getElem_cons_succ, List.getElem_cons_zero, List.setIfInBounds_toArray, List.set_cons_zero, List.set_cons_succ]
  clear hHeld
  refine next_le (i := 0) (rs := []) (by kernel_rfl) ?_
  refine cons_callG 0 (N := 23) (xs := #[]) (ts := #[]) (by kernel_rfl) Try.func15 (by kernel_rfl) rfl #[] (by kernel_rfl) ?_ AllReadyH.nil
  refine Calls.mono (names_c _) ?_
  rintro _ wa ⟨v23, rfl, hN, hb⟩
  have D4wa := Aside0.mk (show wa.heap[g4]? = some (.cells #[.slice (some ⟨gl, 0, none⟩) (m + 1) (cc + 1)] 45 (0, 0)) from (hb.block g4 (blk_lt D4.out)).trans D4.out)
  have D2wa := Aside0.mk (D2.out.below hb)
  have DTwa := Aside0.mk (DT.out.below hb)
  have BDwa := Aside0.mk (below_all_ BD.out hb)
  have HN := Aside0.mk hN
  clear hb hN
  refine ⟨v23, rfl, ⟨D4wa.out, DTwa.out⟩, ?_⟩
  try simp only [Act.put, List.getElem_toArray, List.getElem_cons_succ, List.getElem_cons_zero, List.setIfInBounds_toArray, List.set_cons_zero, List.set_cons_succ]
  refine next_le (i := 4) (rs := []) (by kernel_rfl) ?_
  refine cons_callG 4 (N := 27) (xs := #[.tmp 26]) (ts := #[9]) (by kernel_rfl) Try.func26 (by kernel_rfl) rfl #[.string wd] (by kernel_rfl) ?_ AllReadyH.nil
  refine Calls.mono (upper_c wd HWD.out _) ?_
  rintro _ wb ⟨rfl, hb⟩
  have D4wb := Aside0.mk (show wb.heap[g4]? = some (.cells #[.slice (some ⟨gl, 0, none⟩) (m + 1) (cc + 1)] 45 (0, 0)) from (hb.block g4 (blk_lt D4wa.out)).trans D4wa.out)
  have D2wb := Aside0.mk (D2wa.out.below hb)
  have DTwb := Aside0.mk (DTwa.out.below hb)
  have BDwb := Aside0.mk (below_all_ BDwa.out hb)
  have HNb := Aside0.mk (HN.out.below hb)
  clear hb
  refine ⟨_, rfl, ⟨D4wb.out, DTwb.out⟩, ?_⟩
  try simp only [Act.put, List.getElem_toArray, List.getElem_cons_succ, List.getElem_cons_zero, List.setIfInBounds_toArray, List.set_cons_zero, List.set_cons_succ]
  refine next_le (i := 5) (rs := []) (by kernel_rfl) ?_
  refine cons_callG 5 (N := 28) (xs := #[.tmp 23, .tmp 27]) (ts := #[45, 9]) (by kernel_rfl) Try.func25 (by kernel_rfl) rfl #[v23, .string (up wd)] (by kernel_rfl) ?_ AllReadyH.nil
  refine Calls.mono (idx_c (up wd) _ _ _ HNb.out) ?_
  rintro _ wc ⟨rfl, hb⟩
  have D4wc := Aside0.mk (show wc.heap[g4]? = some (.cells #[.slice (some ⟨gl, 0, none⟩) (m + 1) (cc + 1)] 45 (0, 0)) from (hb.block g4 (blk_lt D4wb.out)).trans D4wb.out)
  have D2wc := Aside0.mk (D2wb.out.below hb)
  have DTwc := Aside0.mk (DTwb.out.below hb)
  have BDwc := Aside0.mk (below_all_ BDwb.out hb)
  clear hb
  obtain ⟨kn, hkn⟩ : ∃ kn, kn = kindOf (up wd) := ⟨_, rfl⟩
  have HKN := Aside0.mk hkn
  rw [← hkn]
  clear hkn
  have hwk : IntKind.i64.wrap (1 + ((kn : Int) - 1)) = (kn : Int) := by have := kindOf_le (up wd); have := HKN.out; rw [IntKind.wrap_i64]; omega
  refine ⟨_, rfl, ⟨D4wc.out, DTwc.out⟩, ?_⟩
  have hHeld : wc.heap[g4]? = some (.cells #[.slice (some ⟨gl, 0, none⟩) (m + 1) (cc + 1)] 45 (0, 0)) ∧ TxB wc gl 0 (wd :: a) := ⟨D4wc.out, DTwc.out⟩
  refine wpAnyH_take (i := 6) (v := .int .i64 (kn : Int)) rfl (by kernel_rfl) (by kernel_rfl) (by kernel_rfl) (fun _ _ _ h => h) (Or.inl ⟨by kernel_rfl, ?_⟩) (by assumption) ?_
  · intro W_ hSw
    skip
    first | (go_simp; done) | (go_simp; with_reducible rfl) | (go_simp; rfl)
  refine wpAnyH_take (i := 7) (v := .int .i64 (kn : Int)) rfl (by kernel_rfl) (by kernel_rfl) (by kernel_rfl) (fun _ _ _ h => h) (Or.inl ⟨by kernel_rfl, ?_⟩) (by assumption) ?_
  · intro W_ hSw
    skip
    first | (go_simp; done) | (go_simp; with_reducible rfl) | (go_simp; rfl)
  try simp only [Act.put, List.getElem_toArray, List.getElem_cons_succ, List.getElem_cons_zero, List.setIfInBounds_toArray, List.set_cons_zero, List.set_cons_succ]
  refine wpAnyH_done (by kernel_rfl) ?_ _
  have c4 : wc.cell? ⟨g4, 0, none⟩ = some (.slice (some ⟨gl, 0, none⟩) (m + 1) (cc + 1)) := (blk_cell D4wc.out 0).trans rfl
  have f4 := blk_frozen D4wc.out 0
  clear hHeld hwk
  by_cases hk0 : kn = 0
  · subst hk0
    have HF := Aside0.mk (show kindOf (up wd) = 0 ∨ fitsP (kindOf (up wd)) a.length = false from .inl HKN.out.symm)
    rcases cc with _ | cc
    · skip
      go_wp2_with (first | ((with_reducible refine gate_store (t := 45) (p := 4) rfl ?_); refine ev_store (w1 := wc.setCell ⟨g4, 0, none⟩ (.slice (some ⟨gl, 0, none⟩) m (0))) ?hg ?hn ?hr ?_; (case hg => rfl); (case hn => rfl); (case hr => first | (go_simp; done) | (go_simp; rfl)); intro wd_ hW_; have HW7 := Aside0.mk hW_; clear hW_; clear c4 f4; have Q4 := Aside0.mk (show wd_.heap[g4]? = some (.cells #[.slice (some ⟨gl, 0, none⟩) m (0)] 45 (0, 0)) from by rw [HW7.out]; exact blk_put D4wc.out 0 _ rfl); have Q2 := Aside0.mk (show EB wd_ g2 ⟨0, 0, ⟨#[]⟩, 0, 0, ⟨#[]⟩, 0, 0, none, 0, 0⟩ from by rw [HW7.out]; exact D2wc.out.other N24.out _); have QB := Aside0.mk (show Below w.heap.size w wd_ from by rw [HW7.out]; exact ev_below_set BDwc.out HG4.out); have c4 : wd_.cell? ⟨g4, 0, none⟩ = some (.slice (some ⟨gl, 0, none⟩) m (0)) := (blk_cell Q4.out 0).trans rfl; clear HW7; obtain ⟨p0, p1, p2, p3, p4, p5, p6, p7, p8⟩ := Q2.out.cells; dsimp only at p0 p1 p2 p3 p4 p5 p6 p7 p8; obtain ⟨r0, r1, r2, r3, r4, r5, r6, r7, r8⟩ := Q2.out.free) | ((with_reducible refine gate_store (t := 26) (p := 2) rfl ?_); refine ev_store (w1 := (((((((((wd_.setCell ⟨g2, 0, none⟩ (.int .i64 0)).setCell ⟨g2, 1, none⟩ (.int .i64 0)).setCell ⟨g2, 2, none⟩ (.string (⟨#[]⟩ : ByteArray))).setCell ⟨g2, 3, none⟩ (.int .i64 0)).setCell ⟨g2, 4, none⟩ (.int .i64 0)).setCell ⟨g2, 5, none⟩ (.string (⟨#[]⟩ : ByteArray))).setCell ⟨g2, 6, none⟩ (.int .i64 0)).setCell ⟨g2, 7, none⟩ (.int .i64 0)).setCell ⟨g2, 8, none⟩ (.slice none 0 0))) ?hg ?hn ?hr ?_; (case hg => rfl); (case hn => rfl); (case hr => first | (go_simp; done) | (go_simp; rfl)); intro wz hW_; have HWZ := Aside0.mk hW_; clear hW_; clear p0 p1 p2 p3 p4 p5 p6 p7 p8 r0 r1 r2 r3 r4 r5 r6 r7 r8))
      have EZ := Aside0.mk (show EB wz g2 Ec.z from by rw [HWZ.out]; exact EB.put Q2.out Ec.z)
      have hB_ : Below w.heap.size w wz := by rw [HWZ.out]; exact w9_below QB.out HG2.out Ec.z
      refine bodyPost_ret (results_ct rfl _ _ g2 26 #[.int .i64 0, .int .i64 0, .string (⟨#[]⟩ : ByteArray), .int .i64 0, .int .i64 0, .string (⟨#[]⟩ : ByteArray), .int .i64 0, .int .i64 0, .slice none 0 0] (0, 0) _ rfl EZ.out Try.underlying26 rfl (by kernel_rfl)) rfl ?_
      have hR_ : R = (z26, 5) := by rw [HR.out]; unfold kindP; exact if_pos HF.out
      rw [hR_]
      exact ⟨none, 0, rfl, Nat.le_refl _, c43_nil _, hB_⟩
    · skip
      go_wp2_with (first | ((with_reducible refine gate_store (t := 45) (p := 4) rfl ?_); refine ev_store (w1 := wc.setCell ⟨g4, 0, none⟩ (.slice (some ⟨gl, 1, none⟩) m (cc + 1))) ?hg ?hn ?hr ?_; (case hg => rfl); (case hn => rfl); (case hr => first | (go_simp; done) | (go_simp; rfl)); intro wd_ hW_; have HW7 := Aside0.mk hW_; clear hW_; clear c4 f4; have Q4 := Aside0.mk (show wd_.heap[g4]? = some (.cells #[.slice (some ⟨gl, 1, none⟩) m (cc + 1)] 45 (0, 0)) from by rw [HW7.out]; exact blk_put D4wc.out 0 _ rfl); have Q2 := Aside0.mk (show EB wd_ g2 ⟨0, 0, ⟨#[]⟩, 0, 0, ⟨#[]⟩, 0, 0, none, 0, 0⟩ from by rw [HW7.out]; exact D2wc.out.other N24.out _); have QB := Aside0.mk (show Below w.heap.size w wd_ from by rw [HW7.out]; exact ev_below_set BDwc.out HG4.out); have c4 : wd_.cell? ⟨g4, 0, none⟩ = some (.slice (some ⟨gl, 1, none⟩) m (cc + 1)) := (blk_cell Q4.out 0).trans rfl; clear HW7; obtain ⟨p0, p1, p2, p3, p4, p5, p6, p7, p8⟩ := Q2.out.cells; dsimp only at p0 p1 p2 p3 p4 p5 p6 p7 p8; obtain ⟨r0, r1, r2, r3, r4, r5, r6, r7, r8⟩ := Q2.out.free) | ((with_reducible refine gate_store (t := 26) (p := 2) rfl ?_); refine ev_store (w1 := (((((((((wd_.setCell ⟨g2, 0, none⟩ (.int .i64 0)).setCell ⟨g2, 1, none⟩ (.int .i64 0)).setCell ⟨g2, 2, none⟩ (.string (⟨#[]⟩ : ByteArray))).setCell ⟨g2, 3, none⟩ (.int .i64 0)).setCell ⟨g2, 4, none⟩ (.int .i64 0)).setCell ⟨g2, 5, none⟩ (.string (⟨#[]⟩ : ByteArray))).setCell ⟨g2, 6, none⟩ (.int .i64 0)).setCell ⟨g2, 7, none⟩ (.int .i64 0)).setCell ⟨g2, 8, none⟩ (.slice none 0 0))) ?hg ?hn ?hr ?_; (case hg => rfl); (case hn => rfl); (case hr => first | (go_simp; done) | (go_simp; rfl)); intro wz hW_; have HWZ := Aside0.mk hW_; clear hW_; clear p0 p1 p2 p3 p4 p5 p6 p7 p8 r0 r1 r2 r3 r4 r5 r6 r7 r8))
      have EZ := Aside0.mk (show EB wz g2 Ec.z from by rw [HWZ.out]; exact EB.put Q2.out Ec.z)
      have hB_ : Below w.heap.size w wz := by rw [HWZ.out]; exact w9_below QB.out HG2.out Ec.z
      refine bodyPost_ret (results_ct rfl _ _ g2 26 #[.int .i64 0, .int .i64 0, .string (⟨#[]⟩ : ByteArray), .int .i64 0, .int .i64 0, .string (⟨#[]⟩ : ByteArray), .int .i64 0, .int .i64 0, .slice none 0 0] (0, 0) _ rfl EZ.out Try.underlying26 rfl (by kernel_rfl)) rfl ?_
      have hR_ : R = (z26, 5) := by rw [HR.out]; unfold kindP; exact if_pos HF.out
      rw [hR_]
      exact ⟨none, 0, rfl, Nat.le_refl _, c43_nil _, hB_⟩
  · have HK0 := Aside0.mk hk0
    have i0 : decide ((kn : Int) = 0) = false := decide_eq_false (by omega)
    have j0 : ((kn : Int) == 0) = false := beq_eq_false_iff_ne.2 (by omega)
    clear hk0
    cases hft : fitsP kn m
    · have HFT := Aside0.mk hft
      have HF := Aside0.mk (show kindOf (up wd) = 0 ∨ fitsP (kindOf (up wd)) a.length = false from .inr (by rw [← HKN.out, ← HM.out]; exact HFT.out))
      clear hft
      rcases cc with _ | cc
      · skip
        go_wp2_with (first | ((with_reducible refine gate_store (t := 45) (p := 4) rfl ?_); refine ev_store (w1 := wc.setCell ⟨g4, 0, none⟩ (.slice (some ⟨gl, 0, none⟩) m (0))) ?hg ?hn ?hr ?_; (case hg => rfl); (case hn => rfl); (case hr => first | (go_simp; done) | (go_simp; rfl)); intro wd_ hW_; have HW7 := Aside0.mk hW_; clear hW_; clear c4 f4; have Q4 := Aside0.mk (show wd_.heap[g4]? = some (.cells #[.slice (some ⟨gl, 0, none⟩) m (0)] 45 (0, 0)) from by rw [HW7.out]; exact blk_put D4wc.out 0 _ rfl); have Q2 := Aside0.mk (show EB wd_ g2 ⟨0, 0, ⟨#[]⟩, 0, 0, ⟨#[]⟩, 0, 0, none, 0, 0⟩ from by rw [HW7.out]; exact D2wc.out.other N24.out _); have QB := Aside0.mk (show Below w.heap.size w wd_ from by rw [HW7.out]; exact ev_below_set BDwc.out HG4.out); have c4 : wd_.cell? ⟨g4, 0, none⟩ = some (.slice (some ⟨gl, 0, none⟩) m (0)) := (blk_cell Q4.out 0).trans rfl; clear HW7) | (go_at_call 27; (with_reducible refine Calls.mono (fits_i kn m (kn : Int) (m : Int) (rfl) (rfl) (HK0.out) (by have := kindOf_le (up wd); have := HKN.out; omega) false (HFT.out) _) ?_); rintro _ wf ⟨rfl, hb⟩; have QF2 := Aside0.mk (Q2.out.below hb); have QFB := Aside0.mk (below_all_ QB.out hb); clear hb c4; obtain ⟨p0, p1, p2, p3, p4, p5, p6, p7, p8⟩ := QF2.out.cells; dsimp only at p0 p1 p2 p3 p4 p5 p6 p7 p8; obtain ⟨r0, r1, r2, r3, r4, r5, r6, r7, r8⟩ := QF2.out.free) | ((with_reducible refine gate_store (t := 26) (p := 2) rfl ?_); refine ev_store (w1 := (((((((((wf.setCell ⟨g2, 0, none⟩ (.int .i64 0)).setCell ⟨g2, 1, none⟩ (.int .i64 0)).setCell ⟨g2, 2, none⟩ (.string (⟨#[]⟩ : ByteArray))).setCell ⟨g2, 3, none⟩ (.int .i64 0)).setCell ⟨g2, 4, none⟩ (.int .i64 0)).setCell ⟨g2, 5, none⟩ (.string (⟨#[]⟩ : ByteArray))).setCell ⟨g2, 6, none⟩ (.int .i64 0)).setCell ⟨g2, 7, none⟩ (.int .i64 0)).setCell ⟨g2, 8, none⟩ (.slice none 0 0))) ?hg ?hn ?hr ?_; (case hg => rfl); (case hn => rfl); (case hr => first | (go_simp; done) | (go_simp; rfl)); intro wz hW_; have HWZ := Aside0.mk hW_; clear hW_; clear p0 p1 p2 p3 p4 p5 p6 p7 p8 r0 r1 r2 r3 r4 r5 r6 r7 r8))
        have EZ := Aside0.mk (show EB wz g2 Ec.z from by rw [HWZ.out]; exact EB.put QF2.out Ec.z)
        have hB_ : Below w.heap.size w wz := by rw [HWZ.out]; exact w9_below QFB.out HG2.out Ec.z
        refine bodyPost_ret (results_ct rfl _ _ g2 26 #[.int .i64 0, .int .i64 0, .string (⟨#[]⟩ : ByteArray), .int .i64 0, .int .i64 0, .string (⟨#[]⟩ : ByteArray), .int .i64 0, .int .i64 0, .slice none 0 0] (0, 0) _ rfl EZ.out Try.underlying26 rfl (by kernel_rfl)) rfl ?_
        have hR_ : R = (z26, 5) := by rw [HR.out]; unfold kindP; exact if_pos HF.out
        rw [hR_]
        exact ⟨none, 0, rfl, Nat.le_refl _, c43_nil _, hB_⟩
      · skip
        go_wp2_with (first | ((with_reducible refine gate_store (t := 45) (p := 4) rfl ?_); refine ev_store (w1 := wc.setCell ⟨g4, 0, none⟩ (.slice (some ⟨gl, 1, none⟩) m (cc + 1))) ?hg ?hn ?hr ?_; (case hg => rfl); (case hn => rfl); (case hr => first | (go_simp; done) | (go_simp; rfl)); intro wd_ hW_; have HW7 := Aside0.mk hW_; clear hW_; clear c4 f4; have Q4 := Aside0.mk (show wd_.heap[g4]? = some (.cells #[.slice (some ⟨gl, 1, none⟩) m (cc + 1)] 45 (0, 0)) from by rw [HW7.out]; exact blk_put D4wc.out 0 _ rfl); have Q2 := Aside0.mk (show EB wd_ g2 ⟨0, 0, ⟨#[]⟩, 0, 0, ⟨#[]⟩, 0, 0, none, 0, 0⟩ from by rw [HW7.out]; exact D2wc.out.other N24.out _); have QB := Aside0.mk (show Below w.heap.size w wd_ from by rw [HW7.out]; exact ev_below_set BDwc.out HG4.out); have c4 : wd_.cell? ⟨g4, 0, none⟩ = some (.slice (some ⟨gl, 1, none⟩) m (cc + 1)) := (blk_cell Q4.out 0).trans rfl; clear HW7) | (go_at_call 27; (with_reducible refine Calls.mono (fits_i kn m (kn : Int) (m : Int) (rfl) (rfl) (HK0.out) (by have := kindOf_le (up wd); have := HKN.out; omega) false (HFT.out) _) ?_); rintro _ wf ⟨rfl, hb⟩; have QF2 := Aside0.mk (Q2.out.below hb); have QFB := Aside0.mk (below_all_ QB.out hb); clear hb c4; obtain ⟨p0, p1, p2, p3, p4, p5, p6, p7, p8⟩ := QF2.out.cells; dsimp only at p0 p1 p2 p3 p4 p5 p6 p7 p8; obtain ⟨r0, r1, r2, r3, r4, r5, r6, r7, r8⟩ := QF2.out.free) | ((with_reducible refine gate_store (t := 26) (p := 2) rfl ?_); refine ev_store (w1 := (((((((((wf.setCell ⟨g2, 0, none⟩ (.int .i64 0)).setCell ⟨g2, 1, none⟩ (.int .i64 0)).setCell ⟨g2, 2, none⟩ (.string (⟨#[]⟩ : ByteArray))).setCell ⟨g2, 3, none⟩ (.int .i64 0)).setCell ⟨g2, 4, none⟩ (.int .i64 0)).setCell ⟨g2, 5, none⟩ (.string (⟨#[]⟩ : ByteArray))).setCell ⟨g2, 6, none⟩ (.int .i64 0)).setCell ⟨g2, 7, none⟩ (.int .i64 0)).setCell ⟨g2, 8, none⟩ (.slice none 0 0))) ?hg ?hn ?hr ?_; (case hg => rfl); (case hn => rfl); (case hr => first | (go_simp; done) | (go_simp; rfl)); intro wz hW_; have HWZ := Aside0.mk hW_; clear hW_; clear p0 p1 p2 p3 p4 p5 p6 p7 p8 r0 r1 r2 r3 r4 r5 r6 r7 r8))
        have EZ := Aside0.mk (show EB wz g2 Ec.z from by rw [HWZ.out]; exact EB.put QF2.out Ec.z)
        have hB_ : Below w.heap.size w wz := by rw [HWZ.out]; exact w9_below QFB.out HG2.out Ec.z
        refine bodyPost_ret (results_ct rfl _ _ g2 26 #[.int .i64 0, .int .i64 0, .string (⟨#[]⟩ : ByteArray), .int .i64 0, .int .i64 0, .string (⟨#[]⟩ : ByteArray), .int .i64 0, .int .i64 0, .slice none 0 0] (0, 0) _ rfl EZ.out Try.underlying26 rfl (by kernel_rfl)) rfl ?_
        have hR_ : R = (z26, 5) := by rw [HR.out]; unfold kindP; exact if_pos HF.out
        rw [hR_]
        exact ⟨none, 0, rfl, Nat.le_refl _, c43_nil _, hB_⟩
    · have HFT := Aside0.mk hft
      clear hft i0 j0 dd1 dd2
      obtain hk : kn = 1 ∨ kn = 2 ∨ kn = 3 ∨ kn = 4 ∨ kn = 5 ∨ kn = 6 ∨ kn = 7 ∨ kn = 8 := by have := kindOf_le (up wd); have := HKN.out; have := HK0.out; omega
      rcases hk with rfl | rfl | rfl | rfl | rfl | rfl | rfl | rfl
      · skip
        have hm1 : m = 1 := by simpa [fitsP] using HFT.out
        subst hm1
        obtain ⟨x0, rfl⟩ := len1 HM.out.symm
        obtain ⟨c, rfl⟩ : ∃ c, cc = c + 1 := ⟨cc - 1, by have := HC1.out; omega⟩
        go_wp2_with (first | ((with_reducible refine gate_store (t := 45) (p := 4) rfl ?_); refine ev_store (w1 := wc.setCell ⟨g4, 0, none⟩ (.slice (some ⟨gl, 1, none⟩) 1 (c + 1))) ?hg ?hn ?hr ?_; (case hg => rfl); (case hn => rfl); (case hr => first | (go_simp; done) | (go_simp; rfl)); intro wd_ hW_; have HW7 := Aside0.mk hW_; clear hW_; clear c4 f4; have Q4 := Aside0.mk (show wd_.heap[g4]? = some (.cells #[.slice (some ⟨gl, 1, none⟩) 1 (c + 1)] 45 (0, 0)) from by rw [HW7.out]; exact blk_put D4wc.out 0 _ rfl); have Q2 := Aside0.mk (show EB wd_ g2 ⟨0, 0, ⟨#[]⟩, 0, 0, ⟨#[]⟩, 0, 0, none, 0, 0⟩ from by rw [HW7.out]; exact D2wc.out.other N24.out _); have QB := Aside0.mk (show Below w.heap.size w wd_ from by rw [HW7.out]; exact ev_below_set BDwc.out HG4.out); have c4 : wd_.cell? ⟨g4, 0, none⟩ = some (.slice (some ⟨gl, 1, none⟩) 1 (c + 1)) := (blk_cell Q4.out 0).trans rfl; have QT := Aside0.mk (show TxB wd_ gl 1 [x0] from by rw [HW7.out]; exact (DTwc.out.set D4wc.out (by decide) _).tail); clear HW7) | (go_at_call 27; (with_reducible refine Calls.mono (fits_i 1 1 1 1 (by decide) (by decide) (by decide) (by decide) true (HFT.out) _) ?_); rintro _ wf ⟨rfl, hb⟩; have QF4 := Aside0.mk ((hb.block g4 (blk_lt Q4.out)).trans Q4.out); have QF2 := Aside0.mk (Q2.out.below hb); have QFB := Aside0.mk (below_all_ QB.out hb); have QFT := Aside0.mk (QT.out.below hb); clear hb c4) | ((with_reducible refine gate_dst (N := 7) rfl ?_); refine box_event ?hg (N := 7) ?hd (cs := #[.bool false]) (t := 4) ?hr ?_; (case hd => rfl); (case hg => rfl); (case hr => first | (go_simp; done) | (go_simp; rfl)); intro g7 hg_ wg hbox hb; have Gg7 := Aside0.mk hg_; have Eg7 := Aside0.mk hbox; have Bg7 := Aside0.mk hb; have c70 := (blk_cell hbox 0).trans rfl; have f70 := blk_frozen hbox 0; clear hbox hb hg_; ) | ((with_reducible refine gate_store (t := 4) (p := 7) rfl ?_); refine ev_store (w1 := wg.setCell ⟨g7, 0, none⟩ (.bool false)) ?hg ?hn ?hr ?_; (case hg => rfl); (case hn => rfl); (case hr => first | (go_simp; done) | (go_simp; rfl)); intro wh hW_; clear c70 f70; have HH7 := Aside0.mk (show wh.heap[g7]? = some (.cells #[.bool false] 4 (0, 0)) from by rw [hW_]; exact blk_put Eg7.out 0 _ rfl); have HK7 := Aside0.mk (show ∀ q, q ≠ g7 → wh.heap[q]? = wg.heap[q]? from fun q hq => by rw [hW_]; exact heap_other hq _); have HS7 := Aside0.mk (show wh.heap.size = wg.heap.size from by rw [hW_]; simp); have HG7 := Aside0.mk (show w.heap.size ≤ g7 from by have := QFB.out.size; have := Gg7.out; omega); have HB7 := Aside0.mk (show Below w.heap.size w wh from by rw [hW_]; exact ev_below_set (below_all_ QFB.out Bg7.out) HG7.out); clear hW_) | ((with_reducible refine gate_dst (N := 9) rfl ?_); refine box_event ?hg (N := 9) ?hd (cs := #[.int .i64 0, .int .i64 0, .string (⟨#[]⟩ : ByteArray), .int .i64 0, .int .i64 0, .string (⟨#[]⟩ : ByteArray), .int .i64 0, .int .i64 0, .slice none 0 0]) (t := 26) ?hr ?_; (case hd => rfl); (case hg => rfl); (case hr => first | (go_simp; done) | (go_simp; rfl)); intro g9 hg_ wi hbox hb; have Gg9 := Aside0.mk hg_; have Eg9 := Aside0.mk (show EB wi g9 ⟨0, 0, ⟨#[]⟩, 0, 0, ⟨#[]⟩, 0, 0, none, 0, 0⟩ from hbox); have Bg9 := Aside0.mk hb; obtain ⟨u0, u1, u2, u3, u4, u5, u6, u7, u8⟩ := Eg9.out.cells; dsimp only at u0 u1 u2 u3 u4 u5 u6 u7 u8; obtain ⟨v0, v1, v2, v3, v4, v5, v6, v7, v8⟩ := Eg9.out.free; clear hbox hb hg_; ) | ((with_reducible refine gate_store (t := 26) (p := 9) rfl ?_); refine ev_store (w1 := (((((((((wi.setCell ⟨g9, 0, none⟩ (.int .i64 1)).setCell ⟨g9, 1, none⟩ (.int .i64 0)).setCell ⟨g9, 2, none⟩ (.string (⟨#[]⟩ : ByteArray))).setCell ⟨g9, 3, none⟩ (.int .i64 0)).setCell ⟨g9, 4, none⟩ (.int .i64 0)).setCell ⟨g9, 5, none⟩ (.string (⟨#[]⟩ : ByteArray))).setCell ⟨g9, 6, none⟩ (.int .i64 0)).setCell ⟨g9, 7, none⟩ (.int .i64 0)).setCell ⟨g9, 8, none⟩ (.slice none 0 0))) ?hg ?hn ?hr ?_; (case hg => rfl); (case hn => rfl); (case hr => first | (go_simp; done) | (go_simp; rfl)); intro wj hW_; have HW9 := Aside0.mk hW_; clear hW_; clear u0 u1 u2 u3 u4 u5 u6 u7 u8 v0 v1 v2 v3 v4 v5 v6 v7 v8; have HL7 := Aside0.mk (show g7 < wh.heap.size from blk_lt HH7.out); have N29 := Aside0.mk (show g2 ≠ g9 from by have := QF2.out.lt; have := Bg7.out.size; have := HS7.out; have := Gg9.out; omega); have HG9 := Aside0.mk (show w.heap.size ≤ g9 from by have := HG7.out; have := HL7.out; have := Gg9.out; omega); have N49 := Aside0.mk (show g4 ≠ g9 from by have := blk_lt QF4.out; have := Bg7.out.size; have := HS7.out; have := Gg9.out; omega); have N27 := Aside0.mk (show g2 ≠ g7 from by have := QF2.out.lt; have := Gg7.out; omega); have N47 := Aside0.mk (show g4 ≠ g7 from by have := blk_lt QF4.out; have := Gg7.out; omega); have N79 := Aside0.mk (show g7 ≠ g9 from by have := HL7.out; have := Gg9.out; omega); have NL7 := Aside0.mk (show gl ≠ g7 from by have := QFT.out.lt; have := Gg7.out; omega); have NL9 := Aside0.mk (show gl ≠ g9 from by have := QFT.out.lt; have := Bg7.out.size; have := HS7.out; have := Gg9.out; omega); have K0 := Aside0.mk (show Tk w wj g2 g4 g7 g9 gl 1 (c + 1) 1 [x0] false ⟨1, 0, ⟨#[]⟩, 0, 0, ⟨#[]⟩, 0, 0, none, 0, 0⟩ from by rw [HW9.out]; exact ⟨(w9_other N29.out ⟨1, 0, ⟨#[]⟩, 0, 0, ⟨#[]⟩, 0, 0, none, 0, 0⟩).trans ((Bg9.out.block g2 (by have := QF2.out.lt; have := Bg7.out.size; have := HS7.out; omega)).trans ((HK7.out g2 N27.out).trans ((Bg7.out.block g2 QF2.out.lt).trans QF2.out))), (w9_other N49.out ⟨1, 0, ⟨#[]⟩, 0, 0, ⟨#[]⟩, 0, 0, none, 0, 0⟩).trans ((Bg9.out.block g4 (by have := blk_lt QF4.out; have := Bg7.out.size; have := HS7.out; omega)).trans ((HK7.out g4 N47.out).trans ((Bg7.out.block g4 (blk_lt QF4.out)).trans QF4.out))), (w9_other N79.out ⟨1, 0, ⟨#[]⟩, 0, 0, ⟨#[]⟩, 0, 0, none, 0, 0⟩).trans ((Bg9.out.block g7 HL7.out).trans HH7.out), EB.put Eg9.out ⟨1, 0, ⟨#[]⟩, 0, 0, ⟨#[]⟩, 0, 0, none, 0, 0⟩, QFT.out.move ((w9_other NL9.out ⟨1, 0, ⟨#[]⟩, 0, 0, ⟨#[]⟩, 0, 0, none, 0, 0⟩).trans ((Bg9.out.block gl (by have := QFT.out.lt; have := Bg7.out.size; have := HS7.out; omega)).trans ((HK7.out gl NL7.out).trans (Bg7.out.block gl QFT.out.lt)))), N29.out, w9_below (below_all_ HB7.out Bg9.out) HG9.out ⟨1, 0, ⟨#[]⟩, 0, 0, ⟨#[]⟩, 0, 0, none, 0, 0⟩, HG2.out, HG7.out, HG9.out⟩); clear HW9))
        go_at_call 28
        with_reducible refine Calls.mono (show Calls Try.prog 28 #[.int .i64 0, .pointer (some ⟨g4, 0, none⟩), .pointer (some ⟨g7, 0, none⟩)] wj (fun x_ w' => x_ = .returned (.int .i64 (pv x0)) ∧ Tk w w' g2 g4 g7 g9 gl 1 (c + 1) 1 [x0] (false || !pk x0) ⟨1, 0, ⟨#[]⟩, 0, 0, ⟨#[]⟩, 0, 0, none, 0, 0⟩ ∧ (∀ base v L, OwnL wj base v L → OwnL w' base v L)) from K0.out.numi rfl (by decide) 0 0 rfl x0 rfl) ?_
        rintro _ wk ⟨rfl, hk_, -⟩
        obtain ⟨wv, hwv⟩ : ∃ wv, wv = (false || !pk x0) := ⟨_, rfl⟩
        have HRR := Aside0.mk (show R = if wv = true then (z26, 2) else (⟨1, pv x0, ⟨#[]⟩, 0, 0, ⟨⟨#[]⟩, 0, 0⟩, []⟩, 0) from by rw [HR.out, ← HKN.out, hwv]; exact kind_1 x0)
        rw [← hwv] at hk_
        have K1 := Aside0.mk hk_
        clear hk_ hwv
        cases wv
        · skip
          obtain ⟨u0, u1, u2, u3, u4, u5, u6, u7, u8⟩ := K1.out.e9.cells; dsimp only at u0 u1 u2 u3 u4 u5 u6 u7 u8; obtain ⟨v0, v1, v2, v3, v4, v5, v6, v7, v8⟩ := K1.out.e9.free; obtain ⟨p0, p1, p2, p3, p4, p5, p6, p7, p8⟩ := (show EB _ g2 ⟨0, 0, ⟨#[]⟩, 0, 0, ⟨#[]⟩, 0, 0, none, 0, 0⟩ from K1.out.e2).cells; dsimp only at p0 p1 p2 p3 p4 p5 p6 p7 p8; obtain ⟨r0, r1, r2, r3, r4, r5, r6, r7, r8⟩ := K1.out.e2.free
          have c7 := (blk_cell K1.out.b7 0).trans rfl
          go_wp2_with (first | ((with_reducible refine gate_store (t := 3) (p := 51) rfl ?_); refine ev_store (w1 := wk.setCell ⟨g9, 1, none⟩ (.int .i64 (pv x0))) ?hg ?hn ?hr ?_; (case hg => rfl); (case hn => rfl); (case hr => first | (go_simp; done) | (go_simp; rfl)); intro wl hW_; have Hwl := Aside0.mk hW_; clear hW_; clear u0 u1 u2 u3 u4 u5 u6 u7 u8 v0 v1 v2 v3 v4 v5 v6 v7 v8 p0 p1 p2 p3 p4 p5 p6 p7 p8 r0 r1 r2 r3 r4 r5 r6 r7 r8; clear c7; have K2 := Aside0.mk (show Tk w wl g2 g4 g7 g9 gl 1 (c + 1) 1 [x0] false ⟨1, pv x0, ⟨#[]⟩, 0, 0, ⟨#[]⟩, 0, 0, none, 0, 0⟩ from by rw [Hwl.out]; exact K1.out.setH (pv x0)); clear Hwl; obtain ⟨u0, u1, u2, u3, u4, u5, u6, u7, u8⟩ := K2.out.e9.cells; dsimp only at u0 u1 u2 u3 u4 u5 u6 u7 u8; obtain ⟨v0, v1, v2, v3, v4, v5, v6, v7, v8⟩ := K2.out.e9.free; obtain ⟨p0, p1, p2, p3, p4, p5, p6, p7, p8⟩ := (show EB _ g2 ⟨0, 0, ⟨#[]⟩, 0, 0, ⟨#[]⟩, 0, 0, none, 0, 0⟩ from K2.out.e2).cells; dsimp only at p0 p1 p2 p3 p4 p5 p6 p7 p8; obtain ⟨r0, r1, r2, r3, r4, r5, r6, r7, r8⟩ := K2.out.e2.free; have c7 := (blk_cell K2.out.b7 0).trans rfl) | ((with_reducible refine gate_store (t := 26) (p := 2) rfl ?_); refine ev_store (w1 := (((((((((wl.setCell ⟨g2, 0, none⟩ (.int .i64 1)).setCell ⟨g2, 1, none⟩ (.int .i64 (pv x0))).setCell ⟨g2, 2, none⟩ (.string (⟨#[]⟩ : ByteArray))).setCell ⟨g2, 3, none⟩ (.int .i64 (0))).setCell ⟨g2, 4, none⟩ (.int .i64 (0))).setCell ⟨g2, 5, none⟩ (.string (⟨#[]⟩ : ByteArray))).setCell ⟨g2, 6, none⟩ (.int .i64 (0))).setCell ⟨g2, 7, none⟩ (.int .i64 (0))).setCell ⟨g2, 8, none⟩ (.slice none 0 0))) ?hg ?hn ?hr ?_; (case hg => rfl); (case hn => rfl); (case hr => first | (go_simp; done) | (go_simp; rfl)); intro wz hW_; have HWZ := Aside0.mk hW_; clear hW_; clear p0 p1 p2 p3 p4 p5 p6 p7 p8 r0 r1 r2 r3 r4 r5 r6 r7 r8))
          have EZ := Aside0.mk (show EB wz g2 ⟨1, pv x0, ⟨#[]⟩, 0, 0, ⟨#[]⟩, 0, 0, none, 0, 0⟩ from by rw [HWZ.out]; exact EB.put K2.out.e2 ⟨1, pv x0, ⟨#[]⟩, 0, 0, ⟨#[]⟩, 0, 0, none, 0, 0⟩)
          have hB_ : Below w.heap.size w wz := by rw [HWZ.out]; exact w9_below K2.out.b HG2.out ⟨1, pv x0, ⟨#[]⟩, 0, 0, ⟨#[]⟩, 0, 0, none, 0, 0⟩
          refine bodyPost_ret (results_ct rfl _ _ g2 26 #[.int .i64 1, .int .i64 (pv x0), .string (⟨#[]⟩ : ByteArray), .int .i64 (0), .int .i64 (0), .string (⟨#[]⟩ : ByteArray), .int .i64 (0), .int .i64 (0), .slice none 0 0] (0, 0) _ rfl EZ.out Try.underlying26 rfl (by kernel_rfl)) rfl ?_
          have hR_ : R = (⟨1, pv x0, ⟨#[]⟩, 0, 0, ⟨⟨#[]⟩, 0, 0⟩, []⟩, 0) := by rw [HRR.out]; rfl
          rw [hR_]
          exact ⟨none, 0, rfl, Nat.le_refl _, c43_nil _, hB_⟩
        · skip
          obtain ⟨u0, u1, u2, u3, u4, u5, u6, u7, u8⟩ := K1.out.e9.cells; dsimp only at u0 u1 u2 u3 u4 u5 u6 u7 u8; obtain ⟨v0, v1, v2, v3, v4, v5, v6, v7, v8⟩ := K1.out.e9.free; obtain ⟨p0, p1, p2, p3, p4, p5, p6, p7, p8⟩ := (show EB _ g2 ⟨0, 0, ⟨#[]⟩, 0, 0, ⟨#[]⟩, 0, 0, none, 0, 0⟩ from K1.out.e2).cells; dsimp only at p0 p1 p2 p3 p4 p5 p6 p7 p8; obtain ⟨r0, r1, r2, r3, r4, r5, r6, r7, r8⟩ := K1.out.e2.free
          have c7 := (blk_cell K1.out.b7 0).trans rfl
          go_wp2_with (first | ((with_reducible refine gate_store (t := 3) (p := 51) rfl ?_); refine ev_store (w1 := wk.setCell ⟨g9, 1, none⟩ (.int .i64 (pv x0))) ?hg ?hn ?hr ?_; (case hg => rfl); (case hn => rfl); (case hr => first | (go_simp; done) | (go_simp; rfl)); intro wl hW_; have Hwl := Aside0.mk hW_; clear hW_; clear u0 u1 u2 u3 u4 u5 u6 u7 u8 v0 v1 v2 v3 v4 v5 v6 v7 v8 p0 p1 p2 p3 p4 p5 p6 p7 p8 r0 r1 r2 r3 r4 r5 r6 r7 r8; clear c7; have K2 := Aside0.mk (show Tk w wl g2 g4 g7 g9 gl 1 (c + 1) 1 [x0] true ⟨1, pv x0, ⟨#[]⟩, 0, 0, ⟨#[]⟩, 0, 0, none, 0, 0⟩ from by rw [Hwl.out]; exact K1.out.setH (pv x0)); clear Hwl; obtain ⟨u0, u1, u2, u3, u4, u5, u6, u7, u8⟩ := K2.out.e9.cells; dsimp only at u0 u1 u2 u3 u4 u5 u6 u7 u8; obtain ⟨v0, v1, v2, v3, v4, v5, v6, v7, v8⟩ := K2.out.e9.free; obtain ⟨p0, p1, p2, p3, p4, p5, p6, p7, p8⟩ := (show EB _ g2 ⟨0, 0, ⟨#[]⟩, 0, 0, ⟨#[]⟩, 0, 0, none, 0, 0⟩ from K2.out.e2).cells; dsimp only at p0 p1 p2 p3 p4 p5 p6 p7 p8; obtain ⟨r0, r1, r2, r3, r4, r5, r6, r7, r8⟩ := K2.out.e2.free; have c7 := (blk_cell K2.out.b7 0).trans rfl) | ((with_reducible refine gate_store (t := 26) (p := 2) rfl ?_); refine ev_store (w1 := (((((((((wl.setCell ⟨g2, 0, none⟩ (.int .i64 0)).setCell ⟨g2, 1, none⟩ (.int .i64 0)).setCell ⟨g2, 2, none⟩ (.string (⟨#[]⟩ : ByteArray))).setCell ⟨g2, 3, none⟩ (.int .i64 0)).setCell ⟨g2, 4, none⟩ (.int .i64 0)).setCell ⟨g2, 5, none⟩ (.string (⟨#[]⟩ : ByteArray))).setCell ⟨g2, 6, none⟩ (.int .i64 0)).setCell ⟨g2, 7, none⟩ (.int .i64 0)).setCell ⟨g2, 8, none⟩ (.slice none 0 0))) ?hg ?hn ?hr ?_; (case hg => rfl); (case hn => rfl); (case hr => first | (go_simp; done) | (go_simp; rfl)); intro wz hW_; have HWZ := Aside0.mk hW_; clear hW_; clear p0 p1 p2 p3 p4 p5 p6 p7 p8 r0 r1 r2 r3 r4 r5 r6 r7 r8))
          have EZ := Aside0.mk (show EB wz g2 Ec.z from by rw [HWZ.out]; exact EB.put K2.out.e2 Ec.z)
          have hB_ : Below w.heap.size w wz := by rw [HWZ.out]; exact w9_below K2.out.b HG2.out Ec.z
          refine bodyPost_ret (results_ct rfl _ _ g2 26 #[.int .i64 0, .int .i64 0, .string (⟨#[]⟩ : ByteArray), .int .i64 0, .int .i64 0, .string (⟨#[]⟩ : ByteArray), .int .i64 0, .int .i64 0, .slice none 0 0] (0, 0) _ rfl EZ.out Try.underlying26 rfl (by kernel_rfl)) rfl ?_
          have hR_ : R = (z26, 2) := by rw [HRR.out]; rfl
          rw [hR_]
          exact ⟨none, 0, rfl, Nat.le_refl _, c43_nil _, hB_⟩
      · skip
        have hm1 : m = 2 := by simpa [fitsP] using HFT.out
        subst hm1
        obtain ⟨x0, x1, rfl⟩ := len2 HM.out.symm
        obtain ⟨c, rfl⟩ : ∃ c, cc = c + 1 := ⟨cc - 1, by have := HC1.out; omega⟩
        go_wp2_with (first | ((with_reducible refine gate_store (t := 45) (p := 4) rfl ?_); refine ev_store (w1 := wc.setCell ⟨g4, 0, none⟩ (.slice (some ⟨gl, 1, none⟩) 2 (c + 1))) ?hg ?hn ?hr ?_; (case hg => rfl); (case hn => rfl); (case hr => first | (go_simp; done) | (go_simp; rfl)); intro wd_ hW_; have HW7 := Aside0.mk hW_; clear hW_; clear c4 f4; have Q4 := Aside0.mk (show wd_.heap[g4]? = some (.cells #[.slice (some ⟨gl, 1, none⟩) 2 (c + 1)] 45 (0, 0)) from by rw [HW7.out]; exact blk_put D4wc.out 0 _ rfl); have Q2 := Aside0.mk (show EB wd_ g2 ⟨0, 0, ⟨#[]⟩, 0, 0, ⟨#[]⟩, 0, 0, none, 0, 0⟩ from by rw [HW7.out]; exact D2wc.out.other N24.out _); have QB := Aside0.mk (show Below w.heap.size w wd_ from by rw [HW7.out]; exact ev_below_set BDwc.out HG4.out); have c4 : wd_.cell? ⟨g4, 0, none⟩ = some (.slice (some ⟨gl, 1, none⟩) 2 (c + 1)) := (blk_cell Q4.out 0).trans rfl; have QT := Aside0.mk (show TxB wd_ gl 1 [x0, x1] from by rw [HW7.out]; exact (DTwc.out.set D4wc.out (by decide) _).tail); clear HW7) | (go_at_call 27; (with_reducible refine Calls.mono (fits_i 2 2 2 2 (by decide) (by decide) (by decide) (by decide) true (HFT.out) _) ?_); rintro _ wf ⟨rfl, hb⟩; have QF4 := Aside0.mk ((hb.block g4 (blk_lt Q4.out)).trans Q4.out); have QF2 := Aside0.mk (Q2.out.below hb); have QFB := Aside0.mk (below_all_ QB.out hb); have QFT := Aside0.mk (QT.out.below hb); clear hb c4) | ((with_reducible refine gate_dst (N := 7) rfl ?_); refine box_event ?hg (N := 7) ?hd (cs := #[.bool false]) (t := 4) ?hr ?_; (case hd => rfl); (case hg => rfl); (case hr => first | (go_simp; done) | (go_simp; rfl)); intro g7 hg_ wg hbox hb; have Gg7 := Aside0.mk hg_; have Eg7 := Aside0.mk hbox; have Bg7 := Aside0.mk hb; have c70 := (blk_cell hbox 0).trans rfl; have f70 := blk_frozen hbox 0; clear hbox hb hg_; ) | ((with_reducible refine gate_store (t := 4) (p := 7) rfl ?_); refine ev_store (w1 := wg.setCell ⟨g7, 0, none⟩ (.bool false)) ?hg ?hn ?hr ?_; (case hg => rfl); (case hn => rfl); (case hr => first | (go_simp; done) | (go_simp; rfl)); intro wh hW_; clear c70 f70; have HH7 := Aside0.mk (show wh.heap[g7]? = some (.cells #[.bool false] 4 (0, 0)) from by rw [hW_]; exact blk_put Eg7.out 0 _ rfl); have HK7 := Aside0.mk (show ∀ q, q ≠ g7 → wh.heap[q]? = wg.heap[q]? from fun q hq => by rw [hW_]; exact heap_other hq _); have HS7 := Aside0.mk (show wh.heap.size = wg.heap.size from by rw [hW_]; simp); have HG7 := Aside0.mk (show w.heap.size ≤ g7 from by have := QFB.out.size; have := Gg7.out; omega); have HB7 := Aside0.mk (show Below w.heap.size w wh from by rw [hW_]; exact ev_below_set (below_all_ QFB.out Bg7.out) HG7.out); clear hW_) | ((with_reducible refine gate_dst (N := 9) rfl ?_); refine box_event ?hg (N := 9) ?hd (cs := #[.int .i64 0, .int .i64 0, .string (⟨#[]⟩ : ByteArray), .int .i64 0, .int .i64 0, .string (⟨#[]⟩ : ByteArray), .int .i64 0, .int .i64 0, .slice none 0 0]) (t := 26) ?hr ?_; (case hd => rfl); (case hg => rfl); (case hr => first | (go_simp; done) | (go_simp; rfl)); intro g9 hg_ wi hbox hb; have Gg9 := Aside0.mk hg_; have Eg9 := Aside0.mk (show EB wi g9 ⟨0, 0, ⟨#[]⟩, 0, 0, ⟨#[]⟩, 0, 0, none, 0, 0⟩ from hbox); have Bg9 := Aside0.mk hb; obtain ⟨u0, u1, u2, u3, u4, u5, u6, u7, u8⟩ := Eg9.out.cells; dsimp only at u0 u1 u2 u3 u4 u5 u6 u7 u8; obtain ⟨v0, v1, v2, v3, v4, v5, v6, v7, v8⟩ := Eg9.out.free; clear hbox hb hg_; ) | ((with_reducible refine gate_store (t := 26) (p := 9) rfl ?_); refine ev_store (w1 := (((((((((wi.setCell ⟨g9, 0, none⟩ (.int .i64 2)).setCell ⟨g9, 1, none⟩ (.int .i64 0)).setCell ⟨g9, 2, none⟩ (.string (⟨#[]⟩ : ByteArray))).setCell ⟨g9, 3, none⟩ (.int .i64 0)).setCell ⟨g9, 4, none⟩ (.int .i64 0)).setCell ⟨g9, 5, none⟩ (.string (⟨#[]⟩ : ByteArray))).setCell ⟨g9, 6, none⟩ (.int .i64 0)).setCell ⟨g9, 7, none⟩ (.int .i64 0)).setCell ⟨g9, 8, none⟩ (.slice none 0 0))) ?hg ?hn ?hr ?_; (case hg => rfl); (case hn => rfl); (case hr => first | (go_simp; done) | (go_simp; rfl)); intro wj hW_; have HW9 := Aside0.mk hW_; clear hW_; clear u0 u1 u2 u3 u4 u5 u6 u7 u8 v0 v1 v2 v3 v4 v5 v6 v7 v8; have HL7 := Aside0.mk (show g7 < wh.heap.size from blk_lt HH7.out); have N29 := Aside0.mk (show g2 ≠ g9 from by have := QF2.out.lt; have := Bg7.out.size; have := HS7.out; have := Gg9.out; omega); have HG9 := Aside0.mk (show w.heap.size ≤ g9 from by have := HG7.out; have := HL7.out; have := Gg9.out; omega); have N49 := Aside0.mk (show g4 ≠ g9 from by have := blk_lt QF4.out; have := Bg7.out.size; have := HS7.out; have := Gg9.out; omega); have N27 := Aside0.mk (show g2 ≠ g7 from by have := QF2.out.lt; have := Gg7.out; omega); have N47 := Aside0.mk (show g4 ≠ g7 from by have := blk_lt QF4.out; have := Gg7.out; omega); have N79 := Aside0.mk (show g7 ≠ g9 from by have := HL7.out; have := Gg9.out; omega); have NL7 := Aside0.mk (show gl ≠ g7 from by have := QFT.out.lt; have := Gg7.out; omega); have NL9 := Aside0.mk (show gl ≠ g9 from by have := QFT.out.lt; have := Bg7.out.size; have := HS7.out; have := Gg9.out; omega); have K0 := Aside0.mk (show Tk w wj g2 g4 g7 g9 gl 1 (c + 1) 2 [x0, x1] false ⟨2, 0, ⟨#[]⟩, 0, 0, ⟨#[]⟩, 0, 0, none, 0, 0⟩ from by rw [HW9.out]; exact ⟨(w9_other N29.out ⟨2, 0, ⟨#[]⟩, 0, 0, ⟨#[]⟩, 0, 0, none, 0, 0⟩).trans ((Bg9.out.block g2 (by have := QF2.out.lt; have := Bg7.out.size; have := HS7.out; omega)).trans ((HK7.out g2 N27.out).trans ((Bg7.out.block g2 QF2.out.lt).trans QF2.out))), (w9_other N49.out ⟨2, 0, ⟨#[]⟩, 0, 0, ⟨#[]⟩, 0, 0, none, 0, 0⟩).trans ((Bg9.out.block g4 (by have := blk_lt QF4.out; have := Bg7.out.size; have := HS7.out; omega)).trans ((HK7.out g4 N47.out).trans ((Bg7.out.block g4 (blk_lt QF4.out)).trans QF4.out))), (w9_other N79.out ⟨2, 0, ⟨#[]⟩, 0, 0, ⟨#[]⟩, 0, 0, none, 0, 0⟩).trans ((Bg9.out.block g7 HL7.out).trans HH7.out), EB.put Eg9.out ⟨2, 0, ⟨#[]⟩, 0, 0, ⟨#[]⟩, 0, 0, none, 0, 0⟩, QFT.out.move ((w9_other NL9.out ⟨2, 0, ⟨#[]⟩, 0, 0, ⟨#[]⟩, 0, 0, none, 0, 0⟩).trans ((Bg9.out.block gl (by have := QFT.out.lt; have := Bg7.out.size; have := HS7.out; omega)).trans ((HK7.out gl NL7.out).trans (Bg7.out.block gl QFT.out.lt)))), N29.out, w9_below (below_all_ HB7.out Bg9.out) HG9.out ⟨2, 0, ⟨#[]⟩, 0, 0, ⟨#[]⟩, 0, 0, none, 0, 0⟩, HG2.out, HG7.out, HG9.out⟩); clear HW9))
        refine region_drew (fun W_ => W_.heap[g4]? = some (.cells #[.slice (some ⟨gl, 1, none⟩) 2 (c + 1)] 45 (0, 0)) ∧ TxB W_ gl 1 [x0, x1]) (by kernel_rfl) (fun d1_ hd1 he1 => ?_)
        have K0d := Aside0.mk (K0.out.below hd1)
        clear hd1 he1
        refine ⟨⟨K0d.out.b4, K0d.out.tx⟩, fun hHeld => ?_⟩
        refine wpAnyH_take (i := 0) (v := .func (.func 28) #[] #[.pointer (some ⟨g4, 0, none⟩), .pointer (some ⟨g7, 0, none⟩)]) rfl (by kernel_rfl) (by kernel_rfl) (by kernel_rfl) (fun _ _ _ h => h) (Or.inl ⟨by kernel_rfl, ?_⟩) (by assumption) ?_
        · intro W_ hSw
          obtain ⟨hs1, hs2⟩ := hSw
          have q1 := (blk_cell hs1 0).trans rfl
          have q2 : W_.cell? ⟨gl, 2, none⟩ = some (.string x1) := hs2.at 1 (by simp)
          clear hs1 hs2
          skip
          first | (go_simp; done) | (go_simp; with_reducible rfl) | (go_simp; rfl)
        refine wpAnyH_take (i := 2) (v := .slice (some ⟨gl, 1, none⟩) 2 (c + 1)) rfl (by kernel_rfl) (by kernel_rfl) (by kernel_rfl) (fun _ _ _ h => h) (Or.inl ⟨by kernel_rfl, ?_⟩) (by assumption) ?_
        · intro W_ hSw
          obtain ⟨hs1, hs2⟩ := hSw
          have q1 := (blk_cell hs1 0).trans rfl
          have q2 : W_.cell? ⟨gl, 2, none⟩ = some (.string x1) := hs2.at 1 (by simp)
          clear hs1 hs2
          skip
          first | (go_simp; done) | (go_simp; with_reducible rfl) | (go_simp; rfl)
        refine wpAnyH_take (i := 3) (v := .pointer (some ⟨gl, 2, none⟩)) rfl (by kernel_rfl) (by kernel_rfl) (by kernel_rfl) (fun _ _ _ h => h) (Or.inl ⟨by kernel_rfl, ?_⟩) (by assumption) ?_
        · intro W_ hSw
          obtain ⟨hs1, hs2⟩ := hSw
          have q1 := (blk_cell hs1 0).trans rfl
          have q2 : W_.cell? ⟨gl, 2, none⟩ = some (.string x1) := hs2.at 1 (by simp)
          clear hs1 hs2
          skip
          first | (go_simp; done) | (go_simp; with_reducible rfl) | (go_simp; rfl)
        refine wpAnyH_take (i := 4) (v := .string x1) rfl (by kernel_rfl) (by kernel_rfl) (by kernel_rfl) (fun _ _ _ h => h) (Or.inl ⟨by kernel_rfl, ?_⟩) (by assumption) ?_
        · intro W_ hSw
          obtain ⟨hs1, hs2⟩ := hSw
          have q1 := (blk_cell hs1 0).trans rfl
          have q2 : W_.cell? ⟨gl, 2, none⟩ = some (.string x1) := hs2.at 1 (by simp)
          clear hs1 hs2
          skip
          first | (go_simp; done) | (go_simp; with_reducible rfl) | (go_simp; rfl)
        try simp only [Act.put, List.getElem_toArray, List.getElem_cons_succ, List.getElem_cons_zero, List.setIfInBounds_toArray, List.set_cons_zero, List.set_cons_succ]
        clear hHeld
        refine next_le (i := 1) (rs := []) (by kernel_rfl) ?_
        refine cons_callC 1 (N := 55) (c := 54) (xs := #[.const (.int .i64 0)]) (ts := #[3]) (by kernel_rfl) Try.func28 (by kernel_rfl) rfl #[.pointer (some ⟨g4, 0, none⟩), .pointer (some ⟨g7, 0, none⟩)] (by kernel_rfl) #[.int .i64 0] (by kernel_rfl) ?_ AllReadyH.nil
        with_reducible refine Calls.mono (K0d.out.numA rfl (by decide) 0 0 rfl x0 rfl) ?_
        rintro _ wk1 ⟨rfl, hk_, -⟩
        have Kc1 := Aside0.mk hk_
        clear hk_
        refine ⟨_, rfl, ⟨Kc1.out.b4, Kc1.out.tx⟩, ?_⟩
        try simp only [Act.put, List.getElem_toArray, List.getElem_cons_succ, List.getElem_cons_zero, List.setIfInBounds_toArray, List.set_cons_zero, List.set_cons_succ]
        obtain ⟨wv, hwv⟩ : ∃ wv, wv = (false || !pk x0) := ⟨_, rfl⟩
        have HRR := Aside0.mk (show R = if wv = true then (z26, 2) else (⟨2, pv x0, x1, 0, 0, ⟨⟨#[]⟩, 0, 0⟩, []⟩, 0) from by rw [HR.out, ← HKN.out, hwv]; exact kind_2 x0 x1)
        have Kw := Aside0.mk (show Tk w wk1 g2 g4 g7 g9 gl 1 (c + 1) 2 [x0, x1] wv ⟨2, 0, ⟨#[]⟩, 0, 0, ⟨#[]⟩, 0, 0, none, 0, 0⟩ from by rw [hwv]; exact Kc1.out)
        clear hwv
        have hHeld : wk1.heap[g4]? = some (.cells #[.slice (some ⟨gl, 1, none⟩) 2 (c + 1)] 45 (0, 0)) ∧ TxB wk1 gl 1 [x0, x1] := ⟨Kw.out.b4, Kw.out.tx⟩
        refine wpAnyH_take (i := 5) (v := .pointer (some ⟨g9, 1, none⟩)) rfl (by kernel_rfl) (by kernel_rfl) (by kernel_rfl) (fun _ _ _ h => h) (Or.inl ⟨by kernel_rfl, ?_⟩) (by assumption) ?_
        · intro W_ hSw
          obtain ⟨hs1, hs2⟩ := hSw
          have q1 := (blk_cell hs1 0).trans rfl
          have q2 : W_.cell? ⟨gl, 2, none⟩ = some (.string x1) := hs2.at 1 (by simp)
          clear hs1 hs2
          skip
          first | (go_simp; done) | (go_simp; with_reducible rfl) | (go_simp; rfl)
        try simp only [Act.put, List.getElem_toArray, List.getElem_cons_succ, List.getElem_cons_zero, List.setIfInBounds_toArray, List.set_cons_zero, List.set_cons_succ]
        clear hHeld
        refine next_le (i := 6) (rs := []) (by kernel_rfl) ?_
        refine cons_skip 6 (op := .store 3 (.tmp 59) (.tmp 55)) (wk1.setCell ⟨g9, 1, none⟩ (.int .i64 (pv x0))) (by kernel_rfl) (fun o ho => st_int _ o 59 55 ho (by kernel_rfl) (by kernel_rfl) Kw.out.e9.cells.2.1 Kw.out.e9.free.2.1) (fun ws6 hw_ => ?_) AllReadyH.nil
        have Ks6 := Aside0.mk (show Tk w ws6 g2 g4 g7 g9 gl 1 (c + 1) 2 [x0, x1] wv ⟨2, pv x0, ⟨#[]⟩, 0, 0, ⟨#[]⟩, 0, 0, none, 0, 0⟩ from by rw [hw_]; exact Kw.out.setH (pv x0))
        clear hw_
        refine ⟨⟨Ks6.out.b4, Ks6.out.tx⟩, ?_⟩
        have hHeld : ws6.heap[g4]? = some (.cells #[.slice (some ⟨gl, 1, none⟩) 2 (c + 1)] 45 (0, 0)) ∧ TxB ws6 gl 1 [x0, x1] := ⟨Ks6.out.b4, Ks6.out.tx⟩
        refine wpAnyH_take (i := 7) (v := .pointer (some ⟨g9, 2, none⟩)) rfl (by kernel_rfl) (by kernel_rfl) (by kernel_rfl) (fun _ _ _ h => h) (Or.inl ⟨by kernel_rfl, ?_⟩) (by assumption) ?_
        · intro W_ hSw
          obtain ⟨hs1, hs2⟩ := hSw
          have q1 := (blk_cell hs1 0).trans rfl
          have q2 : W_.cell? ⟨gl, 2, none⟩ = some (.string x1) := hs2.at 1 (by simp)
          clear hs1 hs2
          skip
          first | (go_simp; done) | (go_simp; with_reducible rfl) | (go_simp; rfl)
        try simp only [Act.put, List.getElem_toArray, List.getElem_cons_succ, List.getElem_cons_zero, List.setIfInBounds_toArray, List.set_cons_zero, List.set_cons_succ]
        clear hHeld
        refine next_le (i := 8) (rs := []) (by kernel_rfl) ?_
        refine cons_skip 8 (op := .store 9 (.tmp 60) (.tmp 58)) (ws6.setCell ⟨g9, 2, none⟩ (.string x1)) (by kernel_rfl) (fun o ho => st_str _ o 60 58 ho (by kernel_rfl) (by kernel_rfl) Ks6.out.e9.cells.2.2.1 Ks6.out.e9.free.2.2.1) (fun ws8 hw_ => ?_) AllReadyH.nil
        have Ks8 := Aside0.mk (show Tk w ws8 g2 g4 g7 g9 gl 1 (c + 1) 2 [x0, x1] wv ⟨2, pv x0, x1, 0, 0, ⟨#[]⟩, 0, 0, none, 0, 0⟩ from by rw [hw_]; exact Ks6.out.setS x1)
        clear hw_
        refine ⟨⟨Ks8.out.b4, Ks8.out.tx⟩, ?_⟩
        refine wpAnyH_done (by kernel_rfl) ?_ _
        cases wv
        · skip
          obtain ⟨u0, u1, u2, u3, u4, u5, u6, u7, u8⟩ := Ks8.out.e9.cells; dsimp only at u0 u1 u2 u3 u4 u5 u6 u7 u8; obtain ⟨v0, v1, v2, v3, v4, v5, v6, v7, v8⟩ := Ks8.out.e9.free; obtain ⟨p0, p1, p2, p3, p4, p5, p6, p7, p8⟩ := (show EB _ g2 ⟨0, 0, ⟨#[]⟩, 0, 0, ⟨#[]⟩, 0, 0, none, 0, 0⟩ from Ks8.out.e2).cells; dsimp only at p0 p1 p2 p3 p4 p5 p6 p7 p8; obtain ⟨r0, r1, r2, r3, r4, r5, r6, r7, r8⟩ := Ks8.out.e2.free
          have c7 := (blk_cell Ks8.out.b7 0).trans rfl
          go_wp2_with (first | ((with_reducible refine gate_store (t := 26) (p := 2) rfl ?_); refine ev_store (w1 := (((((((((ws8.setCell ⟨g2, 0, none⟩ (.int .i64 2)).setCell ⟨g2, 1, none⟩ (.int .i64 (pv x0))).setCell ⟨g2, 2, none⟩ (.string (x1 : ByteArray))).setCell ⟨g2, 3, none⟩ (.int .i64 (0))).setCell ⟨g2, 4, none⟩ (.int .i64 (0))).setCell ⟨g2, 5, none⟩ (.string (⟨#[]⟩ : ByteArray))).setCell ⟨g2, 6, none⟩ (.int .i64 (0))).setCell ⟨g2, 7, none⟩ (.int .i64 (0))).setCell ⟨g2, 8, none⟩ (.slice none 0 0))) ?hg ?hn ?hr ?_; (case hg => rfl); (case hn => rfl); (case hr => first | (go_simp; done) | (go_simp; rfl)); intro wz hW_; have HWZ := Aside0.mk hW_; clear hW_; clear p0 p1 p2 p3 p4 p5 p6 p7 p8 r0 r1 r2 r3 r4 r5 r6 r7 r8))
          have EZ := Aside0.mk (show EB wz g2 ⟨2, pv x0, x1, 0, 0, ⟨#[]⟩, 0, 0, none, 0, 0⟩ from by rw [HWZ.out]; exact EB.put Ks8.out.e2 ⟨2, pv x0, x1, 0, 0, ⟨#[]⟩, 0, 0, none, 0, 0⟩)
          have hB_ : Below w.heap.size w wz := by rw [HWZ.out]; exact w9_below Ks8.out.b HG2.out ⟨2, pv x0, x1, 0, 0, ⟨#[]⟩, 0, 0, none, 0, 0⟩
          refine bodyPost_ret (results_ct rfl _ _ g2 26 #[.int .i64 2, .int .i64 (pv x0), .string (x1 : ByteArray), .int .i64 (0), .int .i64 (0), .string (⟨#[]⟩ : ByteArray), .int .i64 (0), .int .i64 (0), .slice none 0 0] (0, 0) _ rfl EZ.out Try.underlying26 rfl (by kernel_rfl)) rfl ?_
          have hR_ : R = (⟨2, pv x0, x1, 0, 0, ⟨⟨#[]⟩, 0, 0⟩, []⟩, 0) := by rw [HRR.out]; rfl
          rw [hR_]
          exact ⟨none, 0, rfl, Nat.le_refl _, c43_nil _, hB_⟩
        · skip
          obtain ⟨u0, u1, u2, u3, u4, u5, u6, u7, u8⟩ := Ks8.out.e9.cells; dsimp only at u0 u1 u2 u3 u4 u5 u6 u7 u8; obtain ⟨v0, v1, v2, v3, v4, v5, v6, v7, v8⟩ := Ks8.out.e9.free; obtain ⟨p0, p1, p2, p3, p4, p5, p6, p7, p8⟩ := (show EB _ g2 ⟨0, 0, ⟨#[]⟩, 0, 0, ⟨#[]⟩, 0, 0, none, 0, 0⟩ from Ks8.out.e2).cells; dsimp only at p0 p1 p2 p3 p4 p5 p6 p7 p8; obtain ⟨r0, r1, r2, r3, r4, r5, r6, r7, r8⟩ := Ks8.out.e2.free
          have c7 := (blk_cell Ks8.out.b7 0).trans rfl
          go_wp2_with (first | ((with_reducible refine gate_store (t := 26) (p := 2) rfl ?_); refine ev_store (w1 := (((((((((ws8.setCell ⟨g2, 0, none⟩ (.int .i64 0)).setCell ⟨g2, 1, none⟩ (.int .i64 0)).setCell ⟨g2, 2, none⟩ (.string (⟨#[]⟩ : ByteArray))).setCell ⟨g2, 3, none⟩ (.int .i64 0)).setCell ⟨g2, 4, none⟩ (.int .i64 0)).setCell ⟨g2, 5, none⟩ (.string (⟨#[]⟩ : ByteArray))).setCell ⟨g2, 6, none⟩ (.int .i64 0)).setCell ⟨g2, 7, none⟩ (.int .i64 0)).setCell ⟨g2, 8, none⟩ (.slice none 0 0))) ?hg ?hn ?hr ?_; (case hg => rfl); (case hn => rfl); (case hr => first | (go_simp; done) | (go_simp; rfl)); intro wz hW_; have HWZ := Aside0.mk hW_; clear hW_; clear p0 p1 p2 p3 p4 p5 p6 p7 p8 r0 r1 r2 r3 r4 r5 r6 r7 r8))
          have EZ := Aside0.mk (show EB wz g2 Ec.z from by rw [HWZ.out]; exact EB.put Ks8.out.e2 Ec.z)
          have hB_ : Below w.heap.size w wz := by rw [HWZ.out]; exact w9_below Ks8.out.b HG2.out Ec.z
          refine bodyPost_ret (results_ct rfl _ _ g2 26 #[.int .i64 0, .int .i64 0, .string (⟨#[]⟩ : ByteArray), .int .i64 0, .int .i64 0, .string (⟨#[]⟩ : ByteArray), .int .i64 0, .int .i64 0, .slice none 0 0] (0, 0) _ rfl EZ.out Try.underlying26 rfl (by kernel_rfl)) rfl ?_
          have hR_ : R = (z26, 2) := by rw [HRR.out]; rfl
          rw [hR_]
          exact ⟨none, 0, rfl, Nat.le_refl _, c43_nil _, hB_⟩
      · skip
        have hm1 : m = 2 := by simpa [fitsP] using HFT.out
        subst hm1
        obtain ⟨x0, x1, rfl⟩ := len2 HM.out.symm
        obtain ⟨c, rfl⟩ : ∃ c, cc = c + 1 := ⟨cc - 1, by have := HC1.out; omega⟩
        go_wp2_with (first | ((with_reducible refine gate_store (t := 45) (p := 4) rfl ?_); refine ev_store (w1 := wc.setCell ⟨g4, 0, none⟩ (.slice (some ⟨gl, 1, none⟩) 2 (c + 1))) ?hg ?hn ?hr ?_; (case hg => rfl); (case hn => rfl); (case hr => first | (go_simp; done) | (go_simp; rfl)); intro wd_ hW_; have HW7 := Aside0.mk hW_; clear hW_; clear c4 f4; have Q4 := Aside0.mk (show wd_.heap[g4]? = some (.cells #[.slice (some ⟨gl, 1, none⟩) 2 (c + 1)] 45 (0, 0)) from by rw [HW7.out]; exact blk_put D4wc.out 0 _ rfl); have Q2 := Aside0.mk (show EB wd_ g2 ⟨0, 0, ⟨#[]⟩, 0, 0, ⟨#[]⟩, 0, 0, none, 0, 0⟩ from by rw [HW7.out]; exact D2wc.out.other N24.out _); have QB := Aside0.mk (show Below w.heap.size w wd_ from by rw [HW7.out]; exact ev_below_set BDwc.out HG4.out); have c4 : wd_.cell? ⟨g4, 0, none⟩ = some (.slice (some ⟨gl, 1, none⟩) 2 (c + 1)) := (blk_cell Q4.out 0).trans rfl; have QT := Aside0.mk (show TxB wd_ gl 1 [x0, x1] from by rw [HW7.out]; exact (DTwc.out.set D4wc.out (by decide) _).tail); clear HW7) | (go_at_call 27; (with_reducible refine Calls.mono (fits_i 3 2 3 2 (by decide) (by decide) (by decide) (by decide) true (HFT.out) _) ?_); rintro _ wf ⟨rfl, hb⟩; have QF4 := Aside0.mk ((hb.block g4 (blk_lt Q4.out)).trans Q4.out); have QF2 := Aside0.mk (Q2.out.below hb); have QFB := Aside0.mk (below_all_ QB.out hb); have QFT := Aside0.mk (QT.out.below hb); clear hb c4) | ((with_reducible refine gate_dst (N := 7) rfl ?_); refine box_event ?hg (N := 7) ?hd (cs := #[.bool false]) (t := 4) ?hr ?_; (case hd => rfl); (case hg => rfl); (case hr => first | (go_simp; done) | (go_simp; rfl)); intro g7 hg_ wg hbox hb; have Gg7 := Aside0.mk hg_; have Eg7 := Aside0.mk hbox; have Bg7 := Aside0.mk hb; have c70 := (blk_cell hbox 0).trans rfl; have f70 := blk_frozen hbox 0; clear hbox hb hg_; ) | ((with_reducible refine gate_store (t := 4) (p := 7) rfl ?_); refine ev_store (w1 := wg.setCell ⟨g7, 0, none⟩ (.bool false)) ?hg ?hn ?hr ?_; (case hg => rfl); (case hn => rfl); (case hr => first | (go_simp; done) | (go_simp; rfl)); intro wh hW_; clear c70 f70; have HH7 := Aside0.mk (show wh.heap[g7]? = some (.cells #[.bool false] 4 (0, 0)) from by rw [hW_]; exact blk_put Eg7.out 0 _ rfl); have HK7 := Aside0.mk (show ∀ q, q ≠ g7 → wh.heap[q]? = wg.heap[q]? from fun q hq => by rw [hW_]; exact heap_other hq _); have HS7 := Aside0.mk (show wh.heap.size = wg.heap.size from by rw [hW_]; simp); have HG7 := Aside0.mk (show w.heap.size ≤ g7 from by have := QFB.out.size; have := Gg7.out; omega); have HB7 := Aside0.mk (show Below w.heap.size w wh from by rw [hW_]; exact ev_below_set (below_all_ QFB.out Bg7.out) HG7.out); clear hW_) | ((with_reducible refine gate_dst (N := 9) rfl ?_); refine box_event ?hg (N := 9) ?hd (cs := #[.int .i64 0, .int .i64 0, .string (⟨#[]⟩ : ByteArray), .int .i64 0, .int .i64 0, .string (⟨#[]⟩ : ByteArray), .int .i64 0, .int .i64 0, .slice none 0 0]) (t := 26) ?hr ?_; (case hd => rfl); (case hg => rfl); (case hr => first | (go_simp; done) | (go_simp; rfl)); intro g9 hg_ wi hbox hb; have Gg9 := Aside0.mk hg_; have Eg9 := Aside0.mk (show EB wi g9 ⟨0, 0, ⟨#[]⟩, 0, 0, ⟨#[]⟩, 0, 0, none, 0, 0⟩ from hbox); have Bg9 := Aside0.mk hb; obtain ⟨u0, u1, u2, u3, u4, u5, u6, u7, u8⟩ := Eg9.out.cells; dsimp only at u0 u1 u2 u3 u4 u5 u6 u7 u8; obtain ⟨v0, v1, v2, v3, v4, v5, v6, v7, v8⟩ := Eg9.out.free; clear hbox hb hg_; ) | ((with_reducible refine gate_store (t := 26) (p := 9) rfl ?_); refine ev_store (w1 := (((((((((wi.setCell ⟨g9, 0, none⟩ (.int .i64 3)).setCell ⟨g9, 1, none⟩ (.int .i64 0)).setCell ⟨g9, 2, none⟩ (.string (⟨#[]⟩ : ByteArray))).setCell ⟨g9, 3, none⟩ (.int .i64 0)).setCell ⟨g9, 4, none⟩ (.int .i64 0)).setCell ⟨g9, 5, none⟩ (.string (⟨#[]⟩ : ByteArray))).setCell ⟨g9, 6, none⟩ (.int .i64 0)).setCell ⟨g9, 7, none⟩ (.int .i64 0)).setCell ⟨g9, 8, none⟩ (.slice none 0 0))) ?hg ?hn ?hr ?_; (case hg => rfl); (case hn => rfl); (case hr => first | (go_simp; done) | (go_simp; rfl)); intro wj hW_; have HW9 := Aside0.mk hW_; clear hW_; clear u0 u1 u2 u3 u4 u5 u6 u7 u8 v0 v1 v2 v3 v4 v5 v6 v7 v8; have HL7 := Aside0.mk (show g7 < wh.heap.size from blk_lt HH7.out); have N29 := Aside0.mk (show g2 ≠ g9 from by have := QF2.out.lt; have := Bg7.out.size; have := HS7.out; have := Gg9.out; omega); have HG9 := Aside0.mk (show w.heap.size ≤ g9 from by have := HG7.out; have := HL7.out; have := Gg9.out; omega); have N49 := Aside0.mk (show g4 ≠ g9 from by have := blk_lt QF4.out; have := Bg7.out.size; have := HS7.out; have := Gg9.out; omega); have N27 := Aside0.mk (show g2 ≠ g7 from by have := QF2.out.lt; have := Gg7.out; omega); have N47 := Aside0.mk (show g4 ≠ g7 from by have := blk_lt QF4.out; have := Gg7.out; omega); have N79 := Aside0.mk (show g7 ≠ g9 from by have := HL7.out; have := Gg9.out; omega); have NL7 := Aside0.mk (show gl ≠ g7 from by have := QFT.out.lt; have := Gg7.out; omega); have NL9 := Aside0.mk (show gl ≠ g9 from by have := QFT.out.lt; have := Bg7.out.size; have := HS7.out; have := Gg9.out; omega); have K0 := Aside0.mk (show Tk w wj g2 g4 g7 g9 gl 1 (c + 1) 2 [x0, x1] false ⟨3, 0, ⟨#[]⟩, 0, 0, ⟨#[]⟩, 0, 0, none, 0, 0⟩ from by rw [HW9.out]; exact ⟨(w9_other N29.out ⟨3, 0, ⟨#[]⟩, 0, 0, ⟨#[]⟩, 0, 0, none, 0, 0⟩).trans ((Bg9.out.block g2 (by have := QF2.out.lt; have := Bg7.out.size; have := HS7.out; omega)).trans ((HK7.out g2 N27.out).trans ((Bg7.out.block g2 QF2.out.lt).trans QF2.out))), (w9_other N49.out ⟨3, 0, ⟨#[]⟩, 0, 0, ⟨#[]⟩, 0, 0, none, 0, 0⟩).trans ((Bg9.out.block g4 (by have := blk_lt QF4.out; have := Bg7.out.size; have := HS7.out; omega)).trans ((HK7.out g4 N47.out).trans ((Bg7.out.block g4 (blk_lt QF4.out)).trans QF4.out))), (w9_other N79.out ⟨3, 0, ⟨#[]⟩, 0, 0, ⟨#[]⟩, 0, 0, none, 0, 0⟩).trans ((Bg9.out.block g7 HL7.out).trans HH7.out), EB.put Eg9.out ⟨3, 0, ⟨#[]⟩, 0, 0, ⟨#[]⟩, 0, 0, none, 0, 0⟩, QFT.out.move ((w9_other NL9.out ⟨3, 0, ⟨#[]⟩, 0, 0, ⟨#[]⟩, 0, 0, none, 0, 0⟩).trans ((Bg9.out.block gl (by have := QFT.out.lt; have := Bg7.out.size; have := HS7.out; omega)).trans ((HK7.out gl NL7.out).trans (Bg7.out.block gl QFT.out.lt)))), N29.out, w9_below (below_all_ HB7.out Bg9.out) HG9.out ⟨3, 0, ⟨#[]⟩, 0, 0, ⟨#[]⟩, 0, 0, none, 0, 0⟩, HG2.out, HG7.out, HG9.out⟩); clear HW9))
        go_at_call 28
        with_reducible refine Calls.mono (show Calls Try.prog 28 #[.int .i64 0, .pointer (some ⟨g4, 0, none⟩), .pointer (some ⟨g7, 0, none⟩)] wj (fun x_ w' => x_ = .returned (.int .i64 (pv x0)) ∧ Tk w w' g2 g4 g7 g9 gl 1 (c + 1) 2 [x0, x1] (false || !pk x0) ⟨3, 0, ⟨#[]⟩, 0, 0, ⟨#[]⟩, 0, 0, none, 0, 0⟩ ∧ (∀ base v L, OwnL wj base v L → OwnL w' base v L)) from K0.out.numi rfl (by decide) 0 0 rfl x0 rfl) ?_
        rintro _ wk ⟨rfl, hk_, -⟩
        have K1 := Aside0.mk hk_
        clear hk_
        go_wp2_with fail
        go_at_call 28
        with_reducible refine Calls.mono (show Calls Try.prog 28 #[.int .i64 1, .pointer (some ⟨g4, 0, none⟩), .pointer (some ⟨g7, 0, none⟩)] wk (fun x_ w' => x_ = .returned (.int .i64 (pv x1)) ∧ Tk w w' g2 g4 g7 g9 gl 1 (c + 1) 2 [x0, x1] ((false || !pk x0) || !pk x1) ⟨3, 0, ⟨#[]⟩, 0, 0, ⟨#[]⟩, 0, 0, none, 0, 0⟩ ∧ (∀ base v L, OwnL wk base v L → OwnL w' base v L)) from K1.out.numi rfl (by decide) 1 1 rfl x1 rfl) ?_
        rintro _ wk2 ⟨rfl, hk_, -⟩
        obtain ⟨wv, hwv⟩ : ∃ wv, wv = ((false || !pk x0) || !pk x1) := ⟨_, rfl⟩
        have HRR := Aside0.mk (show R = if wv = true then (z26, 2) else (⟨3, pv x0, ⟨#[]⟩, pv x1, 0, ⟨⟨#[]⟩, 0, 0⟩, []⟩, 0) from by rw [HR.out, ← HKN.out, hwv]; exact kind_3 x0 x1)
        rw [← hwv] at hk_
        have K1b := Aside0.mk hk_
        clear hk_ hwv
        cases wv
        · skip
          obtain ⟨u0, u1, u2, u3, u4, u5, u6, u7, u8⟩ := K1b.out.e9.cells; dsimp only at u0 u1 u2 u3 u4 u5 u6 u7 u8; obtain ⟨v0, v1, v2, v3, v4, v5, v6, v7, v8⟩ := K1b.out.e9.free; obtain ⟨p0, p1, p2, p3, p4, p5, p6, p7, p8⟩ := (show EB _ g2 ⟨0, 0, ⟨#[]⟩, 0, 0, ⟨#[]⟩, 0, 0, none, 0, 0⟩ from K1b.out.e2).cells; dsimp only at p0 p1 p2 p3 p4 p5 p6 p7 p8; obtain ⟨r0, r1, r2, r3, r4, r5, r6, r7, r8⟩ := K1b.out.e2.free
          have c7 := (blk_cell K1b.out.b7 0).trans rfl
          go_wp2_with (first | ((with_reducible refine gate_store (t := 3) (p := 67) rfl ?_); refine ev_store (w1 := wk2.setCell ⟨g9, 1, none⟩ (.int .i64 (pv x0))) ?hg ?hn ?hr ?_; (case hg => rfl); (case hn => rfl); (case hr => first | (go_simp; done) | (go_simp; rfl)); intro wl hW_; have Hwl := Aside0.mk hW_; clear hW_; clear u0 u1 u2 u3 u4 u5 u6 u7 u8 v0 v1 v2 v3 v4 v5 v6 v7 v8 p0 p1 p2 p3 p4 p5 p6 p7 p8 r0 r1 r2 r3 r4 r5 r6 r7 r8; clear c7; have K2 := Aside0.mk (show Tk w wl g2 g4 g7 g9 gl 1 (c + 1) 2 [x0, x1] false ⟨3, pv x0, ⟨#[]⟩, 0, 0, ⟨#[]⟩, 0, 0, none, 0, 0⟩ from by rw [Hwl.out]; exact K1b.out.setH (pv x0)); clear Hwl; obtain ⟨u0, u1, u2, u3, u4, u5, u6, u7, u8⟩ := K2.out.e9.cells; dsimp only at u0 u1 u2 u3 u4 u5 u6 u7 u8; obtain ⟨v0, v1, v2, v3, v4, v5, v6, v7, v8⟩ := K2.out.e9.free; obtain ⟨p0, p1, p2, p3, p4, p5, p6, p7, p8⟩ := (show EB _ g2 ⟨0, 0, ⟨#[]⟩, 0, 0, ⟨#[]⟩, 0, 0, none, 0, 0⟩ from K2.out.e2).cells; dsimp only at p0 p1 p2 p3 p4 p5 p6 p7 p8; obtain ⟨r0, r1, r2, r3, r4, r5, r6, r7, r8⟩ := K2.out.e2.free; have c7 := (blk_cell K2.out.b7 0).trans rfl) | ((with_reducible refine gate_store (t := 2) (p := 68) rfl ?_); refine ev_store (w1 := wl.setCell ⟨g9, 3, none⟩ (.int .i64 (pv x1))) ?hg ?hn ?hr ?_; (case hg => rfl); (case hn => rfl); (case hr => first | (go_simp; done) | (go_simp; rfl)); intro wm hW_; have Hwm := Aside0.mk hW_; clear hW_; clear u0 u1 u2 u3 u4 u5 u6 u7 u8 v0 v1 v2 v3 v4 v5 v6 v7 v8 p0 p1 p2 p3 p4 p5 p6 p7 p8 r0 r1 r2 r3 r4 r5 r6 r7 r8; clear c7; have K3 := Aside0.mk (show Tk w wm g2 g4 g7 g9 gl 1 (c + 1) 2 [x0, x1] false ⟨3, pv x0, ⟨#[]⟩, pv x1, 0, ⟨#[]⟩, 0, 0, none, 0, 0⟩ from by rw [Hwm.out]; exact K2.out.setN (pv x1)); clear Hwm; obtain ⟨u0, u1, u2, u3, u4, u5, u6, u7, u8⟩ := K3.out.e9.cells; dsimp only at u0 u1 u2 u3 u4 u5 u6 u7 u8; obtain ⟨v0, v1, v2, v3, v4, v5, v6, v7, v8⟩ := K3.out.e9.free; obtain ⟨p0, p1, p2, p3, p4, p5, p6, p7, p8⟩ := (show EB _ g2 ⟨0, 0, ⟨#[]⟩, 0, 0, ⟨#[]⟩, 0, 0, none, 0, 0⟩ from K3.out.e2).cells; dsimp only at p0 p1 p2 p3 p4 p5 p6 p7 p8; obtain ⟨r0, r1, r2, r3, r4, r5, r6, r7, r8⟩ := K3.out.e2.free; have c7 := (blk_cell K3.out.b7 0).trans rfl) | ((with_reducible refine gate_store (t := 26) (p := 2) rfl ?_); refine ev_store (w1 := (((((((((wm.setCell ⟨g2, 0, none⟩ (.int .i64 3)).setCell ⟨g2, 1, none⟩ (.int .i64 (pv x0))).setCell ⟨g2, 2, none⟩ (.string (⟨#[]⟩ : ByteArray))).setCell ⟨g2, 3, none⟩ (.int .i64 (pv x1))).setCell ⟨g2, 4, none⟩ (.int .i64 (0))).setCell ⟨g2, 5, none⟩ (.string (⟨#[]⟩ : ByteArray))).setCell ⟨g2, 6, none⟩ (.int .i64 (0))).setCell ⟨g2, 7, none⟩ (.int .i64 (0))).setCell ⟨g2, 8, none⟩ (.slice none 0 0))) ?hg ?hn ?hr ?_; (case hg => rfl); (case hn => rfl); (case hr => first | (go_simp; done) | (go_simp; rfl)); intro wz hW_; have HWZ := Aside0.mk hW_; clear hW_; clear p0 p1 p2 p3 p4 p5 p6 p7 p8 r0 r1 r2 r3 r4 r5 r6 r7 r8))
          have EZ := Aside0.mk (show EB wz g2 ⟨3, pv x0, ⟨#[]⟩, pv x1, 0, ⟨#[]⟩, 0, 0, none, 0, 0⟩ from by rw [HWZ.out]; exact EB.put K3.out.e2 ⟨3, pv x0, ⟨#[]⟩, pv x1, 0, ⟨#[]⟩, 0, 0, none, 0, 0⟩)
          have hB_ : Below w.heap.size w wz := by rw [HWZ.out]; exact w9_below K3.out.b HG2.out ⟨3, pv x0, ⟨#[]⟩, pv x1, 0, ⟨#[]⟩, 0, 0, none, 0, 0⟩
          refine bodyPost_ret (results_ct rfl _ _ g2 26 #[.int .i64 3, .int .i64 (pv x0), .string (⟨#[]⟩ : ByteArray), .int .i64 (pv x1), .int .i64 (0), .string (⟨#[]⟩ : ByteArray), .int .i64 (0), .int .i64 (0), .slice none 0 0] (0, 0) _ rfl EZ.out Try.underlying26 rfl (by kernel_rfl)) rfl ?_
          have hR_ : R = (⟨3, pv x0, ⟨#[]⟩, pv x1, 0, ⟨⟨#[]⟩, 0, 0⟩, []⟩, 0) := by rw [HRR.out]; rfl
          rw [hR_]
          exact ⟨none, 0, rfl, Nat.le_refl _, c43_nil _, hB_⟩
        · skip
          obtain ⟨u0, u1, u2, u3, u4, u5, u6, u7, u8⟩ := K1b.out.e9.cells; dsimp only at u0 u1 u2 u3 u4 u5 u6 u7 u8; obtain ⟨v0, v1, v2, v3, v4, v5, v6, v7, v8⟩ := K1b.out.e9.free; obtain ⟨p0, p1, p2, p3, p4, p5, p6, p7, p8⟩ := (show EB _ g2 ⟨0, 0, ⟨#[]⟩, 0, 0, ⟨#[]⟩, 0, 0, none, 0, 0⟩ from K1b.out.e2).cells; dsimp only at p0 p1 p2 p3 p4 p5 p6 p7 p8; obtain ⟨r0, r1, r2, r3, r4, r5, r6, r7, r8⟩ := K1b.out.e2.free
          have c7 := (blk_cell K1b.out.b7 0).trans rfl
          go_wp2_with (first | ((with_reducible refine gate_store (t := 3) (p := 67) rfl ?_); refine ev_store (w1 := wk2.setCell ⟨g9, 1, none⟩ (.int .i64 (pv x0))) ?hg ?hn ?hr ?_; (case hg => rfl); (case hn => rfl); (case hr => first | (go_simp; done) | (go_simp; rfl)); intro wl hW_; have Hwl := Aside0.mk hW_; clear hW_; clear u0 u1 u2 u3 u4 u5 u6 u7 u8 v0 v1 v2 v3 v4 v5 v6 v7 v8 p0 p1 p2 p3 p4 p5 p6 p7 p8 r0 r1 r2 r3 r4 r5 r6 r7 r8; clear c7; have K2 := Aside0.mk (show Tk w wl g2 g4 g7 g9 gl 1 (c + 1) 2 [x0, x1] true ⟨3, pv x0, ⟨#[]⟩, 0, 0, ⟨#[]⟩, 0, 0, none, 0, 0⟩ from by rw [Hwl.out]; exact K1b.out.setH (pv x0)); clear Hwl; obtain ⟨u0, u1, u2, u3, u4, u5, u6, u7, u8⟩ := K2.out.e9.cells; dsimp only at u0 u1 u2 u3 u4 u5 u6 u7 u8; obtain ⟨v0, v1, v2, v3, v4, v5, v6, v7, v8⟩ := K2.out.e9.free; obtain ⟨p0, p1, p2, p3, p4, p5, p6, p7, p8⟩ := (show EB _ g2 ⟨0, 0, ⟨#[]⟩, 0, 0, ⟨#[]⟩, 0, 0, none, 0, 0⟩ from K2.out.e2).cells; dsimp only at p0 p1 p2 p3 p4 p5 p6 p7 p8; obtain ⟨r0, r1, r2, r3, r4, r5, r6, r7, r8⟩ := K2.out.e2.free; have c7 := (blk_cell K2.out.b7 0).trans rfl) | ((with_reducible refine gate_store (t := 2) (p := 68) rfl ?_); refine ev_store (w1 := wl.setCell ⟨g9, 3, none⟩ (.int .i64 (pv x1))) ?hg ?hn ?hr ?_; (case hg => rfl); (case hn => rfl); (case hr => first | (go_simp; done) | (go_simp; rfl)); intro wm hW_; have Hwm := Aside0.mk hW_; clear hW_; clear u0 u1 u2 u3 u4 u5 u6 u7 u8 v0 v1 v2 v3 v4 v5 v6 v7 v8 p0 p1 p2 p3 p4 p5 p6 p7 p8 r0 r1 r2 r3 r4 r5 r6 r7 r8; clear c7; have K3 := Aside0.mk (show Tk w wm g2 g4 g7 g9 gl 1 (c + 1) 2 [x0, x1] true ⟨3, pv x0, ⟨#[]⟩, pv x1, 0, ⟨#[]⟩, 0, 0, none, 0, 0⟩ from by rw [Hwm.out]; exact K2.out.setN (pv x1)); clear Hwm; obtain ⟨u0, u1, u2, u3, u4, u5, u6, u7, u8⟩ := K3.out.e9.cells; dsimp only at u0 u1 u2 u3 u4 u5 u6 u7 u8; obtain ⟨v0, v1, v2, v3, v4, v5, v6, v7, v8⟩ := K3.out.e9.free; obtain ⟨p0, p1, p2, p3, p4, p5, p6, p7, p8⟩ := (show EB _ g2 ⟨0, 0, ⟨#[]⟩, 0, 0, ⟨#[]⟩, 0, 0, none, 0, 0⟩ from K3.out.e2).cells; dsimp only at p0 p1 p2 p3 p4 p5 p6 p7 p8; obtain ⟨r0, r1, r2, r3, r4, r5, r6, r7, r8⟩ := K3.out.e2.free; have c7 := (blk_cell K3.out.b7 0).trans rfl) | ((with_reducible refine gate_store (t := 26) (p := 2) rfl ?_); refine ev_store (w1 := (((((((((wm.setCell ⟨g2, 0, none⟩ (.int .i64 0)).setCell ⟨g2, 1, none⟩ (.int .i64 0)).setCell ⟨g2, 2, none⟩ (.string (⟨#[]⟩ : ByteArray))).setCell ⟨g2, 3, none⟩ (.int .i64 0)).setCell ⟨g2, 4, none⟩ (.int .i64 0)).setCell ⟨g2, 5, none⟩ (.string (⟨#[]⟩ : ByteArray))).setCell ⟨g2, 6, none⟩ (.int .i64 0)).setCell ⟨g2, 7, none⟩ (.int .i64 0)).setCell ⟨g2, 8, none⟩ (.slice none 0 0))) ?hg ?hn ?hr ?_; (case hg => rfl); (case hn => rfl); (case hr => first | (go_simp; done) | (go_simp; rfl)); intro wz hW_; have HWZ := Aside0.mk hW_; clear hW_; clear p0 p1 p2 p3 p4 p5 p6 p7 p8 r0 r1 r2 r3 r4 r5 r6 r7 r8))
          have EZ := Aside0.mk (show EB wz g2 Ec.z from by rw [HWZ.out]; exact EB.put K3.out.e2 Ec.z)
          have hB_ : Below w.heap.size w wz := by rw [HWZ.out]; exact w9_below K3.out.b HG2.out Ec.z
          refine bodyPost_ret (results_ct rfl _ _ g2 26 #[.int .i64 0, .int .i64 0, .string (⟨#[]⟩ : ByteArray), .int .i64 0, .int .i64 0, .string (⟨#[]⟩ : ByteArray), .int .i64 0, .int .i64 0, .slice none 0 0] (0, 0) _ rfl EZ.out Try.underlying26 rfl (by kernel_rfl)) rfl ?_
          have hR_ : R = (z26, 2) := by rw [HRR.out]; rfl
          rw [hR_]
          exact ⟨none, 0, rfl, Nat.le_refl _, c43_nil _, hB_⟩
      · skip
        have hm1 : m = 1 := by simpa [fitsP] using HFT.out
        subst hm1
        obtain ⟨x0, rfl⟩ := len1 HM.out.symm
        obtain ⟨c, rfl⟩ : ∃ c, cc = c + 1 := ⟨cc - 1, by have := HC1.out; omega⟩
        go_wp2_with (first | ((with_reducible refine gate_store (t := 45) (p := 4) rfl ?_); refine ev_store (w1 := wc.setCell ⟨g4, 0, none⟩ (.slice (some ⟨gl, 1, none⟩) 1 (c + 1))) ?hg ?hn ?hr ?_; (case hg => rfl); (case hn => rfl); (case hr => first | (go_simp; done) | (go_simp; rfl)); intro wd_ hW_; have HW7 := Aside0.mk hW_; clear hW_; clear c4 f4; have Q4 := Aside0.mk (show wd_.heap[g4]? = some (.cells #[.slice (some ⟨gl, 1, none⟩) 1 (c + 1)] 45 (0, 0)) from by rw [HW7.out]; exact blk_put D4wc.out 0 _ rfl); have Q2 := Aside0.mk (show EB wd_ g2 ⟨0, 0, ⟨#[]⟩, 0, 0, ⟨#[]⟩, 0, 0, none, 0, 0⟩ from by rw [HW7.out]; exact D2wc.out.other N24.out _); have QB := Aside0.mk (show Below w.heap.size w wd_ from by rw [HW7.out]; exact ev_below_set BDwc.out HG4.out); have c4 : wd_.cell? ⟨g4, 0, none⟩ = some (.slice (some ⟨gl, 1, none⟩) 1 (c + 1)) := (blk_cell Q4.out 0).trans rfl; have QT := Aside0.mk (show TxB wd_ gl 1 [x0] from by rw [HW7.out]; exact (DTwc.out.set D4wc.out (by decide) _).tail); clear HW7) | (go_at_call 27; (with_reducible refine Calls.mono (fits_i 4 1 4 1 (by decide) (by decide) (by decide) (by decide) true (HFT.out) _) ?_); rintro _ wf ⟨rfl, hb⟩; have QF4 := Aside0.mk ((hb.block g4 (blk_lt Q4.out)).trans Q4.out); have QF2 := Aside0.mk (Q2.out.below hb); have QFB := Aside0.mk (below_all_ QB.out hb); have QFT := Aside0.mk (QT.out.below hb); clear hb c4) | ((with_reducible refine gate_dst (N := 7) rfl ?_); refine box_event ?hg (N := 7) ?hd (cs := #[.bool false]) (t := 4) ?hr ?_; (case hd => rfl); (case hg => rfl); (case hr => first | (go_simp; done) | (go_simp; rfl)); intro g7 hg_ wg hbox hb; have Gg7 := Aside0.mk hg_; have Eg7 := Aside0.mk hbox; have Bg7 := Aside0.mk hb; have c70 := (blk_cell hbox 0).trans rfl; have f70 := blk_frozen hbox 0; clear hbox hb hg_; ) | ((with_reducible refine gate_store (t := 4) (p := 7) rfl ?_); refine ev_store (w1 := wg.setCell ⟨g7, 0, none⟩ (.bool false)) ?hg ?hn ?hr ?_; (case hg => rfl); (case hn => rfl); (case hr => first | (go_simp; done) | (go_simp; rfl)); intro wh hW_; clear c70 f70; have HH7 := Aside0.mk (show wh.heap[g7]? = some (.cells #[.bool false] 4 (0, 0)) from by rw [hW_]; exact blk_put Eg7.out 0 _ rfl); have HK7 := Aside0.mk (show ∀ q, q ≠ g7 → wh.heap[q]? = wg.heap[q]? from fun q hq => by rw [hW_]; exact heap_other hq _); have HS7 := Aside0.mk (show wh.heap.size = wg.heap.size from by rw [hW_]; simp); have HG7 := Aside0.mk (show w.heap.size ≤ g7 from by have := QFB.out.size; have := Gg7.out; omega); have HB7 := Aside0.mk (show Below w.heap.size w wh from by rw [hW_]; exact ev_below_set (below_all_ QFB.out Bg7.out) HG7.out); clear hW_) | ((with_reducible refine gate_dst (N := 9) rfl ?_); refine box_event ?hg (N := 9) ?hd (cs := #[.int .i64 0, .int .i64 0, .string (⟨#[]⟩ : ByteArray), .int .i64 0, .int .i64 0, .string (⟨#[]⟩ : ByteArray), .int .i64 0, .int .i64 0, .slice none 0 0]) (t := 26) ?hr ?_; (case hd => rfl); (case hg => rfl); (case hr => first | (go_simp; done) | (go_simp; rfl)); intro g9 hg_ wi hbox hb; have Gg9 := Aside0.mk hg_; have Eg9 := Aside0.mk (show EB wi g9 ⟨0, 0, ⟨#[]⟩, 0, 0, ⟨#[]⟩, 0, 0, none, 0, 0⟩ from hbox); have Bg9 := Aside0.mk hb; obtain ⟨u0, u1, u2, u3, u4, u5, u6, u7, u8⟩ := Eg9.out.cells; dsimp only at u0 u1 u2 u3 u4 u5 u6 u7 u8; obtain ⟨v0, v1, v2, v3, v4, v5, v6, v7, v8⟩ := Eg9.out.free; clear hbox hb hg_; ) | ((with_reducible refine gate_store (t := 26) (p := 9) rfl ?_); refine ev_store (w1 := (((((((((wi.setCell ⟨g9, 0, none⟩ (.int .i64 4)).setCell ⟨g9, 1, none⟩ (.int .i64 0)).setCell ⟨g9, 2, none⟩ (.string (⟨#[]⟩ : ByteArray))).setCell ⟨g9, 3, none⟩ (.int .i64 0)).setCell ⟨g9, 4, none⟩ (.int .i64 0)).setCell ⟨g9, 5, none⟩ (.string (⟨#[]⟩ : ByteArray))).setCell ⟨g9, 6, none⟩ (.int .i64 0)).setCell ⟨g9, 7, none⟩ (.int .i64 0)).setCell ⟨g9, 8, none⟩ (.slice none 0 0))) ?hg ?hn ?hr ?_; (case hg => rfl); (case hn => rfl); (case hr => first | (go_simp; done) | (go_simp; rfl)); intro wj hW_; have HW9 := Aside0.mk hW_; clear hW_; clear u0 u1 u2 u3 u4 u5 u6 u7 u8 v0 v1 v2 v3 v4 v5 v6 v7 v8; have HL7 := Aside0.mk (show g7 < wh.heap.size from blk_lt HH7.out); have N29 := Aside0.mk (show g2 ≠ g9 from by have := QF2.out.lt; have := Bg7.out.size; have := HS7.out; have := Gg9.out; omega); have HG9 := Aside0.mk (show w.heap.size ≤ g9 from by have := HG7.out; have := HL7.out; have := Gg9.out; omega); have N49 := Aside0.mk (show g4 ≠ g9 from by have := blk_lt QF4.out; have := Bg7.out.size; have := HS7.out; have := Gg9.out; omega); have N27 := Aside0.mk (show g2 ≠ g7 from by have := QF2.out.lt; have := Gg7.out; omega); have N47 := Aside0.mk (show g4 ≠ g7 from by have := blk_lt QF4.out; have := Gg7.out; omega); have N79 := Aside0.mk (show g7 ≠ g9 from by have := HL7.out; have := Gg9.out; omega); have NL7 := Aside0.mk (show gl ≠ g7 from by have := QFT.out.lt; have := Gg7.out; omega); have NL9 := Aside0.mk (show gl ≠ g9 from by have := QFT.out.lt; have := Bg7.out.size; have := HS7.out; have := Gg9.out; omega); have K0 := Aside0.mk (show Tk w wj g2 g4 g7 g9 gl 1 (c + 1) 1 [x0] false ⟨4, 0, ⟨#[]⟩, 0, 0, ⟨#[]⟩, 0, 0, none, 0, 0⟩ from by rw [HW9.out]; exact ⟨(w9_other N29.out ⟨4, 0, ⟨#[]⟩, 0, 0, ⟨#[]⟩, 0, 0, none, 0, 0⟩).trans ((Bg9.out.block g2 (by have := QF2.out.lt; have := Bg7.out.size; have := HS7.out; omega)).trans ((HK7.out g2 N27.out).trans ((Bg7.out.block g2 QF2.out.lt).trans QF2.out))), (w9_other N49.out ⟨4, 0, ⟨#[]⟩, 0, 0, ⟨#[]⟩, 0, 0, none, 0, 0⟩).trans ((Bg9.out.block g4 (by have := blk_lt QF4.out; have := Bg7.out.size; have := HS7.out; omega)).trans ((HK7.out g4 N47.out).trans ((Bg7.out.block g4 (blk_lt QF4.out)).trans QF4.out))), (w9_other N79.out ⟨4, 0, ⟨#[]⟩, 0, 0, ⟨#[]⟩, 0, 0, none, 0, 0⟩).trans ((Bg9.out.block g7 HL7.out).trans HH7.out), EB.put Eg9.out ⟨4, 0, ⟨#[]⟩, 0, 0, ⟨#[]⟩, 0, 0, none, 0, 0⟩, QFT.out.move ((w9_other NL9.out ⟨4, 0, ⟨#[]⟩, 0, 0, ⟨#[]⟩, 0, 0, none, 0, 0⟩).trans ((Bg9.out.block gl (by have := QFT.out.lt; have := Bg7.out.size; have := HS7.out; omega)).trans ((HK7.out gl NL7.out).trans (Bg7.out.block gl QFT.out.lt)))), N29.out, w9_below (below_all_ HB7.out Bg9.out) HG9.out ⟨4, 0, ⟨#[]⟩, 0, 0, ⟨#[]⟩, 0, 0, none, 0, 0⟩, HG2.out, HG7.out, HG9.out⟩); clear HW9))
        go_at_call 28
        with_reducible refine Calls.mono (show Calls Try.prog 28 #[.int .i64 0, .pointer (some ⟨g4, 0, none⟩), .pointer (some ⟨g7, 0, none⟩)] wj (fun x_ w' => x_ = .returned (.int .i64 (pv x0)) ∧ Tk w w' g2 g4 g7 g9 gl 1 (c + 1) 1 [x0] (false || !pk x0) ⟨4, 0, ⟨#[]⟩, 0, 0, ⟨#[]⟩, 0, 0, none, 0, 0⟩ ∧ (∀ base v L, OwnL wj base v L → OwnL w' base v L)) from K0.out.numi rfl (by decide) 0 0 rfl x0 rfl) ?_
        rintro _ wk ⟨rfl, hk_, -⟩
        obtain ⟨wv, hwv⟩ : ∃ wv, wv = (false || !pk x0) := ⟨_, rfl⟩
        have HRR := Aside0.mk (show R = if wv = true then (z26, 2) else (⟨4, pv x0, ⟨#[]⟩, 0, 0, ⟨⟨#[]⟩, 0, 0⟩, []⟩, 0) from by rw [HR.out, ← HKN.out, hwv]; exact kind_4 x0)
        rw [← hwv] at hk_
        have K1 := Aside0.mk hk_
        clear hk_ hwv
        cases wv
        · skip
          obtain ⟨u0, u1, u2, u3, u4, u5, u6, u7, u8⟩ := K1.out.e9.cells; dsimp only at u0 u1 u2 u3 u4 u5 u6 u7 u8; obtain ⟨v0, v1, v2, v3, v4, v5, v6, v7, v8⟩ := K1.out.e9.free; obtain ⟨p0, p1, p2, p3, p4, p5, p6, p7, p8⟩ := (show EB _ g2 ⟨0, 0, ⟨#[]⟩, 0, 0, ⟨#[]⟩, 0, 0, none, 0, 0⟩ from K1.out.e2).cells; dsimp only at p0 p1 p2 p3 p4 p5 p6 p7 p8; obtain ⟨r0, r1, r2, r3, r4, r5, r6, r7, r8⟩ := K1.out.e2.free
          have c7 := (blk_cell K1.out.b7 0).trans rfl
          go_wp2_with (first | ((with_reducible refine gate_store (t := 3) (p := 51) rfl ?_); refine ev_store (w1 := wk.setCell ⟨g9, 1, none⟩ (.int .i64 (pv x0))) ?hg ?hn ?hr ?_; (case hg => rfl); (case hn => rfl); (case hr => first | (go_simp; done) | (go_simp; rfl)); intro wl hW_; have Hwl := Aside0.mk hW_; clear hW_; clear u0 u1 u2 u3 u4 u5 u6 u7 u8 v0 v1 v2 v3 v4 v5 v6 v7 v8 p0 p1 p2 p3 p4 p5 p6 p7 p8 r0 r1 r2 r3 r4 r5 r6 r7 r8; clear c7; have K2 := Aside0.mk (show Tk w wl g2 g4 g7 g9 gl 1 (c + 1) 1 [x0] false ⟨4, pv x0, ⟨#[]⟩, 0, 0, ⟨#[]⟩, 0, 0, none, 0, 0⟩ from by rw [Hwl.out]; exact K1.out.setH (pv x0)); clear Hwl; obtain ⟨u0, u1, u2, u3, u4, u5, u6, u7, u8⟩ := K2.out.e9.cells; dsimp only at u0 u1 u2 u3 u4 u5 u6 u7 u8; obtain ⟨v0, v1, v2, v3, v4, v5, v6, v7, v8⟩ := K2.out.e9.free; obtain ⟨p0, p1, p2, p3, p4, p5, p6, p7, p8⟩ := (show EB _ g2 ⟨0, 0, ⟨#[]⟩, 0, 0, ⟨#[]⟩, 0, 0, none, 0, 0⟩ from K2.out.e2).cells; dsimp only at p0 p1 p2 p3 p4 p5 p6 p7 p8; obtain ⟨r0, r1, r2, r3, r4, r5, r6, r7, r8⟩ := K2.out.e2.free; have c7 := (blk_cell K2.out.b7 0).trans rfl) | ((with_reducible refine gate_store (t := 26) (p := 2) rfl ?_); refine ev_store (w1 := (((((((((wl.setCell ⟨g2, 0, none⟩ (.int .i64 4)).setCell ⟨g2, 1, none⟩ (.int .i64 (pv x0))).setCell ⟨g2, 2, none⟩ (.string (⟨#[]⟩ : ByteArray))).setCell ⟨g2, 3, none⟩ (.int .i64 (0))).setCell ⟨g2, 4, none⟩ (.int .i64 (0))).setCell ⟨g2, 5, none⟩ (.string (⟨#[]⟩ : ByteArray))).setCell ⟨g2, 6, none⟩ (.int .i64 (0))).setCell ⟨g2, 7, none⟩ (.int .i64 (0))).setCell ⟨g2, 8, none⟩ (.slice none 0 0))) ?hg ?hn ?hr ?_; (case hg => rfl); (case hn => rfl); (case hr => first | (go_simp; done) | (go_simp; rfl)); intro wz hW_; have HWZ := Aside0.mk hW_; clear hW_; clear p0 p1 p2 p3 p4 p5 p6 p7 p8 r0 r1 r2 r3 r4 r5 r6 r7 r8))
          have EZ := Aside0.mk (show EB wz g2 ⟨4, pv x0, ⟨#[]⟩, 0, 0, ⟨#[]⟩, 0, 0, none, 0, 0⟩ from by rw [HWZ.out]; exact EB.put K2.out.e2 ⟨4, pv x0, ⟨#[]⟩, 0, 0, ⟨#[]⟩, 0, 0, none, 0, 0⟩)
          have hB_ : Below w.heap.size w wz := by rw [HWZ.out]; exact w9_below K2.out.b HG2.out ⟨4, pv x0, ⟨#[]⟩, 0, 0, ⟨#[]⟩, 0, 0, none, 0, 0⟩
          refine bodyPost_ret (results_ct rfl _ _ g2 26 #[.int .i64 4, .int .i64 (pv x0), .string (⟨#[]⟩ : ByteArray), .int .i64 (0), .int .i64 (0), .string (⟨#[]⟩ : ByteArray), .int .i64 (0), .int .i64 (0), .slice none 0 0] (0, 0) _ rfl EZ.out Try.underlying26 rfl (by kernel_rfl)) rfl ?_
          have hR_ : R = (⟨4, pv x0, ⟨#[]⟩, 0, 0, ⟨⟨#[]⟩, 0, 0⟩, []⟩, 0) := by rw [HRR.out]; rfl
          rw [hR_]
          exact ⟨none, 0, rfl, Nat.le_refl _, c43_nil _, hB_⟩
        · skip
          obtain ⟨u0, u1, u2, u3, u4, u5, u6, u7, u8⟩ := K1.out.e9.cells; dsimp only at u0 u1 u2 u3 u4 u5 u6 u7 u8; obtain ⟨v0, v1, v2, v3, v4, v5, v6, v7, v8⟩ := K1.out.e9.free; obtain ⟨p0, p1, p2, p3, p4, p5, p6, p7, p8⟩ := (show EB _ g2 ⟨0, 0, ⟨#[]⟩, 0, 0, ⟨#[]⟩, 0, 0, none, 0, 0⟩ from K1.out.e2).cells; dsimp only at p0 p1 p2 p3 p4 p5 p6 p7 p8; obtain ⟨r0, r1, r2, r3, r4, r5, r6, r7, r8⟩ := K1.out.e2.free
          have c7 := (blk_cell K1.out.b7 0).trans rfl
          go_wp2_with (first | ((with_reducible refine gate_store (t := 3) (p := 51) rfl ?_); refine ev_store (w1 := wk.setCell ⟨g9, 1, none⟩ (.int .i64 (pv x0))) ?hg ?hn ?hr ?_; (case hg => rfl); (case hn => rfl); (case hr => first | (go_simp; done) | (go_simp; rfl)); intro wl hW_; have Hwl := Aside0.mk hW_; clear hW_; clear u0 u1 u2 u3 u4 u5 u6 u7 u8 v0 v1 v2 v3 v4 v5 v6 v7 v8 p0 p1 p2 p3 p4 p5 p6 p7 p8 r0 r1 r2 r3 r4 r5 r6 r7 r8; clear c7; have K2 := Aside0.mk (show Tk w wl g2 g4 g7 g9 gl 1 (c + 1) 1 [x0] true ⟨4, pv x0, ⟨#[]⟩, 0, 0, ⟨#[]⟩, 0, 0, none, 0, 0⟩ from by rw [Hwl.out]; exact K1.out.setH (pv x0)); clear Hwl; obtain ⟨u0, u1, u2, u3, u4, u5, u6, u7, u8⟩ := K2.out.e9.cells; dsimp only at u0 u1 u2 u3 u4 u5 u6 u7 u8; obtain ⟨v0, v1, v2, v3, v4, v5, v6, v7, v8⟩ := K2.out.e9.free; obtain ⟨p0, p1, p2, p3, p4, p5, p6, p7, p8⟩ := (show EB _ g2 ⟨0, 0, ⟨#[]⟩, 0, 0, ⟨#[]⟩, 0, 0, none, 0, 0⟩ from K2.out.e2).cells; dsimp only at p0 p1 p2 p3 p4 p5 p6 p7 p8; obtain ⟨r0, r1, r2, r3, r4, r5, r6, r7, r8⟩ := K2.out.e2.free; have c7 := (blk_cell K2.out.b7 0).trans rfl) | ((with_reducible refine gate_store (t := 26) (p := 2) rfl ?_); refine ev_store (w1 := (((((((((wl.setCell ⟨g2, 0, none⟩ (.int .i64 0)).setCell ⟨g2, 1, none⟩ (.int .i64 0)).setCell ⟨g2, 2, none⟩ (.string (⟨#[]⟩ : ByteArray))).setCell ⟨g2, 3, none⟩ (.int .i64 0)).setCell ⟨g2, 4, none⟩ (.int .i64 0)).setCell ⟨g2, 5, none⟩ (.string (⟨#[]⟩ : ByteArray))).setCell ⟨g2, 6, none⟩ (.int .i64 0)).setCell ⟨g2, 7, none⟩ (.int .i64 0)).setCell ⟨g2, 8, none⟩ (.slice none 0 0))) ?hg ?hn ?hr ?_; (case hg => rfl); (case hn => rfl); (case hr => first | (go_simp; done) | (go_simp; rfl)); intro wz hW_; have HWZ := Aside0.mk hW_; clear hW_; clear p0 p1 p2 p3 p4 p5 p6 p7 p8 r0 r1 r2 r3 r4 r5 r6 r7 r8))
          have EZ := Aside0.mk (show EB wz g2 Ec.z from by rw [HWZ.out]; exact EB.put K2.out.e2 Ec.z)
          have hB_ : Below w.heap.size w wz := by rw [HWZ.out]; exact w9_below K2.out.b HG2.out Ec.z
          refine bodyPost_ret (results_ct rfl _ _ g2 26 #[.int .i64 0, .int .i64 0, .string (⟨#[]⟩ : ByteArray), .int .i64 0, .int .i64 0, .string (⟨#[]⟩ : ByteArray), .int .i64 0, .int .i64 0, .slice none 0 0] (0, 0) _ rfl EZ.out Try.underlying26 rfl (by kernel_rfl)) rfl ?_
          have hR_ : R = (z26, 2) := by rw [HRR.out]; rfl
          rw [hR_]
          exact ⟨none, 0, rfl, Nat.le_refl _, c43_nil _, hB_⟩
      · skip
        have hm1 : m = 1 := by simpa [fitsP] using HFT.out
        subst hm1
        obtain ⟨x0, rfl⟩ := len1 HM.out.symm
        obtain ⟨c, rfl⟩ : ∃ c, cc = c + 1 := ⟨cc - 1, by have := HC1.out; omega⟩
        go_wp2_with (first | ((with_reducible refine gate_store (t := 45) (p := 4) rfl ?_); refine ev_store (w1 := wc.setCell ⟨g4, 0, none⟩ (.slice (some ⟨gl, 1, none⟩) 1 (c + 1))) ?hg ?hn ?hr ?_; (case hg => rfl); (case hn => rfl); (case hr => first | (go_simp; done) | (go_simp; rfl)); intro wd_ hW_; have HW7 := Aside0.mk hW_; clear hW_; clear c4 f4; have Q4 := Aside0.mk (show wd_.heap[g4]? = some (.cells #[.slice (some ⟨gl, 1, none⟩) 1 (c + 1)] 45 (0, 0)) from by rw [HW7.out]; exact blk_put D4wc.out 0 _ rfl); have Q2 := Aside0.mk (show EB wd_ g2 ⟨0, 0, ⟨#[]⟩, 0, 0, ⟨#[]⟩, 0, 0, none, 0, 0⟩ from by rw [HW7.out]; exact D2wc.out.other N24.out _); have QB := Aside0.mk (show Below w.heap.size w wd_ from by rw [HW7.out]; exact ev_below_set BDwc.out HG4.out); have c4 : wd_.cell? ⟨g4, 0, none⟩ = some (.slice (some ⟨gl, 1, none⟩) 1 (c + 1)) := (blk_cell Q4.out 0).trans rfl; have QT := Aside0.mk (show TxB wd_ gl 1 [x0] from by rw [HW7.out]; exact (DTwc.out.set D4wc.out (by decide) _).tail); clear HW7) | (go_at_call 27; (with_reducible refine Calls.mono (fits_i 5 1 5 1 (by decide) (by decide) (by decide) (by decide) true (HFT.out) _) ?_); rintro _ wf ⟨rfl, hb⟩; have QF4 := Aside0.mk ((hb.block g4 (blk_lt Q4.out)).trans Q4.out); have QF2 := Aside0.mk (Q2.out.below hb); have QFB := Aside0.mk (below_all_ QB.out hb); have QFT := Aside0.mk (QT.out.below hb); clear hb c4) | ((with_reducible refine gate_dst (N := 7) rfl ?_); refine box_event ?hg (N := 7) ?hd (cs := #[.bool false]) (t := 4) ?hr ?_; (case hd => rfl); (case hg => rfl); (case hr => first | (go_simp; done) | (go_simp; rfl)); intro g7 hg_ wg hbox hb; have Gg7 := Aside0.mk hg_; have Eg7 := Aside0.mk hbox; have Bg7 := Aside0.mk hb; have c70 := (blk_cell hbox 0).trans rfl; have f70 := blk_frozen hbox 0; clear hbox hb hg_; ) | ((with_reducible refine gate_store (t := 4) (p := 7) rfl ?_); refine ev_store (w1 := wg.setCell ⟨g7, 0, none⟩ (.bool false)) ?hg ?hn ?hr ?_; (case hg => rfl); (case hn => rfl); (case hr => first | (go_simp; done) | (go_simp; rfl)); intro wh hW_; clear c70 f70; have HH7 := Aside0.mk (show wh.heap[g7]? = some (.cells #[.bool false] 4 (0, 0)) from by rw [hW_]; exact blk_put Eg7.out 0 _ rfl); have HK7 := Aside0.mk (show ∀ q, q ≠ g7 → wh.heap[q]? = wg.heap[q]? from fun q hq => by rw [hW_]; exact heap_other hq _); have HS7 := Aside0.mk (show wh.heap.size = wg.heap.size from by rw [hW_]; simp); have HG7 := Aside0.mk (show w.heap.size ≤ g7 from by have := QFB.out.size; have := Gg7.out; omega); have HB7 := Aside0.mk (show Below w.heap.size w wh from by rw [hW_]; exact ev_below_set (below_all_ QFB.out Bg7.out) HG7.out); clear hW_) | ((with_reducible refine gate_dst (N := 9) rfl ?_); refine box_event ?hg (N := 9) ?hd (cs := #[.int .i64 0, .int .i64 0, .string (⟨#[]⟩ : ByteArray), .int .i64 0, .int .i64 0, .string (⟨#[]⟩ : ByteArray), .int .i64 0, .int .i64 0, .slice none 0 0]) (t := 26) ?hr ?_; (case hd => rfl); (case hg => rfl); (case hr => first | (go_simp; done) | (go_simp; rfl)); intro g9 hg_ wi hbox hb; have Gg9 := Aside0.mk hg_; have Eg9 := Aside0.mk (show EB wi g9 ⟨0, 0, ⟨#[]⟩, 0, 0, ⟨#[]⟩, 0, 0, none, 0, 0⟩ from hbox); have Bg9 := Aside0.mk hb; obtain ⟨u0, u1, u2, u3, u4, u5, u6, u7, u8⟩ := Eg9.out.cells; dsimp only at u0 u1 u2 u3 u4 u5 u6 u7 u8; obtain ⟨v0, v1, v2, v3, v4, v5, v6, v7, v8⟩ := Eg9.out.free; clear hbox hb hg_; ) | ((with_reducible refine gate_store (t := 26) (p := 9) rfl ?_); refine ev_store (w1 := (((((((((wi.setCell ⟨g9, 0, none⟩ (.int .i64 5)).setCell ⟨g9, 1, none⟩ (.int .i64 0)).setCell ⟨g9, 2, none⟩ (.string (⟨#[]⟩ : ByteArray))).setCell ⟨g9, 3, none⟩ (.int .i64 0)).setCell ⟨g9, 4, none⟩ (.int .i64 0)).setCell ⟨g9, 5, none⟩ (.string (⟨#[]⟩ : ByteArray))).setCell ⟨g9, 6, none⟩ (.int .i64 0)).setCell ⟨g9, 7, none⟩ (.int .i64 0)).setCell ⟨g9, 8, none⟩ (.slice none 0 0))) ?hg ?hn ?hr ?_; (case hg => rfl); (case hn => rfl); (case hr => first | (go_simp; done) | (go_simp; rfl)); intro wj hW_; have HW9 := Aside0.mk hW_; clear hW_; clear u0 u1 u2 u3 u4 u5 u6 u7 u8 v0 v1 v2 v3 v4 v5 v6 v7 v8; have HL7 := Aside0.mk (show g7 < wh.heap.size from blk_lt HH7.out); have N29 := Aside0.mk (show g2 ≠ g9 from by have := QF2.out.lt; have := Bg7.out.size; have := HS7.out; have := Gg9.out; omega); have HG9 := Aside0.mk (show w.heap.size ≤ g9 from by have := HG7.out; have := HL7.out; have := Gg9.out; omega); have N49 := Aside0.mk (show g4 ≠ g9 from by have := blk_lt QF4.out; have := Bg7.out.size; have := HS7.out; have := Gg9.out; omega); have N27 := Aside0.mk (show g2 ≠ g7 from by have := QF2.out.lt; have := Gg7.out; omega); have N47 := Aside0.mk (show g4 ≠ g7 from by have := blk_lt QF4.out; have := Gg7.out; omega); have N79 := Aside0.mk (show g7 ≠ g9 from by have := HL7.out; have := Gg9.out; omega); have NL7 := Aside0.mk (show gl ≠ g7 from by have := QFT.out.lt; have := Gg7.out; omega); have NL9 := Aside0.mk (show gl ≠ g9 from by have := QFT.out.lt; have := Bg7.out.size; have := HS7.out; have := Gg9.out; omega); have K0 := Aside0.mk (show Tk w wj g2 g4 g7 g9 gl 1 (c + 1) 1 [x0] false ⟨5, 0, ⟨#[]⟩, 0, 0, ⟨#[]⟩, 0, 0, none, 0, 0⟩ from by rw [HW9.out]; exact ⟨(w9_other N29.out ⟨5, 0, ⟨#[]⟩, 0, 0, ⟨#[]⟩, 0, 0, none, 0, 0⟩).trans ((Bg9.out.block g2 (by have := QF2.out.lt; have := Bg7.out.size; have := HS7.out; omega)).trans ((HK7.out g2 N27.out).trans ((Bg7.out.block g2 QF2.out.lt).trans QF2.out))), (w9_other N49.out ⟨5, 0, ⟨#[]⟩, 0, 0, ⟨#[]⟩, 0, 0, none, 0, 0⟩).trans ((Bg9.out.block g4 (by have := blk_lt QF4.out; have := Bg7.out.size; have := HS7.out; omega)).trans ((HK7.out g4 N47.out).trans ((Bg7.out.block g4 (blk_lt QF4.out)).trans QF4.out))), (w9_other N79.out ⟨5, 0, ⟨#[]⟩, 0, 0, ⟨#[]⟩, 0, 0, none, 0, 0⟩).trans ((Bg9.out.block g7 HL7.out).trans HH7.out), EB.put Eg9.out ⟨5, 0, ⟨#[]⟩, 0, 0, ⟨#[]⟩, 0, 0, none, 0, 0⟩, QFT.out.move ((w9_other NL9.out ⟨5, 0, ⟨#[]⟩, 0, 0, ⟨#[]⟩, 0, 0, none, 0, 0⟩).trans ((Bg9.out.block gl (by have := QFT.out.lt; have := Bg7.out.size; have := HS7.out; omega)).trans ((HK7.out gl NL7.out).trans (Bg7.out.block gl QFT.out.lt)))), N29.out, w9_below (below_all_ HB7.out Bg9.out) HG9.out ⟨5, 0, ⟨#[]⟩, 0, 0, ⟨#[]⟩, 0, 0, none, 0, 0⟩, HG2.out, HG7.out, HG9.out⟩); clear HW9))
        go_at_call 28
        with_reducible refine Calls.mono (show Calls Try.prog 28 #[.int .i64 0, .pointer (some ⟨g4, 0, none⟩), .pointer (some ⟨g7, 0, none⟩)] wj (fun x_ w' => x_ = .returned (.int .i64 (pv x0)) ∧ Tk w w' g2 g4 g7 g9 gl 1 (c + 1) 1 [x0] (false || !pk x0) ⟨5, 0, ⟨#[]⟩, 0, 0, ⟨#[]⟩, 0, 0, none, 0, 0⟩ ∧ (∀ base v L, OwnL wj base v L → OwnL w' base v L)) from K0.out.numi rfl (by decide) 0 0 rfl x0 rfl) ?_
        rintro _ wk ⟨rfl, hk_, -⟩
        obtain ⟨wv, hwv⟩ : ∃ wv, wv = (false || !pk x0) := ⟨_, rfl⟩
        have HRR := Aside0.mk (show R = if wv = true then (z26, 2) else (⟨5, 0, ⟨#[]⟩, pv x0, 0, ⟨⟨#[]⟩, 0, 0⟩, []⟩, 0) from by rw [HR.out, ← HKN.out, hwv]; exact kind_5 x0)
        rw [← hwv] at hk_
        have K1 := Aside0.mk hk_
        clear hk_ hwv
        cases wv
        · skip
          obtain ⟨u0, u1, u2, u3, u4, u5, u6, u7, u8⟩ := K1.out.e9.cells; dsimp only at u0 u1 u2 u3 u4 u5 u6 u7 u8; obtain ⟨v0, v1, v2, v3, v4, v5, v6, v7, v8⟩ := K1.out.e9.free; obtain ⟨p0, p1, p2, p3, p4, p5, p6, p7, p8⟩ := (show EB _ g2 ⟨0, 0, ⟨#[]⟩, 0, 0, ⟨#[]⟩, 0, 0, none, 0, 0⟩ from K1.out.e2).cells; dsimp only at p0 p1 p2 p3 p4 p5 p6 p7 p8; obtain ⟨r0, r1, r2, r3, r4, r5, r6, r7, r8⟩ := K1.out.e2.free
          have c7 := (blk_cell K1.out.b7 0).trans rfl
          go_wp2_with (first | ((with_reducible refine gate_store (t := 2) (p := 73) rfl ?_); refine ev_store (w1 := wk.setCell ⟨g9, 3, none⟩ (.int .i64 (pv x0))) ?hg ?hn ?hr ?_; (case hg => rfl); (case hn => rfl); (case hr => first | (go_simp; done) | (go_simp; rfl)); intro wl hW_; have Hwl := Aside0.mk hW_; clear hW_; clear u0 u1 u2 u3 u4 u5 u6 u7 u8 v0 v1 v2 v3 v4 v5 v6 v7 v8 p0 p1 p2 p3 p4 p5 p6 p7 p8 r0 r1 r2 r3 r4 r5 r6 r7 r8; clear c7; have K2 := Aside0.mk (show Tk w wl g2 g4 g7 g9 gl 1 (c + 1) 1 [x0] false ⟨5, 0, ⟨#[]⟩, pv x0, 0, ⟨#[]⟩, 0, 0, none, 0, 0⟩ from by rw [Hwl.out]; exact K1.out.setN (pv x0)); clear Hwl; obtain ⟨u0, u1, u2, u3, u4, u5, u6, u7, u8⟩ := K2.out.e9.cells; dsimp only at u0 u1 u2 u3 u4 u5 u6 u7 u8; obtain ⟨v0, v1, v2, v3, v4, v5, v6, v7, v8⟩ := K2.out.e9.free; obtain ⟨p0, p1, p2, p3, p4, p5, p6, p7, p8⟩ := (show EB _ g2 ⟨0, 0, ⟨#[]⟩, 0, 0, ⟨#[]⟩, 0, 0, none, 0, 0⟩ from K2.out.e2).cells; dsimp only at p0 p1 p2 p3 p4 p5 p6 p7 p8; obtain ⟨r0, r1, r2, r3, r4, r5, r6, r7, r8⟩ := K2.out.e2.free; have c7 := (blk_cell K2.out.b7 0).trans rfl) | ((with_reducible refine gate_store (t := 26) (p := 2) rfl ?_); refine ev_store (w1 := (((((((((wl.setCell ⟨g2, 0, none⟩ (.int .i64 5)).setCell ⟨g2, 1, none⟩ (.int .i64 (0))).setCell ⟨g2, 2, none⟩ (.string (⟨#[]⟩ : ByteArray))).setCell ⟨g2, 3, none⟩ (.int .i64 (pv x0))).setCell ⟨g2, 4, none⟩ (.int .i64 (0))).setCell ⟨g2, 5, none⟩ (.string (⟨#[]⟩ : ByteArray))).setCell ⟨g2, 6, none⟩ (.int .i64 (0))).setCell ⟨g2, 7, none⟩ (.int .i64 (0))).setCell ⟨g2, 8, none⟩ (.slice none 0 0))) ?hg ?hn ?hr ?_; (case hg => rfl); (case hn => rfl); (case hr => first | (go_simp; done) | (go_simp; rfl)); intro wz hW_; have HWZ := Aside0.mk hW_; clear hW_; clear p0 p1 p2 p3 p4 p5 p6 p7 p8 r0 r1 r2 r3 r4 r5 r6 r7 r8))
          have EZ := Aside0.mk (show EB wz g2 ⟨5, 0, ⟨#[]⟩, pv x0, 0, ⟨#[]⟩, 0, 0, none, 0, 0⟩ from by rw [HWZ.out]; exact EB.put K2.out.e2 ⟨5, 0, ⟨#[]⟩, pv x0, 0, ⟨#[]⟩, 0, 0, none, 0, 0⟩)
          have hB_ : Below w.heap.size w wz := by rw [HWZ.out]; exact w9_below K2.out.b HG2.out ⟨5, 0, ⟨#[]⟩, pv x0, 0, ⟨#[]⟩, 0, 0, none, 0, 0⟩
          refine bodyPost_ret (results_ct rfl _ _ g2 26 #[.int .i64 5, .int .i64 (0), .string (⟨#[]⟩ : ByteArray), .int .i64 (pv x0), .int .i64 (0), .string (⟨#[]⟩ : ByteArray), .int .i64 (0), .int .i64 (0), .slice none 0 0] (0, 0) _ rfl EZ.out Try.underlying26 rfl (by kernel_rfl)) rfl ?_
          have hR_ : R = (⟨5, 0, ⟨#[]⟩, pv x0, 0, ⟨⟨#[]⟩, 0, 0⟩, []⟩, 0) := by rw [HRR.out]; rfl
          rw [hR_]
          exact ⟨none, 0, rfl, Nat.le_refl _, c43_nil _, hB_⟩
        · skip
          obtain ⟨u0, u1, u2, u3, u4, u5, u6, u7, u8⟩ := K1.out.e9.cells; dsimp only at u0 u1 u2 u3 u4 u5 u6 u7 u8; obtain ⟨v0, v1, v2, v3, v4, v5, v6, v7, v8⟩ := K1.out.e9.free; obtain ⟨p0, p1, p2, p3, p4, p5, p6, p7, p8⟩ := (show EB _ g2 ⟨0, 0, ⟨#[]⟩, 0, 0, ⟨#[]⟩, 0, 0, none, 0, 0⟩ from K1.out.e2).cells; dsimp only at p0 p1 p2 p3 p4 p5 p6 p7 p8; obtain ⟨r0, r1, r2, r3, r4, r5, r6, r7, r8⟩ := K1.out.e2.free
          have c7 := (blk_cell K1.out.b7 0).trans rfl
          go_wp2_with (first | ((with_reducible refine gate_store (t := 2) (p := 73) rfl ?_); refine ev_store (w1 := wk.setCell ⟨g9, 3, none⟩ (.int .i64 (pv x0))) ?hg ?hn ?hr ?_; (case hg => rfl); (case hn => rfl); (case hr => first | (go_simp; done) | (go_simp; rfl)); intro wl hW_; have Hwl := Aside0.mk hW_; clear hW_; clear u0 u1 u2 u3 u4 u5 u6 u7 u8 v0 v1 v2 v3 v4 v5 v6 v7 v8 p0 p1 p2 p3 p4 p5 p6 p7 p8 r0 r1 r2 r3 r4 r5 r6 r7 r8; clear c7; have K2 := Aside0.mk (show Tk w wl g2 g4 g7 g9 gl 1 (c + 1) 1 [x0] true ⟨5, 0, ⟨#[]⟩, pv x0, 0, ⟨#[]⟩, 0, 0, none, 0, 0⟩ from by rw [Hwl.out]; exact K1.out.setN (pv x0)); clear Hwl; obtain ⟨u0, u1, u2, u3, u4, u5, u6, u7, u8⟩ := K2.out.e9.cells; dsimp only at u0 u1 u2 u3 u4 u5 u6 u7 u8; obtain ⟨v0, v1, v2, v3, v4, v5, v6, v7, v8⟩ := K2.out.e9.free; obtain ⟨p0, p1, p2, p3, p4, p5, p6, p7, p8⟩ := (show EB _ g2 ⟨0, 0, ⟨#[]⟩, 0, 0, ⟨#[]⟩, 0, 0, none, 0, 0⟩ from K2.out.e2).cells; dsimp only at p0 p1 p2 p3 p4 p5 p6 p7 p8; obtain ⟨r0, r1, r2, r3, r4, r5, r6, r7, r8⟩ := K2.out.e2.free; have c7 := (blk_cell K2.out.b7 0).trans rfl) | ((with_reducible refine gate_store (t := 26) (p := 2) rfl ?_); refine ev_store (w1 := (((((((((wl.setCell ⟨g2, 0, none⟩ (.int .i64 0)).setCell ⟨g2, 1, none⟩ (.int .i64 0)).setCell ⟨g2, 2, none⟩ (.string (⟨#[]⟩ : ByteArray))).setCell ⟨g2, 3, none⟩ (.int .i64 0)).setCell ⟨g2, 4, none⟩ (.int .i64 0)).setCell ⟨g2, 5, none⟩ (.string (⟨#[]⟩ : ByteArray))).setCell ⟨g2, 6, none⟩ (.int .i64 0)).setCell ⟨g2, 7, none⟩ (.int .i64 0)).setCell ⟨g2, 8, none⟩ (.slice none 0 0))) ?hg ?hn ?hr ?_; (case hg => rfl); (case hn => rfl); (case hr => first | (go_simp; done) | (go_simp; rfl)); intro wz hW_; have HWZ := Aside0.mk hW_; clear hW_; clear p0 p1 p2 p3 p4 p5 p6 p7 p8 r0 r1 r2 r3 r4 r5 r6 r7 r8))
          have EZ := Aside0.mk (show EB wz g2 Ec.z from by rw [HWZ.out]; exact EB.put K2.out.e2 Ec.z)
          have hB_ : Below w.heap.size w wz := by rw [HWZ.out]; exact w9_below K2.out.b HG2.out Ec.z
          refine bodyPost_ret (results_ct rfl _ _ g2 26 #[.int .i64 0, .int .i64 0, .string (⟨#[]⟩ : ByteArray), .int .i64 0, .int .i64 0, .string (⟨#[]⟩ : ByteArray), .int .i64 0, .int .i64 0, .slice none 0 0] (0, 0) _ rfl EZ.out Try.underlying26 rfl (by kernel_rfl)) rfl ?_
          have hR_ : R = (z26, 2) := by rw [HRR.out]; rfl
          rw [hR_]
          exact ⟨none, 0, rfl, Nat.le_refl _, c43_nil _, hB_⟩
      · skip
        have hm1 : m = 0 := by simpa [fitsP] using HFT.out
        subst hm1
        obtain rfl := List.eq_nil_of_length_eq_zero HM.out.symm
        have HRR := Aside0.mk (show R = (⟨6, 0, ⟨#[]⟩, 0, 0, ⟨⟨#[]⟩, 0, 0⟩, []⟩, 0) from by rw [HR.out, ← HKN.out]; exact kind_6)
        rcases cc with _ | c
        · skip
          go_wp2_with (first | ((with_reducible refine gate_store (t := 45) (p := 4) rfl ?_); refine ev_store (w1 := wc.setCell ⟨g4, 0, none⟩ (.slice (some ⟨gl, 0, none⟩) 0 (0))) ?hg ?hn ?hr ?_; (case hg => rfl); (case hn => rfl); (case hr => first | (go_simp; done) | (go_simp; rfl)); intro wd_ hW_; have HW7 := Aside0.mk hW_; clear hW_; clear c4 f4; have Q4 := Aside0.mk (show wd_.heap[g4]? = some (.cells #[.slice (some ⟨gl, 0, none⟩) 0 (0)] 45 (0, 0)) from by rw [HW7.out]; exact blk_put D4wc.out 0 _ rfl); have Q2 := Aside0.mk (show EB wd_ g2 ⟨0, 0, ⟨#[]⟩, 0, 0, ⟨#[]⟩, 0, 0, none, 0, 0⟩ from by rw [HW7.out]; exact D2wc.out.other N24.out _); have QB := Aside0.mk (show Below w.heap.size w wd_ from by rw [HW7.out]; exact ev_below_set BDwc.out HG4.out); have c4 : wd_.cell? ⟨g4, 0, none⟩ = some (.slice (some ⟨gl, 0, none⟩) 0 (0)) := (blk_cell Q4.out 0).trans rfl; have QT := Aside0.mk (show TxB wd_ gl 0 [] from by rw [HW7.out]; exact TxB_nil (DTwc.out.set D4wc.out (by decide) _)); clear HW7) | (go_at_call 27; (with_reducible refine Calls.mono (fits_i 6 0 6 0 (by decide) (by decide) (by decide) (by decide) true (HFT.out) _) ?_); rintro _ wf ⟨rfl, hb⟩; have QF4 := Aside0.mk ((hb.block g4 (blk_lt Q4.out)).trans Q4.out); have QF2 := Aside0.mk (Q2.out.below hb); have QFB := Aside0.mk (below_all_ QB.out hb); have QFT := Aside0.mk (QT.out.below hb); clear hb c4) | ((with_reducible refine gate_dst (N := 7) rfl ?_); refine box_event ?hg (N := 7) ?hd (cs := #[.bool false]) (t := 4) ?hr ?_; (case hd => rfl); (case hg => rfl); (case hr => first | (go_simp; done) | (go_simp; rfl)); intro g7 hg_ wg hbox hb; have Gg7 := Aside0.mk hg_; have Eg7 := Aside0.mk hbox; have Bg7 := Aside0.mk hb; have c70 := (blk_cell hbox 0).trans rfl; have f70 := blk_frozen hbox 0; clear hbox hb hg_; ) | ((with_reducible refine gate_store (t := 4) (p := 7) rfl ?_); refine ev_store (w1 := wg.setCell ⟨g7, 0, none⟩ (.bool false)) ?hg ?hn ?hr ?_; (case hg => rfl); (case hn => rfl); (case hr => first | (go_simp; done) | (go_simp; rfl)); intro wh hW_; clear c70 f70; have HH7 := Aside0.mk (show wh.heap[g7]? = some (.cells #[.bool false] 4 (0, 0)) from by rw [hW_]; exact blk_put Eg7.out 0 _ rfl); have HK7 := Aside0.mk (show ∀ q, q ≠ g7 → wh.heap[q]? = wg.heap[q]? from fun q hq => by rw [hW_]; exact heap_other hq _); have HS7 := Aside0.mk (show wh.heap.size = wg.heap.size from by rw [hW_]; simp); have HG7 := Aside0.mk (show w.heap.size ≤ g7 from by have := QFB.out.size; have := Gg7.out; omega); have HB7 := Aside0.mk (show Below w.heap.size w wh from by rw [hW_]; exact ev_below_set (below_all_ QFB.out Bg7.out) HG7.out); clear hW_) | ((with_reducible refine gate_dst (N := 9) rfl ?_); refine box_event ?hg (N := 9) ?hd (cs := #[.int .i64 0, .int .i64 0, .string (⟨#[]⟩ : ByteArray), .int .i64 0, .int .i64 0, .string (⟨#[]⟩ : ByteArray), .int .i64 0, .int .i64 0, .slice none 0 0]) (t := 26) ?hr ?_; (case hd => rfl); (case hg => rfl); (case hr => first | (go_simp; done) | (go_simp; rfl)); intro g9 hg_ wi hbox hb; have Gg9 := Aside0.mk hg_; have Eg9 := Aside0.mk (show EB wi g9 ⟨0, 0, ⟨#[]⟩, 0, 0, ⟨#[]⟩, 0, 0, none, 0, 0⟩ from hbox); have Bg9 := Aside0.mk hb; obtain ⟨u0, u1, u2, u3, u4, u5, u6, u7, u8⟩ := Eg9.out.cells; dsimp only at u0 u1 u2 u3 u4 u5 u6 u7 u8; obtain ⟨v0, v1, v2, v3, v4, v5, v6, v7, v8⟩ := Eg9.out.free; clear hbox hb hg_; ) | ((with_reducible refine gate_store (t := 26) (p := 9) rfl ?_); refine ev_store (w1 := (((((((((wi.setCell ⟨g9, 0, none⟩ (.int .i64 6)).setCell ⟨g9, 1, none⟩ (.int .i64 0)).setCell ⟨g9, 2, none⟩ (.string (⟨#[]⟩ : ByteArray))).setCell ⟨g9, 3, none⟩ (.int .i64 0)).setCell ⟨g9, 4, none⟩ (.int .i64 0)).setCell ⟨g9, 5, none⟩ (.string (⟨#[]⟩ : ByteArray))).setCell ⟨g9, 6, none⟩ (.int .i64 0)).setCell ⟨g9, 7, none⟩ (.int .i64 0)).setCell ⟨g9, 8, none⟩ (.slice none 0 0))) ?hg ?hn ?hr ?_; (case hg => rfl); (case hn => rfl); (case hr => first | (go_simp; done) | (go_simp; rfl)); intro wj hW_; have HW9 := Aside0.mk hW_; clear hW_; clear u0 u1 u2 u3 u4 u5 u6 u7 u8 v0 v1 v2 v3 v4 v5 v6 v7 v8; have HL7 := Aside0.mk (show g7 < wh.heap.size from blk_lt HH7.out); have N29 := Aside0.mk (show g2 ≠ g9 from by have := QF2.out.lt; have := Bg7.out.size; have := HS7.out; have := Gg9.out; omega); have HG9 := Aside0.mk (show w.heap.size ≤ g9 from by have := HG7.out; have := HL7.out; have := Gg9.out; omega); have N49 := Aside0.mk (show g4 ≠ g9 from by have := blk_lt QF4.out; have := Bg7.out.size; have := HS7.out; have := Gg9.out; omega); have N27 := Aside0.mk (show g2 ≠ g7 from by have := QF2.out.lt; have := Gg7.out; omega); have N47 := Aside0.mk (show g4 ≠ g7 from by have := blk_lt QF4.out; have := Gg7.out; omega); have N79 := Aside0.mk (show g7 ≠ g9 from by have := HL7.out; have := Gg9.out; omega); have NL7 := Aside0.mk (show gl ≠ g7 from by have := QFT.out.lt; have := Gg7.out; omega); have NL9 := Aside0.mk (show gl ≠ g9 from by have := QFT.out.lt; have := Bg7.out.size; have := HS7.out; have := Gg9.out; omega); have K0 := Aside0.mk (show Tk w wj g2 g4 g7 g9 gl 0 (0) 0 [] false ⟨6, 0, ⟨#[]⟩, 0, 0, ⟨#[]⟩, 0, 0, none, 0, 0⟩ from by rw [HW9.out]; exact ⟨(w9_other N29.out ⟨6, 0, ⟨#[]⟩, 0, 0, ⟨#[]⟩, 0, 0, none, 0, 0⟩).trans ((Bg9.out.block g2 (by have := QF2.out.lt; have := Bg7.out.size; have := HS7.out; omega)).trans ((HK7.out g2 N27.out).trans ((Bg7.out.block g2 QF2.out.lt).trans QF2.out))), (w9_other N49.out ⟨6, 0, ⟨#[]⟩, 0, 0, ⟨#[]⟩, 0, 0, none, 0, 0⟩).trans ((Bg9.out.block g4 (by have := blk_lt QF4.out; have := Bg7.out.size; have := HS7.out; omega)).trans ((HK7.out g4 N47.out).trans ((Bg7.out.block g4 (blk_lt QF4.out)).trans QF4.out))), (w9_other N79.out ⟨6, 0, ⟨#[]⟩, 0, 0, ⟨#[]⟩, 0, 0, none, 0, 0⟩).trans ((Bg9.out.block g7 HL7.out).trans HH7.out), EB.put Eg9.out ⟨6, 0, ⟨#[]⟩, 0, 0, ⟨#[]⟩, 0, 0, none, 0, 0⟩, QFT.out.move ((w9_other NL9.out ⟨6, 0, ⟨#[]⟩, 0, 0, ⟨#[]⟩, 0, 0, none, 0, 0⟩).trans ((Bg9.out.block gl (by have := QFT.out.lt; have := Bg7.out.size; have := HS7.out; omega)).trans ((HK7.out gl NL7.out).trans (Bg7.out.block gl QFT.out.lt)))), N29.out, w9_below (below_all_ HB7.out Bg9.out) HG9.out ⟨6, 0, ⟨#[]⟩, 0, 0, ⟨#[]⟩, 0, 0, none, 0, 0⟩, HG2.out, HG7.out, HG9.out⟩); clear HW9; obtain ⟨u0, u1, u2, u3, u4, u5, u6, u7, u8⟩ := K0.out.e9.cells; dsimp only at u0 u1 u2 u3 u4 u5 u6 u7 u8; obtain ⟨v0, v1, v2, v3, v4, v5, v6, v7, v8⟩ := K0.out.e9.free; obtain ⟨p0, p1, p2, p3, p4, p5, p6, p7, p8⟩ := (show EB _ g2 ⟨0, 0, ⟨#[]⟩, 0, 0, ⟨#[]⟩, 0, 0, none, 0, 0⟩ from K0.out.e2).cells; dsimp only at p0 p1 p2 p3 p4 p5 p6 p7 p8; obtain ⟨r0, r1, r2, r3, r4, r5, r6, r7, r8⟩ := K0.out.e2.free; have c7 := (blk_cell K0.out.b7 0).trans rfl) | ((with_reducible refine gate_store (t := 26) (p := 2) rfl ?_); refine ev_store (w1 := (((((((((wj.setCell ⟨g2, 0, none⟩ (.int .i64 6)).setCell ⟨g2, 1, none⟩ (.int .i64 (0))).setCell ⟨g2, 2, none⟩ (.string (⟨#[]⟩ : ByteArray))).setCell ⟨g2, 3, none⟩ (.int .i64 (0))).setCell ⟨g2, 4, none⟩ (.int .i64 (0))).setCell ⟨g2, 5, none⟩ (.string (⟨#[]⟩ : ByteArray))).setCell ⟨g2, 6, none⟩ (.int .i64 (0))).setCell ⟨g2, 7, none⟩ (.int .i64 (0))).setCell ⟨g2, 8, none⟩ (.slice none 0 0))) ?hg ?hn ?hr ?_; (case hg => rfl); (case hn => rfl); (case hr => first | (go_simp; done) | (go_simp; rfl)); intro wz hW_; have HWZ := Aside0.mk hW_; clear hW_; clear p0 p1 p2 p3 p4 p5 p6 p7 p8 r0 r1 r2 r3 r4 r5 r6 r7 r8))
          have EZ := Aside0.mk (show EB wz g2 ⟨6, 0, ⟨#[]⟩, 0, 0, ⟨#[]⟩, 0, 0, none, 0, 0⟩ from by rw [HWZ.out]; exact EB.put K0.out.e2 ⟨6, 0, ⟨#[]⟩, 0, 0, ⟨#[]⟩, 0, 0, none, 0, 0⟩)
          have hB_ : Below w.heap.size w wz := by rw [HWZ.out]; exact w9_below K0.out.b HG2.out ⟨6, 0, ⟨#[]⟩, 0, 0, ⟨#[]⟩, 0, 0, none, 0, 0⟩
          refine bodyPost_ret (results_ct rfl _ _ g2 26 #[.int .i64 6, .int .i64 (0), .string (⟨#[]⟩ : ByteArray), .int .i64 (0), .int .i64 (0), .string (⟨#[]⟩ : ByteArray), .int .i64 (0), .int .i64 (0), .slice none 0 0] (0, 0) _ rfl EZ.out Try.underlying26 rfl (by kernel_rfl)) rfl ?_
          have hR_ : R = (⟨6, 0, ⟨#[]⟩, 0, 0, ⟨⟨#[]⟩, 0, 0⟩, []⟩, 0) := by exact HRR.out
          rw [hR_]
          exact ⟨none, 0, rfl, Nat.le_refl _, c43_nil _, hB_⟩
        · skip
          go_wp2_with (first | ((with_reducible refine gate_store (t := 45) (p := 4) rfl ?_); refine ev_store (w1 := wc.setCell ⟨g4, 0, none⟩ (.slice (some ⟨gl, 1, none⟩) 0 (c + 1))) ?hg ?hn ?hr ?_; (case hg => rfl); (case hn => rfl); (case hr => first | (go_simp; done) | (go_simp; rfl)); intro wd_ hW_; have HW7 := Aside0.mk hW_; clear hW_; clear c4 f4; have Q4 := Aside0.mk (show wd_.heap[g4]? = some (.cells #[.slice (some ⟨gl, 1, none⟩) 0 (c + 1)] 45 (0, 0)) from by rw [HW7.out]; exact blk_put D4wc.out 0 _ rfl); have Q2 := Aside0.mk (show EB wd_ g2 ⟨0, 0, ⟨#[]⟩, 0, 0, ⟨#[]⟩, 0, 0, none, 0, 0⟩ from by rw [HW7.out]; exact D2wc.out.other N24.out _); have QB := Aside0.mk (show Below w.heap.size w wd_ from by rw [HW7.out]; exact ev_below_set BDwc.out HG4.out); have c4 : wd_.cell? ⟨g4, 0, none⟩ = some (.slice (some ⟨gl, 1, none⟩) 0 (c + 1)) := (blk_cell Q4.out 0).trans rfl; have QT := Aside0.mk (show TxB wd_ gl 1 [] from by rw [HW7.out]; exact (DTwc.out.set D4wc.out (by decide) _).tail); clear HW7) | (go_at_call 27; (with_reducible refine Calls.mono (fits_i 6 0 6 0 (by decide) (by decide) (by decide) (by decide) true (HFT.out) _) ?_); rintro _ wf ⟨rfl, hb⟩; have QF4 := Aside0.mk ((hb.block g4 (blk_lt Q4.out)).trans Q4.out); have QF2 := Aside0.mk (Q2.out.below hb); have QFB := Aside0.mk (below_all_ QB.out hb); have QFT := Aside0.mk (QT.out.below hb); clear hb c4) | ((with_reducible refine gate_dst (N := 7) rfl ?_); refine box_event ?hg (N := 7) ?hd (cs := #[.bool false]) (t := 4) ?hr ?_; (case hd => rfl); (case hg => rfl); (case hr => first | (go_simp; done) | (go_simp; rfl)); intro g7 hg_ wg hbox hb; have Gg7 := Aside0.mk hg_; have Eg7 := Aside0.mk hbox; have Bg7 := Aside0.mk hb; have c70 := (blk_cell hbox 0).trans rfl; have f70 := blk_frozen hbox 0; clear hbox hb hg_; ) | ((with_reducible refine gate_store (t := 4) (p := 7) rfl ?_); refine ev_store (w1 := wg.setCell ⟨g7, 0, none⟩ (.bool false)) ?hg ?hn ?hr ?_; (case hg => rfl); (case hn => rfl); (case hr => first | (go_simp; done) | (go_simp; rfl)); intro wh hW_; clear c70 f70; have HH7 := Aside0.mk (show wh.heap[g7]? = some (.cells #[.bool false] 4 (0, 0)) from by rw [hW_]; exact blk_put Eg7.out 0 _ rfl); have HK7 := Aside0.mk (show ∀ q, q ≠ g7 → wh.heap[q]? = wg.heap[q]? from fun q hq => by rw [hW_]; exact heap_other hq _); have HS7 := Aside0.mk (show wh.heap.size = wg.heap.size from by rw [hW_]; simp); have HG7 := Aside0.mk (show w.heap.size ≤ g7 from by have := QFB.out.size; have := Gg7.out; omega); have HB7 := Aside0.mk (show Below w.heap.size w wh from by rw [hW_]; exact ev_below_set (below_all_ QFB.out Bg7.out) HG7.out); clear hW_) | ((with_reducible refine gate_dst (N := 9) rfl ?_); refine box_event ?hg (N := 9) ?hd (cs := #[.int .i64 0, .int .i64 0, .string (⟨#[]⟩ : ByteArray), .int .i64 0, .int .i64 0, .string (⟨#[]⟩ : ByteArray), .int .i64 0, .int .i64 0, .slice none 0 0]) (t := 26) ?hr ?_; (case hd => rfl); (case hg => rfl); (case hr => first | (go_simp; done) | (go_simp; rfl)); intro g9 hg_ wi hbox hb; have Gg9 := Aside0.mk hg_; have Eg9 := Aside0.mk (show EB wi g9 ⟨0, 0, ⟨#[]⟩, 0, 0, ⟨#[]⟩, 0, 0, none, 0, 0⟩ from hbox); have Bg9 := Aside0.mk hb; obtain ⟨u0, u1, u2, u3, u4, u5, u6, u7, u8⟩ := Eg9.out.cells; dsimp only at u0 u1 u2 u3 u4 u5 u6 u7 u8; obtain ⟨v0, v1, v2, v3, v4, v5, v6, v7, v8⟩ := Eg9.out.free; clear hbox hb hg_; ) | ((with_reducible refine gate_store (t := 26) (p := 9) rfl ?_); refine ev_store (w1 := (((((((((wi.setCell ⟨g9, 0, none⟩ (.int .i64 6)).setCell ⟨g9, 1, none⟩ (.int .i64 0)).setCell ⟨g9, 2, none⟩ (.string (⟨#[]⟩ : ByteArray))).setCell ⟨g9, 3, none⟩ (.int .i64 0)).setCell ⟨g9, 4, none⟩ (.int .i64 0)).setCell ⟨g9, 5, none⟩ (.string (⟨#[]⟩ : ByteArray))).setCell ⟨g9, 6, none⟩ (.int .i64 0)).setCell ⟨g9, 7, none⟩ (.int .i64 0)).setCell ⟨g9, 8, none⟩ (.slice none 0 0))) ?hg ?hn ?hr ?_; (case hg => rfl); (case hn => rfl); (case hr => first | (go_simp; done) | (go_simp; rfl)); intro wj hW_; have HW9 := Aside0.mk hW_; clear hW_; clear u0 u1 u2 u3 u4 u5 u6 u7 u8 v0 v1 v2 v3 v4 v5 v6 v7 v8; have HL7 := Aside0.mk (show g7 < wh.heap.size from blk_lt HH7.out); have N29 := Aside0.mk (show g2 ≠ g9 from by have := QF2.out.lt; have := Bg7.out.size; have := HS7.out; have := Gg9.out; omega); have HG9 := Aside0.mk (show w.heap.size ≤ g9 from by have := HG7.out; have := HL7.out; have := Gg9.out; omega); have N49 := Aside0.mk (show g4 ≠ g9 from by have := blk_lt QF4.out; have := Bg7.out.size; have := HS7.out; have := Gg9.out; omega); have N27 := Aside0.mk (show g2 ≠ g7 from by have := QF2.out.lt; have := Gg7.out; omega); have N47 := Aside0.mk (show g4 ≠ g7 from by have := blk_lt QF4.out; have := Gg7.out; omega); have N79 := Aside0.mk (show g7 ≠ g9 from by have := HL7.out; have := Gg9.out; omega); have NL7 := Aside0.mk (show gl ≠ g7 from by have := QFT.out.lt; have := Gg7.out; omega); have NL9 := Aside0.mk (show gl ≠ g9 from by have := QFT.out.lt; have := Bg7.out.size; have := HS7.out; have := Gg9.out; omega); have K0 := Aside0.mk (show Tk w wj g2 g4 g7 g9 gl 1 (c + 1) 0 [] false ⟨6, 0, ⟨#[]⟩, 0, 0, ⟨#[]⟩, 0, 0, none, 0, 0⟩ from by rw [HW9.out]; exact ⟨(w9_other N29.out ⟨6, 0, ⟨#[]⟩, 0, 0, ⟨#[]⟩, 0, 0, none, 0, 0⟩).trans ((Bg9.out.block g2 (by have := QF2.out.lt; have := Bg7.out.size; have := HS7.out; omega)).trans ((HK7.out g2 N27.out).trans ((Bg7.out.block g2 QF2.out.lt).trans QF2.out))), (w9_other N49.out ⟨6, 0, ⟨#[]⟩, 0, 0, ⟨#[]⟩, 0, 0, none, 0, 0⟩).trans ((Bg9.out.block g4 (by have := blk_lt QF4.out; have := Bg7.out.size; have := HS7.out; omega)).trans ((HK7.out g4 N47.out).trans ((Bg7.out.block g4 (blk_lt QF4.out)).trans QF4.out))), (w9_other N79.out ⟨6, 0, ⟨#[]⟩, 0, 0, ⟨#[]⟩, 0, 0, none, 0, 0⟩).trans ((Bg9.out.block g7 HL7.out).trans HH7.out), EB.put Eg9.out ⟨6, 0, ⟨#[]⟩, 0, 0, ⟨#[]⟩, 0, 0, none, 0, 0⟩, QFT.out.move ((w9_other NL9.out ⟨6, 0, ⟨#[]⟩, 0, 0, ⟨#[]⟩, 0, 0, none, 0, 0⟩).trans ((Bg9.out.block gl (by have := QFT.out.lt; have := Bg7.out.size; have := HS7.out; omega)).trans ((HK7.out gl NL7.out).trans (Bg7.out.block gl QFT.out.lt)))), N29.out, w9_below (below_all_ HB7.out Bg9.out) HG9.out ⟨6, 0, ⟨#[]⟩, 0, 0, ⟨#[]⟩, 0, 0, none, 0, 0⟩, HG2.out, HG7.out, HG9.out⟩); clear HW9; obtain ⟨u0, u1, u2, u3, u4, u5, u6, u7, u8⟩ := K0.out.e9.cells; dsimp only at u0 u1 u2 u3 u4 u5 u6 u7 u8; obtain ⟨v0, v1, v2, v3, v4, v5, v6, v7, v8⟩ := K0.out.e9.free; obtain ⟨p0, p1, p2, p3, p4, p5, p6, p7, p8⟩ := (show EB _ g2 ⟨0, 0, ⟨#[]⟩, 0, 0, ⟨#[]⟩, 0, 0, none, 0, 0⟩ from K0.out.e2).cells; dsimp only at p0 p1 p2 p3 p4 p5 p6 p7 p8; obtain ⟨r0, r1, r2, r3, r4, r5, r6, r7, r8⟩ := K0.out.e2.free; have c7 := (blk_cell K0.out.b7 0).trans rfl) | ((with_reducible refine gate_store (t := 26) (p := 2) rfl ?_); refine ev_store (w1 := (((((((((wj.setCell ⟨g2, 0, none⟩ (.int .i64 6)).setCell ⟨g2, 1, none⟩ (.int .i64 (0))).setCell ⟨g2, 2, none⟩ (.string (⟨#[]⟩ : ByteArray))).setCell ⟨g2, 3, none⟩ (.int .i64 (0))).setCell ⟨g2, 4, none⟩ (.int .i64 (0))).setCell ⟨g2, 5, none⟩ (.string (⟨#[]⟩ : ByteArray))).setCell ⟨g2, 6, none⟩ (.int .i64 (0))).setCell ⟨g2, 7, none⟩ (.int .i64 (0))).setCell ⟨g2, 8, none⟩ (.slice none 0 0))) ?hg ?hn ?hr ?_; (case hg => rfl); (case hn => rfl); (case hr => first | (go_simp; done) | (go_simp; rfl)); intro wz hW_; have HWZ := Aside0.mk hW_; clear hW_; clear p0 p1 p2 p3 p4 p5 p6 p7 p8 r0 r1 r2 r3 r4 r5 r6 r7 r8))
          have EZ := Aside0.mk (show EB wz g2 ⟨6, 0, ⟨#[]⟩, 0, 0, ⟨#[]⟩, 0, 0, none, 0, 0⟩ from by rw [HWZ.out]; exact EB.put K0.out.e2 ⟨6, 0, ⟨#[]⟩, 0, 0, ⟨#[]⟩, 0, 0, none, 0, 0⟩)
          have hB_ : Below w.heap.size w wz := by rw [HWZ.out]; exact w9_below K0.out.b HG2.out ⟨6, 0, ⟨#[]⟩, 0, 0, ⟨#[]⟩, 0, 0, none, 0, 0⟩
          refine bodyPost_ret (results_ct rfl _ _ g2 26 #[.int .i64 6, .int .i64 (0), .string (⟨#[]⟩ : ByteArray), .int .i64 (0), .int .i64 (0), .string (⟨#[]⟩ : ByteArray), .int .i64 (0), .int .i64 (0), .slice none 0 0] (0, 0) _ rfl EZ.out Try.underlying26 rfl (by kernel_rfl)) rfl ?_
          have hR_ : R = (⟨6, 0, ⟨#[]⟩, 0, 0, ⟨⟨#[]⟩, 0, 0⟩, []⟩, 0) := by exact HRR.out
          rw [hR_]
          exact ⟨none, 0, rfl, Nat.le_refl _, c43_nil _, hB_⟩
      · skip
        have hm1 : m = 4 := by simpa [fitsP] using HFT.out
        subst hm1
        obtain ⟨x0, x1, x2, x3, rfl⟩ := len4 HM.out.symm
        obtain ⟨c, rfl⟩ : ∃ c, cc = c + 1 := ⟨cc - 1, by have := HC1.out; omega⟩
        go_wp2_with (first | ((with_reducible refine gate_store (t := 45) (p := 4) rfl ?_); refine ev_store (w1 := wc.setCell ⟨g4, 0, none⟩ (.slice (some ⟨gl, 1, none⟩) 4 (c + 1))) ?hg ?hn ?hr ?_; (case hg => rfl); (case hn => rfl); (case hr => first | (go_simp; done) | (go_simp; rfl)); intro wd_ hW_; have HW7 := Aside0.mk hW_; clear hW_; clear c4 f4; have Q4 := Aside0.mk (show wd_.heap[g4]? = some (.cells #[.slice (some ⟨gl, 1, none⟩) 4 (c + 1)] 45 (0, 0)) from by rw [HW7.out]; exact blk_put D4wc.out 0 _ rfl); have Q2 := Aside0.mk (show EB wd_ g2 ⟨0, 0, ⟨#[]⟩, 0, 0, ⟨#[]⟩, 0, 0, none, 0, 0⟩ from by rw [HW7.out]; exact D2wc.out.other N24.out _); have QB := Aside0.mk (show Below w.heap.size w wd_ from by rw [HW7.out]; exact ev_below_set BDwc.out HG4.out); have c4 : wd_.cell? ⟨g4, 0, none⟩ = some (.slice (some ⟨gl, 1, none⟩) 4 (c + 1)) := (blk_cell Q4.out 0).trans rfl; have QT := Aside0.mk (show TxB wd_ gl 1 [x0, x1, x2, x3] from by rw [HW7.out]; exact (DTwc.out.set D4wc.out (by decide) _).tail); clear HW7) | (go_at_call 27; (with_reducible refine Calls.mono (fits_i 7 4 7 4 (by decide) (by decide) (by decide) (by decide) true (HFT.out) _) ?_); rintro _ wf ⟨rfl, hb⟩; have QF4 := Aside0.mk ((hb.block g4 (blk_lt Q4.out)).trans Q4.out); have QF2 := Aside0.mk (Q2.out.below hb); have QFB := Aside0.mk (below_all_ QB.out hb); have QFT := Aside0.mk (QT.out.below hb); clear hb c4) | ((with_reducible refine gate_dst (N := 7) rfl ?_); refine box_event ?hg (N := 7) ?hd (cs := #[.bool false]) (t := 4) ?hr ?_; (case hd => rfl); (case hg => rfl); (case hr => first | (go_simp; done) | (go_simp; rfl)); intro g7 hg_ wg hbox hb; have Gg7 := Aside0.mk hg_; have Eg7 := Aside0.mk hbox; have Bg7 := Aside0.mk hb; have c70 := (blk_cell hbox 0).trans rfl; have f70 := blk_frozen hbox 0; clear hbox hb hg_; ) | ((with_reducible refine gate_store (t := 4) (p := 7) rfl ?_); refine ev_store (w1 := wg.setCell ⟨g7, 0, none⟩ (.bool false)) ?hg ?hn ?hr ?_; (case hg => rfl); (case hn => rfl); (case hr => first | (go_simp; done) | (go_simp; rfl)); intro wh hW_; clear c70 f70; have HH7 := Aside0.mk (show wh.heap[g7]? = some (.cells #[.bool false] 4 (0, 0)) from by rw [hW_]; exact blk_put Eg7.out 0 _ rfl); have HK7 := Aside0.mk (show ∀ q, q ≠ g7 → wh.heap[q]? = wg.heap[q]? from fun q hq => by rw [hW_]; exact heap_other hq _); have HS7 := Aside0.mk (show wh.heap.size = wg.heap.size from by rw [hW_]; simp); have HG7 := Aside0.mk (show w.heap.size ≤ g7 from by have := QFB.out.size; have := Gg7.out; omega); have HB7 := Aside0.mk (show Below w.heap.size w wh from by rw [hW_]; exact ev_below_set (below_all_ QFB.out Bg7.out) HG7.out); clear hW_) | ((with_reducible refine gate_dst (N := 9) rfl ?_); refine box_event ?hg (N := 9) ?hd (cs := #[.int .i64 0, .int .i64 0, .string (⟨#[]⟩ : ByteArray), .int .i64 0, .int .i64 0, .string (⟨#[]⟩ : ByteArray), .int .i64 0, .int .i64 0, .slice none 0 0]) (t := 26) ?hr ?_; (case hd => rfl); (case hg => rfl); (case hr => first | (go_simp; done) | (go_simp; rfl)); intro g9 hg_ wi hbox hb; have Gg9 := Aside0.mk hg_; have Eg9 := Aside0.mk (show EB wi g9 ⟨0, 0, ⟨#[]⟩, 0, 0, ⟨#[]⟩, 0, 0, none, 0, 0⟩ from hbox); have Bg9 := Aside0.mk hb; obtain ⟨u0, u1, u2, u3, u4, u5, u6, u7, u8⟩ := Eg9.out.cells; dsimp only at u0 u1 u2 u3 u4 u5 u6 u7 u8; obtain ⟨v0, v1, v2, v3, v4, v5, v6, v7, v8⟩ := Eg9.out.free; clear hbox hb hg_; ) | ((with_reducible refine gate_store (t := 26) (p := 9) rfl ?_); refine ev_store (w1 := (((((((((wi.setCell ⟨g9, 0, none⟩ (.int .i64 7)).setCell ⟨g9, 1, none⟩ (.int .i64 0)).setCell ⟨g9, 2, none⟩ (.string (⟨#[]⟩ : ByteArray))).setCell ⟨g9, 3, none⟩ (.int .i64 0)).setCell ⟨g9, 4, none⟩ (.int .i64 0)).setCell ⟨g9, 5, none⟩ (.string (⟨#[]⟩ : ByteArray))).setCell ⟨g9, 6, none⟩ (.int .i64 0)).setCell ⟨g9, 7, none⟩ (.int .i64 0)).setCell ⟨g9, 8, none⟩ (.slice none 0 0))) ?hg ?hn ?hr ?_; (case hg => rfl); (case hn => rfl); (case hr => first | (go_simp; done) | (go_simp; rfl)); intro wj hW_; have HW9 := Aside0.mk hW_; clear hW_; clear u0 u1 u2 u3 u4 u5 u6 u7 u8 v0 v1 v2 v3 v4 v5 v6 v7 v8; have HL7 := Aside0.mk (show g7 < wh.heap.size from blk_lt HH7.out); have N29 := Aside0.mk (show g2 ≠ g9 from by have := QF2.out.lt; have := Bg7.out.size; have := HS7.out; have := Gg9.out; omega); have HG9 := Aside0.mk (show w.heap.size ≤ g9 from by have := HG7.out; have := HL7.out; have := Gg9.out; omega); have N49 := Aside0.mk (show g4 ≠ g9 from by have := blk_lt QF4.out; have := Bg7.out.size; have := HS7.out; have := Gg9.out; omega); have N27 := Aside0.mk (show g2 ≠ g7 from by have := QF2.out.lt; have := Gg7.out; omega); have N47 := Aside0.mk (show g4 ≠ g7 from by have := blk_lt QF4.out; have := Gg7.out; omega); have N79 := Aside0.mk (show g7 ≠ g9 from by have := HL7.out; have := Gg9.out; omega); have NL7 := Aside0.mk (show gl ≠ g7 from by have := QFT.out.lt; have := Gg7.out; omega); have NL9 := Aside0.mk (show gl ≠ g9 from by have := QFT.out.lt; have := Bg7.out.size; have := HS7.out; have := Gg9.out; omega); have K0 := Aside0.mk (show Tk w wj g2 g4 g7 g9 gl 1 (c + 1) 4 [x0, x1, x2, x3] false ⟨7, 0, ⟨#[]⟩, 0, 0, ⟨#[]⟩, 0, 0, none, 0, 0⟩ from by rw [HW9.out]; exact ⟨(w9_other N29.out ⟨7, 0, ⟨#[]⟩, 0, 0, ⟨#[]⟩, 0, 0, none, 0, 0⟩).trans ((Bg9.out.block g2 (by have := QF2.out.lt; have := Bg7.out.size; have := HS7.out; omega)).trans ((HK7.out g2 N27.out).trans ((Bg7.out.block g2 QF2.out.lt).trans QF2.out))), (w9_other N49.out ⟨7, 0, ⟨#[]⟩, 0, 0, ⟨#[]⟩, 0, 0, none, 0, 0⟩).trans ((Bg9.out.block g4 (by have := blk_lt QF4.out; have := Bg7.out.size; have := HS7.out; omega)).trans ((HK7.out g4 N47.out).trans ((Bg7.out.block g4 (blk_lt QF4.out)).trans QF4.out))), (w9_other N79.out ⟨7, 0, ⟨#[]⟩, 0, 0, ⟨#[]⟩, 0, 0, none, 0, 0⟩).trans ((Bg9.out.block g7 HL7.out).trans HH7.out), EB.put Eg9.out ⟨7, 0, ⟨#[]⟩, 0, 0, ⟨#[]⟩, 0, 0, none, 0, 0⟩, QFT.out.move ((w9_other NL9.out ⟨7, 0, ⟨#[]⟩, 0, 0, ⟨#[]⟩, 0, 0, none, 0, 0⟩).trans ((Bg9.out.block gl (by have := QFT.out.lt; have := Bg7.out.size; have := HS7.out; omega)).trans ((HK7.out gl NL7.out).trans (Bg7.out.block gl QFT.out.lt)))), N29.out, w9_below (below_all_ HB7.out Bg9.out) HG9.out ⟨7, 0, ⟨#[]⟩, 0, 0, ⟨#[]⟩, 0, 0, none, 0, 0⟩, HG2.out, HG7.out, HG9.out⟩); clear HW9))
        refine region_drew (fun W_ => W_.heap[g4]? = some (.cells #[.slice (some ⟨gl, 1, none⟩) 4 (c + 1)] 45 (0, 0)) ∧ TxB W_ gl 1 [x0, x1, x2, x3]) (by kernel_rfl) (fun d1_ hd1 he1 => ?_)
        have K0d := Aside0.mk (K0.out.below hd1)
        clear hd1 he1
        refine ⟨⟨K0d.out.b4, K0d.out.tx⟩, fun hHeld => ?_⟩
        refine wpAnyH_take (i := 0) (v := .func (.func 28) #[] #[.pointer (some ⟨g4, 0, none⟩), .pointer (some ⟨g7, 0, none⟩)]) rfl (by kernel_rfl) (by kernel_rfl) (by kernel_rfl) (fun _ _ _ h => h) (Or.inl ⟨by kernel_rfl, ?_⟩) (by assumption) ?_
        · intro W_ hSw
          obtain ⟨hs1, hs2⟩ := hSw
          have q1 := (blk_cell hs1 0).trans rfl
          have q2 : W_.cell? ⟨gl, 2, none⟩ = some (.string x1) := hs2.at 1 (by simp)
          clear hs1 hs2
          skip
          first | (go_simp; done) | (go_simp; with_reducible rfl) | (go_simp; rfl)
        refine wpAnyH_take (i := 2) (v := .slice (some ⟨gl, 1, none⟩) 4 (c + 1)) rfl (by kernel_rfl) (by kernel_rfl) (by kernel_rfl) (fun _ _ _ h => h) (Or.inl ⟨by kernel_rfl, ?_⟩) (by assumption) ?_
        · intro W_ hSw
          obtain ⟨hs1, hs2⟩ := hSw
          have q1 := (blk_cell hs1 0).trans rfl
          have q2 : W_.cell? ⟨gl, 2, none⟩ = some (.string x1) := hs2.at 1 (by simp)
          clear hs1 hs2
          skip
          first | (go_simp; done) | (go_simp; with_reducible rfl) | (go_simp; rfl)
        refine wpAnyH_take (i := 3) (v := .pointer (some ⟨gl, 2, none⟩)) rfl (by kernel_rfl) (by kernel_rfl) (by kernel_rfl) (fun _ _ _ h => h) (Or.inl ⟨by kernel_rfl, ?_⟩) (by assumption) ?_
        · intro W_ hSw
          obtain ⟨hs1, hs2⟩ := hSw
          have q1 := (blk_cell hs1 0).trans rfl
          have q2 : W_.cell? ⟨gl, 2, none⟩ = some (.string x1) := hs2.at 1 (by simp)
          clear hs1 hs2
          skip
          first | (go_simp; done) | (go_simp; with_reducible rfl) | (go_simp; rfl)
        refine wpAnyH_take (i := 4) (v := .string x1) rfl (by kernel_rfl) (by kernel_rfl) (by kernel_rfl) (fun _ _ _ h => h) (Or.inl ⟨by kernel_rfl, ?_⟩) (by assumption) ?_
        · intro W_ hSw
          obtain ⟨hs1, hs2⟩ := hSw
          have q1 := (blk_cell hs1 0).trans rfl
          have q2 : W_.cell? ⟨gl, 2, none⟩ = some (.string x1) := hs2.at 1 (by simp)
          clear hs1 hs2
          skip
          first | (go_simp; done) | (go_simp; with_reducible rfl) | (go_simp; rfl)
        refine wpAnyH_take (i := 5) (v := .func (.func 28) #[] #[.pointer (some ⟨g4, 0, none⟩), .pointer (some ⟨g7, 0, none⟩)]) rfl (by kernel_rfl) (by kernel_rfl) (by kernel_rfl) (fun _ _ _ h => h) (Or.inl ⟨by kernel_rfl, ?_⟩) (by assumption) ?_
        · intro W_ hSw
          obtain ⟨hs1, hs2⟩ := hSw
          have q1 := (blk_cell hs1 0).trans rfl
          have q2 : W_.cell? ⟨gl, 2, none⟩ = some (.string x1) := hs2.at 1 (by simp)
          clear hs1 hs2
          skip
          first | (go_simp; done) | (go_simp; with_reducible rfl) | (go_simp; rfl)
        refine wpAnyH_take (i := 7) (v := .func (.func 28) #[] #[.pointer (some ⟨g4, 0, none⟩), .pointer (some ⟨g7, 0, none⟩)]) rfl (by kernel_rfl) (by kernel_rfl) (by kernel_rfl) (fun _ _ _ h => h) (Or.inl ⟨by kernel_rfl, ?_⟩) (by assumption) ?_
        · intro W_ hSw
          obtain ⟨hs1, hs2⟩ := hSw
          have q1 := (blk_cell hs1 0).trans rfl
          have q2 : W_.cell? ⟨gl, 2, none⟩ = some (.string x1) := hs2.at 1 (by simp)
          clear hs1 hs2
          skip
          first | (go_simp; done) | (go_simp; with_reducible rfl) | (go_simp; rfl)
        try simp only [Act.put, List.getElem_toArray, List.getElem_cons_succ, List.getElem_cons_zero, List.setIfInBounds_toArray, List.set_cons_zero, List.set_cons_succ]
        clear hHeld
        refine next_le (i := 1) (rs := []) (by kernel_rfl) ?_
        refine cons_callC 1 (N := 77) (c := 76) (xs := #[.const (.int .i64 0)]) (ts := #[3]) (by kernel_rfl) Try.func28 (by kernel_rfl) rfl #[.pointer (some ⟨g4, 0, none⟩), .pointer (some ⟨g7, 0, none⟩)] (by kernel_rfl) #[.int .i64 0] (by kernel_rfl) ?_ AllReadyH.nil
        with_reducible refine Calls.mono (K0d.out.numA rfl (by decide) 0 0 rfl x0 rfl) ?_
        rintro _ wk1 ⟨rfl, hk_, -⟩
        have Kc1 := Aside0.mk hk_
        clear hk_
        refine ⟨_, rfl, ⟨Kc1.out.b4, Kc1.out.tx⟩, ?_⟩
        try simp only [Act.put, List.getElem_toArray, List.getElem_cons_succ, List.getElem_cons_zero, List.setIfInBounds_toArray, List.set_cons_zero, List.set_cons_succ]
        have hHeld : wk1.heap[g4]? = some (.cells #[.slice (some ⟨gl, 1, none⟩) 4 (c + 1)] 45 (0, 0)) ∧ TxB wk1 gl 1 [x0, x1, x2, x3] := ⟨Kc1.out.b4, Kc1.out.tx⟩
        refine wpAnyH_take (i := 10) (v := .pointer (some ⟨g9, 4, none⟩)) rfl (by kernel_rfl) (by kernel_rfl) (by kernel_rfl) (fun _ _ _ h => h) (Or.inl ⟨by kernel_rfl, ?_⟩) (by assumption) ?_
        · intro W_ hSw
          obtain ⟨hs1, hs2⟩ := hSw
          have q1 := (blk_cell hs1 0).trans rfl
          have q2 : W_.cell? ⟨gl, 2, none⟩ = some (.string x1) := hs2.at 1 (by simp)
          clear hs1 hs2
          skip
          first | (go_simp; done) | (go_simp; with_reducible rfl) | (go_simp; rfl)
        try simp only [Act.put, List.getElem_toArray, List.getElem_cons_succ, List.getElem_cons_zero, List.setIfInBounds_toArray, List.set_cons_zero, List.set_cons_succ]
        clear hHeld
        refine next_le (i := 6) (rs := []) (by kernel_rfl) ?_
        refine cons_callC 6 (N := 82) (c := 81) (xs := #[.const (.int .i64 2)]) (ts := #[3]) (by kernel_rfl) Try.func28 (by kernel_rfl) rfl #[.pointer (some ⟨g4, 0, none⟩), .pointer (some ⟨g7, 0, none⟩)] (by kernel_rfl) #[.int .i64 2] (by kernel_rfl) ?_ AllReadyH.nil
        with_reducible refine Calls.mono (Kc1.out.numA rfl (by decide) 2 2 rfl x2 rfl) ?_
        rintro _ wk6 ⟨rfl, hk_, -⟩
        have Kc6 := Aside0.mk hk_
        clear hk_
        refine ⟨_, rfl, ⟨Kc6.out.b4, Kc6.out.tx⟩, ?_⟩
        try simp only [Act.put, List.getElem_toArray, List.getElem_cons_succ, List.getElem_cons_zero, List.setIfInBounds_toArray, List.set_cons_zero, List.set_cons_succ]
        refine next_le (i := 8) (rs := []) (by kernel_rfl) ?_
        refine cons_callC 8 (N := 84) (c := 83) (xs := #[.const (.int .i64 3)]) (ts := #[3]) (by kernel_rfl) Try.func28 (by kernel_rfl) rfl #[.pointer (some ⟨g4, 0, none⟩), .pointer (some ⟨g7, 0, none⟩)] (by kernel_rfl) #[.int .i64 3] (by kernel_rfl) ?_ AllReadyH.nil
        with_reducible refine Calls.mono (Kc6.out.numA rfl (by decide) 3 3 rfl x3 rfl) ?_
        rintro _ wk8 ⟨rfl, hk_, -⟩
        have Kc8 := Aside0.mk hk_
        clear hk_
        refine ⟨_, rfl, ⟨Kc8.out.b4, Kc8.out.tx⟩, ?_⟩
        try simp only [Act.put, List.getElem_toArray, List.getElem_cons_succ, List.getElem_cons_zero, List.setIfInBounds_toArray, List.set_cons_zero, List.set_cons_succ]
        obtain ⟨wv, hwv⟩ : ∃ wv, wv = (((false || !pk x0) || !pk x2) || !pk x3) := ⟨_, rfl⟩
        have HRR := Aside0.mk (show R = if wv = true then (z26, 2) else (⟨7, 0, ⟨#[]⟩, 0, pv x0, ⟨x1, pv x2, pv x3⟩, []⟩, 0) from by rw [HR.out, ← HKN.out, hwv]; exact kind_7 x0 x1 x2 x3)
        have Kw := Aside0.mk (show Tk w wk8 g2 g4 g7 g9 gl 1 (c + 1) 4 [x0, x1, x2, x3] wv ⟨7, 0, ⟨#[]⟩, 0, 0, ⟨#[]⟩, 0, 0, none, 0, 0⟩ from by rw [hwv]; exact Kc8.out)
        clear hwv
        have hHeld : wk8.heap[g4]? = some (.cells #[.slice (some ⟨gl, 1, none⟩) 4 (c + 1)] 45 (0, 0)) ∧ TxB wk8 gl 1 [x0, x1, x2, x3] := ⟨Kw.out.b4, Kw.out.tx⟩
        refine wpAnyH_take (i := 9) (v := .agg #[.string x1, .int .i64 (pv x2), .int .i64 (pv x3)]) rfl (by kernel_rfl) (by kernel_rfl) (by kernel_rfl) (fun _ _ _ h => h) (Or.inl ⟨by kernel_rfl, ?_⟩) (by assumption) ?_
        · intro W_ hSw
          obtain ⟨hs1, hs2⟩ := hSw
          have q1 := (blk_cell hs1 0).trans rfl
          have q2 : W_.cell? ⟨gl, 2, none⟩ = some (.string x1) := hs2.at 1 (by simp)
          clear hs1 hs2
          skip
          first | (go_simp; done) | (go_simp; with_reducible rfl) | (go_simp; rfl)
        try simp only [Act.put, List.getElem_toArray, List.getElem_cons_succ, List.getElem_cons_zero, List.setIfInBounds_toArray, List.set_cons_zero, List.set_cons_succ]
        clear hHeld
        refine next_le (i := 11) (rs := []) (by kernel_rfl) ?_
        refine cons_skip 11 (op := .store 3 (.tmp 86) (.tmp 77)) (wk8.setCell ⟨g9, 4, none⟩ (.int .i64 (pv x0))) (by kernel_rfl) (fun o ho => st_int _ o 86 77 ho (by kernel_rfl) (by kernel_rfl) Kw.out.e9.cells.2.2.2.2.1 Kw.out.e9.free.2.2.2.2.1) (fun ws11 hw_ => ?_) AllReadyH.nil
        have Ks11 := Aside0.mk (show Tk w ws11 g2 g4 g7 g9 gl 1 (c + 1) 4 [x0, x1, x2, x3] wv ⟨7, 0, ⟨#[]⟩, 0, pv x0, ⟨#[]⟩, 0, 0, none, 0, 0⟩ from by rw [hw_]; exact Kw.out.setT (pv x0))
        clear hw_
        refine ⟨⟨Ks11.out.b4, Ks11.out.tx⟩, ?_⟩
        have hHeld : ws11.heap[g4]? = some (.cells #[.slice (some ⟨gl, 1, none⟩) 4 (c + 1)] 45 (0, 0)) ∧ TxB ws11 gl 1 [x0, x1, x2, x3] := ⟨Ks11.out.b4, Ks11.out.tx⟩
        refine wpAnyH_take (i := 12) (v := .pointer (some ⟨g9, 5, none⟩)) rfl (by kernel_rfl) (by kernel_rfl) (by kernel_rfl) (fun _ _ _ h => h) (Or.inl ⟨by kernel_rfl, ?_⟩) (by assumption) ?_
        · intro W_ hSw
          obtain ⟨hs1, hs2⟩ := hSw
          have q1 := (blk_cell hs1 0).trans rfl
          have q2 : W_.cell? ⟨gl, 2, none⟩ = some (.string x1) := hs2.at 1 (by simp)
          clear hs1 hs2
          skip
          first | (go_simp; done) | (go_simp; with_reducible rfl) | (go_simp; rfl)
        try simp only [Act.put, List.getElem_toArray, List.getElem_cons_succ, List.getElem_cons_zero, List.setIfInBounds_toArray, List.set_cons_zero, List.set_cons_succ]
        clear hHeld
        refine next_le (i := 13) (rs := []) (by kernel_rfl) ?_
        refine cons_skip 13 (op := .store 23 (.tmp 87) (.tmp 85)) (((ws11.setCell ⟨g9, 5, none⟩ (.string x1)).setCell ⟨g9, 6, none⟩ (.int .i64 (pv x2))).setCell ⟨g9, 7, none⟩ (.int .i64 (pv x3))) (by kernel_rfl) (fun o ho => st_fault _ o 87 85 ho (by kernel_rfl) (by kernel_rfl) Ks11.out.e9) (fun ws13 hw_ => ?_) AllReadyH.nil
        have Ks13 := Aside0.mk (show Tk w ws13 g2 g4 g7 g9 gl 1 (c + 1) 4 [x0, x1, x2, x3] wv ⟨7, 0, ⟨#[]⟩, 0, pv x0, x1, pv x2, pv x3, none, 0, 0⟩ from by rw [hw_]; exact Ks11.out.setF x1 (pv x2) (pv x3))
        clear hw_
        refine ⟨⟨Ks13.out.b4, Ks13.out.tx⟩, ?_⟩
        refine wpAnyH_done (by kernel_rfl) ?_ _
        cases wv
        · skip
          obtain ⟨u0, u1, u2, u3, u4, u5, u6, u7, u8⟩ := Ks13.out.e9.cells; dsimp only at u0 u1 u2 u3 u4 u5 u6 u7 u8; obtain ⟨v0, v1, v2, v3, v4, v5, v6, v7, v8⟩ := Ks13.out.e9.free; obtain ⟨p0, p1, p2, p3, p4, p5, p6, p7, p8⟩ := (show EB _ g2 ⟨0, 0, ⟨#[]⟩, 0, 0, ⟨#[]⟩, 0, 0, none, 0, 0⟩ from Ks13.out.e2).cells; dsimp only at p0 p1 p2 p3 p4 p5 p6 p7 p8; obtain ⟨r0, r1, r2, r3, r4, r5, r6, r7, r8⟩ := Ks13.out.e2.free
          have c7 := (blk_cell Ks13.out.b7 0).trans rfl
          go_wp2_with (first | ((with_reducible refine gate_store (t := 26) (p := 2) rfl ?_); refine ev_store (w1 := (((((((((ws13.setCell ⟨g2, 0, none⟩ (.int .i64 7)).setCell ⟨g2, 1, none⟩ (.int .i64 (0))).setCell ⟨g2, 2, none⟩ (.string (⟨#[]⟩ : ByteArray))).setCell ⟨g2, 3, none⟩ (.int .i64 (0))).setCell ⟨g2, 4, none⟩ (.int .i64 (pv x0))).setCell ⟨g2, 5, none⟩ (.string (x1 : ByteArray))).setCell ⟨g2, 6, none⟩ (.int .i64 (pv x2))).setCell ⟨g2, 7, none⟩ (.int .i64 (pv x3))).setCell ⟨g2, 8, none⟩ (.slice none 0 0))) ?hg ?hn ?hr ?_; (case hg => rfl); (case hn => rfl); (case hr => first | (go_simp; done) | (go_simp; rfl)); intro wz hW_; have HWZ := Aside0.mk hW_; clear hW_; clear p0 p1 p2 p3 p4 p5 p6 p7 p8 r0 r1 r2 r3 r4 r5 r6 r7 r8))
          have EZ := Aside0.mk (show EB wz g2 ⟨7, 0, ⟨#[]⟩, 0, pv x0, x1, pv x2, pv x3, none, 0, 0⟩ from by rw [HWZ.out]; exact EB.put Ks13.out.e2 ⟨7, 0, ⟨#[]⟩, 0, pv x0, x1, pv x2, pv x3, none, 0, 0⟩)
          have hB_ : Below w.heap.size w wz := by rw [HWZ.out]; exact w9_below Ks13.out.b HG2.out ⟨7, 0, ⟨#[]⟩, 0, pv x0, x1, pv x2, pv x3, none, 0, 0⟩
          refine bodyPost_ret (results_ct rfl _ _ g2 26 #[.int .i64 7, .int .i64 (0), .string (⟨#[]⟩ : ByteArray), .int .i64 (0), .int .i64 (pv x0), .string (x1 : ByteArray), .int .i64 (pv x2), .int .i64 (pv x3), .slice none 0 0] (0, 0) _ rfl EZ.out Try.underlying26 rfl (by kernel_rfl)) rfl ?_
          have hR_ : R = (⟨7, 0, ⟨#[]⟩, 0, pv x0, ⟨x1, pv x2, pv x3⟩, []⟩, 0) := by rw [HRR.out]; rfl
          rw [hR_]
          exact ⟨none, 0, rfl, Nat.le_refl _, c43_nil _, hB_⟩
        · skip
          obtain ⟨u0, u1, u2, u3, u4, u5, u6, u7, u8⟩ := Ks13.out.e9.cells; dsimp only at u0 u1 u2 u3 u4 u5 u6 u7 u8; obtain ⟨v0, v1, v2, v3, v4, v5, v6, v7, v8⟩ := Ks13.out.e9.free; obtain ⟨p0, p1, p2, p3, p4, p5, p6, p7, p8⟩ := (show EB _ g2 ⟨0, 0, ⟨#[]⟩, 0, 0, ⟨#[]⟩, 0, 0, none, 0, 0⟩ from Ks13.out.e2).cells; dsimp only at p0 p1 p2 p3 p4 p5 p6 p7 p8; obtain ⟨r0, r1, r2, r3, r4, r5, r6, r7, r8⟩ := Ks13.out.e2.free
          have c7 := (blk_cell Ks13.out.b7 0).trans rfl
          go_wp2_with (first | ((with_reducible refine gate_store (t := 26) (p := 2) rfl ?_); refine ev_store (w1 := (((((((((ws13.setCell ⟨g2, 0, none⟩ (.int .i64 0)).setCell ⟨g2, 1, none⟩ (.int .i64 0)).setCell ⟨g2, 2, none⟩ (.string (⟨#[]⟩ : ByteArray))).setCell ⟨g2, 3, none⟩ (.int .i64 0)).setCell ⟨g2, 4, none⟩ (.int .i64 0)).setCell ⟨g2, 5, none⟩ (.string (⟨#[]⟩ : ByteArray))).setCell ⟨g2, 6, none⟩ (.int .i64 0)).setCell ⟨g2, 7, none⟩ (.int .i64 0)).setCell ⟨g2, 8, none⟩ (.slice none 0 0))) ?hg ?hn ?hr ?_; (case hg => rfl); (case hn => rfl); (case hr => first | (go_simp; done) | (go_simp; rfl)); intro wz hW_; have HWZ := Aside0.mk hW_; clear hW_; clear p0 p1 p2 p3 p4 p5 p6 p7 p8 r0 r1 r2 r3 r4 r5 r6 r7 r8))
          have EZ := Aside0.mk (show EB wz g2 Ec.z from by rw [HWZ.out]; exact EB.put Ks13.out.e2 Ec.z)
          have hB_ : Below w.heap.size w wz := by rw [HWZ.out]; exact w9_below Ks13.out.b HG2.out Ec.z
          refine bodyPost_ret (results_ct rfl _ _ g2 26 #[.int .i64 0, .int .i64 0, .string (⟨#[]⟩ : ByteArray), .int .i64 0, .int .i64 0, .string (⟨#[]⟩ : ByteArray), .int .i64 0, .int .i64 0, .slice none 0 0] (0, 0) _ rfl EZ.out Try.underlying26 rfl (by kernel_rfl)) rfl ?_
          have hR_ : R = (z26, 2) := by rw [HRR.out]; rfl
          rw [hR_]
          exact ⟨none, 0, rfl, Nat.le_refl _, c43_nil _, hB_⟩
      · skip
        obtain ⟨q, hq⟩ : ∃ q, m = 3 * q := ⟨m / 3, by have h9 : (m % 3 == 0) = true := HFT.out; have := beq_iff_eq.1 h9; omega⟩
        have HQ := Aside0.mk hq
        clear hq
        have HRR := Aside0.mk (show R = if wr8 a q = true then (z26, 2) else ({ k0 8 with f6 := lf8 a q }, 0) from by rw [HR.out, ← HKN.out]; exact kind_8 a q (by rw [← HM.out]; exact HQ.out))
        have HMX := Aside0.mk (show m ≤ 1000000000 from by have := HM2.out; omega)
        rcases cc with _ | c
        · obtain rfl : m = 0 := by have := HC1.out; omega
          obtain rfl := List.eq_nil_of_length_eq_zero HM.out.symm
          obtain rfl : q = 0 := by have := HQ.out; omega
          go_wp2_with (first | ((with_reducible refine gate_store (t := 45) (p := 4) rfl ?_); refine ev_store (w1 := wc.setCell ⟨g4, 0, none⟩ (.slice (some ⟨gl, 0, none⟩) 0 (0))) ?hg ?hn ?hr ?_; (case hg => rfl); (case hn => rfl); (case hr => first | (go_simp; done) | (go_simp; rfl)); intro wd_ hW_; have HW7 := Aside0.mk hW_; clear hW_; clear c4 f4; have Q4 := Aside0.mk (show wd_.heap[g4]? = some (.cells #[.slice (some ⟨gl, 0, none⟩) 0 (0)] 45 (0, 0)) from by rw [HW7.out]; exact blk_put D4wc.out 0 _ rfl); have Q2 := Aside0.mk (show EB wd_ g2 ⟨0, 0, ⟨#[]⟩, 0, 0, ⟨#[]⟩, 0, 0, none, 0, 0⟩ from by rw [HW7.out]; exact D2wc.out.other N24.out _); have QB := Aside0.mk (show Below w.heap.size w wd_ from by rw [HW7.out]; exact ev_below_set BDwc.out HG4.out); have c4 : wd_.cell? ⟨g4, 0, none⟩ = some (.slice (some ⟨gl, 0, none⟩) 0 (0)) := (blk_cell Q4.out 0).trans rfl; have QT := Aside0.mk (show TxB wd_ gl 0 [] from by rw [HW7.out]; exact TxB_nil (DTwc.out.set D4wc.out (by decide) _)); clear HW7) | (go_at_call 27; (with_reducible refine Calls.mono (fits_i 8 0 8 0 (by decide) (by decide) (by decide) (by decide) true (HFT.out) _) ?_); rintro _ wf ⟨rfl, hb⟩; have QF4 := Aside0.mk ((hb.block g4 (blk_lt Q4.out)).trans Q4.out); have QF2 := Aside0.mk (Q2.out.below hb); have QFB := Aside0.mk (below_all_ QB.out hb); have QFT := Aside0.mk (QT.out.below hb); clear hb c4) | ((with_reducible refine gate_dst (N := 7) rfl ?_); refine box_event ?hg (N := 7) ?hd (cs := #[.bool false]) (t := 4) ?hr ?_; (case hd => rfl); (case hg => rfl); (case hr => first | (go_simp; done) | (go_simp; rfl)); intro g7 hg_ wg hbox hb; have Gg7 := Aside0.mk hg_; have Eg7 := Aside0.mk hbox; have Bg7 := Aside0.mk hb; have c70 := (blk_cell hbox 0).trans rfl; have f70 := blk_frozen hbox 0; clear hbox hb hg_; ) | ((with_reducible refine gate_store (t := 4) (p := 7) rfl ?_); refine ev_store (w1 := wg.setCell ⟨g7, 0, none⟩ (.bool false)) ?hg ?hn ?hr ?_; (case hg => rfl); (case hn => rfl); (case hr => first | (go_simp; done) | (go_simp; rfl)); intro wh hW_; clear c70 f70; have HH7 := Aside0.mk (show wh.heap[g7]? = some (.cells #[.bool false] 4 (0, 0)) from by rw [hW_]; exact blk_put Eg7.out 0 _ rfl); have HK7 := Aside0.mk (show ∀ q, q ≠ g7 → wh.heap[q]? = wg.heap[q]? from fun q hq => by rw [hW_]; exact heap_other hq _); have HS7 := Aside0.mk (show wh.heap.size = wg.heap.size from by rw [hW_]; simp); have HG7 := Aside0.mk (show w.heap.size ≤ g7 from by have := QFB.out.size; have := Gg7.out; omega); have HB7 := Aside0.mk (show Below w.heap.size w wh from by rw [hW_]; exact ev_below_set (below_all_ QFB.out Bg7.out) HG7.out); clear hW_) | ((with_reducible refine gate_dst (N := 9) rfl ?_); refine box_event ?hg (N := 9) ?hd (cs := #[.int .i64 0, .int .i64 0, .string (⟨#[]⟩ : ByteArray), .int .i64 0, .int .i64 0, .string (⟨#[]⟩ : ByteArray), .int .i64 0, .int .i64 0, .slice none 0 0]) (t := 26) ?hr ?_; (case hd => rfl); (case hg => rfl); (case hr => first | (go_simp; done) | (go_simp; rfl)); intro g9 hg_ wi hbox hb; have Gg9 := Aside0.mk hg_; have Eg9 := Aside0.mk (show EB wi g9 ⟨0, 0, ⟨#[]⟩, 0, 0, ⟨#[]⟩, 0, 0, none, 0, 0⟩ from hbox); have Bg9 := Aside0.mk hb; obtain ⟨u0, u1, u2, u3, u4, u5, u6, u7, u8⟩ := Eg9.out.cells; dsimp only at u0 u1 u2 u3 u4 u5 u6 u7 u8; obtain ⟨v0, v1, v2, v3, v4, v5, v6, v7, v8⟩ := Eg9.out.free; clear hbox hb hg_; ) | ((with_reducible refine gate_store (t := 26) (p := 9) rfl ?_); refine ev_store (w1 := (((((((((wi.setCell ⟨g9, 0, none⟩ (.int .i64 8)).setCell ⟨g9, 1, none⟩ (.int .i64 0)).setCell ⟨g9, 2, none⟩ (.string (⟨#[]⟩ : ByteArray))).setCell ⟨g9, 3, none⟩ (.int .i64 0)).setCell ⟨g9, 4, none⟩ (.int .i64 0)).setCell ⟨g9, 5, none⟩ (.string (⟨#[]⟩ : ByteArray))).setCell ⟨g9, 6, none⟩ (.int .i64 0)).setCell ⟨g9, 7, none⟩ (.int .i64 0)).setCell ⟨g9, 8, none⟩ (.slice none 0 0))) ?hg ?hn ?hr ?_; (case hg => rfl); (case hn => rfl); (case hr => first | (go_simp; done) | (go_simp; rfl)); intro wj hW_; have HW9 := Aside0.mk hW_; clear hW_; clear u0 u1 u2 u3 u4 u5 u6 u7 u8 v0 v1 v2 v3 v4 v5 v6 v7 v8; have HL7 := Aside0.mk (show g7 < wh.heap.size from blk_lt HH7.out); have N29 := Aside0.mk (show g2 ≠ g9 from by have := QF2.out.lt; have := Bg7.out.size; have := HS7.out; have := Gg9.out; omega); have HG9 := Aside0.mk (show w.heap.size ≤ g9 from by have := HG7.out; have := HL7.out; have := Gg9.out; omega); have N49 := Aside0.mk (show g4 ≠ g9 from by have := blk_lt QF4.out; have := Bg7.out.size; have := HS7.out; have := Gg9.out; omega); have N27 := Aside0.mk (show g2 ≠ g7 from by have := QF2.out.lt; have := Gg7.out; omega); have N47 := Aside0.mk (show g4 ≠ g7 from by have := blk_lt QF4.out; have := Gg7.out; omega); have N79 := Aside0.mk (show g7 ≠ g9 from by have := HL7.out; have := Gg9.out; omega); have NL7 := Aside0.mk (show gl ≠ g7 from by have := QFT.out.lt; have := Gg7.out; omega); have NL9 := Aside0.mk (show gl ≠ g9 from by have := QFT.out.lt; have := Bg7.out.size; have := HS7.out; have := Gg9.out; omega); have K0 := Aside0.mk (show Tk w wj g2 g4 g7 g9 gl 0 (0) 0 [] false ⟨8, 0, ⟨#[]⟩, 0, 0, ⟨#[]⟩, 0, 0, none, 0, 0⟩ from by rw [HW9.out]; exact ⟨(w9_other N29.out ⟨8, 0, ⟨#[]⟩, 0, 0, ⟨#[]⟩, 0, 0, none, 0, 0⟩).trans ((Bg9.out.block g2 (by have := QF2.out.lt; have := Bg7.out.size; have := HS7.out; omega)).trans ((HK7.out g2 N27.out).trans ((Bg7.out.block g2 QF2.out.lt).trans QF2.out))), (w9_other N49.out ⟨8, 0, ⟨#[]⟩, 0, 0, ⟨#[]⟩, 0, 0, none, 0, 0⟩).trans ((Bg9.out.block g4 (by have := blk_lt QF4.out; have := Bg7.out.size; have := HS7.out; omega)).trans ((HK7.out g4 N47.out).trans ((Bg7.out.block g4 (blk_lt QF4.out)).trans QF4.out))), (w9_other N79.out ⟨8, 0, ⟨#[]⟩, 0, 0, ⟨#[]⟩, 0, 0, none, 0, 0⟩).trans ((Bg9.out.block g7 HL7.out).trans HH7.out), EB.put Eg9.out ⟨8, 0, ⟨#[]⟩, 0, 0, ⟨#[]⟩, 0, 0, none, 0, 0⟩, QFT.out.move ((w9_other NL9.out ⟨8, 0, ⟨#[]⟩, 0, 0, ⟨#[]⟩, 0, 0, none, 0, 0⟩).trans ((Bg9.out.block gl (by have := QFT.out.lt; have := Bg7.out.size; have := HS7.out; omega)).trans ((HK7.out gl NL7.out).trans (Bg7.out.block gl QFT.out.lt)))), N29.out, w9_below (below_all_ HB7.out Bg9.out) HG9.out ⟨8, 0, ⟨#[]⟩, 0, 0, ⟨#[]⟩, 0, 0, none, 0, 0⟩, HG2.out, HG7.out, HG9.out⟩); clear HW9))
          obtain ⟨wj2, hwj⟩ : ∃ x_, x_ = wj := ⟨_, rfl⟩
          go_loopw [10] (fun v10 wr => v10 = .int .i64 0 ∧ wr = wj) (fun _ _ => 0)
          case atStart => exact ⟨rfl, rfl⟩
          case round =>
            obtain ⟨rfl, rfl⟩ := hrel
            obtain ⟨u0, u1, u2, u3, u4, u5, u6, u7, u8⟩ := K0.out.e9.cells; dsimp only at u0 u1 u2 u3 u4 u5 u6 u7 u8; obtain ⟨v0, v1, v2, v3, v4, v5, v6, v7, v8⟩ := K0.out.e9.free; obtain ⟨p0, p1, p2, p3, p4, p5, p6, p7, p8⟩ := (show EB _ g2 ⟨0, 0, ⟨#[]⟩, 0, 0, ⟨#[]⟩, 0, 0, none, 0, 0⟩ from K0.out.e2).cells; dsimp only at p0 p1 p2 p3 p4 p5 p6 p7 p8; obtain ⟨r0, r1, r2, r3, r4, r5, r6, r7, r8⟩ := K0.out.e2.free
            have c7 := (blk_cell K0.out.b7 0).trans rfl
            have c4 := (blk_cell K0.out.b4 0).trans rfl
            go_wp2_with (first | ((with_reducible refine gate_store (t := 26) (p := 2) rfl ?_); refine ev_store (w1 := (((((((((wr.setCell ⟨g2, 0, none⟩ (.int .i64 8)).setCell ⟨g2, 1, none⟩ (.int .i64 (0))).setCell ⟨g2, 2, none⟩ (.string (⟨#[]⟩ : ByteArray))).setCell ⟨g2, 3, none⟩ (.int .i64 (0))).setCell ⟨g2, 4, none⟩ (.int .i64 (0))).setCell ⟨g2, 5, none⟩ (.string (⟨#[]⟩ : ByteArray))).setCell ⟨g2, 6, none⟩ (.int .i64 (0))).setCell ⟨g2, 7, none⟩ (.int .i64 (0))).setCell ⟨g2, 8, none⟩ (.slice none 0 0))) ?hg ?hn ?hr ?_; (case hg => rfl); (case hn => rfl); (case hr => first | (go_simp; done) | (go_simp; rfl)); intro wz hW_; have HWZ := Aside0.mk hW_; clear hW_; clear p0 p1 p2 p3 p4 p5 p6 p7 p8 r0 r1 r2 r3 r4 r5 r6 r7 r8))
            have EZ := Aside0.mk (show EB wz g2 ⟨8, 0, ⟨#[]⟩, 0, 0, ⟨#[]⟩, 0, 0, none, 0, 0⟩ from by rw [HWZ.out]; exact EB.put K0.out.e2 ⟨8, 0, ⟨#[]⟩, 0, 0, ⟨#[]⟩, 0, 0, none, 0, 0⟩)
            have hB_ : Below w.heap.size w wz := by rw [HWZ.out]; exact w9_below K0.out.b HG2.out ⟨8, 0, ⟨#[]⟩, 0, 0, ⟨#[]⟩, 0, 0, none, 0, 0⟩
            refine bodyPost_ret (results_ct rfl _ _ g2 26 #[.int .i64 8, .int .i64 (0), .string (⟨#[]⟩ : ByteArray), .int .i64 (0), .int .i64 (0), .string (⟨#[]⟩ : ByteArray), .int .i64 (0), .int .i64 (0), .slice none 0 0] (0, 0) _ rfl EZ.out Try.underlying26 rfl (by kernel_rfl)) rfl ?_
            have hR_ : R = (⟨8, 0, ⟨#[]⟩, 0, 0, ⟨⟨#[]⟩, 0, 0⟩, []⟩, 0) := by exact HRR.out
            rw [hR_]
            exact ⟨none, 0, rfl, Nat.le_refl _, c43_nil _, hB_⟩
        · skip
          go_wp2_with (first | ((with_reducible refine gate_store (t := 45) (p := 4) rfl ?_); refine ev_store (w1 := wc.setCell ⟨g4, 0, none⟩ (.slice (some ⟨gl, 1, none⟩) m (c + 1))) ?hg ?hn ?hr ?_; (case hg => rfl); (case hn => rfl); (case hr => first | (go_simp; done) | (go_simp; rfl)); intro wd_ hW_; have HW7 := Aside0.mk hW_; clear hW_; clear c4 f4; have Q4 := Aside0.mk (show wd_.heap[g4]? = some (.cells #[.slice (some ⟨gl, 1, none⟩) m (c + 1)] 45 (0, 0)) from by rw [HW7.out]; exact blk_put D4wc.out 0 _ rfl); have Q2 := Aside0.mk (show EB wd_ g2 ⟨0, 0, ⟨#[]⟩, 0, 0, ⟨#[]⟩, 0, 0, none, 0, 0⟩ from by rw [HW7.out]; exact D2wc.out.other N24.out _); have QB := Aside0.mk (show Below w.heap.size w wd_ from by rw [HW7.out]; exact ev_below_set BDwc.out HG4.out); have c4 : wd_.cell? ⟨g4, 0, none⟩ = some (.slice (some ⟨gl, 1, none⟩) m (c + 1)) := (blk_cell Q4.out 0).trans rfl; have QT := Aside0.mk (show TxB wd_ gl 1 a from by rw [HW7.out]; exact (DTwc.out.set D4wc.out (by decide) _).tail); clear HW7) | (go_at_call 27; (with_reducible refine Calls.mono (fits_i 8 m 8 (m : Int) (by decide) (rfl) (by decide) (by decide) true (HFT.out) _) ?_); rintro _ wf ⟨rfl, hb⟩; have QF4 := Aside0.mk ((hb.block g4 (blk_lt Q4.out)).trans Q4.out); have QF2 := Aside0.mk (Q2.out.below hb); have QFB := Aside0.mk (below_all_ QB.out hb); have QFT := Aside0.mk (QT.out.below hb); clear hb c4) | ((with_reducible refine gate_dst (N := 7) rfl ?_); refine box_event ?hg (N := 7) ?hd (cs := #[.bool false]) (t := 4) ?hr ?_; (case hd => rfl); (case hg => rfl); (case hr => first | (go_simp; done) | (go_simp; rfl)); intro g7 hg_ wg hbox hb; have Gg7 := Aside0.mk hg_; have Eg7 := Aside0.mk hbox; have Bg7 := Aside0.mk hb; have c70 := (blk_cell hbox 0).trans rfl; have f70 := blk_frozen hbox 0; clear hbox hb hg_; ) | ((with_reducible refine gate_store (t := 4) (p := 7) rfl ?_); refine ev_store (w1 := wg.setCell ⟨g7, 0, none⟩ (.bool false)) ?hg ?hn ?hr ?_; (case hg => rfl); (case hn => rfl); (case hr => first | (go_simp; done) | (go_simp; rfl)); intro wh hW_; clear c70 f70; have HH7 := Aside0.mk (show wh.heap[g7]? = some (.cells #[.bool false] 4 (0, 0)) from by rw [hW_]; exact blk_put Eg7.out 0 _ rfl); have HK7 := Aside0.mk (show ∀ q, q ≠ g7 → wh.heap[q]? = wg.heap[q]? from fun q hq => by rw [hW_]; exact heap_other hq _); have HS7 := Aside0.mk (show wh.heap.size = wg.heap.size from by rw [hW_]; simp); have HG7 := Aside0.mk (show w.heap.size ≤ g7 from by have := QFB.out.size; have := Gg7.out; omega); have HB7 := Aside0.mk (show Below w.heap.size w wh from by rw [hW_]; exact ev_below_set (below_all_ QFB.out Bg7.out) HG7.out); clear hW_) | ((with_reducible refine gate_dst (N := 9) rfl ?_); refine box_event ?hg (N := 9) ?hd (cs := #[.int .i64 0, .int .i64 0, .string (⟨#[]⟩ : ByteArray), .int .i64 0, .int .i64 0, .string (⟨#[]⟩ : ByteArray), .int .i64 0, .int .i64 0, .slice none 0 0]) (t := 26) ?hr ?_; (case hd => rfl); (case hg => rfl); (case hr => first | (go_simp; done) | (go_simp; rfl)); intro g9 hg_ wi hbox hb; have Gg9 := Aside0.mk hg_; have Eg9 := Aside0.mk (show EB wi g9 ⟨0, 0, ⟨#[]⟩, 0, 0, ⟨#[]⟩, 0, 0, none, 0, 0⟩ from hbox); have Bg9 := Aside0.mk hb; obtain ⟨u0, u1, u2, u3, u4, u5, u6, u7, u8⟩ := Eg9.out.cells; dsimp only at u0 u1 u2 u3 u4 u5 u6 u7 u8; obtain ⟨v0, v1, v2, v3, v4, v5, v6, v7, v8⟩ := Eg9.out.free; clear hbox hb hg_; ) | ((with_reducible refine gate_store (t := 26) (p := 9) rfl ?_); refine ev_store (w1 := (((((((((wi.setCell ⟨g9, 0, none⟩ (.int .i64 8)).setCell ⟨g9, 1, none⟩ (.int .i64 0)).setCell ⟨g9, 2, none⟩ (.string (⟨#[]⟩ : ByteArray))).setCell ⟨g9, 3, none⟩ (.int .i64 0)).setCell ⟨g9, 4, none⟩ (.int .i64 0)).setCell ⟨g9, 5, none⟩ (.string (⟨#[]⟩ : ByteArray))).setCell ⟨g9, 6, none⟩ (.int .i64 0)).setCell ⟨g9, 7, none⟩ (.int .i64 0)).setCell ⟨g9, 8, none⟩ (.slice none 0 0))) ?hg ?hn ?hr ?_; (case hg => rfl); (case hn => rfl); (case hr => first | (go_simp; done) | (go_simp; rfl)); intro wj hW_; have HW9 := Aside0.mk hW_; clear hW_; clear u0 u1 u2 u3 u4 u5 u6 u7 u8 v0 v1 v2 v3 v4 v5 v6 v7 v8; have HL7 := Aside0.mk (show g7 < wh.heap.size from blk_lt HH7.out); have N29 := Aside0.mk (show g2 ≠ g9 from by have := QF2.out.lt; have := Bg7.out.size; have := HS7.out; have := Gg9.out; omega); have HG9 := Aside0.mk (show w.heap.size ≤ g9 from by have := HG7.out; have := HL7.out; have := Gg9.out; omega); have N49 := Aside0.mk (show g4 ≠ g9 from by have := blk_lt QF4.out; have := Bg7.out.size; have := HS7.out; have := Gg9.out; omega); have N27 := Aside0.mk (show g2 ≠ g7 from by have := QF2.out.lt; have := Gg7.out; omega); have N47 := Aside0.mk (show g4 ≠ g7 from by have := blk_lt QF4.out; have := Gg7.out; omega); have N79 := Aside0.mk (show g7 ≠ g9 from by have := HL7.out; have := Gg9.out; omega); have NL7 := Aside0.mk (show gl ≠ g7 from by have := QFT.out.lt; have := Gg7.out; omega); have NL9 := Aside0.mk (show gl ≠ g9 from by have := QFT.out.lt; have := Bg7.out.size; have := HS7.out; have := Gg9.out; omega); have K0 := Aside0.mk (show Tk w wj g2 g4 g7 g9 gl 1 (c + 1) m a false ⟨8, 0, ⟨#[]⟩, 0, 0, ⟨#[]⟩, 0, 0, none, 0, 0⟩ from by rw [HW9.out]; exact ⟨(w9_other N29.out ⟨8, 0, ⟨#[]⟩, 0, 0, ⟨#[]⟩, 0, 0, none, 0, 0⟩).trans ((Bg9.out.block g2 (by have := QF2.out.lt; have := Bg7.out.size; have := HS7.out; omega)).trans ((HK7.out g2 N27.out).trans ((Bg7.out.block g2 QF2.out.lt).trans QF2.out))), (w9_other N49.out ⟨8, 0, ⟨#[]⟩, 0, 0, ⟨#[]⟩, 0, 0, none, 0, 0⟩).trans ((Bg9.out.block g4 (by have := blk_lt QF4.out; have := Bg7.out.size; have := HS7.out; omega)).trans ((HK7.out g4 N47.out).trans ((Bg7.out.block g4 (blk_lt QF4.out)).trans QF4.out))), (w9_other N79.out ⟨8, 0, ⟨#[]⟩, 0, 0, ⟨#[]⟩, 0, 0, none, 0, 0⟩).trans ((Bg9.out.block g7 HL7.out).trans HH7.out), EB.put Eg9.out ⟨8, 0, ⟨#[]⟩, 0, 0, ⟨#[]⟩, 0, 0, none, 0, 0⟩, QFT.out.move ((w9_other NL9.out ⟨8, 0, ⟨#[]⟩, 0, 0, ⟨#[]⟩, 0, 0, none, 0, 0⟩).trans ((Bg9.out.block gl (by have := QFT.out.lt; have := Bg7.out.size; have := HS7.out; omega)).trans ((HK7.out gl NL7.out).trans (Bg7.out.block gl QFT.out.lt)))), N29.out, w9_below (below_all_ HB7.out Bg9.out) HG9.out ⟨8, 0, ⟨#[]⟩, 0, 0, ⟨#[]⟩, 0, 0, none, 0, 0⟩, HG2.out, HG7.out, HG9.out⟩); clear HW9))
          go_loopw [10] (fun v10 wl => Rel8 w g2 g4 g7 g9 gl c m a v10 wl) (fun v10 _ => m + 3 - (intOf v10).toNat)
          case atStart => exact ⟨0, 0, 0, none, 0, rfl, rfl, rfl, Nat.zero_le _, K0.out, OwnL.nil _ _⟩
          case round =>
            clear K0
            obtain ⟨i, j, n, A, c9, rfl, hi, hn, hj, hk_, ho_⟩ := hrel
            have KJ := Aside0.mk hk_
            have OJ := Aside0.mk ho_
            have HJ := Aside0.mk hj
            have HN := Aside0.mk hn
            have HI := Aside0.mk hi
            clear hk_ ho_ hj hn hi
            have c4 := (blk_cell KJ.out.b4 0).trans rfl
            by_cases hlt : i < m
            · have HLT := Aside0.mk hlt
              have e1 : ((i : Int) < (m : Int)) := by omega
              have HX0 := Aside0.mk (show a[i]? = some (at8 a i) from at8_get (by rw [← HM.out]; exact HLT.out))
              have HX1 := Aside0.mk (show a[i + 1]? = some (at8 a (i + 1)) from at8_get (by have := HM.out; have := HLT.out; have := HI.out; have := HQ.out; omega))
              have HX2 := Aside0.mk (show a[i + 2]? = some (at8 a (i + 2)) from at8_get (by have := HM.out; have := HLT.out; have := HI.out; have := HQ.out; omega))
              have HL1 := Aside0.mk (show lf8 a j ++ [⟨pv (at8 a i), ⟨at8 a (i + 1), pv (at8 a (i + 2))⟩⟩] = lf8 a (j + 1) from by rw [lf8_succ, HI.out]; rfl)
              have HW1 := Aside0.mk (show wr8 a (j + 1) = ((wr8 a j || !pk (at8 a i)) || !pk (at8 a (i + 2))) from by rw [wr8_succ, HI.out])
              obtain ⟨x0, hx0⟩ : ∃ z_, z_ = at8 a i := ⟨_, rfl⟩
              obtain ⟨x1, hx1⟩ : ∃ z_, z_ = at8 a (i + 1) := ⟨_, rfl⟩
              obtain ⟨x2, hx2⟩ : ∃ z_, z_ = at8 a (i + 2) := ⟨_, rfl⟩
              rw [← hx0] at HX0 HL1 HW1
              rw [← hx1] at HX1 HL1
              rw [← hx2] at HX2 HL1 HW1
              clear hx0 hx1 hx2 hlt
              go_wp2_with fail
              clear c4
              refine region_drew (fun W_ => W_.heap[g4]? = some (.cells #[.slice (some ⟨gl, 1, none⟩) m (c + 1)] 45 (0, 0)) ∧ TxB W_ gl 1 a) (by kernel_rfl) (fun d1_ hd1 he1 => ?_)
              have KD := Aside0.mk (KJ.out.below hd1)
              have OD := Aside0.mk (OJ.out.below hd1)
              clear hd1 he1 KJ OJ
              refine ⟨⟨KD.out.b4, KD.out.tx⟩, fun hHeld => ?_⟩
              have e2 : IntKind.i64.wrap ((i : Int) + 1) = (i : Int) + 1 := by have := HLT.out; have := HMX.out; rw [IntKind.wrap_i64]; omega
              have e3 : IntKind.i64.wrap ((i : Int) + 2) = (i : Int) + 2 := by have := HLT.out; have := HMX.out; rw [IntKind.wrap_i64]; omega
              have e4 : IntKind.i64.wrap ((i : Int) + 3) = (i : Int) + 3 := by have := HLT.out; have := HMX.out; rw [IntKind.wrap_i64]; omega
              have e5 : (0 : Int) ≤ (i : Int) + 1 := by omega
              have e6 : (i : Int) + 1 < (m : Int) := by have := HLT.out; have := HI.out; have := HQ.out; omega
              have e7 := eq_true e5
              have e8 := eq_true e6
              have e9 : ((i : Int) + 1).toNat = i + 1 := by omega
              refine wpAnyH_take (i := 0) (v := .pointer (some ⟨g9, 8, none⟩)) rfl (by kernel_rfl) (by kernel_rfl) (by kernel_rfl) (fun _ _ _ h => h) (Or.inl ⟨by kernel_rfl, ?_⟩) (by assumption) ?_
              · intro W_ hSw
                skip
                first | (go_simp; done) | (go_simp; with_reducible rfl) | (go_simp; rfl)
              refine wpAnyH_take (i := 2) (v := .func (.func 28) #[] #[.pointer (some ⟨g4, 0, none⟩), .pointer (some ⟨g7, 0, none⟩)]) rfl (by kernel_rfl) (by kernel_rfl) (by kernel_rfl) (fun _ _ _ h => h) (Or.inl ⟨by kernel_rfl, ?_⟩) (by assumption) ?_
              · intro W_ hSw
                skip
                first | (go_simp; done) | (go_simp; with_reducible rfl) | (go_simp; rfl)
              refine wpAnyH_take (i := 3) (v := .int .i64 (i : Int)) rfl (by kernel_rfl) (by kernel_rfl) (by kernel_rfl) (fun _ _ _ h => h) (Or.inl ⟨by kernel_rfl, ?_⟩) (by assumption) ?_
              · intro W_ hSw
                skip
                first | (go_simp; done) | (go_simp; with_reducible rfl) | (go_simp; rfl)
              refine wpAnyH_take (i := 5) (v := .slice (some ⟨gl, 1, none⟩) m (c + 1)) rfl (by kernel_rfl) (by kernel_rfl) (by kernel_rfl) (fun _ _ _ h => h) (Or.inl ⟨by kernel_rfl, ?_⟩) (by assumption) ?_
              · intro W_ hSw
                obtain ⟨hs1, hs2⟩ := hSw
                have q1 := (blk_cell hs1 0).trans rfl
                clear hs1 hs2
                skip
                first | (go_simp; done) | (go_simp; with_reducible rfl) | (go_simp; rfl)
              refine wpAnyH_take (i := 6) (v := .int .i64 (i : Int)) rfl (by kernel_rfl) (by kernel_rfl) (by kernel_rfl) (fun _ _ _ h => h) (Or.inl ⟨by kernel_rfl, ?_⟩) (by assumption) ?_
              · intro W_ hSw
                skip
                first | (go_simp; done) | (go_simp; with_reducible rfl) | (go_simp; rfl)
              refine wpAnyH_take (i := 7) (v := .int .i64 ((i : Int) + 1)) rfl (by kernel_rfl) (by kernel_rfl) (by kernel_rfl) (fun _ _ _ h => h) (Or.inl ⟨by kernel_rfl, ?_⟩) (by assumption) ?_
              · intro W_ hSw
                skip
                first | (go_simp; done) | (go_simp; with_reducible rfl) | (go_simp; rfl)
              refine wpAnyH_take (i := 8) (v := .pointer (some ⟨gl, 1 + (i + 1), none⟩)) rfl (by kernel_rfl) (by kernel_rfl) (by kernel_rfl) (fun _ _ _ h => h) (Or.inl ⟨by kernel_rfl, ?_⟩) (by assumption) ?_
              · intro W_ hSw
                skip
                first | (go_simp; done) | (go_simp; with_reducible rfl) | (go_simp; rfl)
              refine wpAnyH_take (i := 9) (v := .string x1) rfl (by kernel_rfl) (by kernel_rfl) (by kernel_rfl) (fun _ _ _ h => h) (Or.inl ⟨by kernel_rfl, ?_⟩) (by assumption) ?_
              · intro W_ hSw
                obtain ⟨hs1, hs2⟩ := hSw
                have q1 := (blk_cell hs1 0).trans rfl
                have q2 : W_.cell? ⟨gl, 1 + (i + 1), none⟩ = some (.string x1) := by obtain ⟨z1, z2⟩ := List.getElem?_eq_some_iff.1 HX1.out; rw [← z2]; exact hs2.at (i + 1) z1
                clear hs1 hs2
                skip
                first | (go_simp; done) | (go_simp; with_reducible rfl) | (go_simp; rfl)
              refine wpAnyH_take (i := 10) (v := .func (.func 28) #[] #[.pointer (some ⟨g4, 0, none⟩), .pointer (some ⟨g7, 0, none⟩)]) rfl (by kernel_rfl) (by kernel_rfl) (by kernel_rfl) (fun _ _ _ h => h) (Or.inl ⟨by kernel_rfl, ?_⟩) (by assumption) ?_
              · intro W_ hSw
                skip
                first | (go_simp; done) | (go_simp; with_reducible rfl) | (go_simp; rfl)
              refine wpAnyH_take (i := 11) (v := .int .i64 (i : Int)) rfl (by kernel_rfl) (by kernel_rfl) (by kernel_rfl) (fun _ _ _ h => h) (Or.inl ⟨by kernel_rfl, ?_⟩) (by assumption) ?_
              · intro W_ hSw
                skip
                first | (go_simp; done) | (go_simp; with_reducible rfl) | (go_simp; rfl)
              refine wpAnyH_take (i := 12) (v := .int .i64 ((i : Int) + 2)) rfl (by kernel_rfl) (by kernel_rfl) (by kernel_rfl) (fun _ _ _ h => h) (Or.inl ⟨by kernel_rfl, ?_⟩) (by assumption) ?_
              · intro W_ hSw
                skip
                first | (go_simp; done) | (go_simp; with_reducible rfl) | (go_simp; rfl)
              try simp only [Act.put, List.getElem_toArray, List.getElem_cons_succ, List.getElem_cons_zero, List.setIfInBounds_toArray, List.set_cons_zero, List.set_cons_succ]
              clear hHeld
              refine next_le (i := 1) (rs := [4]) (by kernel_rfl) ?_
              refine cons_valG 1 (N := 97) (op := .load 24 (.tmp 96)) (.slice A n c9) d1_ (by kernel_rfl) (fun o ho => ld_L _ o 96 ho (by kernel_rfl) KD.out.e9.cells.2.2.2.2.2.2.2.2) ⟨⟨KD.out.b4, KD.out.tx⟩, ?_⟩ ?_
              · skip
                try simp only [Act.put, List.getElem_toArray, List.getElem_cons_succ, List.getElem_cons_zero, List.setIfInBounds_toArray, List.set_cons_zero, List.set_cons_succ]
                refine next_le (i := 4) (rs := []) (by kernel_rfl) ?_
                refine cons_callC 4 (N := 100) (c := 98) (xs := #[.tmp 99]) (ts := #[3]) (by kernel_rfl) Try.func28 (by kernel_rfl) rfl #[.pointer (some ⟨g4, 0, none⟩), .pointer (some ⟨g7, 0, none⟩)] (by kernel_rfl) #[.int .i64 (i : Int)] (by kernel_rfl) ?_ AllReadyH.nil
                with_reducible refine Calls.mono (KD.out.numA HM.out HMX.out i (i : Int) (by omega) x0 HX0.out) ?_
                rintro _ wk4a ⟨rfl, hk_, ho_⟩
                have K4a := Aside0.mk hk_
                have O4a := Aside0.mk (ho_ _ _ _ OD.out)
                clear hk_ ho_
                refine ⟨_, rfl, ⟨K4a.out.b4, K4a.out.tx⟩, ?_⟩
                try simp only [Act.put, List.getElem_toArray, List.getElem_cons_succ, List.getElem_cons_zero, List.setIfInBounds_toArray, List.set_cons_zero, List.set_cons_succ]
                refine next_le (i := 13) (rs := []) (by kernel_rfl) ?_
                refine cons_callC 13 (N := 109) (c := 106) (xs := #[.tmp 108]) (ts := #[3]) (by kernel_rfl) Try.func28 (by kernel_rfl) rfl #[.pointer (some ⟨g4, 0, none⟩), .pointer (some ⟨g7, 0, none⟩)] (by kernel_rfl) #[.int .i64 ((i : Int) + 2)] (by kernel_rfl) ?_ AllReadyH.nil
                with_reducible refine Calls.mono (K4a.out.numA HM.out HMX.out (i + 2) ((i : Int) + 2) (by omega) x2 HX2.out) ?_
                rintro _ wk13a ⟨rfl, hk_, ho_⟩
                have K13a := Aside0.mk hk_
                have O13a := Aside0.mk (ho_ _ _ _ O4a.out)
                clear hk_ ho_
                refine ⟨_, rfl, ⟨K13a.out.b4, K13a.out.tx⟩, ?_⟩
                try simp only [Act.put, List.getElem_toArray, List.getElem_cons_succ, List.getElem_cons_zero, List.setIfInBounds_toArray, List.set_cons_zero, List.set_cons_succ]
                have hHeld : wk13a.heap[g4]? = some (.cells #[.slice (some ⟨gl, 1, none⟩) m (c + 1)] 45 (0, 0)) ∧ TxB wk13a gl 1 a := ⟨K13a.out.b4, K13a.out.tx⟩
                refine wpAnyH_take (i := 14) (v := .agg #[.string x1, .int .i64 (pv x2)]) rfl (by kernel_rfl) (by kernel_rfl) (by kernel_rfl) (fun _ _ _ h => h) (Or.inl ⟨by kernel_rfl, ?_⟩) (by assumption) ?_
                · intro W_ hSw
                  skip
                  first | (go_simp; done) | (go_simp; with_reducible rfl) | (go_simp; rfl)
                refine wpAnyH_take (i := 15) (v := .agg #[.int .i64 (pv x0), .string x1, .int .i64 (pv x2)]) rfl (by kernel_rfl) (by kernel_rfl) (by kernel_rfl) (fun _ _ _ h => h) (Or.inl ⟨by kernel_rfl, ?_⟩) (by assumption) ?_
                · intro W_ hSw
                  skip
                  first | (go_simp; done) | (go_simp; with_reducible rfl) | (go_simp; rfl)
                try simp only [Act.put, List.getElem_toArray, List.getElem_cons_succ, List.getElem_cons_zero, List.setIfInBounds_toArray, List.set_cons_zero, List.set_cons_succ]
                clear hHeld
                refine next_le (i := 16) (rs := []) (by kernel_rfl) ?_
                have K13as := Aside0.mk (K13a.out.alloc (.cells #[.int .i64 (pv x0), .string x1, .int .i64 (pv x2)] 43 (0, 0)))
                refine cons_valG 16 (N := 112) (op := .buildSlice 24 1 #[(0, .tmp 111)]) (.slice (some ⟨wk13a.heap.size, 0, none⟩) 1 1) (wk13a.alloc (.cells #[.int .i64 (pv x0), .string x1, .int .i64 (pv x2)] 43 (0, 0))) (by kernel_rfl) (fun o ho => run_l1 _ o 111 ⟨pv x0, ⟨x1, pv x2⟩⟩ ho (by kernel_rfl)) ⟨⟨K13as.out.b4, K13as.out.tx⟩, ?_⟩ AllReadyH.nil
                try simp only [Act.put, List.getElem_toArray, List.getElem_cons_succ, List.getElem_cons_zero, List.setIfInBounds_toArray, List.set_cons_zero, List.set_cons_succ]
                refine next_le (i := 17) (rs := []) (by kernel_rfl) ?_
                refine cons_appL3 (N := 113) (W := wk13a) (w0 := w) w.heap.size 17 97 112 (by kernel_rfl) (.slice A n c9) (lf8 a j) (by kernel_rfl) (by kernel_rfl) O13a.out K13a.out.b K13a.out.b.size (by rw [lf8_len]; have := HJ.out; have := HM2.out; have := HI.out; omega) (fun v1 wA hO_ hB_ hG_ => ?_) AllReadyH.nil
                obtain ⟨A1, c1, rfl, hc1, -⟩ := hO_.reads
                have hO1 : OwnL wA w.heap.size (.slice A1 (j + 1) c1) (lf8 a (j + 1)) := by have h9 := hO_; rw [HL1.out, lf8_len] at h9; exact h9
                have e_ : (lf8 a j ++ [⟨pv x0, ⟨x1, pv x2⟩⟩] : List S43).length = j + 1 := by rw [HL1.out, lf8_len]
                rw [e_]
                have OA := Aside0.mk hO1
                have KA := Aside0.mk (K13a.out.grown O13a.out hG_ hB_)
                clear hO_ hB_ hG_ hc1 e_ hO1
                refine ⟨⟨KA.out.b4, KA.out.tx⟩, ?_⟩
                try simp only [Act.put, List.getElem_toArray, List.getElem_cons_succ, List.getElem_cons_zero, List.setIfInBounds_toArray, List.set_cons_zero, List.set_cons_succ]
                have hHeld : wA.heap[g4]? = some (.cells #[.slice (some ⟨gl, 1, none⟩) m (c + 1)] 45 (0, 0)) ∧ TxB wA gl 1 a := ⟨KA.out.b4, KA.out.tx⟩
                refine wpAnyH_take (i := 18) (v := .pointer (some ⟨g9, 8, none⟩)) rfl (by kernel_rfl) (by kernel_rfl) (by kernel_rfl) (fun _ _ _ h => h) (Or.inl ⟨by kernel_rfl, ?_⟩) (by assumption) ?_
                · intro W_ hSw
                  skip
                  first | (go_simp; done) | (go_simp; with_reducible rfl) | (go_simp; rfl)
                try simp only [Act.put, List.getElem_toArray, List.getElem_cons_succ, List.getElem_cons_zero, List.setIfInBounds_toArray, List.set_cons_zero, List.set_cons_succ]
                clear hHeld
                refine next_le (i := 19) (rs := []) (by kernel_rfl) ?_
                refine cons_skip 19 (op := .store 24 (.tmp 114) (.tmp 113)) (wA.setCell ⟨g9, 8, none⟩ (.slice A1 (j + 1) c1)) (by kernel_rfl) (fun o ho => st_L _ o 114 113 ho (by kernel_rfl) (by kernel_rfl) KA.out.e9.cells.2.2.2.2.2.2.2.2 KA.out.e9.free.2.2.2.2.2.2.2.2) (fun wB hw_ => ?_) AllReadyH.nil
                have KB := Aside0.mk (show Tk w wB g2 g4 g7 g9 gl 1 (c + 1) m a ((wr8 a j || !pk x0) || !pk x2) ⟨8, 0, ⟨#[]⟩, 0, 0, ⟨#[]⟩, 0, 0, A1, (j + 1), c1⟩ from by rw [hw_]; exact KA.out.setL A1 (j + 1) c1)
                have OB := Aside0.mk (show OwnL wB w.heap.size (.slice A1 (j + 1) c1) (lf8 a (j + 1)) from by rw [hw_]; exact OA.out.set KA.out.e9 (by decide) _ _)
                clear hw_
                refine ⟨⟨KB.out.b4, KB.out.tx⟩, ?_⟩
                refine wpAnyH_done (by kernel_rfl) ?_ _
                go_wp2_with fail
                go_roundw
                case rel => exact ⟨i + 3, j + 1, j + 1, A1, c1, rfl, by have := HI.out; omega, rfl, by have := HLT.out; have := HI.out; have := HQ.out; omega, by have h9 := KB.out; rw [← HW1.out] at h9; exact h9, OB.out⟩
                case measure => have := HLT.out; simp [intOf] <;> omega
              refine cons_callC 4 (N := 100) (c := 98) (xs := #[.tmp 99]) (ts := #[3]) (by kernel_rfl) Try.func28 (by kernel_rfl) rfl #[.pointer (some ⟨g4, 0, none⟩), .pointer (some ⟨g7, 0, none⟩)] (by kernel_rfl) #[.int .i64 (i : Int)] (by kernel_rfl) ?_ AllReadyH.nil
              with_reducible refine Calls.mono (KD.out.numA HM.out HMX.out i (i : Int) (by omega) x0 HX0.out) ?_
              rintro _ wk4 ⟨rfl, hk_, ho_⟩
              have K4 := Aside0.mk hk_
              have O4 := Aside0.mk (ho_ _ _ _ OD.out)
              clear hk_ ho_
              refine ⟨_, rfl, ⟨K4.out.b4, K4.out.tx⟩, ?_⟩
              try simp only [Act.put, List.getElem_toArray, List.getElem_cons_succ, List.getElem_cons_zero, List.setIfInBounds_toArray, List.set_cons_zero, List.set_cons_succ]
              refine next_le (i := 1) (rs := [13]) (by kernel_rfl) ?_
              refine cons_valG 1 (N := 97) (op := .load 24 (.tmp 96)) (.slice A n c9) wk4 (by kernel_rfl) (fun o ho => ld_L _ o 96 ho (by kernel_rfl) K4.out.e9.cells.2.2.2.2.2.2.2.2) ⟨⟨K4.out.b4, K4.out.tx⟩, ?_⟩ ?_
              · skip
                try simp only [Act.put, List.getElem_toArray, List.getElem_cons_succ, List.getElem_cons_zero, List.setIfInBounds_toArray, List.set_cons_zero, List.set_cons_succ]
                refine next_le (i := 13) (rs := []) (by kernel_rfl) ?_
                refine cons_callC 13 (N := 109) (c := 106) (xs := #[.tmp 108]) (ts := #[3]) (by kernel_rfl) Try.func28 (by kernel_rfl) rfl #[.pointer (some ⟨g4, 0, none⟩), .pointer (some ⟨g7, 0, none⟩)] (by kernel_rfl) #[.int .i64 ((i : Int) + 2)] (by kernel_rfl) ?_ AllReadyH.nil
                with_reducible refine Calls.mono (K4.out.numA HM.out HMX.out (i + 2) ((i : Int) + 2) (by omega) x2 HX2.out) ?_
                rintro _ wk13a ⟨rfl, hk_, ho_⟩
                have K13a := Aside0.mk hk_
                have O13a := Aside0.mk (ho_ _ _ _ O4.out)
                clear hk_ ho_
                refine ⟨_, rfl, ⟨K13a.out.b4, K13a.out.tx⟩, ?_⟩
                try simp only [Act.put, List.getElem_toArray, List.getElem_cons_succ, List.getElem_cons_zero, List.setIfInBounds_toArray, List.set_cons_zero, List.set_cons_succ]
                have hHeld : wk13a.heap[g4]? = some (.cells #[.slice (some ⟨gl, 1, none⟩) m (c + 1)] 45 (0, 0)) ∧ TxB wk13a gl 1 a := ⟨K13a.out.b4, K13a.out.tx⟩
                refine wpAnyH_take (i := 14) (v := .agg #[.string x1, .int .i64 (pv x2)]) rfl (by kernel_rfl) (by kernel_rfl) (by kernel_rfl) (fun _ _ _ h => h) (Or.inl ⟨by kernel_rfl, ?_⟩) (by assumption) ?_
                · intro W_ hSw
                  skip
                  first | (go_simp; done) | (go_simp; with_reducible rfl) | (go_simp; rfl)
                refine wpAnyH_take (i := 15) (v := .agg #[.int .i64 (pv x0), .string x1, .int .i64 (pv x2)]) rfl (by kernel_rfl) (by kernel_rfl) (by kernel_rfl) (fun _ _ _ h => h) (Or.inl ⟨by kernel_rfl, ?_⟩) (by assumption) ?_
                · intro W_ hSw
                  skip
                  first | (go_simp; done) | (go_simp; with_reducible rfl) | (go_simp; rfl)
                try simp only [Act.put, List.getElem_toArray, List.getElem_cons_succ, List.getElem_cons_zero, List.setIfInBounds_toArray, List.set_cons_zero, List.set_cons_succ]
                clear hHeld
                refine next_le (i := 16) (rs := []) (by kernel_rfl) ?_
                have K13as := Aside0.mk (K13a.out.alloc (.cells #[.int .i64 (pv x0), .string x1, .int .i64 (pv x2)] 43 (0, 0)))
                refine cons_valG 16 (N := 112) (op := .buildSlice 24 1 #[(0, .tmp 111)]) (.slice (some ⟨wk13a.heap.size, 0, none⟩) 1 1) (wk13a.alloc (.cells #[.int .i64 (pv x0), .string x1, .int .i64 (pv x2)] 43 (0, 0))) (by kernel_rfl) (fun o ho => run_l1 _ o 111 ⟨pv x0, ⟨x1, pv x2⟩⟩ ho (by kernel_rfl)) ⟨⟨K13as.out.b4, K13as.out.tx⟩, ?_⟩ AllReadyH.nil
                try simp only [Act.put, List.getElem_toArray, List.getElem_cons_succ, List.getElem_cons_zero, List.setIfInBounds_toArray, List.set_cons_zero, List.set_cons_succ]
                refine next_le (i := 17) (rs := []) (by kernel_rfl) ?_
                refine cons_appL3 (N := 113) (W := wk13a) (w0 := w) w.heap.size 17 97 112 (by kernel_rfl) (.slice A n c9) (lf8 a j) (by kernel_rfl) (by kernel_rfl) O13a.out K13a.out.b K13a.out.b.size (by rw [lf8_len]; have := HJ.out; have := HM2.out; have := HI.out; omega) (fun v1 wA hO_ hB_ hG_ => ?_) AllReadyH.nil
                obtain ⟨A1, c1, rfl, hc1, -⟩ := hO_.reads
                have hO1 : OwnL wA w.heap.size (.slice A1 (j + 1) c1) (lf8 a (j + 1)) := by have h9 := hO_; rw [HL1.out, lf8_len] at h9; exact h9
                have e_ : (lf8 a j ++ [⟨pv x0, ⟨x1, pv x2⟩⟩] : List S43).length = j + 1 := by rw [HL1.out, lf8_len]
                rw [e_]
                have OA := Aside0.mk hO1
                have KA := Aside0.mk (K13a.out.grown O13a.out hG_ hB_)
                clear hO_ hB_ hG_ hc1 e_ hO1
                refine ⟨⟨KA.out.b4, KA.out.tx⟩, ?_⟩
                try simp only [Act.put, List.getElem_toArray, List.getElem_cons_succ, List.getElem_cons_zero, List.setIfInBounds_toArray, List.set_cons_zero, List.set_cons_succ]
                have hHeld : wA.heap[g4]? = some (.cells #[.slice (some ⟨gl, 1, none⟩) m (c + 1)] 45 (0, 0)) ∧ TxB wA gl 1 a := ⟨KA.out.b4, KA.out.tx⟩
                refine wpAnyH_take (i := 18) (v := .pointer (some ⟨g9, 8, none⟩)) rfl (by kernel_rfl) (by kernel_rfl) (by kernel_rfl) (fun _ _ _ h => h) (Or.inl ⟨by kernel_rfl, ?_⟩) (by assumption) ?_
                · intro W_ hSw
                  skip
                  first | (go_simp; done) | (go_simp; with_reducible rfl) | (go_simp; rfl)
                try simp only [Act.put, List.getElem_toArray, List.getElem_cons_succ, List.getElem_cons_zero, List.setIfInBounds_toArray, List.set_cons_zero, List.set_cons_succ]
                clear hHeld
                refine next_le (i := 19) (rs := []) (by kernel_rfl) ?_
                refine cons_skip 19 (op := .store 24 (.tmp 114) (.tmp 113)) (wA.setCell ⟨g9, 8, none⟩ (.slice A1 (j + 1) c1)) (by kernel_rfl) (fun o ho => st_L _ o 114 113 ho (by kernel_rfl) (by kernel_rfl) KA.out.e9.cells.2.2.2.2.2.2.2.2 KA.out.e9.free.2.2.2.2.2.2.2.2) (fun wB hw_ => ?_) AllReadyH.nil
                have KB := Aside0.mk (show Tk w wB g2 g4 g7 g9 gl 1 (c + 1) m a ((wr8 a j || !pk x0) || !pk x2) ⟨8, 0, ⟨#[]⟩, 0, 0, ⟨#[]⟩, 0, 0, A1, (j + 1), c1⟩ from by rw [hw_]; exact KA.out.setL A1 (j + 1) c1)
                have OB := Aside0.mk (show OwnL wB w.heap.size (.slice A1 (j + 1) c1) (lf8 a (j + 1)) from by rw [hw_]; exact OA.out.set KA.out.e9 (by decide) _ _)
                clear hw_
                refine ⟨⟨KB.out.b4, KB.out.tx⟩, ?_⟩
                refine wpAnyH_done (by kernel_rfl) ?_ _
                go_wp2_with fail
                go_roundw
                case rel => exact ⟨i + 3, j + 1, j + 1, A1, c1, rfl, by have := HI.out; omega, rfl, by have := HLT.out; have := HI.out; have := HQ.out; omega, by have h9 := KB.out; rw [← HW1.out] at h9; exact h9, OB.out⟩
                case measure => have := HLT.out; simp [intOf] <;> omega
              refine cons_callC 13 (N := 109) (c := 106) (xs := #[.tmp 108]) (ts := #[3]) (by kernel_rfl) Try.func28 (by kernel_rfl) rfl #[.pointer (some ⟨g4, 0, none⟩), .pointer (some ⟨g7, 0, none⟩)] (by kernel_rfl) #[.int .i64 ((i : Int) + 2)] (by kernel_rfl) ?_ AllReadyH.nil
              with_reducible refine Calls.mono (K4.out.numA HM.out HMX.out (i + 2) ((i : Int) + 2) (by omega) x2 HX2.out) ?_
              rintro _ wk13 ⟨rfl, hk_, ho_⟩
              have K13 := Aside0.mk hk_
              have O13 := Aside0.mk (ho_ _ _ _ O4.out)
              clear hk_ ho_
              refine ⟨_, rfl, ⟨K13.out.b4, K13.out.tx⟩, ?_⟩
              try simp only [Act.put, List.getElem_toArray, List.getElem_cons_succ, List.getElem_cons_zero, List.setIfInBounds_toArray, List.set_cons_zero, List.set_cons_succ]
              have hHeld : wk13.heap[g4]? = some (.cells #[.slice (some ⟨gl, 1, none⟩) m (c + 1)] 45 (0, 0)) ∧ TxB wk13 gl 1 a := ⟨K13.out.b4, K13.out.tx⟩
              refine wpAnyH_take (i := 14) (v := .agg #[.string x1, .int .i64 (pv x2)]) rfl (by kernel_rfl) (by kernel_rfl) (by kernel_rfl) (fun _ _ _ h => h) (Or.inl ⟨by kernel_rfl, ?_⟩) (by assumption) ?_
              · intro W_ hSw
                skip
                first | (go_simp; done) | (go_simp; with_reducible rfl) | (go_simp; rfl)
              refine wpAnyH_take (i := 15) (v := .agg #[.int .i64 (pv x0), .string x1, .int .i64 (pv x2)]) rfl (by kernel_rfl) (by kernel_rfl) (by kernel_rfl) (fun _ _ _ h => h) (Or.inl ⟨by kernel_rfl, ?_⟩) (by assumption) ?_
              · intro W_ hSw
                skip
                first | (go_simp; done) | (go_simp; with_reducible rfl) | (go_simp; rfl)
              try simp only [Act.put, List.getElem_toArray, List.getElem_cons_succ, List.getElem_cons_zero, List.setIfInBounds_toArray, List.set_cons_zero, List.set_cons_succ]
              clear hHeld
              refine next_le (i := 1) (rs := [16]) (by kernel_rfl) ?_
              refine cons_valG 1 (N := 97) (op := .load 24 (.tmp 96)) (.slice A n c9) wk13 (by kernel_rfl) (fun o ho => ld_L _ o 96 ho (by kernel_rfl) K13.out.e9.cells.2.2.2.2.2.2.2.2) ⟨⟨K13.out.b4, K13.out.tx⟩, ?_⟩ ?_
              · skip
                try simp only [Act.put, List.getElem_toArray, List.getElem_cons_succ, List.getElem_cons_zero, List.setIfInBounds_toArray, List.set_cons_zero, List.set_cons_succ]
                refine next_le (i := 16) (rs := []) (by kernel_rfl) ?_
                have K13s := Aside0.mk (K13.out.alloc (.cells #[.int .i64 (pv x0), .string x1, .int .i64 (pv x2)] 43 (0, 0)))
                refine cons_valG 16 (N := 112) (op := .buildSlice 24 1 #[(0, .tmp 111)]) (.slice (some ⟨wk13.heap.size, 0, none⟩) 1 1) (wk13.alloc (.cells #[.int .i64 (pv x0), .string x1, .int .i64 (pv x2)] 43 (0, 0))) (by kernel_rfl) (fun o ho => run_l1 _ o 111 ⟨pv x0, ⟨x1, pv x2⟩⟩ ho (by kernel_rfl)) ⟨⟨K13s.out.b4, K13s.out.tx⟩, ?_⟩ AllReadyH.nil
                try simp only [Act.put, List.getElem_toArray, List.getElem_cons_succ, List.getElem_cons_zero, List.setIfInBounds_toArray, List.set_cons_zero, List.set_cons_succ]
                refine next_le (i := 17) (rs := []) (by kernel_rfl) ?_
                refine cons_appL3 (N := 113) (W := wk13) (w0 := w) w.heap.size 17 97 112 (by kernel_rfl) (.slice A n c9) (lf8 a j) (by kernel_rfl) (by kernel_rfl) O13.out K13.out.b K13.out.b.size (by rw [lf8_len]; have := HJ.out; have := HM2.out; have := HI.out; omega) (fun v1 wA hO_ hB_ hG_ => ?_) AllReadyH.nil
                obtain ⟨A1, c1, rfl, hc1, -⟩ := hO_.reads
                have hO1 : OwnL wA w.heap.size (.slice A1 (j + 1) c1) (lf8 a (j + 1)) := by have h9 := hO_; rw [HL1.out, lf8_len] at h9; exact h9
                have e_ : (lf8 a j ++ [⟨pv x0, ⟨x1, pv x2⟩⟩] : List S43).length = j + 1 := by rw [HL1.out, lf8_len]
                rw [e_]
                have OA := Aside0.mk hO1
                have KA := Aside0.mk (K13.out.grown O13.out hG_ hB_)
                clear hO_ hB_ hG_ hc1 e_ hO1
                refine ⟨⟨KA.out.b4, KA.out.tx⟩, ?_⟩
                try simp only [Act.put, List.getElem_toArray, List.getElem_cons_succ, List.getElem_cons_zero, List.setIfInBounds_toArray, List.set_cons_zero, List.set_cons_succ]
                have hHeld : wA.heap[g4]? = some (.cells #[.slice (some ⟨gl, 1, none⟩) m (c + 1)] 45 (0, 0)) ∧ TxB wA gl 1 a := ⟨KA.out.b4, KA.out.tx⟩
                refine wpAnyH_take (i := 18) (v := .pointer (some ⟨g9, 8, none⟩)) rfl (by kernel_rfl) (by kernel_rfl) (by kernel_rfl) (fun _ _ _ h => h) (Or.inl ⟨by kernel_rfl, ?_⟩) (by assumption) ?_
                · intro W_ hSw
                  skip
                  first | (go_simp; done) | (go_simp; with_reducible rfl) | (go_simp; rfl)
                try simp only [Act.put, List.getElem_toArray, List.getElem_cons_succ, List.getElem_cons_zero, List.setIfInBounds_toArray, List.set_cons_zero, List.set_cons_succ]
                clear hHeld
                refine next_le (i := 19) (rs := []) (by kernel_rfl) ?_
                refine cons_skip 19 (op := .store 24 (.tmp 114) (.tmp 113)) (wA.setCell ⟨g9, 8, none⟩ (.slice A1 (j + 1) c1)) (by kernel_rfl) (fun o ho => st_L _ o 114 113 ho (by kernel_rfl) (by kernel_rfl) KA.out.e9.cells.2.2.2.2.2.2.2.2 KA.out.e9.free.2.2.2.2.2.2.2.2) (fun wB hw_ => ?_) AllReadyH.nil
                have KB := Aside0.mk (show Tk w wB g2 g4 g7 g9 gl 1 (c + 1) m a ((wr8 a j || !pk x0) || !pk x2) ⟨8, 0, ⟨#[]⟩, 0, 0, ⟨#[]⟩, 0, 0, A1, (j + 1), c1⟩ from by rw [hw_]; exact KA.out.setL A1 (j + 1) c1)
                have OB := Aside0.mk (show OwnL wB w.heap.size (.slice A1 (j + 1) c1) (lf8 a (j + 1)) from by rw [hw_]; exact OA.out.set KA.out.e9 (by decide) _ _)
                clear hw_
                refine ⟨⟨KB.out.b4, KB.out.tx⟩, ?_⟩
                refine wpAnyH_done (by kernel_rfl) ?_ _
                go_wp2_with fail
                go_roundw
                case rel => exact ⟨i + 3, j + 1, j + 1, A1, c1, rfl, by have := HI.out; omega, rfl, by have := HLT.out; have := HI.out; have := HQ.out; omega, by have h9 := KB.out; rw [← HW1.out] at h9; exact h9, OB.out⟩
                case measure => have := HLT.out; simp [intOf] <;> omega
              have K13s := Aside0.mk (K13.out.alloc (.cells #[.int .i64 (pv x0), .string x1, .int .i64 (pv x2)] 43 (0, 0)))
              refine cons_valG 16 (N := 112) (op := .buildSlice 24 1 #[(0, .tmp 111)]) (.slice (some ⟨wk13.heap.size, 0, none⟩) 1 1) (wk13.alloc (.cells #[.int .i64 (pv x0), .string x1, .int .i64 (pv x2)] 43 (0, 0))) (by kernel_rfl) (fun o ho => run_l1 _ o 111 ⟨pv x0, ⟨x1, pv x2⟩⟩ ho (by kernel_rfl)) ⟨⟨K13s.out.b4, K13s.out.tx⟩, ?_⟩ AllReadyH.nil
              try simp only [Act.put, List.getElem_toArray, List.getElem_cons_succ, List.getElem_cons_zero, List.setIfInBounds_toArray, List.set_cons_zero, List.set_cons_succ]
              refine next_le (i := 1) (rs := []) (by kernel_rfl) ?_
              refine cons_valG 1 (N := 97) (op := .load 24 (.tmp 96)) (.slice A n c9) (wk13.alloc (.cells #[.int .i64 (pv x0), .string x1, .int .i64 (pv x2)] 43 (0, 0))) (by kernel_rfl) (fun o ho => ld_L _ o 96 ho (by kernel_rfl) K13s.out.e9.cells.2.2.2.2.2.2.2.2) ⟨⟨K13s.out.b4, K13s.out.tx⟩, ?_⟩ AllReadyH.nil
              try simp only [Act.put, List.getElem_toArray, List.getElem_cons_succ, List.getElem_cons_zero, List.setIfInBounds_toArray, List.set_cons_zero, List.set_cons_succ]
              refine next_le (i := 17) (rs := []) (by kernel_rfl) ?_
              refine cons_appL3 (N := 113) (W := wk13) (w0 := w) w.heap.size 17 97 112 (by kernel_rfl) (.slice A n c9) (lf8 a j) (by kernel_rfl) (by kernel_rfl) O13.out K13.out.b K13.out.b.size (by rw [lf8_len]; have := HJ.out; have := HM2.out; have := HI.out; omega) (fun v1 wA hO_ hB_ hG_ => ?_) AllReadyH.nil
              obtain ⟨A1, c1, rfl, hc1, -⟩ := hO_.reads
              have hO1 : OwnL wA w.heap.size (.slice A1 (j + 1) c1) (lf8 a (j + 1)) := by have h9 := hO_; rw [HL1.out, lf8_len] at h9; exact h9
              have e_ : (lf8 a j ++ [⟨pv x0, ⟨x1, pv x2⟩⟩] : List S43).length = j + 1 := by rw [HL1.out, lf8_len]
              rw [e_]
              have OA := Aside0.mk hO1
              have KA := Aside0.mk (K13.out.grown O13.out hG_ hB_)
              clear hO_ hB_ hG_ hc1 e_ hO1
              refine ⟨⟨KA.out.b4, KA.out.tx⟩, ?_⟩
              try simp only [Act.put, List.getElem_toArray, List.getElem_cons_succ, List.getElem_cons_zero, List.setIfInBounds_toArray, List.set_cons_zero, List.set_cons_succ]
              have hHeld : wA.heap[g4]? = some (.cells #[.slice (some ⟨gl, 1, none⟩) m (c + 1)] 45 (0, 0)) ∧ TxB wA gl 1 a := ⟨KA.out.b4, KA.out.tx⟩
              refine wpAnyH_take (i := 18) (v := .pointer (some ⟨g9, 8, none⟩)) rfl (by kernel_rfl) (by kernel_rfl) (by kernel_rfl) (fun _ _ _ h => h) (Or.inl ⟨by kernel_rfl, ?_⟩) (by assumption) ?_
              · intro W_ hSw
                skip
                first | (go_simp; done) | (go_simp; with_reducible rfl) | (go_simp; rfl)
              try simp only [Act.put, List.getElem_toArray, List.getElem_cons_succ, List.getElem_cons_zero, List.setIfInBounds_toArray, List.set_cons_zero, List.set_cons_succ]
              clear hHeld
              refine next_le (i := 19) (rs := []) (by kernel_rfl) ?_
              refine cons_skip 19 (op := .store 24 (.tmp 114) (.tmp 113)) (wA.setCell ⟨g9, 8, none⟩ (.slice A1 (j + 1) c1)) (by kernel_rfl) (fun o ho => st_L _ o 114 113 ho (by kernel_rfl) (by kernel_rfl) KA.out.e9.cells.2.2.2.2.2.2.2.2 KA.out.e9.free.2.2.2.2.2.2.2.2) (fun wB hw_ => ?_) AllReadyH.nil
              have KB := Aside0.mk (show Tk w wB g2 g4 g7 g9 gl 1 (c + 1) m a ((wr8 a j || !pk x0) || !pk x2) ⟨8, 0, ⟨#[]⟩, 0, 0, ⟨#[]⟩, 0, 0, A1, (j + 1), c1⟩ from by rw [hw_]; exact KA.out.setL A1 (j + 1) c1)
              have OB := Aside0.mk (show OwnL wB w.heap.size (.slice A1 (j + 1) c1) (lf8 a (j + 1)) from by rw [hw_]; exact OA.out.set KA.out.e9 (by decide) _ _)
              clear hw_
              refine ⟨⟨KB.out.b4, KB.out.tx⟩, ?_⟩
              refine wpAnyH_done (by kernel_rfl) ?_ _
              go_wp2_with fail
              go_roundw
              case rel => exact ⟨i + 3, j + 1, j + 1, A1, c1, rfl, by have := HI.out; omega, rfl, by have := HLT.out; have := HI.out; have := HQ.out; omega, by have h9 := KB.out; rw [← HW1.out] at h9; exact h9, OB.out⟩
              case measure => have := HLT.out; simp [intOf] <;> omega
            · have e1 : ¬ ((i : Int) < (m : Int)) := by omega
              obtain rfl : q = j := by have := HJ.out; have := HI.out; have := HQ.out; omega
              obtain ⟨wv, hwv⟩ : ∃ wv, wv = wr8 a q := ⟨_, rfl⟩
              rw [← hwv] at KJ HRR
              clear hwv
              cases wv
              · skip
                obtain ⟨u0, u1, u2, u3, u4, u5, u6, u7, u8⟩ := KJ.out.e9.cells; dsimp only at u0 u1 u2 u3 u4 u5 u6 u7 u8; obtain ⟨v0, v1, v2, v3, v4, v5, v6, v7, v8⟩ := KJ.out.e9.free; obtain ⟨p0, p1, p2, p3, p4, p5, p6, p7, p8⟩ := (show EB _ g2 ⟨0, 0, ⟨#[]⟩, 0, 0, ⟨#[]⟩, 0, 0, none, 0, 0⟩ from KJ.out.e2).cells; dsimp only at p0 p1 p2 p3 p4 p5 p6 p7 p8; obtain ⟨r0, r1, r2, r3, r4, r5, r6, r7, r8⟩ := KJ.out.e2.free
                have c7 := (blk_cell KJ.out.b7 0).trans rfl
                go_wp2_with (first | ((with_reducible refine gate_store (t := 26) (p := 2) rfl ?_); refine ev_store (w1 := (((((((((wr.setCell ⟨g2, 0, none⟩ (.int .i64 8)).setCell ⟨g2, 1, none⟩ (.int .i64 (0))).setCell ⟨g2, 2, none⟩ (.string (⟨#[]⟩ : ByteArray))).setCell ⟨g2, 3, none⟩ (.int .i64 (0))).setCell ⟨g2, 4, none⟩ (.int .i64 (0))).setCell ⟨g2, 5, none⟩ (.string (⟨#[]⟩ : ByteArray))).setCell ⟨g2, 6, none⟩ (.int .i64 (0))).setCell ⟨g2, 7, none⟩ (.int .i64 (0))).setCell ⟨g2, 8, none⟩ (.slice A n c9))) ?hg ?hn ?hr ?_; (case hg => rfl); (case hn => rfl); (case hr => first | (go_simp; done) | (go_simp; rfl)); intro wz hW_; have HWZ := Aside0.mk hW_; clear hW_; clear p0 p1 p2 p3 p4 p5 p6 p7 p8 r0 r1 r2 r3 r4 r5 r6 r7 r8))
                have EZ := Aside0.mk (show EB wz g2 ⟨8, 0, ⟨#[]⟩, 0, 0, ⟨#[]⟩, 0, 0, A, n, c9⟩ from by rw [HWZ.out]; exact EB.put KJ.out.e2 ⟨8, 0, ⟨#[]⟩, 0, 0, ⟨#[]⟩, 0, 0, A, n, c9⟩)
                have hB_ : Below w.heap.size w wz := by rw [HWZ.out]; exact w9_below KJ.out.b HG2.out ⟨8, 0, ⟨#[]⟩, 0, 0, ⟨#[]⟩, 0, 0, A, n, c9⟩
                refine bodyPost_ret (results_ct rfl _ _ g2 26 #[.int .i64 8, .int .i64 (0), .string (⟨#[]⟩ : ByteArray), .int .i64 (0), .int .i64 (0), .string (⟨#[]⟩ : ByteArray), .int .i64 (0), .int .i64 (0), .slice A n c9] (0, 0) _ rfl EZ.out Try.underlying26 rfl (by kernel_rfl)) rfl ?_
                have hR_ : R = ({ k0 8 with f6 := lf8 a q }, 0) := by rw [HRR.out]; rfl
                rw [hR_]
                have OZ : OwnL wz w.heap.size (.slice A n c9) (lf8 a q) := by rw [HWZ.out]; exact own_w9 OJ.out KJ.out.e2 ⟨8, 0, ⟨#[]⟩, 0, 0, ⟨#[]⟩, 0, 0, A, n, c9⟩
                obtain ⟨A', c', hv', hc', hC'⟩ := OZ.reads
                injection hv' with h1_ h2_ h3_
                subst h1_
                subst h3_
                exact ⟨A, c9, by rw [ecOf_8 (lf8 a q) A c9 n h2_]; rfl, hc', hC', hB_⟩
              · skip
                obtain ⟨u0, u1, u2, u3, u4, u5, u6, u7, u8⟩ := KJ.out.e9.cells; dsimp only at u0 u1 u2 u3 u4 u5 u6 u7 u8; obtain ⟨v0, v1, v2, v3, v4, v5, v6, v7, v8⟩ := KJ.out.e9.free; obtain ⟨p0, p1, p2, p3, p4, p5, p6, p7, p8⟩ := (show EB _ g2 ⟨0, 0, ⟨#[]⟩, 0, 0, ⟨#[]⟩, 0, 0, none, 0, 0⟩ from KJ.out.e2).cells; dsimp only at p0 p1 p2 p3 p4 p5 p6 p7 p8; obtain ⟨r0, r1, r2, r3, r4, r5, r6, r7, r8⟩ := KJ.out.e2.free
                have c7 := (blk_cell KJ.out.b7 0).trans rfl
                go_wp2_with (first | ((with_reducible refine gate_store (t := 26) (p := 2) rfl ?_); refine ev_store (w1 := (((((((((wr.setCell ⟨g2, 0, none⟩ (.int .i64 0)).setCell ⟨g2, 1, none⟩ (.int .i64 0)).setCell ⟨g2, 2, none⟩ (.string (⟨#[]⟩ : ByteArray))).setCell ⟨g2, 3, none⟩ (.int .i64 0)).setCell ⟨g2, 4, none⟩ (.int .i64 0)).setCell ⟨g2, 5, none⟩ (.string (⟨#[]⟩ : ByteArray))).setCell ⟨g2, 6, none⟩ (.int .i64 0)).setCell ⟨g2, 7, none⟩ (.int .i64 0)).setCell ⟨g2, 8, none⟩ (.slice none 0 0))) ?hg ?hn ?hr ?_; (case hg => rfl); (case hn => rfl); (case hr => first | (go_simp; done) | (go_simp; rfl)); intro wz hW_; have HWZ := Aside0.mk hW_; clear hW_; clear p0 p1 p2 p3 p4 p5 p6 p7 p8 r0 r1 r2 r3 r4 r5 r6 r7 r8))
                have EZ := Aside0.mk (show EB wz g2 Ec.z from by rw [HWZ.out]; exact EB.put KJ.out.e2 Ec.z)
                have hB_ : Below w.heap.size w wz := by rw [HWZ.out]; exact w9_below KJ.out.b HG2.out Ec.z
                refine bodyPost_ret (results_ct rfl _ _ g2 26 #[.int .i64 0, .int .i64 0, .string (⟨#[]⟩ : ByteArray), .int .i64 0, .int .i64 0, .string (⟨#[]⟩ : ByteArray), .int .i64 0, .int .i64 0, .slice none 0 0] (0, 0) _ rfl EZ.out Try.underlying26 rfl (by kernel_rfl)) rfl ?_
                have hR_ : R = (z26, 2) := by rw [HRR.out]; rfl
                rw [hR_]
                exact ⟨none, 0, rfl, Nat.le_refl _, c43_nil _, hB_⟩
end Go.Proofs.Ytehnogggokfcaaa.Ev
