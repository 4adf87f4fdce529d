/- The event of a line (event.Take). -/
import Derived.Test.YtehnogggokfcaaaEA
namespace Go.Proofs.Ytehnogggokfcaaa.Ev
open Go.RowKit Go.Proofs.YtehnogggokfcaaaW.PrintWords Go.Proofs.YtehnogggokfcaaaW.PrintMore Go.Proofs.YtehnogggokfcaaaW.PrintLast Go.Proofs.Ytehnogggokfcaaa.Y Go.Proofs.Ytehnogggokfcaaa.X Go.Proofs.Ytehnogggokfcaaa.Pure Go.Proofs.Ytehnogggokfcaaa.LM
set_option linter.unusedVariables false
set_option linter.unusedSimpArgs false
attribute [local go_sem ↓] Go.wp_at_zero Go.wp_at_succ
theorem own_w9 {W : World} {base g : Nat} {v : Value} {L : List S43} {e : Ec} (h : OwnL W base v L) (hb : EB W g e) (x : Ec) : OwnL (w9 W g x) base v L := by
  skip
  have b0 : ∀ (W : World) (cs : Array Value), W.heap[g]? = some (.cells cs 26 (0, 0)) → OwnL W base v L → ∀ (j : Nat) (u : Value), (W.setCell ⟨g, j, none⟩ u).heap[g]? = some (.cells (cs.setIfInBounds j u) 26 (0, 0)) ∧ OwnL (W.setCell ⟨g, j, none⟩ u) base v L := fun W cs hb h j u => ⟨blk_put hb j u rfl, h.set hb (by decide) j u⟩
  obtain ⟨h0, o0⟩ := b0 _ _ hb h 0 (.int .i64 x.k)
  obtain ⟨h1, o1⟩ := b0 _ _ h0 o0 1 (.int .i64 x.h)
  obtain ⟨h2, o2⟩ := b0 _ _ h1 o1 2 (.string x.s)
  obtain ⟨h3, o3⟩ := b0 _ _ h2 o2 3 (.int .i64 x.n)
  obtain ⟨h4, o4⟩ := b0 _ _ h3 o3 4 (.int .i64 x.t)
  obtain ⟨h5, o5⟩ := b0 _ _ h4 o4 5 (.string x.fn)
  obtain ⟨h6, o6⟩ := b0 _ _ h5 o5 6 (.int .i64 x.fk)
  obtain ⟨h7, o7⟩ := b0 _ _ h6 o6 7 (.int .i64 x.fz)
  exact (b0 _ _ h7 o7 8 (.slice x.A x.nl x.c)).2
theorem len2 {l : List ByteArray} (h : l.length = 2) : ∃ x y, l = [x, y] := by
  match l, h with
  | [x, y], _ => exact ⟨x, y, rfl⟩
set_option maxHeartbeats 40000000 in
set_option maxRecDepth 100000 in
theorem take_words (s wd : ByteArray) (a : List ByteArray) (m : Nat) (hm : m = a.length) (hm2 : m ≤ 100000000) (hs : s.size ≤ 1000000000) (hwd : wd.size ≤ 1000000000) (hsp : splitB s = some (wd :: a)) (h2_ : kindOf (up wd) = 2) (hl2_ : a.length = 2) (R : S26 × Int) (hR : R = kindP (kindOf (up wd)) a) (w : World) : Calls Try.prog 12 #[.string s] w fun e w' => ∃ A c, e = .returned (.tuple #[.agg (ecL (ecOf R.1 A c)), .int .i64 R.2]) ∧ R.1.f6.length ≤ c ∧ Kd.C k43 w' A R.1.f6.length R.1.f6 ∧ Below w.heap.size w w' := by
  have hu := Try.underlying26
  obtain ⟨r1, r2, hr, hcon, -⟩ := split_c s hs
  rw [hsp] at hr
  injection hr with hr1 hr2
  obtain rfl : r1 = wd :: a := hr1
  obtain rfl : r2 = true := hr2


  try clear hr1
  try clear hr2
  have HCON := Aside0.mk hcon
  have HM := Aside0.mk hm
  have HM2 := Aside0.mk hm2
  have HWD := Aside0.mk hwd
  have HR := Aside0.mk hR
  clear hcon hm hm2 hwd hR hsp
  have dd1 : decide (((m + 1 : Nat) : Int) = 0) = false := decide_eq_false (by omega)
  have dd2 : (((m + 1 : Nat) : Int) == 0) = false := beq_eq_false_iff_ne.2 (by omega)
  go_enter Try.func12, Try.ntmps12
  go_wp2_with (first | ((with_reducible refine gate_dst (N := 2) rfl ?_); refine box_event ?hg (N := 2) ?hd (cs := #[.int .i64 0, .int .i64 0, .string (⟨#[]⟩ : ByteArray), .int .i64 0, .int .i64 0, .string (⟨#[]⟩ : ByteArray), .int .i64 0, .int .i64 0, .slice none 0 0]) (t := 26) ?hr ?_; (case hd => rfl); (case hg => rfl); (case hr => first | (go_simp; done) | (go_simp; rfl)); intro g2 hg_ w1 hbox hb; have Gg2 := Aside0.mk hg_; have Eg2 := Aside0.mk (show EB w1 g2 Ec.z from hbox); have Bg2 := Aside0.mk hb; clear hbox hb hg_; ) | (go_at_call 24; (with_reducible refine Calls.mono (HCON.out _) ?_); rintro _ wx ⟨v0_, rfl, hOT, hb⟩; obtain ⟨gl, c1, hv, hc1, htx⟩ := hOT.txb (by simp); rw [List.length_cons, ← HM.out] at hv hc1; subst hv; obtain ⟨cc, hcc⟩ : ∃ cc, c1 = cc + 1 := ⟨c1 - 1, by omega⟩; subst hcc; have BX := Aside0.mk hb; have TX := Aside0.mk htx; have HC1 := Aside0.mk hc1; clear hOT hb htx hc1) | ((with_reducible refine gate_dst (N := 4) rfl ?_); refine box_event ?hg (N := 4) ?hd (cs := #[.slice none 0 0]) (t := 45) ?hr ?_; (case hd => rfl); (case hg => rfl); (case hr => first | (go_simp; done) | (go_simp; rfl)); intro g4 hg_ w3 hbox hb; have G4 := Aside0.mk hg_; have E40 := Aside0.mk hbox; have BG4 := Aside0.mk hb; have c40 := (blk_cell hbox 0).trans rfl; have f40 := blk_frozen hbox 0; clear hbox hb hg_; ) | ((with_reducible refine gate_store (t := 45) (p := 4) rfl ?_); refine ev_store (w1 := w3.setCell ⟨g4, 0, none⟩ (.slice (some ⟨gl, 0, none⟩) (m + 1) (cc + 1))) ?hg ?hn ?hr ?_; (case hg => rfl); (case hn => rfl); (case hr => first | (go_simp; done) | (go_simp; rfl)); intro w4 hW_; have HW4 := Aside0.mk hW_; clear hW_; clear c40 f40; have E4 := Aside0.mk (show w4.heap[g4]? = some (.cells #[.slice (some ⟨gl, 0, none⟩) (m + 1) (cc + 1)] 45 (0, 0)) from by rw [HW4.out]; exact blk_put E40.out 0 _ rfl); have N24 := Aside0.mk (show g2 ≠ g4 from by have := Eg2.out.lt; have := BX.out.size; have := G4.out; omega); have E2 := Aside0.mk (show EB w4 g2 Ec.z from by rw [HW4.out]; exact ((Eg2.out.below BX.out).below BG4.out).other N24.out _); have ET := Aside0.mk (show TxB w4 gl 0 (wd :: a) from by rw [HW4.out]; exact (TX.out.below BG4.out).set E40.out (by decide) _); have HG2 := Aside0.mk (show w.heap.size ≤ g2 from Nat.le_of_eq Gg2.out.symm); have HG4 := Aside0.mk (show w.heap.size ≤ g4 from by have := Bg2.out.size; have := BX.out.size; have := G4.out; omega); have B4 := Aside0.mk (show Below w.heap.size w w4 from by rw [HW4.out]; exact ev_below_set (below_all_ (below_all_ Bg2.out BX.out) BG4.out) HG4.out); have c4 : w4.cell? ⟨g4, 0, none⟩ = some (.slice (some ⟨gl, 0, none⟩) (m + 1) (cc + 1)) := (blk_cell E4.out 0).trans rfl; clear HW4 E40 BG4 TX))
  refine region_drew (fun W_ => W_.heap[g4]? = some (.cells #[.slice (some ⟨gl, 0, none⟩) (m + 1) (cc + 1)] 45 (0, 0)) ∧ TxB W_ gl 0 (wd :: a)) (by kernel_rfl) (fun d1_ hd1 he1 => ?_)
  have D4 := Aside0.mk (show d1_.heap[g4]? = some (.cells #[.slice (some ⟨gl, 0, none⟩) (m + 1) (cc + 1)] 45 (0, 0)) from by rw [he1]; exact E4.out)
  have D2 := Aside0.mk (E2.out.below hd1)
  have DT := Aside0.mk (ET.out.below hd1)
  have BD := Aside0.mk (below_all_ B4.out hd1)
  clear hd1 he1 c4
  refine ⟨⟨D4.out, DT.out⟩, fun hHeld => ?_⟩
  refine wpAnyH_take (i := 1) (v := .slice (some ⟨gl, 0, none⟩) (m + 1) (cc + 1)) rfl (by kernel_rfl) (by kernel_rfl) (by kernel_rfl) (fun _ _ _ h => h) (Or.inl ⟨by kernel_rfl, ?_⟩) (by assumption) ?_
  · intro W_ hSw
    obtain ⟨hs1, hs2⟩ := hSw
    have q1 := (blk_cell hs1 0).trans rfl
    have q2 := hs2.at 0 (by simp)
    simp only [List.getElem_cons_zero, Nat.add_zero] at q2
    clear hs1 hs2
    first | (go_simp; done) | (go_simp; with_reducible rfl) | (go_simp; rfl)
  refine wpAnyH_take (i := 2) (v := .pointer (some ⟨gl, 0, none⟩)) rfl (by kernel_rfl) (by kernel_rfl) (by kernel_rfl) (fun _ _ _ h => h) (Or.inl ⟨by kernel_rfl, ?_⟩) (by assumption) ?_
  · intro W_ hSw
    obtain ⟨hs1, hs2⟩ := hSw
    have q1 := (blk_cell hs1 0).trans rfl
    have q2 := hs2.at 0 (by simp)
    simp only [List.getElem_cons_zero, Nat.add_zero] at q2
    clear hs1 hs2
    first | (go_simp; done) | (go_simp; with_reducible rfl) | (go_simp; rfl)
  refine wpAnyH_take (i := 3) (v := .string wd) rfl (by kernel_rfl) (by kernel_rfl) (by kernel_rfl) (fun _ _ _ h => h) (Or.inl ⟨by kernel_rfl, ?_⟩) (by assumption) ?_
  · intro W_ hSw
    obtain ⟨hs1, hs2⟩ := hSw
    have q1 := (blk_cell hs1 0).trans rfl
    have q2 := hs2.at 0 (by simp)
    simp only [List.getElem_cons_zero, Nat.add_zero] at q2
    clear hs1 hs2
    first | (go_simp; done) | (go_simp; with_reducible rfl) | (go_simp; rfl)
  try simp only [Act.put, List.getElem_toArray, List.getElem_cons_succ, List.getElem_cons_zero, List.setIfInBounds_toArray, List.set_cons_zero, List.set_cons_succ]
  clear hHeld
  refine next_le (i := 0) (rs := []) (by kernel_rfl) ?_
  refine cons_callG 0 (N := 23) (xs := #[]) (ts := #[]) (by kernel_rfl) Try.func15 (by kernel_rfl) rfl #[] (by kernel_rfl) ?_ AllReadyH.nil
  refine Calls.mono (names_c _) ?_
  rintro _ wa ⟨v23, rfl, hN, hb⟩
  have D4wa := Aside0.mk (show wa.heap[g4]? = some (.cells #[.slice (some ⟨gl, 0, none⟩) (m + 1) (cc + 1)] 45 (0, 0)) from (hb.block g4 (blk_lt D4.out)).trans D4.out)
  have D2wa := Aside0.mk (D2.out.below hb)
  have DTwa := Aside0.mk (DT.out.below hb)
  have BDwa := Aside0.mk (below_all_ BD.out hb)
  have HN := Aside0.mk hN
  clear hb hN
  refine ⟨v23, rfl, ⟨D4wa.out, DTwa.out⟩, ?_⟩
  try simp only [Act.put, List.getElem_toArray, List.getElem_cons_succ, List.getElem_cons_zero, List.setIfInBounds_toArray, List.set_cons_zero, List.set_cons_succ]
  refine next_le (i := 4) (rs := []) (by kernel_rfl) ?_
  refine cons_callG 4 (N := 27) (xs := #[.tmp 26]) (ts := #[9]) (by kernel_rfl) Try.func26 (by kernel_rfl) rfl #[.string wd] (by kernel_rfl) ?_ AllReadyH.nil
  refine Calls.mono (upper_c wd HWD.out _) ?_
  rintro _ wb ⟨rfl, hb⟩
  have D4wb := Aside0.mk (show wb.heap[g4]? = some (.cells #[.slice (some ⟨gl, 0, none⟩) (m + 1) (cc + 1)] 45 (0, 0)) from (hb.block g4 (blk_lt D4wa.out)).trans D4wa.out)
  have D2wb := Aside0.mk (D2wa.out.below hb)
  have DTwb := Aside0.mk (DTwa.out.below hb)
  have BDwb := Aside0.mk (below_all_ BDwa.out hb)
  have HNb := Aside0.mk (HN.out.below hb)
  clear hb
  refine ⟨_, rfl, ⟨D4wb.out, DTwb.out⟩, ?_⟩
  try simp only [Act.put, List.getElem_toArray, List.getElem_cons_succ, List.getElem_cons_zero, List.setIfInBounds_toArray, List.set_cons_zero, List.set_cons_succ]
  refine next_le (i := 5) (rs := []) (by kernel_rfl) ?_
  refine cons_callG 5 (N := 28) (xs := #[.tmp 23, .tmp 27]) (ts := #[45, 9]) (by kernel_rfl) Try.func25 (by kernel_rfl) rfl #[v23, .string (up wd)] (by kernel_rfl) ?_ AllReadyH.nil
  refine Calls.mono (idx_c (up wd) _ _ _ HNb.out) ?_
  rintro _ wc ⟨rfl, hb⟩
  have D4wc := Aside0.mk (show wc.heap[g4]? = some (.cells #[.slice (some ⟨gl, 0, none⟩) (m + 1) (cc + 1)] 45 (0, 0)) from (hb.block g4 (blk_lt D4wb.out)).trans D4wb.out)
  have D2wc := Aside0.mk (D2wb.out.below hb)
  have DTwc := Aside0.mk (DTwb.out.below hb)
  have BDwc := Aside0.mk (below_all_ BDwb.out hb)
  clear hb
  obtain ⟨kn, hkn⟩ : ∃ kn, kn = kindOf (up wd) := ⟨_, rfl⟩
  have HKN := Aside0.mk hkn
  rw [← hkn]
  clear hkn
  have hwk : IntKind.i64.wrap (1 + ((kn : Int) - 1)) = (kn : Int) := by have := kindOf_le (up wd); have := HKN.out; rw [IntKind.wrap_i64]; omega
  refine ⟨_, rfl, ⟨D4wc.out, DTwc.out⟩, ?_⟩
  have hHeld : wc.heap[g4]? = some (.cells #[.slice (some ⟨gl, 0, none⟩) (m + 1) (cc + 1)] 45 (0, 0)) ∧ TxB wc gl 0 (wd :: a) := ⟨D4wc.out, DTwc.out⟩
  refine wpAnyH_take (i := 6) (v := .int .i64 (kn : Int)) rfl (by kernel_rfl) (by kernel_rfl) (by kernel_rfl) (fun _ _ _ h => h) (Or.inl ⟨by kernel_rfl, ?_⟩) (by assumption) ?_
  · intro W_ hSw
    skip
    first | (go_simp; done) | (go_simp; with_reducible rfl) | (go_simp; rfl)
  refine wpAnyH_take (i := 7) (v := .int .i64 (kn : Int)) rfl (by kernel_rfl) (by kernel_rfl) (by kernel_rfl) (fun _ _ _ h => h) (Or.inl ⟨by kernel_rfl, ?_⟩) (by assumption) ?_
  · intro W_ hSw
    skip
    first | (go_simp; done) | (go_simp; with_reducible rfl) | (go_simp; rfl)
  try simp only [Act.put, List.getElem_toArray, List.getElem_cons_succ, List.getElem_cons_zero, List.setIfInBounds_toArray, List.set_cons_zero, List.set_cons_succ]
  refine wpAnyH_done (by kernel_rfl) ?_ _
  have c4 : wc.cell? ⟨g4, 0, none⟩ = some (.slice (some ⟨gl, 0, none⟩) (m + 1) (cc + 1)) := (blk_cell D4wc.out 0).trans rfl
  have f4 := blk_frozen D4wc.out 0
  clear hHeld hwk
  obtain rfl : kn = 2 := HKN.out.trans h2_
  have HFT := Aside0.mk (show fitsP 2 m = true from by rw [HM.out, hl2_]; rfl)
  clear dd1 dd2
  have hm1 : m = 2 := by simpa [fitsP] using HFT.out
  subst hm1
  obtain ⟨x0, x1, rfl⟩ := len2 HM.out.symm
  obtain ⟨c, rfl⟩ : ∃ c, cc = c + 1 := ⟨cc - 1, by have := HC1.out; omega⟩
  go_wp2_with (first | ((with_reducible refine gate_store (t := 45) (p := 4) rfl ?_); refine ev_store (w1 := wc.setCell ⟨g4, 0, none⟩ (.slice (some ⟨gl, 1, none⟩) 2 (c + 1))) ?hg ?hn ?hr ?_; (case hg => rfl); (case hn => rfl); (case hr => first | (go_simp; done) | (go_simp; rfl)); intro wd_ hW_; have HW7 := Aside0.mk hW_; clear hW_; clear c4 f4; have Q4 := Aside0.mk (show wd_.heap[g4]? = some (.cells #[.slice (some ⟨gl, 1, none⟩) 2 (c + 1)] 45 (0, 0)) from by rw [HW7.out]; exact blk_put D4wc.out 0 _ rfl); have Q2 := Aside0.mk (show EB wd_ g2 ⟨0, 0, ⟨#[]⟩, 0, 0, ⟨#[]⟩, 0, 0, none, 0, 0⟩ from by rw [HW7.out]; exact D2wc.out.other N24.out _); have QB := Aside0.mk (show Below w.heap.size w wd_ from by rw [HW7.out]; exact ev_below_set BDwc.out HG4.out); have c4 : wd_.cell? ⟨g4, 0, none⟩ = some (.slice (some ⟨gl, 1, none⟩) 2 (c + 1)) := (blk_cell Q4.out 0).trans rfl; have QT := Aside0.mk (show TxB wd_ gl 1 [x0, x1] from by rw [HW7.out]; exact (DTwc.out.set D4wc.out (by decide) _).tail); clear HW7) | (go_at_call 27; (with_reducible refine Calls.mono (fits_i 2 2 2 2 (by decide) (by decide) (by decide) (by decide) true (HFT.out) _) ?_); rintro _ wf ⟨rfl, hb⟩; have QF4 := Aside0.mk ((hb.block g4 (blk_lt Q4.out)).trans Q4.out); have QF2 := Aside0.mk (Q2.out.below hb); have QFB := Aside0.mk (below_all_ QB.out hb); have QFT := Aside0.mk (QT.out.below hb); clear hb c4) | ((with_reducible refine gate_dst (N := 7) rfl ?_); refine box_event ?hg (N := 7) ?hd (cs := #[.bool false]) (t := 4) ?hr ?_; (case hd => rfl); (case hg => rfl); (case hr => first | (go_simp; done) | (go_simp; rfl)); intro g7 hg_ wg hbox hb; have Gg7 := Aside0.mk hg_; have Eg7 := Aside0.mk hbox; have Bg7 := Aside0.mk hb; have c70 := (blk_cell hbox 0).trans rfl; have f70 := blk_frozen hbox 0; clear hbox hb hg_; ) | ((with_reducible refine gate_store (t := 4) (p := 7) rfl ?_); refine ev_store (w1 := wg.setCell ⟨g7, 0, none⟩ (.bool false)) ?hg ?hn ?hr ?_; (case hg => rfl); (case hn => rfl); (case hr => first | (go_simp; done) | (go_simp; rfl)); intro wh hW_; clear c70 f70; have HH7 := Aside0.mk (show wh.heap[g7]? = some (.cells #[.bool false] 4 (0, 0)) from by rw [hW_]; exact blk_put Eg7.out 0 _ rfl); have HK7 := Aside0.mk (show ∀ q, q ≠ g7 → wh.heap[q]? = wg.heap[q]? from fun q hq => by rw [hW_]; exact heap_other hq _); have HS7 := Aside0.mk (show wh.heap.size = wg.heap.size from by rw [hW_]; simp); have HG7 := Aside0.mk (show w.heap.size ≤ g7 from by have := QFB.out.size; have := Gg7.out; omega); have HB7 := Aside0.mk (show Below w.heap.size w wh from by rw [hW_]; exact ev_below_set (below_all_ QFB.out Bg7.out) HG7.out); clear hW_) | ((with_reducible refine gate_dst (N := 9) rfl ?_); refine box_event ?hg (N := 9) ?hd (cs := #[.int .i64 0, .int .i64 0, .string (⟨#[]⟩ : ByteArray), .int .i64 0, .int .i64 0, .string (⟨#[]⟩ : ByteArray), .int .i64 0, .int .i64 0, .slice none 0 0]) (t := 26) ?hr ?_; (case hd => rfl); (case hg => rfl); (case hr => first | (go_simp; done) | (go_simp; rfl)); intro g9 hg_ wi hbox hb; have Gg9 := Aside0.mk hg_; have Eg9 := Aside0.mk (show EB wi g9 ⟨0, 0, ⟨#[]⟩, 0, 0, ⟨#[]⟩, 0, 0, none, 0, 0⟩ from hbox); have Bg9 := Aside0.mk hb; obtain ⟨u0, u1, u2, u3, u4, u5, u6, u7, u8⟩ := Eg9.out.cells; dsimp only at u0 u1 u2 u3 u4 u5 u6 u7 u8; obtain ⟨v0, v1, v2, v3, v4, v5, v6, v7, v8⟩ := Eg9.out.free; clear hbox hb hg_; ) | ((with_reducible refine gate_store (t := 26) (p := 9) rfl ?_); refine ev_store (w1 := (((((((((wi.setCell ⟨g9, 0, none⟩ (.int .i64 2)).setCell ⟨g9, 1, none⟩ (.int .i64 0)).setCell ⟨g9, 2, none⟩ (.string (⟨#[]⟩ : ByteArray))).setCell ⟨g9, 3, none⟩ (.int .i64 0)).setCell ⟨g9, 4, none⟩ (.int .i64 0)).setCell ⟨g9, 5, none⟩ (.string (⟨#[]⟩ : ByteArray))).setCell ⟨g9, 6, none⟩ (.int .i64 0)).setCell ⟨g9, 7, none⟩ (.int .i64 0)).setCell ⟨g9, 8, none⟩ (.slice none 0 0))) ?hg ?hn ?hr ?_; (case hg => rfl); (case hn => rfl); (case hr => first | (go_simp; done) | (go_simp; rfl)); intro wj hW_; have HW9 := Aside0.mk hW_; clear hW_; clear u0 u1 u2 u3 u4 u5 u6 u7 u8 v0 v1 v2 v3 v4 v5 v6 v7 v8; have HL7 := Aside0.mk (show g7 < wh.heap.size from blk_lt HH7.out); have N29 := Aside0.mk (show g2 ≠ g9 from by have := QF2.out.lt; have := Bg7.out.size; have := HS7.out; have := Gg9.out; omega); have HG9 := Aside0.mk (show w.heap.size ≤ g9 from by have := HG7.out; have := HL7.out; have := Gg9.out; omega); have N49 := Aside0.mk (show g4 ≠ g9 from by have := blk_lt QF4.out; have := Bg7.out.size; have := HS7.out; have := Gg9.out; omega); have N27 := Aside0.mk (show g2 ≠ g7 from by have := QF2.out.lt; have := Gg7.out; omega); have N47 := Aside0.mk (show g4 ≠ g7 from by have := blk_lt QF4.out; have := Gg7.out; omega); have N79 := Aside0.mk (show g7 ≠ g9 from by have := HL7.out; have := Gg9.out; omega); have NL7 := Aside0.mk (show gl ≠ g7 from by have := QFT.out.lt; have := Gg7.out; omega); have NL9 := Aside0.mk (show gl ≠ g9 from by have := QFT.out.lt; have := Bg7.out.size; have := HS7.out; have := Gg9.out; omega); have K0 := Aside0.mk (show Tk w wj g2 g4 g7 g9 gl 1 (c + 1) 2 [x0, x1] false ⟨2, 0, ⟨#[]⟩, 0, 0, ⟨#[]⟩, 0, 0, none, 0, 0⟩ from by rw [HW9.out]; exact ⟨(w9_other N29.out ⟨2, 0, ⟨#[]⟩, 0, 0, ⟨#[]⟩, 0, 0, none, 0, 0⟩).trans ((Bg9.out.block g2 (by have := QF2.out.lt; have := Bg7.out.size; have := HS7.out; omega)).trans ((HK7.out g2 N27.out).trans ((Bg7.out.block g2 QF2.out.lt).trans QF2.out))), (w9_other N49.out ⟨2, 0, ⟨#[]⟩, 0, 0, ⟨#[]⟩, 0, 0, none, 0, 0⟩).trans ((Bg9.out.block g4 (by have := blk_lt QF4.out; have := Bg7.out.size; have := HS7.out; omega)).trans ((HK7.out g4 N47.out).trans ((Bg7.out.block g4 (blk_lt QF4.out)).trans QF4.out))), (w9_other N79.out ⟨2, 0, ⟨#[]⟩, 0, 0, ⟨#[]⟩, 0, 0, none, 0, 0⟩).trans ((Bg9.out.block g7 HL7.out).trans HH7.out), EB.put Eg9.out ⟨2, 0, ⟨#[]⟩, 0, 0, ⟨#[]⟩, 0, 0, none, 0, 0⟩, QFT.out.move ((w9_other NL9.out ⟨2, 0, ⟨#[]⟩, 0, 0, ⟨#[]⟩, 0, 0, none, 0, 0⟩).trans ((Bg9.out.block gl (by have := QFT.out.lt; have := Bg7.out.size; have := HS7.out; omega)).trans ((HK7.out gl NL7.out).trans (Bg7.out.block gl QFT.out.lt)))), N29.out, w9_below (below_all_ HB7.out Bg9.out) HG9.out ⟨2, 0, ⟨#[]⟩, 0, 0, ⟨#[]⟩, 0, 0, none, 0, 0⟩, HG2.out, HG7.out, HG9.out⟩); clear HW9))
  refine region_drew (fun W_ => W_.heap[g4]? = some (.cells #[.slice (some ⟨gl, 1, none⟩) 2 (c + 1)] 45 (0, 0)) ∧ TxB W_ gl 1 [x0, x1]) (by kernel_rfl) (fun d1_ hd1 he1 => ?_)
  have K0d := Aside0.mk (K0.out.below hd1)
  clear hd1 he1
  refine ⟨⟨K0d.out.b4, K0d.out.tx⟩, fun hHeld => ?_⟩
  refine wpAnyH_take (i := 0) (v := .func (.func 28) #[] #[.pointer (some ⟨g4, 0, none⟩), .pointer (some ⟨g7, 0, none⟩)]) rfl (by kernel_rfl) (by kernel_rfl) (by kernel_rfl) (fun _ _ _ h => h) (Or.inl ⟨by kernel_rfl, ?_⟩) (by assumption) ?_
  · intro W_ hSw
    obtain ⟨hs1, hs2⟩ := hSw
    have q1 := (blk_cell hs1 0).trans rfl
    have q2 : W_.cell? ⟨gl, 2, none⟩ = some (.string x1) := hs2.at 1 (by simp)
    clear hs1 hs2
    first | (go_simp; done) | (go_simp; with_reducible rfl) | (go_simp; rfl)
  refine wpAnyH_take (i := 2) (v := .slice (some ⟨gl, 1, none⟩) 2 (c + 1)) rfl (by kernel_rfl) (by kernel_rfl) (by kernel_rfl) (fun _ _ _ h => h) (Or.inl ⟨by kernel_rfl, ?_⟩) (by assumption) ?_
  · intro W_ hSw
    obtain ⟨hs1, hs2⟩ := hSw
    have q1 := (blk_cell hs1 0).trans rfl
    have q2 : W_.cell? ⟨gl, 2, none⟩ = some (.string x1) := hs2.at 1 (by simp)
    clear hs1 hs2
    first | (go_simp; done) | (go_simp; with_reducible rfl) | (go_simp; rfl)
  refine wpAnyH_take (i := 3) (v := .pointer (some ⟨gl, 2, none⟩)) rfl (by kernel_rfl) (by kernel_rfl) (by kernel_rfl) (fun _ _ _ h => h) (Or.inl ⟨by kernel_rfl, ?_⟩) (by assumption) ?_
  · intro W_ hSw
    obtain ⟨hs1, hs2⟩ := hSw
    have q1 := (blk_cell hs1 0).trans rfl
    have q2 : W_.cell? ⟨gl, 2, none⟩ = some (.string x1) := hs2.at 1 (by simp)
    clear hs1 hs2
    first | (go_simp; done) | (go_simp; with_reducible rfl) | (go_simp; rfl)
  refine wpAnyH_take (i := 4) (v := .string x1) rfl (by kernel_rfl) (by kernel_rfl) (by kernel_rfl) (fun _ _ _ h => h) (Or.inl ⟨by kernel_rfl, ?_⟩) (by assumption) ?_
  · intro W_ hSw
    obtain ⟨hs1, hs2⟩ := hSw
    have q1 := (blk_cell hs1 0).trans rfl
    have q2 : W_.cell? ⟨gl, 2, none⟩ = some (.string x1) := hs2.at 1 (by simp)
    clear hs1 hs2
    first | (go_simp; done) | (go_simp; with_reducible rfl) | (go_simp; rfl)
  try simp only [Act.put, List.getElem_toArray, List.getElem_cons_succ, List.getElem_cons_zero, List.setIfInBounds_toArray, List.set_cons_zero, List.set_cons_succ]
  clear hHeld
  refine next_le (i := 1) (rs := []) (by kernel_rfl) ?_
  refine cons_callC 1 (N := 55) (c := 54) (xs := #[.const (.int .i64 0)]) (ts := #[3]) (by kernel_rfl) Try.func28 (by kernel_rfl) rfl #[.pointer (some ⟨g4, 0, none⟩), .pointer (some ⟨g7, 0, none⟩)] (by kernel_rfl) #[.int .i64 0] (by kernel_rfl) ?_ AllReadyH.nil
  with_reducible refine Calls.mono (K0d.out.numA rfl (by decide) 0 0 rfl x0 rfl) ?_
  rintro _ wk1 ⟨rfl, hk_, -⟩
  have Kc1 := Aside0.mk hk_
  clear hk_
  refine ⟨_, rfl, ⟨Kc1.out.b4, Kc1.out.tx⟩, ?_⟩
  try simp only [Act.put, List.getElem_toArray, List.getElem_cons_succ, List.getElem_cons_zero, List.setIfInBounds_toArray, List.set_cons_zero, List.set_cons_succ]
  obtain ⟨wv, hwv⟩ : ∃ wv, wv = (false || !pk x0) := ⟨_, rfl⟩
  have HRR := Aside0.mk (show R = if wv = true then (z26, 2) else (⟨2, pv x0, x1, 0, 0, ⟨⟨#[]⟩, 0, 0⟩, []⟩, 0) from by rw [HR.out, ← HKN.out, hwv]; exact kind_2 x0 x1)
  have Kw := Aside0.mk (show Tk w wk1 g2 g4 g7 g9 gl 1 (c + 1) 2 [x0, x1] wv ⟨2, 0, ⟨#[]⟩, 0, 0, ⟨#[]⟩, 0, 0, none, 0, 0⟩ from by rw [hwv]; exact Kc1.out)
  clear hwv
  have hHeld : wk1.heap[g4]? = some (.cells #[.slice (some ⟨gl, 1, none⟩) 2 (c + 1)] 45 (0, 0)) ∧ TxB wk1 gl 1 [x0, x1] := ⟨Kw.out.b4, Kw.out.tx⟩
  refine wpAnyH_take (i := 5) (v := .pointer (some ⟨g9, 1, none⟩)) rfl (by kernel_rfl) (by kernel_rfl) (by kernel_rfl) (fun _ _ _ h => h) (Or.inl ⟨by kernel_rfl, ?_⟩) (by assumption) ?_
  · intro W_ hSw
    obtain ⟨hs1, hs2⟩ := hSw
    have q1 := (blk_cell hs1 0).trans rfl
    have q2 : W_.cell? ⟨gl, 2, none⟩ = some (.string x1) := hs2.at 1 (by simp)
    clear hs1 hs2
    first | (go_simp; done) | (go_simp; with_reducible rfl) | (go_simp; rfl)
  try simp only [Act.put, List.getElem_toArray, List.getElem_cons_succ, List.getElem_cons_zero, List.setIfInBounds_toArray, List.set_cons_zero, List.set_cons_succ]
  clear hHeld
  refine next_le (i := 6) (rs := []) (by kernel_rfl) ?_
  refine cons_skip 6 (op := .store 3 (.tmp 59) (.tmp 55)) (wk1.setCell ⟨g9, 1, none⟩ (.int .i64 (pv x0))) (by kernel_rfl) (fun o ho => st_int _ o 59 55 ho (by kernel_rfl) (by kernel_rfl) Kw.out.e9.cells.2.1 Kw.out.e9.free.2.1) (fun ws6 hw_ => ?_) AllReadyH.nil
  have Ks6 := Aside0.mk (show Tk w ws6 g2 g4 g7 g9 gl 1 (c + 1) 2 [x0, x1] wv ⟨2, pv x0, ⟨#[]⟩, 0, 0, ⟨#[]⟩, 0, 0, none, 0, 0⟩ from by rw [hw_]; exact Kw.out.setH (pv x0))
  clear hw_
  refine ⟨⟨Ks6.out.b4, Ks6.out.tx⟩, ?_⟩
  have hHeld : ws6.heap[g4]? = some (.cells #[.slice (some ⟨gl, 1, none⟩) 2 (c + 1)] 45 (0, 0)) ∧ TxB ws6 gl 1 [x0, x1] := ⟨Ks6.out.b4, Ks6.out.tx⟩
  refine wpAnyH_take (i := 7) (v := .pointer (some ⟨g9, 2, none⟩)) rfl (by kernel_rfl) (by kernel_rfl) (by kernel_rfl) (fun _ _ _ h => h) (Or.inl ⟨by kernel_rfl, ?_⟩) (by assumption) ?_
  · intro W_ hSw
    obtain ⟨hs1, hs2⟩ := hSw
    have q1 := (blk_cell hs1 0).trans rfl
    have q2 : W_.cell? ⟨gl, 2, none⟩ = some (.string x1) := hs2.at 1 (by simp)
    clear hs1 hs2
    first | (go_simp; done) | (go_simp; with_reducible rfl) | (go_simp; rfl)
  try simp only [Act.put, List.getElem_toArray, List.getElem_cons_succ, List.getElem_cons_zero, List.setIfInBounds_toArray, List.set_cons_zero, List.set_cons_succ]
  clear hHeld
  refine next_le (i := 8) (rs := []) (by kernel_rfl) ?_
  refine cons_skip 8 (op := .store 9 (.tmp 60) (.tmp 58)) (ws6.setCell ⟨g9, 2, none⟩ (.string x1)) (by kernel_rfl) (fun o ho => st_str _ o 60 58 ho (by kernel_rfl) (by kernel_rfl) Ks6.out.e9.cells.2.2.1 Ks6.out.e9.free.2.2.1) (fun ws8 hw_ => ?_) AllReadyH.nil
  have Ks8 := Aside0.mk (show Tk w ws8 g2 g4 g7 g9 gl 1 (c + 1) 2 [x0, x1] wv ⟨2, pv x0, x1, 0, 0, ⟨#[]⟩, 0, 0, none, 0, 0⟩ from by rw [hw_]; exact Ks6.out.setS x1)
  clear hw_
  refine ⟨⟨Ks8.out.b4, Ks8.out.tx⟩, ?_⟩
  refine wpAnyH_done (by kernel_rfl) ?_ _
  cases wv
  · skip
    obtain ⟨u0, u1, u2, u3, u4, u5, u6, u7, u8⟩ := Ks8.out.e9.cells; dsimp only at u0 u1 u2 u3 u4 u5 u6 u7 u8; obtain ⟨v0, v1, v2, v3, v4, v5, v6, v7, v8⟩ := Ks8.out.e9.free; obtain ⟨p0, p1, p2, p3, p4, p5, p6, p7, p8⟩ := (show EB _ g2 ⟨0, 0, ⟨#[]⟩, 0, 0, ⟨#[]⟩, 0, 0, none, 0, 0⟩ from Ks8.out.e2).cells; dsimp only at p0 p1 p2 p3 p4 p5 p6 p7 p8; obtain ⟨r0, r1, r2, r3, r4, r5, r6, r7, r8⟩ := Ks8.out.e2.free
    have c7 := (blk_cell Ks8.out.b7 0).trans rfl
    go_wp2_with (first | ((with_reducible refine gate_store (t := 26) (p := 2) rfl ?_); refine ev_store (w1 := (((((((((ws8.setCell ⟨g2, 0, none⟩ (.int .i64 2)).setCell ⟨g2, 1, none⟩ (.int .i64 (pv x0))).setCell ⟨g2, 2, none⟩ (.string (x1 : ByteArray))).setCell ⟨g2, 3, none⟩ (.int .i64 (0))).setCell ⟨g2, 4, none⟩ (.int .i64 (0))).setCell ⟨g2, 5, none⟩ (.string (⟨#[]⟩ : ByteArray))).setCell ⟨g2, 6, none⟩ (.int .i64 (0))).setCell ⟨g2, 7, none⟩ (.int .i64 (0))).setCell ⟨g2, 8, none⟩ (.slice none 0 0))) ?hg ?hn ?hr ?_; (case hg => rfl); (case hn => rfl); (case hr => first | (go_simp; done) | (go_simp; rfl)); intro wz hW_; have HWZ := Aside0.mk hW_; clear hW_; clear p0 p1 p2 p3 p4 p5 p6 p7 p8 r0 r1 r2 r3 r4 r5 r6 r7 r8))
    have EZ := Aside0.mk (show EB wz g2 ⟨2, pv x0, x1, 0, 0, ⟨#[]⟩, 0, 0, none, 0, 0⟩ from by rw [HWZ.out]; exact EB.put Ks8.out.e2 ⟨2, pv x0, x1, 0, 0, ⟨#[]⟩, 0, 0, none, 0, 0⟩)
    have hB_ : Below w.heap.size w wz := by rw [HWZ.out]; exact w9_below Ks8.out.b HG2.out ⟨2, pv x0, x1, 0, 0, ⟨#[]⟩, 0, 0, none, 0, 0⟩
    refine bodyPost_ret (results_ct rfl _ _ g2 26 #[.int .i64 2, .int .i64 (pv x0), .string (x1 : ByteArray), .int .i64 (0), .int .i64 (0), .string (⟨#[]⟩ : ByteArray), .int .i64 (0), .int .i64 (0), .slice none 0 0] (0, 0) _ rfl EZ.out Try.underlying26 rfl (by kernel_rfl)) rfl ?_
    have hR_ : R = (⟨2, pv x0, x1, 0, 0, ⟨⟨#[]⟩, 0, 0⟩, []⟩, 0) := by rw [HRR.out]; rfl
    rw [hR_]
    exact ⟨none, 0, rfl, Nat.le_refl _, c43_nil _, hB_⟩
  · skip
    obtain ⟨u0, u1, u2, u3, u4, u5, u6, u7, u8⟩ := Ks8.out.e9.cells; dsimp only at u0 u1 u2 u3 u4 u5 u6 u7 u8; obtain ⟨v0, v1, v2, v3, v4, v5, v6, v7, v8⟩ := Ks8.out.e9.free; obtain ⟨p0, p1, p2, p3, p4, p5, p6, p7, p8⟩ := (show EB _ g2 ⟨0, 0, ⟨#[]⟩, 0, 0, ⟨#[]⟩, 0, 0, none, 0, 0⟩ from Ks8.out.e2).cells; dsimp only at p0 p1 p2 p3 p4 p5 p6 p7 p8; obtain ⟨r0, r1, r2, r3, r4, r5, r6, r7, r8⟩ := Ks8.out.e2.free
    have c7 := (blk_cell Ks8.out.b7 0).trans rfl
    go_wp2_with (first | ((with_reducible refine gate_store (t := 26) (p := 2) rfl ?_); refine ev_store (w1 := (((((((((ws8.setCell ⟨g2, 0, none⟩ (.int .i64 0)).setCell ⟨g2, 1, none⟩ (.int .i64 0)).setCell ⟨g2, 2, none⟩ (.string (⟨#[]⟩ : ByteArray))).setCell ⟨g2, 3, none⟩ (.int .i64 0)).setCell ⟨g2, 4, none⟩ (.int .i64 0)).setCell ⟨g2, 5, none⟩ (.string (⟨#[]⟩ : ByteArray))).setCell ⟨g2, 6, none⟩ (.int .i64 0)).setCell ⟨g2, 7, none⟩ (.int .i64 0)).setCell ⟨g2, 8, none⟩ (.slice none 0 0))) ?hg ?hn ?hr ?_; (case hg => rfl); (case hn => rfl); (case hr => first | (go_simp; done) | (go_simp; rfl)); intro wz hW_; have HWZ := Aside0.mk hW_; clear hW_; clear p0 p1 p2 p3 p4 p5 p6 p7 p8 r0 r1 r2 r3 r4 r5 r6 r7 r8))
    have EZ := Aside0.mk (show EB wz g2 Ec.z from by rw [HWZ.out]; exact EB.put Ks8.out.e2 Ec.z)
    have hB_ : Below w.heap.size w wz := by rw [HWZ.out]; exact w9_below Ks8.out.b HG2.out Ec.z
    refine bodyPost_ret (results_ct rfl _ _ g2 26 #[.int .i64 0, .int .i64 0, .string (⟨#[]⟩ : ByteArray), .int .i64 0, .int .i64 0, .string (⟨#[]⟩ : ByteArray), .int .i64 0, .int .i64 0, .slice none 0 0] (0, 0) _ rfl EZ.out Try.underlying26 rfl (by kernel_rfl)) rfl ?_
    have hR_ : R = (z26, 2) := by rw [HRR.out]; rfl
    rw [hR_]
    exact ⟨none, 0, rfl, Nat.le_refl _, c43_nil _, hB_⟩
end Go.Proofs.Ytehnogggokfcaaa.Ev
