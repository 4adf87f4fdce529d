/- The deque's grow: room for one more. -/
import Derived.Test.YtbficlkjlhigjaaDqSlot
import Derived.Laws.CopyOwn
import Derived.Deep.RegionLaw
import Derived.Deep.RegionHeld3
import Derived.Deep.DrawnRows
import Derived.Deep.QuietTactic
import Derived.BigQuiet
import Derived.Outline
namespace Go.Proofs.Ytbficlkjlhigjaa.Dq
open Go.RowKit Go.Proofs.YtbficlkjlhigjaaW.PrintWords Go.Proofs.YtbficlkjlhigjaaW.PrintMore Go.Proofs.YtbficlkjlhigjaaW.PrintLast
set_option linter.unusedVariables false
set_option linter.unusedSimpArgs false
attribute [local go_sem] max2_int min2_int max_two min_two
attribute [local go_sem ↓] Go.wp_at_zero Go.wp_at_succ
set_option maxHeartbeats 1000000 in
theorem grow_room (g n cap cp : Nat) (A : Option Addr) (w : World) (h0 : w.cell? ⟨g, 0, none⟩ = some (.slice A cap cp)) (h2 : w.cell? ⟨g, 2, none⟩ = some (.int .i64 n)) (hn : n < cap) :
    Calls Try.prog 35 #[.pointer (some ⟨g, 0, none⟩)] w fun e w' => e = .returned (.tuple #[]) ∧ ∃ k, w' = w.drewN k := by
  have c1 : decide ((n : Int) < (cap : Int)) = true := decide_eq_true (by omega)
  have c2 : decide (n < cap) = true := decide_eq_true (by omega)
  clear hn
  go_enter Try.func35, Try.ntmps35
  go_wp2
  repeat (go_quiet (fail); try go_wp2)
  exact bodyPost_ret (results_none rfl _ _ _) rfl ⟨rfl, _, rfl⟩
theorem cut_from (A : Option Addr) (cap cp f : Nat) (hf : f ≤ cap) (W : World) : ∃ A1, (∀ W : World, (Instr.slice 22 (.slice A cap cp) (some (.int .i64 (f : Int))) none none).run Try.prog W = .ok (.slice A1 (cap - f) (cp - f)) W) ∧
    ∀ (w : World) (xs : List ByteArray), cap ≤ cp → ReadsOf Value.string ByteArray.empty w A cap xs → ReadsOf Value.string ByteArray.empty w A1 (cap - f) (xs.drop f) := by
  have hinfo : (Try.prog.info? 9).map (fun i => i.size) = some 1 := by kernel_rfl
  obtain ⟨i, hi, hs⟩ := Option.map_eq_some_iff.1 hinfo
  exact print_cut_of Value.string ByteArray.empty 22 9 .i64 Try.underlying22 hi hs A cap cp f hf
theorem cut_to (A : Option Addr) (cap cp f : Nat) (hf : f ≤ cp) (W : World) : (Instr.slice 22 (.slice A cap cp) none (some (.int .i64 (f : Int))) none).run Try.prog W = .ok (.slice A f cp) W := by
  have hinfo : (Try.prog.info? 9).map (fun i => i.size) = some 1 := by kernel_rfl
  obtain ⟨i, hi, hs⟩ := Option.map_eq_some_iff.1 hinfo
  have hel : Try.prog.elem 22 = 9 := by simp [Program.elem, Try.underlying22]
  have hu : Try.prog.underlying 22 = some (.slice (Try.prog.elem 22)) := by rw [hel]; exact Try.underlying22
  rw [run_slice_h (P := Try.prog) W 22 A cap cp hu .i64 (f : Int) (Int.natCast_nonneg _) (by omega), hel]
  cases A <;> simp [sizeOf, typeInfo, hi, hs, sliced, Result.andThen, Addr.add]
theorem cut_new (r M k : Nat) (hk : k < M) (W : World) : (Instr.slice 22 (.slice (some ⟨r, 0, none⟩) M M) (some (.int .i64 (k : Int))) none none).run Try.prog W = .ok (.slice (some ⟨r, k, none⟩) (M - k) (M - k)) W := by
  have hinfo : (Try.prog.info? 9).map (fun i => i.size) = some 1 := by kernel_rfl
  obtain ⟨i, hi, hs⟩ := Option.map_eq_some_iff.1 hinfo
  have hel : Try.prog.elem 22 = 9 := by simp [Program.elem, Try.underlying22]
  have hu : Try.prog.underlying 22 = some (.slice (Try.prog.elem 22)) := by rw [hel]; exact Try.underlying22
  rw [run_slice_l (P := Try.prog) W 22 (some ⟨r, 0, none⟩) M M hu .i64 (k : Int) (Int.natCast_nonneg _) (by omega), hel]
  simp [sizeOf, typeInfo, hi, hs, sliced, Result.andThen, add_plain]
  omega
theorem splice_two (X1 X2 : List Value) (M : Nat) (z : Value) (h : X1.length + X2.length ≤ M) :
    splice (splice (List.replicate M z) 0 X1) X1.length X2 = X1 ++ X2 ++ List.replicate (M - X1.length - X2.length) z := by
  unfold splice
  simp only [List.take_zero, List.nil_append, Nat.zero_add, List.drop_replicate]
  rw [List.take_left, List.drop_append, List.drop_of_length_le (by omega), List.nil_append, List.drop_replicate, List.append_assoc]
  congr 3
  omega
theorem grow_end (g f cp base r M : Nat) (A : Option Addr) (R l : List ByteArray) (w w3 : World) (hw : DqAt Value.string 51 9 w base g (.slice A R.length cp) R f l) (hl : l.length = R.length) (hr : r = w.heap.size) (hM : M = max 4 (2 * R.length)) (hM2 : M ≤ 2097152)
    (hb : Below r w w3) (hrow : w3.heap[r]? = some (.cells (encs Value.string (R.drop f) ++ encs Value.string (R.take f) ++ List.replicate (M - R.length) (Value.string ByteArray.empty)).toArray 9 (0, 0))) :
    l.length < (R.drop f ++ R.take f ++ List.replicate (M - R.length) ByteArray.empty).length ∧
    DqAt Value.string 51 9 ((w3.setCell ⟨g, 0, none⟩ (.slice (some ⟨r, 0, none⟩) M M)).setCell ⟨g, 1, none⟩ (.int .i64 0)) base g (.slice (some ⟨r, 0, none⟩) (R.drop f ++ R.take f ++ List.replicate (M - R.length) ByteArray.empty).length M) (R.drop f ++ R.take f ++ List.replicate (M - R.length) ByteArray.empty) 0 l ∧
    Upd w ((w3.setCell ⟨g, 0, none⟩ (.slice (some ⟨r, 0, none⟩) M M)).setCell ⟨g, 1, none⟩ (.int .i64 0)) base g (Value.slice A R.length cp).ownBlock (some r) := by
  have hgr : g < r := by rw [hr]; exact hw.lt
  have hf := hw.rep.fr
  have hlen : (R.drop f ++ R.take f ++ List.replicate (M - R.length) ByteArray.empty).length = M := by simp; omega
  have hblk := blk_set (blk_set ((hb.block g hgr).trans hw.blk) 0 (.slice (some ⟨r, 0, none⟩) M M)) 1 (.int .i64 0)
  refine ⟨by rw [hlen]; omega, ⟨hw.hg, ?_, ?_, hw.rep.grown hl _, by rw [hlen]; exact hM2⟩, ?_⟩
  · rw [hlen, hblk]
    rfl
  · rw [hlen]
    refine ⟨by rw [encs_length, hlen, Nat.mul_one], .inr ⟨r, M, _, rfl, by have := hw.hg; omega, (blk_far (blk_far hrow (by simp; omega) _) (by simp; omega) _), Nat.le_refl _, by simp only [maxLen]; omega, by simp [encs]; omega, ?_⟩⟩
    rw [List.take_of_length_le (by simp [encs]; omega)]
    simp [encs]
  · exact (((Upd.of_below _ (by rw [← hr]; exact hb) (by have := hw.hg; have := hw.lt; omega)).trans (Upd.set_ _ hw.hg 0 _)).trans (Upd.set_ _ hw.hg 1 _)).newrow (by omega)
set_option maxHeartbeats 4000000 in
set_option maxRecDepth 100000 in
theorem grow_more (g f cp base : Nat) (A : Option Addr) (R l : List ByteArray) (w : World) (h : DqAt Value.string 51 9 w base g (.slice A R.length cp) R f l) (hl : l.length = R.length) (hb : l.length < 1048576) :
    Calls Try.prog 35 #[.pointer (some ⟨g, 0, none⟩)] w fun e w' => e = .returned (.tuple #[]) ∧ ∃ r cp' R', w.heap.size ≤ r ∧ l.length < R'.length ∧ DqAt Value.string 51 9 w' base g (.slice (some ⟨r, 0, none⟩) R'.length cp') R' 0 l ∧ Upd w w' base g (Value.slice A R.length cp).ownBlock (some r) := by
  obtain ⟨k0, k1, k2, z0, z1, z2⟩ := h.cells
  have hgs := h.lt
  have hbase : base ≤ w.heap.size := by have := h.hg; omega
  obtain ⟨A', cp', hA, hR⟩ := own_reads_of (d := ByteArray.empty) h.own
  cases hA
  have hcp : R.length ≤ cp := by
    rcases h.own.2 with ⟨h1, h2⟩ | ⟨g', cap', cur, he, _, _, h1, h2, _⟩
    · omega
    · injection he with _ _ he
      omega
  have hf : f ≤ R.length := by have := h.rep.fr; omega
  obtain ⟨A1, hcut1, hR1⟩ := cut_from A R.length cp f hf w
  have HR1 := Aside0.mk (hR1 w R hcp hR)
  have HR0 := Aside0.mk (hR.take_ f hf)
  have hcut2 := cut_to A R.length cp f (by omega)
  obtain ⟨M, hM⟩ : ∃ M : Nat, M = max 4 (2 * R.length) := ⟨_, rfl⟩
  have hmk := print_make_of (P := Try.prog) 22 9 (.string ByteArray.empty) 16 Try.underlying22 (by kernel_rfl) rfl (by decide) M (by omega)
  obtain ⟨cap, hcap⟩ : ∃ cap, cap = R.length := ⟨_, rfl⟩
  rw [← hcap] at k0 hf hcut1 hcut2
  rw [hl, ← hcap] at k2
  have hmx : (if (4 : Int) < 2 * (cap : Int) then 2 * (cap : Int) else 4) = (M : Int) := by split <;> omega
  have hb' : cap < 1048576 := by omega
  have c1 : decide ((cap : Int) < (cap : Int)) = false := decide_eq_false (by omega)
  have H := Aside0.mk h
  have HM := Aside0.mk hM
  have Hcap := Aside0.mk hcap
  have Hl := Aside0.mk hl
  clear h hM hcap hR hR1 hl hb hcp
  go_enter Try.func35, Try.ntmps35
  go_wp2
  go_quiet (fail)
  go_wp2
  obtain ⟨r, hr⟩ : ∃ r, r = w.heap.size := ⟨_, rfl⟩
  obtain ⟨W, hW⟩ : ∃ W, W = (w.drewN nq).alloc (.cells (madeCells #[.string ByteArray.empty] M) 9) := ⟨_, rfl⟩
  rw [← hr, ← hW]
  have hWB : Below r w W := by rw [hW, hr]; exact below_alloc (pw_below_drewN (Below.refl _ _) nq) _
  have hWr : W.heap[r]? = some (.cells (List.replicate M (.string ByteArray.empty : Value)).toArray 9 (0, 0)) := by
    rw [hW, hr]
    have e : madeCells #[.string ByteArray.empty] M = (List.replicate M (.string ByteArray.empty : Value)).toArray := by
      apply Array.toList_inj.1
      apply List.ext_getElem
      · simp [madeCells]
      · intro i h1 h2
        simp [madeCells, Nat.mod_one]
    rw [← e]
    exact blk_new _ _
  have hlt : r < W.heap.size := blk_lt hWr
  have HW := Aside0.mk (H.out.below (by rw [← hr]; exact hWB))
  have HS1 := Aside0.mk (HR1.out.below (by rw [← hr]; exact hWB))
  have HS0 := Aside0.mk (HR0.out.below (by rw [← hr]; exact hWB))
  obtain ⟨k0', k1', k2', z0', z1', z2'⟩ := HW.out.cells
  rw [← Hcap.out] at k0'
  obtain ⟨Z, hZ⟩ : ∃ Z, Z = List.replicate M (.string ByteArray.empty : Value) := ⟨_, rfl⟩
  rw [← hZ] at hWr
  have hZl : Z.length = M := by rw [hZ]; simp
  obtain ⟨X1, hX1⟩ : ∃ X, X = encs Value.string (R.drop f) := ⟨_, rfl⟩
  obtain ⟨X2, hX2⟩ : ∃ X, X = encs Value.string (R.take f) := ⟨_, rfl⟩
  have hX1l : X1.length = cap - f := by rw [hX1, encs_length, Hcap.out]; simp
  have hX2l : X2.length = f := by rw [hX2, encs_length, List.length_take, ← Hcap.out]; omega
  have HWr := Aside0.mk hWr
  have HZ := Aside0.mk hZ
  have HZl := Aside0.mk hZl
  have HX1 := Aside0.mk hX1
  have HX2 := Aside0.mk hX2
  have HX1l := Aside0.mk hX1l
  have HX2l := Aside0.mk hX2l
  have HWB := Aside0.mk hWB
  have Hr := Aside0.mk hr
  have hM4 : cap < M := by rw [HM.out, ← Hcap.out]; omega
  clear hW hWr hZ hX1 hX2 hX1l hX2l hZl hWB hr
  have hsrc1 : ∀ j v, X1[j]? = some v → ∃ ad, A1 = some ad ∧ W.cell? (ad.add j) = some v := by
    intro j v hj
    have hlt := (List.getElem?_eq_some_iff.1 hj).1
    rw [HX1l.out, Hcap.out] at hlt
    obtain ⟨ad, e, hc⟩ := HS1.out.2.2 (by omega)
    rw [HX1.out, encs_get (d := ByteArray.empty) _ j (by simp; omega)] at hj
    exact ⟨ad, e, (hc j (by omega)).trans hj⟩
  have HS := Aside0.mk hsrc1
  clear hsrc1
  have hcut3 := cut_new r M X1.length (by rw [HX1l.out]; omega)
  have hn1 : X1.length = Nat.min (cap - f) M := by rw [HX1l.out]; exact (Nat.min_eq_left (by omega)).symm
  have hpos1 : 0 < X1.length → (some ⟨r, 0, none⟩ : Option Addr) = some ⟨r, 0, none⟩ ∧ ∃ ad, A1 = some ad ∧ ∀ j v, X1[j]? = some v → W.cell? (ad.add j) = some v := by
    intro h0
    refine ⟨rfl, ?_⟩
    obtain ⟨ad, e, _⟩ := HS.out 0 X1[0] (List.getElem?_eq_getElem h0)
    refine ⟨ad, e, fun j v hj => ?_⟩
    obtain ⟨ad', e', h'⟩ := HS.out j v hj
    rw [e] at e'
    cases e'
    exact h'
  have hfit1 : 0 + X1.length ≤ Z.length := by rw [HX1l.out, HZl.out]; omega
  have hone1 : ∀ v ∈ X1, v.oneCell' = true := by
    rw [HX1.out]
    intro v hv
    obtain ⟨x, _, rfl⟩ := List.mem_map.1 hv
    rfl
  have Hn1 := Aside0.mk hn1
  have Hp1 := Aside0.mk hpos1
  have Hf1 := Aside0.mk hfit1
  have Ho1 := Aside0.mk hone1
  clear hn1 hpos1 hfit1 hone1
  have Hgr := Aside0.mk (show g < r by rw [Hr.out]; exact hgs)
  go_region_held3 (fun w' => w'.cell? ⟨g, 0, none⟩ = some (.slice A cap cp) ∧ w'.cell? ⟨g, 1, none⟩ = some (.int .i64 (f : Int))) (go_keep)
    ((refine step_copy_splice rfl (.tmp 22) (.tmp 31) 22 22 (by rfl) 9 Try.underlying22 (by kernel_rfl) (some ⟨r, 0, none⟩) A1 M M (cap - f) (cp - f) (by rfl) (by rfl) r 0 Z 9 HWr.out X1 Hn1.out Hp1.out Hf1.out Ho1.out r W (below_drew (Below.refl _ _)) (Nat.le_refl _) ?_; intro w2 HG2 hB2; have q0 := (hB2.cell (p := ⟨g, 0, none⟩) Hgr.out).trans k0'; have q1 := (hB2.cell (p := ⟨g, 1, none⟩) Hgr.out).trans k1'))
  clear Hn1 Hp1 Hf1 Ho1 k0' k1' k2' z0' z1' z2'
  have HC1 := Aside0.mk hcut1
  clear hcut1
  have hsp : (splice Z 0 X1).length = M := by rw [length_splice _ _ _ (by rw [HX1l.out, HZl.out]; omega), HZl.out]
  have Hsp := Aside0.mk hsp
  have hn2 : X2.length = Nat.min f (M - X1.length) := by rw [HX1l.out, HX2l.out]; exact (Nat.min_eq_left (by omega)).symm
  have hsrc2 : ∀ j v, X2[j]? = some v → ∃ ad, A = some ad ∧ w2.cell? (ad.add j) = some v := by
    intro j v hj
    have hlt := (List.getElem?_eq_some_iff.1 hj).1
    rw [HX2l.out] at hlt
    obtain ⟨ad, e, hc⟩ := HS0.out.2.2 (by omega)
    rw [HX2.out, encs_get (d := ByteArray.empty) _ j (by rw [List.length_take, ← Hcap.out]; omega)] at hj
    have hc' := (hc j hlt).trans hj
    refine ⟨ad, e, (hB2.cell (p := ad.add j) ?_).trans hc'⟩
    have hb := World.block_lt_of_cell? w (ad.add j) (((HR0.out.2.2 (by omega)).elim fun a' h' => by
      obtain ⟨e', h2⟩ := h'
      rw [e] at e'
      cases e'
      exact (h2 j hlt)))
    rw [Hr.out]
    exact hb
  have hpos2 : 0 < X2.length → (some ⟨r, X1.length, none⟩ : Option Addr) = some ⟨r, X1.length, none⟩ ∧ ∃ ad, A = some ad ∧ ∀ j v, X2[j]? = some v → w2.cell? (ad.add j) = some v := by
    intro h0
    refine ⟨rfl, ?_⟩
    obtain ⟨ad, e, _⟩ := hsrc2 0 X2[0] (List.getElem?_eq_getElem h0)
    refine ⟨ad, e, fun j v hj => ?_⟩
    obtain ⟨ad', e', h'⟩ := hsrc2 j v hj
    rw [e] at e'
    cases e'
    exact h'
  have hfit2 : X1.length + X2.length ≤ (splice Z 0 X1).length := by rw [hsp, HX1l.out, HX2l.out]; omega
  have hone2 : ∀ v ∈ X2, v.oneCell' = true := by
    rw [HX2.out]
    intro v hv
    obtain ⟨x, _, rfl⟩ := List.mem_map.1 hv
    rfl
  have Hn2 := Aside0.mk hn2
  have Hp2 := Aside0.mk hpos2
  have Hf2 := Aside0.mk hfit2
  have Ho2 := Aside0.mk hone2
  have HG2' := Aside0.mk HG2.out
  have HB2' := Aside0.mk hB2
  clear hn2 hsrc2 hpos2 hfit2 hone2 hsp HG2 hB2
  go_wp2
  go_region_held3 (fun w' => w'.cell? ⟨g, 0, none⟩ = some (.slice A cap cp) ∧ w'.cell? ⟨g, 1, none⟩ = some (.int .i64 (f : Int))) (go_keep)
    ((refine step_copy_splice rfl (.tmp 35) (.tmp 44) 22 22 (by rfl) 9 Try.underlying22 (by kernel_rfl) (some ⟨r, X1.length, none⟩) A (M - X1.length) (M - X1.length) f cp (by rfl) (by rfl) r X1.length (splice Z 0 X1) 9 HG2'.out X2 Hn2.out (fun h0 => ⟨rfl, (Hp2.out h0).2⟩) Hf2.out Ho2.out r w2 (below_drew (Below.refl _ _)) (Nat.le_refl _) ?_; intro w3 HG3 hB3; have q2 := (hB3.cell (p := ⟨g, 0, none⟩) Hgr.out).trans q0; have q3 := (hB3.cell (p := ⟨g, 1, none⟩) Hgr.out).trans q1))
  have hB := HWB.out.trans (HB2'.out.trans hB3)
  have hblk : w3.heap[g]? = w.heap[g]? := hB.block g Hgr.out
  have HBk := Aside0.mk hblk
  have z0 : w3.frozen? ⟨g, 0, none⟩ = false := (hB.frozen (p := ⟨g, 0, none⟩) Hgr.out).trans z0
  have z1 : w3.frozen? ⟨g, 1, none⟩ = false := (hB.frozen (p := ⟨g, 1, none⟩) Hgr.out).trans z1
  have HB := Aside0.mk hB
  have HG3' := Aside0.mk HG3.out
  clear hB hblk HG3 Hn2 Hp2 Hf2 Ho2 hB3
  go_wp2
  have hend := grow_end g f cp base r M A R l w w3 H.out Hl.out Hr.out HM.out (by rw [HM.out, ← Hcap.out]; omega) HB.out (by
    rw [HG3'.out, HZ.out, HX1.out, HX2.out, splice_two _ _ _ _ (by rw [← HX1.out, ← HX2.out, HX1l.out, HX2l.out]; omega)]
    congr 5
    rw [← HX1.out, ← HX2.out, HX1l.out, HX2l.out, ← Hcap.out]
    omega)
  exact bodyPost_end (results_none rfl _ _ _) rfl ⟨rfl, r, M, _, Nat.le_of_eq Hr.out.symm, hend.1, hend.2.1, hend.2.2⟩
end Go.Proofs.Ytbficlkjlhigjaa.Dq
