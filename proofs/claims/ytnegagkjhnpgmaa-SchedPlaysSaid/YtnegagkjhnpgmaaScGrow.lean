/- The deque's grow, for jobs. -/
import Derived.Test.YtnegagkjhnpgmaaScDeque
namespace Go.Proofs.Ytnegagkjhnpgmaa.Sc
open Go.RowKit Go.Proofs.YtnegagkjhnpgmaaW.PrintWords Go.Proofs.YtnegagkjhnpgmaaW.PrintMore Go.Proofs.YtnegagkjhnpgmaaW.PrintLast Go.Proofs.Ytnegagkjhnpgmaa.Dq
set_option linter.unusedVariables false
set_option linter.unusedSimpArgs false
attribute [local go_sem] max2_int min2_int max_two min_two
attribute [local go_sem ↓] Go.wp_at_zero Go.wp_at_succ
set_option maxHeartbeats 1000000 in
theorem grow_room (g n cap cp : Nat) (A : Option Addr) (w : World) (h0 : w.cell? ⟨g, 0, none⟩ = some (.slice A cap cp)) (h2 : w.cell? ⟨g, 2, none⟩ = some (.int .i64 n)) (hn : n < cap) :
    Calls Try.prog 36 #[.pointer (some ⟨g, 0, none⟩)] w fun e w' => e = .returned (.tuple #[]) ∧ ∃ k, w' = w.drewN k := by
  have c1 : decide ((n : Int) < (cap : Int)) = true := decide_eq_true (by omega)
  have c2 : decide (n < cap) = true := decide_eq_true (by omega)
  clear hn
  go_enter Try.func36, Try.ntmps36
  go_wp2
  repeat (go_quiet (fail); try go_wp2)
  exact bodyPost_ret (results_none rfl _ _ _) rfl ⟨rfl, _, rfl⟩
/-- Cuts of a row of jobs. -/
theorem cut_low (A : Option Addr) (m f : Nat) (hf : f ≤ m) (R : List Jb) (hR : R.length = m) (w : World) (hA : Reads w A R) : ∃ A1, (∀ W : World, (Instr.slice 36 (.slice A m m) (some (.int .i64 (f : Int))) none none).run Try.prog W = .ok (.slice A1 (m - f) (m - f)) W) ∧ Reads w A1 (R.drop f) := by
  have hel : Try.prog.elem 36 = 29 := by simp [Program.elem, Try.underlying36]
  have hu : Try.prog.underlying 36 = some (.slice (Try.prog.elem 36)) := by rw [hel]; exact Try.underlying36
  obtain ⟨i, hi, hs⟩ := Option.map_eq_some_iff.1 sizeJ
  by_cases hlt : f < m
  · obtain ⟨ad, e, hc⟩ := hA (by omega)
    subst e
    refine ⟨some (ad.add (f * 4)), fun W => ?_, fun _ => ⟨ad.add (f * 4), rfl, fun j v hj => ?_⟩⟩
    · rw [run_slice_l (P := Try.prog) W 36 (some ad) m m hu .i64 (f : Int) (Int.natCast_nonneg _) (by omega), hel]
      simp [sizeOf, typeInfo, hi, hs, sliced, Result.andThen]
      omega
    · rw [← flat_drop] at hj
      rw [List.getElem?_drop] at hj
      have := hc _ _ hj
      rw [Addr.add_add]
      exact this
  · have hfm : f = m := by omega
    subst hfm
    refine ⟨A, fun W => ?_, fun h0 => absurd h0 (by rw [List.length_drop]; omega)⟩
    rw [run_slice_l (P := Try.prog) W 36 A f f hu .i64 (f : Int) (Int.natCast_nonneg _) (by omega), hel]
    simp [sizeOf, typeInfo, hi, hs, sliced, Result.andThen]
theorem cut_high (A : Option Addr) (m f : Nat) (hf : f ≤ m) (W : World) : (Instr.slice 36 (.slice A m m) none (some (.int .i64 (f : Int))) none).run Try.prog W = .ok (.slice A f m) W := by
  have hel : Try.prog.elem 36 = 29 := by simp [Program.elem, Try.underlying36]
  have hu : Try.prog.underlying 36 = some (.slice (Try.prog.elem 36)) := by rw [hel]; exact Try.underlying36
  obtain ⟨i, hi, hs⟩ := Option.map_eq_some_iff.1 sizeJ
  rw [run_slice_h (P := Try.prog) W 36 A m m hu .i64 (f : Int) (Int.natCast_nonneg _) (by omega), hel]
  cases A <;> simp [sizeOf, typeInfo, hi, hs, sliced, Result.andThen, Addr.add]
theorem cut_own (r M k : Nat) (hk : k < M) (W : World) : (Instr.slice 36 (.slice (some ⟨r, 0, none⟩) M M) (some (.int .i64 (k : Int))) none none).run Try.prog W = .ok (.slice (some ⟨r, k * 4, none⟩) (M - k) (M - k)) W := by
  have hel : Try.prog.elem 36 = 29 := by simp [Program.elem, Try.underlying36]
  have hu : Try.prog.underlying 36 = some (.slice (Try.prog.elem 36)) := by rw [hel]; exact Try.underlying36
  obtain ⟨i, hi, hs⟩ := Option.map_eq_some_iff.1 sizeJ
  rw [run_slice_l (P := Try.prog) W 36 (some ⟨r, 0, none⟩) M M hu .i64 (k : Int) (Int.natCast_nonneg _) (by omega), hel]
  simp [sizeOf, typeInfo, hi, hs, sliced, Result.andThen, add_plain]
  omega
/-- copy, as one step of a region that draws. -/
theorem step_copyJ {ops : Array Oper} {o : Oper} {a : Act} {w : World} {K : Act → World → Prop} {Q : Exit → Act → World → Prop} {E : Prop} (hgd : o.guard = none) (d s : Operand)
    (ho : o.op = .call { callee := .builtin .copy, args := #[d, s], argTypes := #[36, 36] }) (g x dLen dCap : Nat) (A : Option Addr) (sLen sCap n : Nat) (Z X : List Jb) (hd : a.eval d = .slice (some ⟨g, x * 4, none⟩) dLen dCap) (hs : a.eval s = .slice A sLen sCap)
    (hg : Room w g Z) (hn : n = Nat.min sLen dLen) (hX : X.length = n) (hr : Reads w A X) (hfit : x + n ≤ Z.length)
    (h : ∀ w1, Room w1 g (spl Z x X) → (∀ k, k ≠ g → w1.heap[k]? = w.heap[k]?) → (∀ w0 : World, w0.heap.size ≤ g → Below w0.heap.size w0 w → Below w0.heap.size w0 w1) → K (a.put o.dst (goInt n)) w1) :
    if Region.wanted o (yielded ops a.tmps) = true then Oper.wp Try.prog o a w K Q else E := by
  have hw : Region.wanted o (yielded ops a.tmps) = true := by simp [Region.wanted, hgd]
  rw [if_pos hw]
  obtain ⟨w1, hrun, h1, h2, h3⟩ := run_copyJ w o.type g x dLen dCap A sLen sCap n Z X hg hn hX hr hfit
  unfold Oper.wp
  simp [execOp, ho, resolve, invoke, builtin, hd, hs, hrun, Result.andThen]
  exact h w1 h1 h2 h3
theorem below_all {w0 W W1 : World} (h : Below W.heap.size W W1) (hs : w0.heap.size ≤ W.heap.size) (hb : Below w0.heap.size w0 W) : Below w0.heap.size w0 W1 := hb.trans (h.mono hs)
theorem madeJ (M : Nat) : madeCells #[Value.int .i64 0, .slice none 0 0, .int .i64 0, .string ⟨#[]⟩] (M * 4) = (flat (List.replicate M Jb.z)).toArray := by
  apply Array.ext_getElem?
  intro i
  conv => rhs; rw [List.getElem?_toArray]
  by_cases hi : i < M * 4
  · obtain ⟨q, t, ht, e⟩ : ∃ q t, t < 4 ∧ i = q * 4 + t := ⟨i / 4, i % 4, Nat.mod_lt _ (by omega), by omega⟩
    subst e
    have hq : q < (List.replicate M Jb.z).length := by simp; omega
    obtain ⟨f0, f1, f2, f3⟩ := flat_get (List.replicate M Jb.z) q hq
    rw [List.getElem_replicate] at f0 f1 f2 f3
    have hm : (q * 4 + t) % 4 = t := by omega
    have hc : (madeCells #[Value.int .i64 0, .slice none 0 0, .int .i64 0, .string ⟨#[]⟩] (M * 4))[q * 4 + t]? = (#[Value.int .i64 0, .slice none 0 0, .int .i64 0, .string ⟨#[]⟩] : Array Value)[t]? := by
      simp [madeCells, hi, hm, ht]
    rw [hc]
    match t, ht with
    | 0, _ => exact f0.symm
    | 1, _ => exact f1.symm
    | 2, _ => exact f2.symm
    | 3, _ => exact f3.symm
  · rw [Array.getElem?_eq_none (by simp [madeCells]; omega), List.getElem?_eq_none (by rw [flat_len]; simp; omega)]
theorem below_tr {w a c : World} (h1 : Below w.heap.size w a) (h2 : Below a.heap.size a c) : Below w.heap.size w c := h1.trans (h2.mono h1.size)
theorem below_tr0 {w0 W : World} (h : Below w0.heap.size w0 W) : Below w0.heap.size w0 (World.drew W) := below_drew h
theorem spl_two (X1 X2 : List Jb) (M : Nat) (h : X1.length + X2.length ≤ M) : spl (spl (List.replicate M Jb.z) 0 X1) X1.length X2 = X1 ++ X2 ++ List.replicate (M - X1.length - X2.length) Jb.z := by
  unfold spl
  simp only [List.take_zero, List.nil_append, Nat.zero_add, List.drop_replicate]
  rw [List.take_left, List.drop_append, List.drop_of_length_le (by omega), List.nil_append, List.drop_replicate, show X1.length + X2.length - X1.length = X2.length by omega]
theorem size_set (w : World) (a : Addr) (v : Value) : (w.setCell a v).heap.size = w.heap.size := by simp [World.setCell]
theorem grow_endJ (g f base r M n1 : Nat) (A : Option Addr) (R l : List Jb) (w w3 : World) (h : DqA w base g A R f l) (hl : l.length = R.length) (hr : r = w.heap.size) (hM : M = max 4 (2 * R.length)) (hM2 : M ≤ 2097152) (hn1 : n1 = R.length - f)
    (hb : ∀ w0 : World, w0.heap.size = base → Below w0.heap.size w0 w → Below w0.heap.size w0 w3) (hk : ∀ k, k < w.heap.size → w3.heap[k]? = w.heap[k]?) (hR : Room w3 r (spl (spl (List.replicate M Jb.z) 0 (R.drop f)) n1 (R.take f))) :
    ∃ R', l.length < R'.length ∧ R'.length = M ∧
    DqA ((w3.setCell ⟨g, 0, none⟩ (.slice (some ⟨r, 0, none⟩) M M)).setCell ⟨g, 1, none⟩ (.int .i64 0)) base g (some ⟨r, 0, none⟩) R' 0 l ∧
    Fr w ((w3.setCell ⟨g, 0, none⟩ (.slice (some ⟨r, 0, none⟩) M M)).setCell ⟨g, 1, none⟩ (.int .i64 0)) base g A (some ⟨r, 0, none⟩) := by
  have hgs := h.lt
  have hf := h.rep.fr
  have hgr : r ≠ g := by omega
  have e1 : (R.drop f).length = n1 := by rw [List.length_drop, hn1]
  rw [← e1, spl_two _ _ _ (by simp; omega)] at hR
  have hlen : (R.drop f ++ R.take f ++ List.replicate (M - (R.drop f).length - (R.take f).length) Jb.z).length = M := by simp; omega
  refine ⟨_, ?_, hlen, ⟨h.hg, ?_, .inr ⟨r, rfl, ?_, by have := h.hg; omega⟩, h.rep.grown hl _, by rw [hlen]; exact hM2⟩, ⟨?_, fun k hk2 hkg _ => ?_, fun w0 e hb0 => ?_, .inr ⟨r, rfl, by omega⟩⟩⟩
  · rw [hlen]; omega
  · rw [hlen]
    exact blk_put (blk_put ((hk g hgs).trans h.blk) 0 _ rfl) 1 _ rfl
  · unfold Room
    rw [heap_other hgr, heap_other hgr]
    exact hR
  · have := blk_lt hR
    simp only [size_set]
    omega
  · rw [heap_other hkg, heap_other hkg]
    exact hk k hk2
  · exact below_set (below_set (hb w0 e hb0) (by rw [e]; exact h.hg)) (by rw [e]; exact h.hg)
theorem cell_keep {w w1 : World} {g : Nat} (h : w1.heap[g]? = w.heap[g]?) (j : Nat) : w1.cell? ⟨g, j, none⟩ = w.cell? ⟨g, j, none⟩ := by
  unfold World.cell?
  rw [show w1.heap[(⟨g, j, none⟩ : Addr).block]? = w.heap[(⟨g, j, none⟩ : Addr).block]? from h]
theorem frozen_keep {w w1 : World} {g : Nat} (h : w1.heap[g]? = w.heap[g]?) (j : Nat) : w1.frozen? ⟨g, j, none⟩ = w.frozen? ⟨g, j, none⟩ := by
  unfold World.frozen?
  rw [show w1.heap[(⟨g, j, none⟩ : Addr).block]? = w.heap[(⟨g, j, none⟩ : Addr).block]? from h]
set_option maxHeartbeats 4000000 in
set_option maxRecDepth 100000 in
theorem grow_more (g f base : Nat) (A : Option Addr) (R l : List Jb) (w : World) (h : DqA w base g A R f l) (hl : l.length = R.length) (hb : l.length < 1048576) :
    Calls Try.prog 36 #[.pointer (some ⟨g, 0, none⟩)] w fun e w' => e = .returned (.tuple #[]) ∧ ∃ r R', w.heap.size ≤ r ∧ l.length < R'.length ∧ DqA w' base g (some ⟨r, 0, none⟩) R' 0 l ∧ Fr w w' base g A (some ⟨r, 0, none⟩) := by
  obtain ⟨k0, k1, k2, z0, z1, z2⟩ := h.cells
  have hgs := h.lt
  have hf : f ≤ R.length := by have := h.rep.fr; omega
  have hRd : Reads w A R := by
    intro h0
    rcases h.room with e | ⟨r, e, hR, _⟩
    · rw [e.1] at h0; exact absurd h0 (by decide)
    · subst e
      refine ⟨⟨r, 0, none⟩, rfl, fun j v hj => ?_⟩
      rw [add_plain]
      refine (blk_cell hR j).trans ?_
      rw [List.getElem?_toArray]; exact hj
  have hRt : Reads w A (R.take f) := by
    intro h0
    obtain ⟨ad, e, hc⟩ := hRd (by rw [List.length_take] at h0; omega)
    exact ⟨ad, e, fun j v hj => hc j v (by
      rw [← flat_take, List.getElem?_take] at hj
      split at hj
      · exact hj
      · cases hj)⟩
  obtain ⟨A1, hcut1, hR1⟩ := cut_low A R.length f hf R rfl w hRd
  have hcut2 := cut_high A R.length f hf
  obtain ⟨M, hM⟩ : ∃ M : Nat, M = max 4 (2 * R.length) := ⟨_, rfl⟩
  obtain ⟨i0, hi, hzz⟩ := Option.map_eq_some_iff.1 infoJ
  simp only [Prod.mk.injEq] at hzz
  have hmk := fun W => run_make (P := Try.prog) W 36 29 i0 _ Try.underlying36 hi hzz.1 .i64 .i64 (M : Int) (M : Int) (by omega) (by omega) (by rw [hzz.2.2]; omega) (by omega)
  simp only [Int.toNat_natCast, hzz.2.1, Value.cells, madeJ] at hmk
  obtain ⟨cap, hcap⟩ : ∃ cap, cap = R.length := ⟨_, rfl⟩
  rw [← hcap] at k0 hf hcut1 hcut2
  rw [hl, ← hcap] at k2
  have hmx : (if (4 : Int) < 2 * (cap : Int) then 2 * (cap : Int) else 4) = (M : Int) := by split <;> omega
  have hb' : cap < 1048576 := by omega
  have c1 : decide ((cap : Int) < (cap : Int)) = false := decide_eq_false (by omega)
  have H := Aside0.mk h
  have HM := Aside0.mk hM
  have Hcap := Aside0.mk hcap
  have Hl := Aside0.mk hl
  have HR1 := Aside0.mk hR1
  have HRT := Aside0.mk hRt
  clear h hM hcap hRd hRt hR1 hl hb hzz hi
  go_enter Try.func36, Try.ntmps36
  go_wp2
  go_quiet (fail)
  go_wp2
  obtain ⟨r, hr⟩ : ∃ r, r = w.heap.size := ⟨_, rfl⟩
  obtain ⟨Z, hZ⟩ : ∃ Z, Z = List.replicate M Jb.z := ⟨_, rfl⟩
  have hZl : Z.length = M := by rw [hZ]; simp
  rw [← hZ] at hmk ⊢
  obtain ⟨W, hW⟩ : ∃ W, W = (w.drewN nq).alloc (.cells (flat Z).toArray 29) := ⟨_, rfl⟩
  rw [← hr, ← hW]
  have hWB : Below w.heap.size w W := by rw [hW]; exact below_alloc (pw_below_drewN (Below.refl _ _) nq) _
  have hWr : Room W r Z := by rw [hW, hr]; exact blk_new _ _
  have HW := Aside0.mk (H.out.below hWB)
  have HWr := Aside0.mk hWr
  have HWB := Aside0.mk hWB
  have HS1 := Aside0.mk (HR1.out.below hWB)
  have HST := Aside0.mk (HRT.out.below hWB)
  have Hr := Aside0.mk hr
  have HZ := Aside0.mk hZ
  have HZl := Aside0.mk hZl
  have Hgr := Aside0.mk (show g ≠ r by rw [hr]; omega)
  have hM4 : cap < M := by rw [HM.out, ← Hcap.out]; omega
  clear hW hWr hWB hr hZ hZl hmk k0 k1 k2 z0 z1 z2
  obtain ⟨k0, k1, k2, z0, z1, z2⟩ := HW.out.cells
  rw [← Hcap.out] at k0
  clear k2 z0 z1 z2
  obtain ⟨n1, hn1⟩ : ∃ n1, n1 = cap - f := ⟨_, rfl⟩
  rw [← hn1] at hcut1
  have HC1 := Aside0.mk (show n1 = Nat.min n1 M from (Nat.min_eq_left (by omega)).symm)
  have HX1 := Aside0.mk (show (R.drop f).length = n1 by rw [List.length_drop, ← Hcap.out, hn1])
  have HF1 := Aside0.mk (show 0 + n1 ≤ Z.length by rw [HZl.out]; omega)
  have HN1 := Aside0.mk hn1
  have hcut3 := cut_own r M n1 (by omega)
  clear hn1
  go_region_held3 (fun w' => w'.cell? ⟨g, 0, none⟩ = some (.slice A cap cap) ∧ w'.cell? ⟨g, 1, none⟩ = some (.int .i64 (f : Int))) (go_keep)
    ((refine step_copyJ rfl (.tmp 22) (.tmp 31) (by rfl) r 0 M M A1 n1 n1 n1 Z (R.drop f) (by rfl) (by rfl) HWr.out HC1.out HX1.out HS1.out HF1.out ?_; intro w2 hG2 hK2 hB2; have q0 := (cell_keep (hK2 g Hgr.out) 0).trans k0; have q1 := (cell_keep (hK2 g Hgr.out) 1).trans k1))
  have HG2 := Aside0.mk hG2
  have HK2 := Aside0.mk hK2
  have HB2 := Aside0.mk hB2
  have HW2 := Aside0.mk (show Below w.heap.size w w2 from hB2 w (Nat.le_of_eq Hr.out.symm) (below_tr HWB.out (below_drew (Below.refl _ _))))
  have HS2 := Aside0.mk (HRT.out.below HW2.out)
  have HC2 := Aside0.mk (show f = Nat.min f (M - n1) from (Nat.min_eq_left (by have := HN1.out; omega)).symm)
  have HX2 := Aside0.mk (show (R.take f).length = f by rw [List.length_take, ← Hcap.out]; omega)
  have HF2 := Aside0.mk (show n1 + f ≤ (spl Z 0 (R.drop f)).length by rw [spl_len _ _ _ (by rw [HX1.out]; exact HF1.out), HZl.out]; have := HN1.out; omega)
  have HZ0 := Aside0.mk (fun (W' : World) (e : W'.heap[g]? = (World.drew w2).heap[g]?) => (show W'.frozen? ⟨g, 0, none⟩ = false from (frozen_keep (e.trans ((HK2.out g Hgr.out).trans rfl)) 0).trans HW.out.cells.2.2.2.1))
  have HZ1 := Aside0.mk (fun (W' : World) (e : W'.heap[g]? = (World.drew w2).heap[g]?) => (show W'.frozen? ⟨g, 1, none⟩ = false from (frozen_keep (e.trans ((HK2.out g Hgr.out).trans rfl)) 1).trans HW.out.cells.2.2.2.2.1))
  clear hG2 hK2 hB2 hcut1
  go_wp2
  go_region_held3 (fun w' => w'.cell? ⟨g, 0, none⟩ = some (.slice A cap cap) ∧ w'.cell? ⟨g, 1, none⟩ = some (.int .i64 (f : Int))) (go_keep)
    ((refine step_copyJ rfl (.tmp 35) (.tmp 44) (by rfl) r n1 (M - n1) (M - n1) A f cap f (spl Z 0 (R.drop f)) (R.take f) (by rfl) (by rfl) HG2.out HC2.out HX2.out HS2.out HF2.out ?_; intro w3 hG3 hK3 hB3; have q2 := (cell_keep (hK3 g Hgr.out) 0).trans q0; have q3 := (cell_keep (hK3 g Hgr.out) 1).trans q1))
  have HE := Aside0.mk (grow_endJ g f base r M n1 A R l w w3 H.out Hl.out Hr.out HM.out (by rw [HM.out, ← Hcap.out]; omega) (by rw [← Hcap.out]; exact HN1.out) (fun w0 e hb => hB3 w0 (by rw [e, Hr.out]; have := H.out.hg; omega) (below_tr0 (HB2.out w0 (by rw [e, Hr.out]; have := H.out.hg; omega) (below_tr0 (below_all HWB.out (by rw [e]; have := H.out.hg; omega) hb))))) (fun k hk => (hK3 k (by rw [Hr.out]; omega)).trans ((HK2.out k (by rw [Hr.out]; omega)).trans (HWB.out.block k hk))) (by rw [HZ.out] at hG3; exact hG3))
  have z0 : w3.frozen? ⟨g, 0, none⟩ = false := HZ0.out _ (hK3 g Hgr.out)
  have z1 : w3.frozen? ⟨g, 1, none⟩ = false := HZ1.out _ (hK3 g Hgr.out)
  clear hG3 hK3 hB3
  go_wp2
  obtain ⟨R', h1, h2, h3, h4⟩ := HE.out
  exact bodyPost_end (results_none rfl _ _ _) rfl ⟨rfl, r, R', Nat.le_of_eq Hr.out.symm, h1, h3, h4⟩
end Go.Proofs.Ytnegagkjhnpgmaa.Sc
