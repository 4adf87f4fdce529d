/- The deque's Remove. -/
import Derived.Test.YtbficlkjlhigjaaDqIns
namespace Go.Proofs.Ytbficlkjlhigjaa.Dq
open Go.RowKit Go.Proofs.YtbficlkjlhigjaaW.PrintWords Go.Proofs.YtbficlkjlhigjaaW.PrintMore Go.Proofs.YtbficlkjlhigjaaW.PrintLast
set_option linter.unusedVariables false
set_option linter.unusedSimpArgs false
attribute [local go_sem ↓] Go.wp_at_zero Go.wp_at_succ
set_option maxHeartbeats 8000000 in
set_option maxRecDepth 100000 in
theorem remove_front (g base i : Nat) (a1 : Int) (row : Option Nat) (l : List ByteArray) (w : World) (h : Dq Value.string 51 9 w base g row l) (hi : i < l.length) (hfr : 2 * i < l.length)
    (hp : Calls Try.prog 37 #[.pointer (some ⟨g, 0, none⟩), .int .i64 a1] w fun e w' => e = .returned (.tuple #[.int .i64 (i : Int), .bool true]) ∧ w = w') :
    Calls Try.prog 28 #[.pointer (some ⟨g, 0, none⟩), .int .i64 a1] w fun e w' => e = .returned (.bool true) ∧ Dq Value.string 51 9 w' base g row (l.take i ++ l.drop (i + 1)) ∧ Upd w w' base g row row := by
  obtain ⟨n, hn⟩ : ∃ n, n = l.length := ⟨_, rfl⟩
  have HP := Aside0.mk hp
  have hn9 := h.len.2
  obtain ⟨r, cp, f, R1, rfl, hpt1, hrep1, hcap1⟩ := h.open_ (by omega)
  rw [← hn] at hi hn9 hfr hpt1
  obtain ⟨m, hm⟩ : ∃ m, m = R1.length := ⟨_, rfl⟩
  have Hf := Aside0.mk (show f ≤ 2097152 by have := hrep1.fr; omega)
  have Hcap := Aside0.mk (show m ≤ 2097152 by omega)
  have c4 : decide (2 * (i : Int) < (n : Int)) = true := decide_eq_true (by omega)
  have Hn := Aside0.mk hn
  have Hi := Aside0.mk hi
  have Hnn := Aside0.mk (show n ≤ 2097152 by omega)
  have k2 := hpt1.cells.2.2.1
  have hM : Mv w base g r cp f m (n : Int) (remF l i i) w := ⟨R1, hm.symm, hpt1, by rw [remF_top l i (by omega)]; exact hrep1, Upd.refl _ _ _ _⟩
  have HM := Aside0.mk hM
  have hbi : (i : Int) ≤ 2097152 := by omega
  have hbn : (n : Int) ≤ 2097152 := by omega
  clear h hn hi hn9 hfr hpt1 hrep1 hcap1 hm hM hp
  go_enter Try.func28, Try.ntmps28
  go_wp2_with (first | (go_at_call 37; (with_reducible refine HP.out.mono ?_); rintro e w' ⟨rfl, rfl⟩))
  go_loopw [7] (fun v7 wr => ∃ k : Nat, k ≤ i ∧ v7 = .int .i64 k ∧ Mv w base g r cp f m (n : Int) (remF l i k) wr) (fun v7 _ => (intOf v7).toNat)
  case atStart => exact ⟨i, Nat.le_refl _, rfl, HM.out⟩
  case round =>
    obtain ⟨k, hk, rfl, hmv⟩ := hrel
    clear k2
    by_cases hlt : 0 < k
    · obtain ⟨q, rfl⟩ : ∃ q, k = q + 1 := ⟨k - 1, by omega⟩
      have d1 : decide (0 < ((q + 1 : Nat) : Int)) = true := decide_eq_true (by omega)
      have d3 : decide (0 < (q : Int) + 1) = true := decide_eq_true (by omega)
      have hil : i < l.length := by have := Hn.out; have := Hi.out; omega
      have hkl : q + 1 < l.length := by omega
      have hll := remF_len l i (q + 1) hk hil
      have Hst := Aside0.mk (remF_step l ByteArray.empty i (q + 1) (by omega) hk hil)
      rw [Nat.add_sub_cancel] at Hst
      have Hk := Aside0.mk hk
      have hkb : (q : Int) ≤ 2097152 := by omega
      obtain ⟨R', hRl, hpt, hrep, hu⟩ := hmv
      obtain ⟨k0, k1, k2, z0, z1, z2⟩ := hpt.cells
      obtain ⟨ha, ka, za⟩ := hpt.slot_at hrep (q + 1) (by omega)
      obtain ⟨hb, kb, zb⟩ := hpt.slot_at hrep (q) (by omega)
      have hne : ¬ slotN R'.length f (q) = slotN R'.length f (q + 1) := fun e => Nat.ne_of_lt (by omega : q < q + 1) (slotN_inj (cap := R'.length) (f := f) (by have := hrep.le; omega) (by have := hrep.le; omega) hrep.fr e)
      have hrep' := hrep.set_ (i := q + 1) (by omega) ((remF l i (q + 1)).getD (q) ByteArray.empty)
      have hpt' := hpt.setr (slotN R'.length f (q + 1)) ((remF l i (q + 1)).getD (q) ByteArray.empty)
      rw [hRl] at k0 ha ka za hb kb zb hne hrep' hpt'
      obtain ⟨sa, hsa⟩ : ∃ s, s = slotN m f (q + 1) := ⟨_, rfl⟩
      obtain ⟨sb, hsb⟩ : ∃ s, s = slotN m f (q) := ⟨_, rfl⟩
      rw [← hsa] at ha ka za hrep' hpt'
      rw [← hsb] at hb kb zb
      rw [← hsa, ← hsb] at hne
      obtain ⟨V, hV⟩ : ∃ V, V = (remF l i (q + 1)).getD (q) ByteArray.empty := ⟨_, rfl⟩
      rw [← hV] at kb hpt' hrep'
      have HSa : Aside0 (∀ W : World, W.cell? ⟨g, 0, none⟩ = some (.slice (some ⟨r, 0, none⟩) m cp) → W.cell? ⟨g, 1, none⟩ = some (.int .i64 (f : Int)) → Calls Try.prog 36 #[.pointer (some ⟨g, 0, none⟩), .int .i64 ((q : Int) + 1)] W fun e w' => e = .returned (.int .i64 (sa : Int)) ∧ W = w') := ⟨fun W h0 h1 => by
        rw [hsa]
        exact slot_calls g f (q + 1) m cp (some ⟨r, 0, none⟩) W h0 h1 Hf.out Hcap.out (by have := Hnn.out; omega)⟩
      have HSb : Aside0 (∀ W : World, W.cell? ⟨g, 0, none⟩ = some (.slice (some ⟨r, 0, none⟩) m cp) → W.cell? ⟨g, 1, none⟩ = some (.int .i64 (f : Int)) → Calls Try.prog 36 #[.pointer (some ⟨g, 0, none⟩), .int .i64 (q : Int)] W fun e w' => e = .returned (.int .i64 (sb : Int)) ∧ W = w') := ⟨fun W h0 h1 => by
        rw [hsb]
        exact slot_calls g f (q) m cp (some ⟨r, 0, none⟩) W h0 h1 Hf.out Hcap.out (by have := Hnn.out; omega)⟩
      have n1 : ¬ g = r := hpt.ne
      have n2 : ¬ r = g := fun e => hpt.ne e.symm
      have n3 : ¬ sa = sb := fun e => hne e.symm
      have n4 : ¬ sb = sa := hne
      have i1 : (0 : Int) ≤ (sa : Int) := Int.natCast_nonneg _
      have i2 : (sa : Int) < (m : Int) := by omega
      have i3 : (0 : Int) ≤ (sb : Int) := Int.natCast_nonneg _
      have i4 : (sb : Int) < (m : Int) := by omega
      have j1 := eq_true i1
      have j2 := eq_true i2
      have j3 := eq_true i3
      have j4 := eq_true i4
      have HR' := Aside0.mk hrep'
      have HP' := Aside0.mk hpt'
      have HP0 := Aside0.mk hpt
      have HU := Aside0.mk hu
      have HV := Aside0.mk hV
      have HRl := Aside0.mk hRl
      have Hsa := Aside0.mk hsa
      clear hpt hrep hu hrep' hpt' hRl hV hsa hsb hne ha hb
      have hwk : IntKind.i64.wrap (((q : Int) + 1) - 1) = (q : Int) := by rw [IntKind.wrap_i64]; omega
      have hwk2 : IntKind.i64.wrap (q : Int) = (q : Int) := by rw [IntKind.wrap_i64]; omega
      have q3 : (wr.setCell ⟨r, sa, none⟩ (Value.string V)).cell? ⟨r, sb, none⟩ = some (Value.string V) := by rw [cell_other _ _ _ _ n4]; exact kb
      go_wp2
      go_region_held3 (fun w' => w'.cell? ⟨g, 0, none⟩ = some (.slice (some ⟨r, 0, none⟩) m cp) ∧ w'.cell? ⟨g, 1, none⟩ = some (.int .i64 (f : Int)) ∧ w'.cell? ⟨r, sb, none⟩ = some (Value.string V)) (go_keep) (first | (go_at_call 36; (with_reducible refine Calls.mono (HSa.out _ ?_ ?_) ?_); (exact k0); (exact k1); rintro e w' ⟨rfl, rfl⟩) | (go_at_call 36; (with_reducible refine Calls.mono (HSb.out _ ?_ ?_) ?_); (exact k0); (exact k1); rintro e w' ⟨rfl, rfl⟩))
      clear hwk hwk2
      go_wp2
      go_roundw
      case rel =>
        refine ⟨q, by have := Hk.out; omega, by simp, _, ?_, HP'.out.drew, ?_, ((HU.out.rowcell HP0.out.hr sa _)).drew_⟩
        · rw [List.length_set]; exact HRl.out
        · rw [← Hst.out, ← HV.out]; exact HR'.out
      case measure => first | (simp [intOf]; done) | (simp [intOf]; omega)
    · obtain rfl : k = 0 := by omega
      have hll := remF_len l i 0 (by omega) (by have := Hn.out; have := Hi.out; omega)
      have d1 : decide ((0 : Int) < ((0 : Nat) : Int)) = false := by decide
      have hd : Dq Value.string 51 9 wr base g (some r) (remF l i 0) := by
        obtain ⟨R', hRl, hpt, hrep, hu⟩ := hmv
        exact Pt.dq (cp := cp) (f := f) (by rw [hll, ← Hn.out]; exact hpt) hrep (by rw [hRl]; exact Hcap.out)
      have hu : Upd w wr base g (some r) (some r) := by
        obtain ⟨R', hRl, hpt, hrep, hu⟩ := hmv
        exact hu
      have HPop := Aside0.mk (pop_calls g base (some r) _ true wr hd)
      have hne : (remF l i 0).isEmpty = false := by
        cases hx : (remF l i 0) with
        | nil => exfalso; rw [hx, List.length_nil] at hll; have := Hi.out; have := Hn.out; omega
        | cons _ _ => rfl
      rw [hne, if_pos rfl] at HPop
      have HU := Aside0.mk hu
      obtain ⟨X, hX⟩ : ∃ X : ByteArray, X = (remF l i 0).getD 0 ByteArray.empty := ⟨_, rfl⟩
      clear hd hu hne hll hmv
      go_wp2_with (first | (go_at_call 31; (with_reducible refine HPop.out.mono ?_); rintro e w2 ⟨rfl, hd2, hu2⟩; have HD2 := Aside0.mk hd2; have HU2 := Aside0.mk hu2; clear hd2 hu2))
      go_ret
      refine ⟨rfl, ?_, HU.out.trans HU2.out⟩
      have := HD2.out
      simp only [if_true, if_false, Bool.false_eq_true] at this
      rw [remF_end l i (by have := Hn.out; have := Hi.out; omega)] at this
      exact this
set_option maxHeartbeats 8000000 in
set_option maxRecDepth 100000 in
theorem remove_back (g base i : Nat) (a1 : Int) (row : Option Nat) (l : List ByteArray) (w : World) (h : Dq Value.string 51 9 w base g row l) (hi : i < l.length) (hfr : l.length ≤ 2 * i)
    (hp : Calls Try.prog 37 #[.pointer (some ⟨g, 0, none⟩), .int .i64 a1] w fun e w' => e = .returned (.tuple #[.int .i64 (i : Int), .bool true]) ∧ w = w') :
    Calls Try.prog 28 #[.pointer (some ⟨g, 0, none⟩), .int .i64 a1] w fun e w' => e = .returned (.bool true) ∧ Dq Value.string 51 9 w' base g row (l.take i ++ l.drop (i + 1)) ∧ Upd w w' base g row row := by
  obtain ⟨n, hn⟩ : ∃ n, n = l.length := ⟨_, rfl⟩
  have HP := Aside0.mk hp
  have hn9 := h.len.2
  obtain ⟨r, cp, f, R1, rfl, hpt1, hrep1, hcap1⟩ := h.open_ (by omega)
  rw [← hn] at hi hn9 hfr hpt1
  obtain ⟨m, hm⟩ : ∃ m, m = R1.length := ⟨_, rfl⟩
  have Hf := Aside0.mk (show f ≤ 2097152 by have := hrep1.fr; omega)
  have Hcap := Aside0.mk (show m ≤ 2097152 by omega)
  have c4 : decide (2 * (i : Int) < (n : Int)) = false := decide_eq_false (by omega)
  have Hn := Aside0.mk hn
  have Hi := Aside0.mk hi
  have Hnn := Aside0.mk (show n ≤ 2097152 by omega)
  have k2 := hpt1.cells.2.2.1
  have hM : Mv w base g r cp f m (n : Int) (remB l i i) w := ⟨R1, hm.symm, hpt1, by rw [remB_top l i (by omega)]; exact hrep1, Upd.refl _ _ _ _⟩
  have HM := Aside0.mk hM
  have hbi : (i : Int) ≤ 2097152 := by omega
  have hbn : (n : Int) ≤ 2097152 := by omega
  clear h hn hi hn9 hfr hpt1 hrep1 hcap1 hm hM hp
  go_enter Try.func28, Try.ntmps28
  go_wp2_with (first | (go_at_call 37; (with_reducible refine HP.out.mono ?_); rintro e w' ⟨rfl, rfl⟩))
  go_loopw [8] (fun v8 wr => ∃ k : Nat, i ≤ k ∧ k < n ∧ v8 = .int .i64 k ∧ Mv w base g r cp f m (n : Int) (remB l i k) wr) (fun v8 _ => n - (intOf v8).toNat)
  case atStart => exact ⟨i, Nat.le_refl _, Hi.out, rfl, HM.out⟩
  case round =>
    obtain ⟨k, hk, hkn, rfl, hmv⟩ := hrel
    clear k2
    have hkb : (k : Int) ≤ 2097152 := by have := Hnn.out; omega
    have k2 : wr.cell? ⟨g, 2, none⟩ = some (.int .i64 (n : Int)) := by
      obtain ⟨R', hRl, hpt, hrep, hu⟩ := hmv
      exact hpt.cells.2.2.1
    by_cases hlt : k + 1 < n
    · have d1 : decide ((k : Int) < (n : Int) - 1) = true := decide_eq_true (by omega)
      have hkl : k + 1 < l.length := by have := Hn.out; omega
      have hll := remB_len l i k hk (by omega)
      have Hst := Aside0.mk (remB_step l ByteArray.empty i k hk hkl)
      have Hk := Aside0.mk hlt
      have Hik := Aside0.mk hk
      obtain ⟨R', hRl, hpt, hrep, hu⟩ := hmv
      obtain ⟨k0, k1, k2, z0, z1, z2⟩ := hpt.cells
      obtain ⟨ha, ka, za⟩ := hpt.slot_at hrep (k) (by omega)
      obtain ⟨hb, kb, zb⟩ := hpt.slot_at hrep (k + 1) (by omega)
      have hne : ¬ slotN R'.length f (k) = slotN R'.length f (k + 1) := fun e => Nat.ne_of_lt (by omega : k < k + 1) (slotN_inj (cap := R'.length) (f := f) (by have := hrep.le; omega) (by have := hrep.le; omega) hrep.fr e)
      have hrep' := hrep.set_ (i := k) (by omega) ((remB l i k).getD (k + 1) ByteArray.empty)
      have hpt' := hpt.setr (slotN R'.length f (k)) ((remB l i k).getD (k + 1) ByteArray.empty)
      rw [hRl] at k0 ha ka za hb kb zb hne hrep' hpt'
      obtain ⟨sa, hsa⟩ : ∃ s, s = slotN m f (k) := ⟨_, rfl⟩
      obtain ⟨sb, hsb⟩ : ∃ s, s = slotN m f (k + 1) := ⟨_, rfl⟩
      rw [← hsa] at ha ka za hrep' hpt'
      rw [← hsb] at hb kb zb
      rw [← hsa, ← hsb] at hne
      obtain ⟨V, hV⟩ : ∃ V, V = (remB l i k).getD (k + 1) ByteArray.empty := ⟨_, rfl⟩
      rw [← hV] at kb hpt' hrep'
      have HSa : Aside0 (∀ W : World, W.cell? ⟨g, 0, none⟩ = some (.slice (some ⟨r, 0, none⟩) m cp) → W.cell? ⟨g, 1, none⟩ = some (.int .i64 (f : Int)) → Calls Try.prog 36 #[.pointer (some ⟨g, 0, none⟩), .int .i64 (k : Int)] W fun e w' => e = .returned (.int .i64 (sa : Int)) ∧ W = w') := ⟨fun W h0 h1 => by
        rw [hsa]
        exact slot_calls g f (k) m cp (some ⟨r, 0, none⟩) W h0 h1 Hf.out Hcap.out (by have := Hnn.out; omega)⟩
      have HSb : Aside0 (∀ W : World, W.cell? ⟨g, 0, none⟩ = some (.slice (some ⟨r, 0, none⟩) m cp) → W.cell? ⟨g, 1, none⟩ = some (.int .i64 (f : Int)) → Calls Try.prog 36 #[.pointer (some ⟨g, 0, none⟩), .int .i64 ((k : Int) + 1)] W fun e w' => e = .returned (.int .i64 (sb : Int)) ∧ W = w') := ⟨fun W h0 h1 => by
        rw [hsb]
        exact slot_calls g f (k + 1) m cp (some ⟨r, 0, none⟩) W h0 h1 Hf.out Hcap.out (by have := Hnn.out; omega)⟩
      have n1 : ¬ g = r := hpt.ne
      have n2 : ¬ r = g := fun e => hpt.ne e.symm
      have n3 : ¬ sa = sb := hne
      have n4 : ¬ sb = sa := fun e => hne e.symm
      have i1 : (0 : Int) ≤ (sa : Int) := Int.natCast_nonneg _
      have i2 : (sa : Int) < (m : Int) := by omega
      have i3 : (0 : Int) ≤ (sb : Int) := Int.natCast_nonneg _
      have i4 : (sb : Int) < (m : Int) := by omega
      have j1 := eq_true i1
      have j2 := eq_true i2
      have j3 := eq_true i3
      have j4 := eq_true i4
      have HR' := Aside0.mk hrep'
      have HP' := Aside0.mk hpt'
      have HP0 := Aside0.mk hpt
      have HU := Aside0.mk hu
      have HV := Aside0.mk hV
      have HRl := Aside0.mk hRl
      have Hsa := Aside0.mk hsa
      clear hpt hrep hu hrep' hpt' hRl hV hsa hsb hne ha hb
      have hwk : IntKind.i64.wrap ((k : Int) + 1) = ((k : Int) + 1) := by rw [IntKind.wrap_i64]; omega
      have hwk2 : IntKind.i64.wrap ((k : Int) + 1) = ((k : Int) + 1) := by rw [IntKind.wrap_i64]; omega
      have q3 : (wr.setCell ⟨r, sa, none⟩ (Value.string V)).cell? ⟨r, sb, none⟩ = some (Value.string V) := by rw [cell_other _ _ _ _ n4]; exact kb
      go_wp2
      go_region_held3 (fun w' => w'.cell? ⟨g, 0, none⟩ = some (.slice (some ⟨r, 0, none⟩) m cp) ∧ w'.cell? ⟨g, 1, none⟩ = some (.int .i64 (f : Int)) ∧ w'.cell? ⟨r, sb, none⟩ = some (Value.string V)) (go_keep) (first | (go_at_call 36; (with_reducible refine Calls.mono (HSa.out _ ?_ ?_) ?_); (exact k0); (exact k1); rintro e w' ⟨rfl, rfl⟩) | (go_at_call 36; (with_reducible refine Calls.mono (HSb.out _ ?_ ?_) ?_); (exact k0); (exact k1); rintro e w' ⟨rfl, rfl⟩))
      clear hwk hwk2
      go_wp2
      go_roundw
      case rel =>
        refine ⟨k + 1, by have := Hik.out; omega, Hk.out, by simp, _, ?_, HP'.out.drew, ?_, ((HU.out.rowcell HP0.out.hr sa _)).drew_⟩
        · rw [List.length_set]; exact HRl.out
        · rw [← Hst.out, ← HV.out]; exact HR'.out
      case measure => have := Hk.out; simp [intOf]; omega
    · have d1 : decide ((k : Int) < (n : Int) - 1) = false := decide_eq_false (by omega)
      have hkk : k = l.length - 1 := by have := Hn.out; omega
      have hll := remB_len l i k hk (by have := Hn.out; omega)
      have Hkk := Aside0.mk hkk
      clear hkk
      have hd : Dq Value.string 51 9 wr base g (some r) (remB l i k) := by
        obtain ⟨R', hRl, hpt, hrep, hu⟩ := hmv
        exact Pt.dq (cp := cp) (f := f) (by rw [hll, ← Hn.out]; exact hpt) hrep (by rw [hRl]; exact Hcap.out)
      have hu : Upd w wr base g (some r) (some r) := by
        obtain ⟨R', hRl, hpt, hrep, hu⟩ := hmv
        exact hu
      have HPop := Aside0.mk (pop_calls g base (some r) _ false wr hd)
      have hne : (remB l i k).isEmpty = false := by
        cases hx : (remB l i k) with
        | nil => exfalso; rw [hx, List.length_nil] at hll; have := Hi.out; have := Hn.out; omega
        | cons _ _ => rfl
      rw [hne, if_neg (by decide)] at HPop
      have HU := Aside0.mk hu
      obtain ⟨X, hX⟩ : ∃ X : ByteArray, X = (remB l i k).getD ((remB l i k).length - 1) ByteArray.empty := ⟨_, rfl⟩
      clear hd hu hne hll hmv
      go_wp2_with (first | (go_at_call 31; (with_reducible refine HPop.out.mono ?_); rintro e w2 ⟨rfl, hd2, hu2⟩; have HD2 := Aside0.mk hd2; have HU2 := Aside0.mk hu2; clear hd2 hu2))
      go_ret
      refine ⟨rfl, ?_, HU.out.trans HU2.out⟩
      have := HD2.out
      simp only [if_true, if_false, Bool.false_eq_true] at this
      rw [Hkk.out, remB_end l i (by have := Hn.out; have := Hi.out; omega)] at this
      exact this
/-- Remove. -/
theorem remove_calls (g base : Nat) (row : Option Nat) (l : List ByteArray) (i : Int) (w : World) (h : Dq Value.string 51 9 w base g row l) (hi : Aside0 (-9223372036854775808 ≤ i ∧ i ≤ 9223372036854775807)) :
    Calls Try.prog 28 #[.pointer (some ⟨g, 0, none⟩), .int .i64 i] w fun e w' => e = .returned (.bool (okI l.length i)) ∧ Dq Value.string 51 9 w' base g row (if okI l.length i then l.take (placeI l.length i).toNat ++ l.drop ((placeI l.length i).toNat + 1) else l) ∧ Upd w w' base g row row := by
  have HP := place_calls g l.length i w h.len.1 h.len.2 hi
  by_cases ok : okI l.length i = true
  · have hok := ok
    unfold okI at ok
    simp only [Bool.and_eq_true, decide_eq_true_eq] at ok
    obtain ⟨k, hk⟩ : ∃ k : Nat, placeI l.length i = k := ⟨(placeI l.length i).toNat, by omega⟩
    rw [hk] at ok
    rw [hok, hk] at HP
    rw [hok, if_pos rfl, hk, Int.toNat_natCast]
    by_cases d : 2 * k < l.length
    · exact remove_front g base k i row l w h (by omega) d HP
    · exact remove_back g base k i row l w h (by omega) (by omega) HP
  · have hok : okI l.length i = false := by simpa using ok
    rw [hok] at HP
    rw [hok, if_neg (by decide)]
    have H := Aside0.mk h
    have HP := Aside0.mk HP
    obtain ⟨j, hj⟩ : ∃ j, j = placeI l.length i := ⟨_, rfl⟩
    rw [← hj] at HP
    clear ok hok h hi hj
    go_enter Try.func28, Try.ntmps28
    go_wp2_with (first | (go_at_call 37; (with_reducible refine HP.out.mono ?_); rintro e w' ⟨rfl, rfl⟩))
    go_ret
    exact ⟨rfl, H.out, Upd.refl _ _ _ _⟩
theorem remove_nil (i : Int) (w : World) (hi : Aside0 (-9223372036854775808 ≤ i ∧ i ≤ 9223372036854775807)) :
    Calls Try.prog 28 #[.pointer none, .int .i64 i] w fun e w' => e = .returned (.bool false) ∧ w = w' := by
  have HP := Aside0.mk (place_nil i w hi)
  clear hi
  go_enter Try.func28, Try.ntmps28
  go_wp2_with (first | (go_at_call 37; (with_reducible refine HP.out.mono ?_); rintro e w' ⟨⟨j, rfl⟩, rfl⟩))
  go_ret
  exact ⟨rfl, rfl⟩
end Go.Proofs.Ytbficlkjlhigjaa.Dq
