/- The deque's Insert. -/
import Derived.Test.YtbficlkjlhigjaaDqMut
namespace Go.Proofs.Ytbficlkjlhigjaa.Dq
open Go.RowKit Go.Proofs.YtbficlkjlhigjaaW.PrintWords Go.Proofs.YtbficlkjlhigjaaW.PrintMore Go.Proofs.YtbficlkjlhigjaaW.PrintLast
set_option linter.unusedVariables false
set_option linter.unusedSimpArgs false
attribute [local go_sem ↓] Go.wp_at_zero Go.wp_at_succ
theorem cell_other (w : World) (r a : Nat) (u : Value) {b : Nat} (h : ¬ b = a) : (w.setCell ⟨r, a, none⟩ u).cell? ⟨r, b, none⟩ = w.cell? ⟨r, b, none⟩ := by
  apply World.cell?_setCell_other
  intro e
  injection e with _ e
  exact h e.symm
/-- In the midst of the moving: the room holds the list L. -/
def Mv (w : World) (base g r cp f m : Nat) (n : Int) (L : List ByteArray) (wr : World) : Prop := ∃ R, R.length = m ∧ Pt Value.string 51 9 wr base g r cp (f : Nat) n R ∧ Rep R f L ∧ Upd w wr base g (some r) (some r)
set_option maxHeartbeats 4000000 in
set_option maxRecDepth 100000 in
theorem insert_bad (g base : Nat) (row : Option Nat) (l : List ByteArray) (i : Int) (v : ByteArray) (w : World) (h : Dq Value.string 51 9 w base g row l) (hi : i < 0 ∨ (l.length : Int) < i) :
    Calls Try.prog 33 #[.pointer (some ⟨g, 0, none⟩), .int .i64 i, Value.string v] w fun e w' => e = .returned (.bool false) ∧ w = w' := by
  have HL := Aside0.mk (len_calls g l.length w h.len.1)
  by_cases c : i < 0
  · have c1 : decide (i < 0) = true := decide_eq_true c
    clear c h hi
    go_enter Try.func33, Try.ntmps33
    go_wp2_with (first | (go_at_call 17; (with_reducible refine HL.out.mono ?_); rintro e w' ⟨rfl, rfl⟩))
    go_ret
    exact ⟨rfl, rfl⟩
  · have c1 : decide (i < 0) = false := decide_eq_false c
    have c2 : decide ((l.length : Int) < i) = true := decide_eq_true (by omega)
    clear c h hi
    go_enter Try.func33, Try.ntmps33
    go_wp2_with (first | (go_at_call 17; (with_reducible refine HL.out.mono ?_); rintro e w' ⟨rfl, rfl⟩))
    go_ret
    exact ⟨rfl, rfl⟩
set_option maxHeartbeats 8000000 in
set_option maxRecDepth 100000 in
theorem insert_front (g base i : Nat) (row : Option Nat) (l : List ByteArray) (v : ByteArray) (w : World) (h : Dq Value.string 51 9 w base g row l) (hi : i ≤ l.length) (hb : l.length < 1048576) (hfr : 2 * i < l.length) :
    Calls Try.prog 33 #[.pointer (some ⟨g, 0, none⟩), .int .i64 (i : Int), Value.string v] w fun e w' => e = .returned (.bool true) ∧ ∃ row', Dq Value.string 51 9 w' base g row' (l.take i ++ v :: l.drop i) ∧ Upd w w' base g row row' := by
  obtain ⟨n, hn⟩ : ∃ n, n = l.length := ⟨_, rfl⟩
  have HL := Aside0.mk (len_calls g l.length w h.len.1)
  have HG := Aside0.mk (push_front g base row l v w h hb)
  rw [← hn] at HL hi hb hfr
  have c1 : decide ((i : Int) < 0) = false := decide_eq_false (by omega)
  have c2 : decide ((n : Int) < (i : Int)) = false := decide_eq_false (by omega)
  have c3 : decide (n < i) = false := decide_eq_false (by omega)
  have c4 : decide (2 * (i : Int) < (n : Int)) = true := decide_eq_true (by omega)
  have Hn := Aside0.mk hn
  have Hi := Aside0.mk hi
  have Hnn := Aside0.mk (show n ≤ 1048576 by omega)
  clear h hn
  go_enter Try.func33, Try.ntmps33
  go_wp2_with (first | (go_at_call 17; (with_reducible refine HL.out.mono ?_); rintro e w' ⟨rfl, rfl⟩))
  go_at_call 24
  with_reducible refine HG.out.mono ?_
  rintro e w1 ⟨rfl, row1, hd, hu1⟩
  have HU1 := Aside0.mk hu1
  obtain ⟨r, cp, f, R1, rfl, hpt1, hrep1, hcap1⟩ := hd.open_ (by simp)
  obtain ⟨m, hm⟩ : ∃ m, m = R1.length := ⟨_, rfl⟩
  have hlen1 : (((v :: l).length : Nat) : Int) = (n : Int) + 1 := by simp [Hn.out]
  rw [hlen1] at hpt1
  have Hf := Aside0.mk (show f ≤ 2097152 by have := hrep1.fr; omega)
  have Hcap := Aside0.mk (show m ≤ 2097152 by omega)
  have k2 := hpt1.cells.2.2.1
  have hM : Mv w1 base g r cp f m ((n : Int) + 1) (insF l v 0) w1 := ⟨R1, hm.symm, hpt1, by rw [insF_zero]; exact hrep1, Upd.refl _ _ _ _⟩
  have HM := Aside0.mk hM
  clear hd hu1 hpt1 hrep1 hcap1 hm hlen1 hM HG HL
  have hbi : (i : Int) ≤ 1048576 := by omega
  have hbn : (n : Int) ≤ 1048576 := by omega
  clear hb hi hfr
  go_wp2
  go_loopw [7] (fun v7 wr => ∃ k : Nat, k ≤ i ∧ v7 = .int .i64 k ∧ Mv w1 base g r cp f m ((n : Int) + 1) (insF l v k) wr) (fun v7 _ => i - (intOf v7).toNat)
  case atStart => exact ⟨0, Nat.zero_le _, rfl, HM.out⟩
  case round =>
    obtain ⟨k, hk, rfl, hmv⟩ := hrel
    have hkn : k ≤ n := by have := Hi.out; omega
    have hkb : (k : Int) ≤ 1048576 := by have := Hnn.out; omega
    clear k2
    by_cases hlt : k < i
    · have d1 : decide ((k : Int) < (i : Int)) = true := decide_eq_true (by omega)
      have d2 : decide (k < i) = true := decide_eq_true hlt
      have hkl : k < l.length := by have := Hn.out; have := Hi.out; omega
      have hll := insF_len l v k (by omega)
      have Hst := Aside0.mk (insF_step l v ByteArray.empty k hkl)
      have Hk := Aside0.mk hlt
      obtain ⟨R', hRl, hpt, hrep, hu⟩ := hmv
      obtain ⟨k0, k1, k2, z0, z1, z2⟩ := hpt.cells
      obtain ⟨ha, ka, za⟩ := hpt.slot_at hrep (k) (by omega)
      obtain ⟨hb, kb, zb⟩ := hpt.slot_at hrep (k + 1) (by omega)
      have hne : ¬ slotN R'.length f (k) = slotN R'.length f (k + 1) := fun e => Nat.ne_of_lt (by omega : k < k + 1) (slotN_inj (cap := R'.length) (f := f) (by have := hrep.le; omega) (by have := hrep.le; omega) hrep.fr e)
      have hrep' := hrep.set_ (i := k) (by omega) ((insF l v k).getD (k + 1) ByteArray.empty)
      have hpt' := hpt.setr (slotN R'.length f (k)) ((insF l v k).getD (k + 1) ByteArray.empty)
      rw [hRl] at k0 ha ka za hb kb zb hne hrep' hpt'
      obtain ⟨sa, hsa⟩ : ∃ s, s = slotN m f (k) := ⟨_, rfl⟩
      obtain ⟨sb, hsb⟩ : ∃ s, s = slotN m f (k + 1) := ⟨_, rfl⟩
      rw [← hsa] at ha ka za hrep' hpt'
      rw [← hsb] at hb kb zb
      rw [← hsa, ← hsb] at hne
      obtain ⟨V, hV⟩ : ∃ V, V = (insF l v k).getD (k + 1) ByteArray.empty := ⟨_, rfl⟩
      rw [← hV] at kb hpt' hrep'
      have HSa : Aside0 (∀ W : World, W.cell? ⟨g, 0, none⟩ = some (.slice (some ⟨r, 0, none⟩) m cp) → W.cell? ⟨g, 1, none⟩ = some (.int .i64 (f : Int)) → Calls Try.prog 36 #[.pointer (some ⟨g, 0, none⟩), .int .i64 (k : Int)] W fun e w' => e = .returned (.int .i64 (sa : Int)) ∧ W = w') := ⟨fun W h0 h1 => by
        rw [hsa]
        exact slot_calls g f (k) m cp (some ⟨r, 0, none⟩) W h0 h1 Hf.out Hcap.out (by have := Hnn.out; omega)⟩
      have HSb : Aside0 (∀ W : World, W.cell? ⟨g, 0, none⟩ = some (.slice (some ⟨r, 0, none⟩) m cp) → W.cell? ⟨g, 1, none⟩ = some (.int .i64 (f : Int)) → Calls Try.prog 36 #[.pointer (some ⟨g, 0, none⟩), .int .i64 ((k : Int) + 1)] W fun e w' => e = .returned (.int .i64 (sb : Int)) ∧ W = w') := ⟨fun W h0 h1 => by
        rw [hsb]
        exact slot_calls g f (k + 1) m cp (some ⟨r, 0, none⟩) W h0 h1 Hf.out Hcap.out (by have := Hnn.out; omega)⟩
      have n1 : ¬ g = r := hpt.ne
      have n2 : ¬ r = g := fun e => hpt.ne e.symm
      have n3 : ¬ sa = sb := hne
      have n4 : ¬ sb = sa := fun e => hne e.symm
      have i1 : (0 : Int) ≤ (sa : Int) := Int.natCast_nonneg _
      have i2 : (sa : Int) < (m : Int) := by omega
      have i3 : (0 : Int) ≤ (sb : Int) := Int.natCast_nonneg _
      have i4 : (sb : Int) < (m : Int) := by omega
      have j1 := eq_true i1
      have j2 := eq_true i2
      have j3 := eq_true i3
      have j4 := eq_true i4
      have HR' := Aside0.mk hrep'
      have HP' := Aside0.mk hpt'
      have HP0 := Aside0.mk hpt
      have HU := Aside0.mk hu
      have HV := Aside0.mk hV
      have HRl := Aside0.mk hRl
      have Hsa := Aside0.mk hsa
      clear hpt hrep hu hrep' hpt' hRl hV hsa hsb hne ha hb
      have hwk : IntKind.i64.wrap ((k : Int) + 1) = ((k : Int) + 1) := by rw [IntKind.wrap_i64]; omega
      have hwk2 : IntKind.i64.wrap ((k : Int) + 1) = ((k : Int) + 1) := by rw [IntKind.wrap_i64]; omega
      have q3 : (wr.setCell ⟨r, sa, none⟩ (Value.string V)).cell? ⟨r, sb, none⟩ = some (Value.string V) := by rw [cell_other _ _ _ _ n4]; exact kb
      go_wp2
      go_region_held3 (fun w' => w'.cell? ⟨g, 0, none⟩ = some (.slice (some ⟨r, 0, none⟩) m cp) ∧ w'.cell? ⟨g, 1, none⟩ = some (.int .i64 (f : Int)) ∧ w'.cell? ⟨r, sb, none⟩ = some (Value.string V)) (go_keep) (first | (go_at_call 36; (with_reducible refine Calls.mono (HSa.out _ ?_ ?_) ?_); (exact k0); (exact k1); rintro e w' ⟨rfl, rfl⟩) | (go_at_call 36; (with_reducible refine Calls.mono (HSb.out _ ?_ ?_) ?_); (exact k0); (exact k1); rintro e w' ⟨rfl, rfl⟩))
      clear hwk hwk2
      go_wp2
      go_roundw
      case rel =>
        refine ⟨k + 1, Hk.out, by simp, _, ?_, HP'.out.drew, ?_, ((HU.out.rowcell HP0.out.hr sa _)).drew_⟩
        · rw [List.length_set]; exact HRl.out
        · rw [← Hst.out, ← HV.out]; exact HR'.out
      case measure => have := Hk.out; simp [intOf]; omega
    · have d1 : decide ((k : Int) < (i : Int)) = false := decide_eq_false (by omega)
      have d2 : decide (k < i) = false := decide_eq_false hlt
      obtain rfl : k = i := by omega
      have hll := insF_len l v k (by have := Hn.out; omega)
      have Hst := Aside0.mk (insF_end l v k (by have := Hn.out; omega))
      obtain ⟨R', hRl, hpt, hrep, hu⟩ := hmv
      obtain ⟨k0, k1, k2, z0, z1, z2⟩ := hpt.cells
      obtain ⟨ha, ka, za⟩ := hpt.slot_at hrep k (by have := Hn.out; omega)
      have hrep' := hrep.set_ (i := k) (by have := Hn.out; omega) v
      have hpt' := hpt.setr (slotN R'.length f k) v
      rw [hRl] at k0 ha ka za hrep' hpt'
      obtain ⟨sa, hsa⟩ : ∃ s, s = slotN m f k := ⟨_, rfl⟩
      rw [← hsa] at ha ka za hrep' hpt'
      have HSa : Aside0 (∀ W : World, W.cell? ⟨g, 0, none⟩ = some (.slice (some ⟨r, 0, none⟩) m cp) → W.cell? ⟨g, 1, none⟩ = some (.int .i64 (f : Int)) → Calls Try.prog 36 #[.pointer (some ⟨g, 0, none⟩), .int .i64 (k : Int)] W fun e w' => e = .returned (.int .i64 (sa : Int)) ∧ W = w') := ⟨fun W h0 h1 => by
        rw [hsa]
        exact slot_calls g f k m cp (some ⟨r, 0, none⟩) W h0 h1 Hf.out Hcap.out (by have := Hnn.out; omega)⟩
      have n1 : ¬ g = r := hpt.ne
      have n2 : ¬ r = g := fun e => hpt.ne e.symm
      have i1 : (0 : Int) ≤ (sa : Int) := Int.natCast_nonneg _
      have i2 : (sa : Int) < (m : Int) := by omega
      have j1 := eq_true i1
      have j2 := eq_true i2
      have HR' := Aside0.mk hrep'
      have HP' := Aside0.mk hpt'
      have HP0 := Aside0.mk hpt
      have HU := Aside0.mk hu
      have HRl := Aside0.mk hRl
      have Hsa := Aside0.mk hsa
      clear hpt hrep hu hrep' hpt' hRl hsa ha
      go_wp2
      go_region_held3 (fun w' => w'.cell? ⟨g, 0, none⟩ = some (.slice (some ⟨r, 0, none⟩) m cp) ∧ w'.cell? ⟨g, 1, none⟩ = some (.int .i64 (f : Int))) (go_keep) ((go_at_call 36; refine (HSa.out _ (by assumption) (by assumption)).mono ?_; rintro e w' ⟨rfl, rfl⟩))
      go_wp2
      go_ret
      refine ⟨rfl, some r, Pt.dq (cp := cp) (f := f) (R := R'.set sa v) ?_ ?_ (by rw [List.length_set, HRl.out]; exact Hcap.out), HU1.out.trans ((HU.out.rowcell HP0.out.hr sa _)).drew_⟩
      · have e : (((l.take k ++ v :: l.drop k).length : Nat) : Int) = (n : Int) + 1 := by rw [← Hst.out, List.length_set, hll, ← Hn.out]; rfl
        rw [e]
        exact HP'.out.drew
      · rw [← Hst.out]
        exact HR'.out
set_option maxHeartbeats 8000000 in
set_option maxRecDepth 100000 in
theorem insert_back (g base i : Nat) (row : Option Nat) (l : List ByteArray) (v : ByteArray) (w : World) (h : Dq Value.string 51 9 w base g row l) (hi : i ≤ l.length) (hb : l.length < 1048576) (hfr : l.length ≤ 2 * i) :
    Calls Try.prog 33 #[.pointer (some ⟨g, 0, none⟩), .int .i64 (i : Int), Value.string v] w fun e w' => e = .returned (.bool true) ∧ ∃ row', Dq Value.string 51 9 w' base g row' (l.take i ++ v :: l.drop i) ∧ Upd w w' base g row row' := by
  obtain ⟨n, hn⟩ : ∃ n, n = l.length := ⟨_, rfl⟩
  have HL := Aside0.mk (len_calls g l.length w h.len.1)
  have HG := Aside0.mk (push_back g base row l v w h hb)
  rw [← hn] at HL hi hb hfr
  have c1 : decide ((i : Int) < 0) = false := decide_eq_false (by omega)
  have c2 : decide ((n : Int) < (i : Int)) = false := decide_eq_false (by omega)
  have c3 : decide (n < i) = false := decide_eq_false (by omega)
  have c4 : decide (2 * (i : Int) < (n : Int)) = false := decide_eq_false (by omega)
  have Hn := Aside0.mk hn
  have Hi := Aside0.mk hi
  have Hnn := Aside0.mk (show n ≤ 1048576 by omega)
  clear h hn
  go_enter Try.func33, Try.ntmps33
  go_wp2_with (first | (go_at_call 17; (with_reducible refine HL.out.mono ?_); rintro e w' ⟨rfl, rfl⟩))
  go_at_call 24
  with_reducible refine HG.out.mono ?_
  rintro e w1 ⟨rfl, row1, hd, hu1⟩
  have HU1 := Aside0.mk hu1
  obtain ⟨r, cp, f, R1, rfl, hpt1, hrep1, hcap1⟩ := hd.open_ (by simp)
  obtain ⟨m, hm⟩ : ∃ m, m = R1.length := ⟨_, rfl⟩
  have hlen1 : (((l ++ [v]).length : Nat) : Int) = (n : Int) + 1 := by simp [Hn.out]
  rw [hlen1] at hpt1
  have Hf := Aside0.mk (show f ≤ 2097152 by have := hrep1.fr; omega)
  have Hcap := Aside0.mk (show m ≤ 2097152 by omega)
  have k2 := hpt1.cells.2.2.1
  have hM : Mv w1 base g r cp f m ((n : Int) + 1) (insB l v l.length) w1 := ⟨R1, hm.symm, hpt1, by rw [insB_top]; exact hrep1, Upd.refl _ _ _ _⟩
  have HM := Aside0.mk hM
  clear hd hu1 hpt1 hrep1 hcap1 hm hlen1 hM HG HL
  have hbi : (i : Int) ≤ 1048576 := by omega
  have hbn : (n : Int) ≤ 1048576 := by omega
  clear hb hi hfr
  go_wp2
  go_loopw [8] (fun v8 wr => ∃ k : Nat, i ≤ k ∧ k ≤ n ∧ v8 = .int .i64 k ∧ Mv w1 base g r cp f m ((n : Int) + 1) (insB l v k) wr) (fun v8 _ => (intOf v8).toNat - i)
  case atStart => exact ⟨n, Hi.out, Nat.le_refl _, by first | rfl | simp, by rw [Hn.out]; rw [Hn.out] at HM; exact HM.out⟩
  case round =>
    obtain ⟨k, hk, hkn, rfl, hmv⟩ := hrel
    have hkb : (k : Int) ≤ 1048576 := by have := Hnn.out; omega
    clear k2
    by_cases hlt : i < k
    · have d1 : decide ((i : Int) < (k : Int)) = true := decide_eq_true (by omega)
      have d2 : decide (i < k) = true := decide_eq_true hlt
      obtain ⟨q, rfl⟩ : ∃ q, k = q + 1 := ⟨k - 1, by omega⟩
      have hkl : q + 1 ≤ l.length := by have := Hn.out; omega
      have hll := insB_len l v (q + 1) hkl
      have Hst := Aside0.mk (insB_step l v ByteArray.empty (q + 1) (by omega) hkl)
      rw [Nat.add_sub_cancel] at Hst
      have Hk := Aside0.mk hlt
      have d3 : decide ((i : Int) < (q : Int) + 1) = true := decide_eq_true (by omega)
      have hkb : (q : Int) ≤ 1048576 := by have := Hnn.out; omega
      obtain ⟨R', hRl, hpt, hrep, hu⟩ := hmv
      obtain ⟨k0, k1, k2, z0, z1, z2⟩ := hpt.cells
      obtain ⟨ha, ka, za⟩ := hpt.slot_at hrep (q + 1) (by omega)
      obtain ⟨hb, kb, zb⟩ := hpt.slot_at hrep (q) (by omega)
      have hne : ¬ slotN R'.length f (q) = slotN R'.length f (q + 1) := fun e => Nat.ne_of_lt (by omega : q < q + 1) (slotN_inj (cap := R'.length) (f := f) (by have := hrep.le; omega) (by have := hrep.le; omega) hrep.fr e)
      have hrep' := hrep.set_ (i := q + 1) (by omega) ((insB l v (q + 1)).getD (q) ByteArray.empty)
      have hpt' := hpt.setr (slotN R'.length f (q + 1)) ((insB l v (q + 1)).getD (q) ByteArray.empty)
      rw [hRl] at k0 ha ka za hb kb zb hne hrep' hpt'
      obtain ⟨sa, hsa⟩ : ∃ s, s = slotN m f (q + 1) := ⟨_, rfl⟩
      obtain ⟨sb, hsb⟩ : ∃ s, s = slotN m f (q) := ⟨_, rfl⟩
      rw [← hsa] at ha ka za hrep' hpt'
      rw [← hsb] at hb kb zb
      rw [← hsa, ← hsb] at hne
      obtain ⟨V, hV⟩ : ∃ V, V = (insB l v (q + 1)).getD (q) ByteArray.empty := ⟨_, rfl⟩
      rw [← hV] at kb hpt' hrep'
      have HSa : Aside0 (∀ W : World, W.cell? ⟨g, 0, none⟩ = some (.slice (some ⟨r, 0, none⟩) m cp) → W.cell? ⟨g, 1, none⟩ = some (.int .i64 (f : Int)) → Calls Try.prog 36 #[.pointer (some ⟨g, 0, none⟩), .int .i64 ((q : Int) + 1)] W fun e w' => e = .returned (.int .i64 (sa : Int)) ∧ W = w') := ⟨fun W h0 h1 => by
        rw [hsa]
        exact slot_calls g f (q + 1) m cp (some ⟨r, 0, none⟩) W h0 h1 Hf.out Hcap.out (by have := Hnn.out; omega)⟩
      have HSb : Aside0 (∀ W : World, W.cell? ⟨g, 0, none⟩ = some (.slice (some ⟨r, 0, none⟩) m cp) → W.cell? ⟨g, 1, none⟩ = some (.int .i64 (f : Int)) → Calls Try.prog 36 #[.pointer (some ⟨g, 0, none⟩), .int .i64 (q : Int)] W fun e w' => e = .returned (.int .i64 (sb : Int)) ∧ W = w') := ⟨fun W h0 h1 => by
        rw [hsb]
        exact slot_calls g f (q) m cp (some ⟨r, 0, none⟩) W h0 h1 Hf.out Hcap.out (by have := Hnn.out; omega)⟩
      have n1 : ¬ g = r := hpt.ne
      have n2 : ¬ r = g := fun e => hpt.ne e.symm
      have n3 : ¬ sa = sb := fun e => hne e.symm
      have n4 : ¬ sb = sa := hne
      have i1 : (0 : Int) ≤ (sa : Int) := Int.natCast_nonneg _
      have i2 : (sa : Int) < (m : Int) := by omega
      have i3 : (0 : Int) ≤ (sb : Int) := Int.natCast_nonneg _
      have i4 : (sb : Int) < (m : Int) := by omega
      have j1 := eq_true i1
      have j2 := eq_true i2
      have j3 := eq_true i3
      have j4 := eq_true i4
      have HR' := Aside0.mk hrep'
      have HP' := Aside0.mk hpt'
      have HP0 := Aside0.mk hpt
      have HU := Aside0.mk hu
      have HV := Aside0.mk hV
      have HRl := Aside0.mk hRl
      have Hsa := Aside0.mk hsa
      clear hpt hrep hu hrep' hpt' hRl hV hsa hsb hne ha hb
      have hwk : IntKind.i64.wrap (((q : Int) + 1) - 1) = (q : Int) := by rw [IntKind.wrap_i64]; omega
      have hwk2 : IntKind.i64.wrap (q : Int) = (q : Int) := by rw [IntKind.wrap_i64]; omega
      have q3 : (wr.setCell ⟨r, sa, none⟩ (Value.string V)).cell? ⟨r, sb, none⟩ = some (Value.string V) := by rw [cell_other _ _ _ _ n4]; exact kb
      go_wp2
      go_region_held3 (fun w' => w'.cell? ⟨g, 0, none⟩ = some (.slice (some ⟨r, 0, none⟩) m cp) ∧ w'.cell? ⟨g, 1, none⟩ = some (.int .i64 (f : Int)) ∧ w'.cell? ⟨r, sb, none⟩ = some (Value.string V)) (go_keep) (first | (go_at_call 36; (with_reducible refine Calls.mono (HSa.out _ ?_ ?_) ?_); (exact k0); (exact k1); rintro e w' ⟨rfl, rfl⟩) | (go_at_call 36; (with_reducible refine Calls.mono (HSb.out _ ?_ ?_) ?_); (exact k0); (exact k1); rintro e w' ⟨rfl, rfl⟩))
      clear hwk hwk2
      go_wp2
      go_roundw
      case rel =>
        refine ⟨q, by have := Hk.out; omega, by omega, by simp, _, ?_, HP'.out.drew, ?_, ((HU.out.rowcell HP0.out.hr sa _)).drew_⟩
        · rw [List.length_set]; exact HRl.out
        · rw [← Hst.out, ← HV.out]; exact HR'.out
      case measure => have := Hk.out; simp [intOf]; omega
    · have d1 : decide ((i : Int) < (k : Int)) = false := decide_eq_false (by omega)
      have d2 : decide (i < k) = false := decide_eq_false hlt
      obtain rfl : k = i := by omega
      have hll := insB_len l v k (by have := Hn.out; omega)
      have Hst := Aside0.mk (insB_end l v k (by have := Hn.out; omega))
      obtain ⟨R', hRl, hpt, hrep, hu⟩ := hmv
      obtain ⟨k0, k1, k2, z0, z1, z2⟩ := hpt.cells
      obtain ⟨ha, ka, za⟩ := hpt.slot_at hrep k (by have := Hn.out; omega)
      have hrep' := hrep.set_ (i := k) (by have := Hn.out; omega) v
      have hpt' := hpt.setr (slotN R'.length f k) v
      rw [hRl] at k0 ha ka za hrep' hpt'
      obtain ⟨sa, hsa⟩ : ∃ s, s = slotN m f k := ⟨_, rfl⟩
      rw [← hsa] at ha ka za hrep' hpt'
      have HSa : Aside0 (∀ W : World, W.cell? ⟨g, 0, none⟩ = some (.slice (some ⟨r, 0, none⟩) m cp) → W.cell? ⟨g, 1, none⟩ = some (.int .i64 (f : Int)) → Calls Try.prog 36 #[.pointer (some ⟨g, 0, none⟩), .int .i64 (k : Int)] W fun e w' => e = .returned (.int .i64 (sa : Int)) ∧ W = w') := ⟨fun W h0 h1 => by
        rw [hsa]
        exact slot_calls g f k m cp (some ⟨r, 0, none⟩) W h0 h1 Hf.out Hcap.out (by have := Hnn.out; omega)⟩
      have n1 : ¬ g = r := hpt.ne
      have n2 : ¬ r = g := fun e => hpt.ne e.symm
      have i1 : (0 : Int) ≤ (sa : Int) := Int.natCast_nonneg _
      have i2 : (sa : Int) < (m : Int) := by omega
      have j1 := eq_true i1
      have j2 := eq_true i2
      have HR' := Aside0.mk hrep'
      have HP' := Aside0.mk hpt'
      have HP0 := Aside0.mk hpt
      have HU := Aside0.mk hu
      have HRl := Aside0.mk hRl
      have Hsa := Aside0.mk hsa
      clear hpt hrep hu hrep' hpt' hRl hsa ha
      go_wp2
      go_region_held3 (fun w' => w'.cell? ⟨g, 0, none⟩ = some (.slice (some ⟨r, 0, none⟩) m cp) ∧ w'.cell? ⟨g, 1, none⟩ = some (.int .i64 (f : Int))) (go_keep) ((go_at_call 36; refine (HSa.out _ (by assumption) (by assumption)).mono ?_; rintro e w' ⟨rfl, rfl⟩))
      go_wp2
      go_ret
      refine ⟨rfl, some r, Pt.dq (cp := cp) (f := f) (R := R'.set sa v) ?_ ?_ (by rw [List.length_set, HRl.out]; exact Hcap.out), HU1.out.trans ((HU.out.rowcell HP0.out.hr sa _)).drew_⟩
      · have e : (((l.take k ++ v :: l.drop k).length : Nat) : Int) = (n : Int) + 1 := by rw [← Hst.out, List.length_set, hll, ← Hn.out]; rfl
        rw [e]
        exact HP'.out.drew
      · rw [← Hst.out]
        exact HR'.out
/-- Insert. -/
theorem insert_calls (g base : Nat) (row : Option Nat) (l : List ByteArray) (i : Int) (v : ByteArray) (w : World) (h : Dq Value.string 51 9 w base g row l) (hb : l.length < 1048576) :
    Calls Try.prog 33 #[.pointer (some ⟨g, 0, none⟩), .int .i64 i, Value.string v] w fun e w' => e = .returned (.bool (decide (0 ≤ i ∧ i ≤ l.length))) ∧ ∃ row', Dq Value.string 51 9 w' base g row' (if 0 ≤ i ∧ i ≤ l.length then l.take i.toNat ++ v :: l.drop i.toNat else l) ∧ Upd w w' base g row row' := by
  by_cases c : 0 ≤ i ∧ i ≤ l.length
  · obtain ⟨k, rfl⟩ : ∃ k : Nat, i = k := ⟨i.toNat, by omega⟩
    rw [decide_eq_true c, if_pos c, Int.toNat_natCast]
    by_cases d : 2 * k < l.length
    · exact insert_front g base k row l v w h (by omega) hb d
    · exact insert_back g base k row l v w h (by omega) hb (by omega)
  · rw [decide_eq_false c, if_neg c]
    refine (insert_bad g base row l i v w h (by omega)).mono fun e w' he => ?_
    obtain ⟨rfl, rfl⟩ := he
    exact ⟨rfl, row, h, Upd.refl _ _ _ _⟩
theorem insert_nil (i : Int) (v : ByteArray) (w : World) : Calls Try.prog 33 #[.pointer none, .int .i64 i, Value.string v] w fun e w' => e = .returned (.bool false) ∧ w = w' := by
  have HL := Aside0.mk (len_nil w)
  have HG := Aside0.mk (push_nil false v w)
  by_cases c : i < 0
  · have c1 : decide (i < 0) = true := decide_eq_true c
    clear c
    go_enter Try.func33, Try.ntmps33
    go_wp2_with (first | (go_at_call 17; (with_reducible refine HL.out.mono ?_); rintro e w' ⟨rfl, rfl⟩))
    go_ret
    exact ⟨rfl, rfl⟩
  · have c1 : decide (i < 0) = false := decide_eq_false c
    by_cases d : 0 < i
    · have c2 : decide (0 < i) = true := decide_eq_true d
      clear c d
      go_enter Try.func33, Try.ntmps33
      go_wp2_with (first | (go_at_call 17; (with_reducible refine HL.out.mono ?_); rintro e w' ⟨rfl, rfl⟩))
      go_ret
      exact ⟨rfl, rfl⟩
    · obtain rfl : i = 0 := by omega
      clear c d c1
      go_enter Try.func33, Try.ntmps33
      go_wp2_with (first | (go_at_call 17; (with_reducible refine HL.out.mono ?_); rintro e w' ⟨rfl, rfl⟩) | (go_at_call 24; (with_reducible refine HG.out.mono ?_); rintro e w' ⟨rfl, rfl⟩))
      go_ret
      exact ⟨rfl, rfl⟩
end Go.Proofs.Ytbficlkjlhigjaa.Dq
