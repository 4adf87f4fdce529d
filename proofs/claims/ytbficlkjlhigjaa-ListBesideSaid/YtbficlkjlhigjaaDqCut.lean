/- The deque's Cut, All. -/
import Derived.Test.YtbficlkjlhigjaaDqSpan
import Derived.Deep.AppendLies
namespace Go.Proofs.Ytbficlkjlhigjaa.Dq
open Go.RowKit Go.Proofs.YtbficlkjlhigjaaW.PrintWords Go.Proofs.YtbficlkjlhigjaaW.PrintMore Go.Proofs.YtbficlkjlhigjaaW.PrintLast
set_option linter.unusedVariables false
set_option linter.unusedSimpArgs false
attribute [local go_sem ↓] Go.wp_at_zero Go.wp_at_succ
/-- The things from a place to ahead of another one. -/
def cutL {α : Type} (l : List α) (a b : Nat) : List α := (l.take b).drop a
theorem cutL_len {α : Type} (l : List α) (a b : Nat) (h : b ≤ l.length) : (cutL l a b).length = b - a := by simp [cutL]; omega
theorem cutL_same {α : Type} (l : List α) (a : Nat) : cutL l a a = [] := by simp [cutL]
theorem cutL_next {α : Type} (l : List α) (a k : Nat) (d : α) (ha : a ≤ k) (hk : k < l.length) : cutL l a (k + 1) = cutL l a k ++ [l.getD k d] := by
  unfold cutL
  rw [List.take_succ_eq_append_getElem hk, List.drop_append_of_le_length (by simp; omega), List.getD_eq_getElem?_getD, List.getElem?_eq_getElem hk]
  rfl
def RelC (l : List ByteArray) (w : World) (a b : Nat) (v7 v8 : Value) (wr : World) : Prop :=
  ∃ k : Nat, a ≤ k ∧ k ≤ b ∧ v8 = .int .i64 k ∧ wr.ownsRow w.heap.size 9 1 v7 (k - a) (encs Value.string (cutL l a k)) ∧ Below w.heap.size w wr
set_option maxHeartbeats 4000000 in
set_option maxRecDepth 100000 in
theorem cut_calls (g base : Nat) (row : Option Nat) (l : List ByteArray) (i j : Int) (w : World) (h : Dq Value.string 51 9 w base g row l) (hi : Aside0 (-9223372036854775808 ≤ i ∧ i ≤ 9223372036854775807)) (hj : Aside0 (-9223372036854775808 ≤ j ∧ j ≤ 9223372036854775807)) :
    Calls Try.prog 30 #[.pointer (some ⟨g, 0, none⟩), .int .i64 i, .int .i64 j] w fun e w' => ∃ v, e = .returned v ∧ w'.ownsRow w.heap.size 9 1 v (cutL l (spanN l.length i j).1 (spanN l.length i j).2).length (encs Value.string (cutL l (spanN l.length i j).1 (spanN l.length i j).2)) ∧ Below w.heap.size w w' := by
  obtain ⟨v, R, f, rfl, h⟩ := h
  obtain ⟨A, cp, rfl⟩ := own_slice h.own
  have hle := h.rep.le
  have hcap := h.cap
  have hsp := spanN_le l.length i j
  have HSP := Aside0.mk (span_calls g l.length i j w h.cells.2.2.1 (by omega) hi hj)
  obtain ⟨a, ha⟩ : ∃ a, a = (spanN l.length i j).1 := ⟨_, rfl⟩
  obtain ⟨b, hb⟩ : ∃ b, b = (spanN l.length i j).2 := ⟨_, rfl⟩
  rw [← ha, ← hb] at hsp HSP ⊢
  have HL := Aside0.mk hsp
  have H := Aside0.mk h
  have HC := Aside0.mk hcap
  have HE := Aside0.mk hle
  obtain ⟨i0, hi0, hz0, hz1, hz2⟩ := info_parts (show (Try.prog.info? 9).map (fun i => (i.zero, i.size, i.bytes)) = some (some (.string ByteArray.empty), 1, 16) by kernel_rfl)
  have HI := Aside0.mk hi0
  have hab : b < 9223372036854775807 := by omega
  clear h ha hb hsp hcap hle hi hj hi0
  go_enter Try.func30, Try.ntmps30
  go_wp2_with (first | (go_at_call 38; (with_reducible refine HSP.out.mono ?_); rintro e w' ⟨rfl, rfl⟩))
  go_loopw [7, 8] (fun v7 v8 wr => RelC l w a b v7 v8 wr) (fun _ v8 _ => b - (intOf v8).toNat)
  case atStart => exact ⟨a, Nat.le_refl _, HL.out.1, rfl, by rw [cutL_same, Nat.sub_self]; exact own_nil _ _ _ _, Below.refl _ _⟩
  case round =>
    obtain ⟨k, hak, hkb, rfl, hown, hB⟩ := hrel
    by_cases hlt : k < b
    · have c1 : decide ((k : Int) < (b : Int)) = true := decide_eq_true (by omega)
      have c2 : decide (k < b) = true := decide_eq_true hlt
      have hd := H.out.below hB
      have hkl : k < l.length := by have := HL.out.2; omega
      have hm0 : 0 < R.length := by have := HE.out; omega
      obtain ⟨r, cp', he, _⟩ := hd.own.form hm0
      cases he
      have hpt := hd.pt (by decide)
      obtain ⟨k0, k1, k2, z0, z1, z2⟩ := hpt.cells
      obtain ⟨s, hs⟩ : ∃ s, s = slotN R.length f k := ⟨_, rfl⟩
      have hslt : s < R.length := by rw [hs]; exact slotN_lt (by have := HE.out; omega) hd.rep.fr
      have hat := hd.rep.at_ k hkl
      rw [← hs] at hat
      obtain ⟨k3, z3⟩ := hpt.at_ ByteArray.empty s hslt
      have hv : R.getD s ByteArray.empty = l.getD k ByteArray.empty := by
        rw [List.getD_eq_getElem?_getD, hat, List.getD_eq_getElem?_getD, List.getElem?_eq_getElem hkl]
      rw [hv] at k3
      have hnx := cutL_next l a k ByteArray.empty hak hkl
      obtain ⟨V, hV⟩ : ∃ V, V = l.getD k ByteArray.empty := ⟨_, rfl⟩
      rw [← hV] at k3 hnx
      have hfb := hd.rep.fr
      have HS := Aside0.mk (fun (W : World) h0 h1 => slot_calls g f k R.length cp (some ⟨r, 0, none⟩) W h0 h1 (by have := HC.out; omega) HC.out (by have := HC.out; have := HE.out; omega))
      rw [← hs] at HS
      obtain ⟨m, hmm⟩ : ∃ m, m = R.length := ⟨_, rfl⟩
      rw [← hmm] at k0 HS hslt
      have i1 : (0 : Int) ≤ (s : Int) := Int.natCast_nonneg _
      have i2 : (s : Int) < (m : Int) := by omega
      have i3 := eq_true i1
      have i4 := eq_true i2
      have hk9 : k ≤ 2097152 := by have := HC.out; have := HE.out; omega
      have hgs := hd.lt
      have hrs := own_lt hd.own r rfl
      have hb1 : (k - a + 1) * 16 ≤ 140737488355328 := by have := HC.out; have := HE.out; omega
      have hbs : w.heap.size ≤ wr.heap.size := hB.size
      have n7 : some g ≠ u7.ownBlock := fun e => by have := own_base hown g e.symm; have := H.out.lt; omega
      have n8 : some r ≠ u7.ownBlock := fun e => by have := own_base hown r e.symm; have := own_lt H.out.own r rfl; omega
      have HB := Aside0.mk hB
      have HO := Aside0.mk hown
      have HN := Aside0.mk hnx
      have HK := Aside0.mk (show k + 1 - a = k - a + 1 by omega)
      have Hak := Aside0.mk hak
      have Hlt := Aside0.mk hlt
      clear hd hpt hat hv hV hs hmm hm0 hfb hB hown hnx hak hlt hkb hkl z0 z1 z2 z3 hslt
      go_wp2
      go_region_held3 (fun w' => w'.cell? ⟨g, 0, none⟩ = some (.slice (some ⟨r, 0, none⟩) m cp) ∧ w'.cell? ⟨g, 1, none⟩ = some (.int .i64 (f : Int)) ∧ w'.cell? ⟨r, s, none⟩ = some (Value.string V))
        (first | go_keep | (go_split_ands; refine ⟨?_, ?_, ?_⟩ <;> (rw [hgrow.cell_far _ (by simp; omega) (by first | exact n7 | exact n8)]; assumption)))
        (first | (go_at_call 36; refine (HS.out _ (by assumption) (by assumption)).mono ?_; rintro e w' ⟨rfl, rfl⟩) | ((refine step_append_lies _ (by rfl) _ _ _ (by rfl) w.heap.size 9 i0 _ 1 16 Try.underlying22 HI.out hz0 hz1 hz2 rfl (by omega) u7 (k - a) _ (by rfl) ((HO.out.alloc _).drew) ⟨wr.heap.size, 0, none⟩ 1 1 [Value.string V] (by rfl) (by rfl) (World.news_of_block (cs := #[Value.string V]) (t := 9) (fr := (0, 0)) (heap_alloc_new wr _)) (by simp [Value.oneCell']) (by omega) (by simp only [maxLen]; omega) hb1 (by simp; omega) (wr.heap.size + 1) (by simp) ?_; intro gg cap w1 hown1 hgrow hat hlt)))
      have hO : w1.ownsRow w.heap.size 9 1 (.slice (some ⟨gg, 0, none⟩) (k - a + 1) cap) (k + 1 - a) (encs Value.string (cutL l a (k + 1))) := by
        rw [HK.out, HN.out, encs_append]
        exact hown1
      have hB1 : Below w.heap.size w w1 := pw_below_grown (below_drew (HB.out.alloc hbs _)) _ (by simp; omega) hgrow (own_base HO.out)
      have HO1 := Aside0.mk hO
      have HB1 := Aside0.mk hB1
      clear hO hB1 hown1 hgrow hat hlt
      go_wp2
      go_roundw
      case rel => exact ⟨k + 1, by have := Hak.out; omega, by have := Hlt.out; omega, by simp, HO1.out, HB1.out⟩
      case measure => have := Hlt.out; simp [intOf]; omega
    · have c1 : decide ((k : Int) < (b : Int)) = false := decide_eq_false (by omega)
      have c2 : decide (k < b) = false := decide_eq_false hlt
      have hk : k = b := by omega
      subst hk
      have HO := Aside0.mk hown
      have HB := Aside0.mk hB
      clear hown hB hlt
      go_wp2
      go_ret
      exact ⟨_, rfl, by rw [cutL_len _ _ _ HL.out.2]; exact HO.out, HB.out⟩
theorem cutL_all {α : Type} (l : List α) : cutL l (spanN l.length 0 (-1)).1 (spanN l.length 0 (-1)).2 = l := by
  have e : spanN l.length 0 (-1) = (0, l.length) := by
    have e1 : spanF l.length 0 = 0 := by simp [spanF]
    have e2 : spanT l.length (-1) = (l.length : Int) - 1 := by
      unfold spanT
      rw [if_pos (show (-1 : Int) < 0 by decide)]
      split <;> omega
    unfold spanN
    rw [e1, e2]
    split
    · have : l.length = 0 := by omega
      rw [this]
    · simp
  rw [e]
  simp [cutL]
set_option maxHeartbeats 1000000 in
theorem all_calls (g base : Nat) (row : Option Nat) (l : List ByteArray) (w : World) (h : Dq Value.string 51 9 w base g row l) :
    Calls Try.prog 14 #[.pointer (some ⟨g, 0, none⟩)] w fun e w' => ∃ v, e = .returned v ∧ w'.ownsRow w.heap.size 9 1 v l.length (encs Value.string l) ∧ Below w.heap.size w w' := by
  have hc := cut_calls g base row l 0 (-1) w h ⟨by omega, by omega⟩ ⟨by omega, by omega⟩
  rw [cutL_all] at hc
  have HC := Aside0.mk hc
  clear hc h
  go_enter Try.func14, Try.ntmps14
  go_wp2_with (first | (go_at_call 30; (with_reducible refine HC.out.mono ?_); rintro e w' ⟨v, rfl, hO, hB⟩; have HO := Aside0.mk hO; have HB := Aside0.mk hB; clear hO hB))
  go_ret
  exact ⟨_, rfl, HO.out, HB.out⟩
set_option maxHeartbeats 1000000 in
theorem cut_nil (i j : Int) (w : World) (hi : Aside0 (-9223372036854775808 ≤ i ∧ i ≤ 9223372036854775807)) (hj : Aside0 (-9223372036854775808 ≤ j ∧ j ≤ 9223372036854775807)) :
    Calls Try.prog 30 #[.pointer none, .int .i64 i, .int .i64 j] w fun e w' => e = .returned (.slice none 0 0) ∧ w = w' := by
  have HSP := Aside0.mk (span_nil i j w hi hj)
  clear hi hj
  go_enter Try.func30, Try.ntmps30
  go_wp2_with (first | (go_at_call 38; (with_reducible refine HSP.out.mono ?_); rintro e w' ⟨rfl, rfl⟩))
  go_loop [7, 8] (fun v7 v8 => v7 = .slice none 0 0 ∧ v8 = .int .i64 0) (fun _ v8 => 0)
  case atStart => exact ⟨rfl, rfl⟩
  case round =>
    obtain ⟨rfl, rfl⟩ := hrel
    go_wp2
    go_ret
    exact ⟨rfl, rfl⟩
theorem all_nil (w : World) : Calls Try.prog 14 #[.pointer none] w fun e w' => e = .returned (.slice none 0 0) ∧ w = w' := by
  have HC := Aside0.mk (cut_nil 0 (-1) w ⟨by omega, by omega⟩ ⟨by omega, by omega⟩)
  go_enter Try.func14, Try.ntmps14
  go_wp2_with (first | (go_at_call 30; (with_reducible refine HC.out.mono ?_); rintro e w' ⟨rfl, rfl⟩))
  go_ret
  exact ⟨rfl, rfl⟩
end Go.Proofs.Ytbficlkjlhigjaa.Dq
