/- The deque's Pop, place, span. -/
import Derived.Test.YtbficlkjlhigjaaDqPush
namespace Go.Proofs.Ytbficlkjlhigjaa.Dq
open Go.RowKit Go.Proofs.YtbficlkjlhigjaaW.PrintWords Go.Proofs.YtbficlkjlhigjaaW.PrintMore Go.Proofs.YtbficlkjlhigjaaW.PrintLast
set_option linter.unusedVariables false
set_option linter.unusedSimpArgs false
attribute [local go_sem] max2_int min2_int max_two min_two
attribute [local go_sem ↓] Go.wp_at_zero Go.wp_at_succ
theorem pop_nil (front : Bool) (w : World) : Calls Try.prog 31 #[.pointer none, .bool front] w fun e w' => e = .returned (.tuple #[Value.string ByteArray.empty, .bool false]) ∧ w = w' := by
  have HL := Aside0.mk (len_nil w)
  go_enter Try.func31, Try.ntmps31
  go_wp2_with (first | (go_at_call 17; (with_reducible refine HL.out.mono ?_); rintro e w' ⟨rfl, rfl⟩))
  go_ret2
  exact ⟨rfl, rfl⟩
theorem pop_none (g : Nat) (front : Bool) (w : World) (h2 : w.cell? ⟨g, 2, none⟩ = some (.int .i64 ((0 : Nat) : Int))) : Calls Try.prog 31 #[.pointer (some ⟨g, 0, none⟩), .bool front] w fun e w' => e = .returned (.tuple #[Value.string ByteArray.empty, .bool false]) ∧ w = w' := by
  have HL := Aside0.mk (len_calls g 0 w h2)
  go_enter Try.func31, Try.ntmps31
  go_wp2_with (first | (go_at_call 17; (with_reducible refine HL.out.mono ?_); rintro e w' ⟨rfl, rfl⟩))
  go_ret2
  exact ⟨rfl, rfl⟩
set_option maxHeartbeats 4000000 in
set_option maxRecDepth 100000 in
theorem pop_back (g r cp base f : Nat) (R l : List ByteArray) (w : World) (h : DqAt Value.string 51 9 w base g (.slice (some ⟨r, 0, none⟩) R.length cp) R f l) (h0 : 0 < l.length) :
    Calls Try.prog 31 #[.pointer (some ⟨g, 0, none⟩), .bool false] w fun e w' => e = .returned (.tuple #[Value.string (l.getD (l.length - 1) ByteArray.empty), .bool true]) ∧ Dq Value.string 51 9 w' base g (some r) l.dropLast ∧ Upd w w' base g (some r) (some r) := by
  have hpt := h.pt (by decide)
  have hle := h.rep.le
  have hcap := h.cap
  obtain ⟨q, hq⟩ : ∃ q, l.length = q + 1 := ⟨l.length - 1, by omega⟩
  obtain ⟨m, hm⟩ : ∃ m, m = R.length := ⟨_, rfl⟩
  obtain ⟨k0, k1, k2, z0, z1, z2⟩ := hpt.cells
  rw [hq] at k2
  have HL := Aside0.mk (len_calls g (q + 1) w k2)
  replace k2 : w.cell? ⟨g, 2, none⟩ = some (.int .i64 ((q : Int) + 1)) := k2
  have hfr := h.rep.fr
  have hat := h.rep.at_ q (by omega)
  obtain ⟨s, hs⟩ : ∃ s, s = slotN m f q := ⟨_, rfl⟩
  rw [← hm] at k0 hle hcap hfr hat
  rw [← hs] at hat
  have hslt : s < m := by rw [hs]; exact slotN_lt (by omega) hfr
  have HS := Aside0.mk (slot_calls g f q m cp (some ⟨r, 0, none⟩) w k0 k1 (by omega) hcap (by omega))
  rw [← hs] at HS
  obtain ⟨k3, z3⟩ := hpt.at_ ByteArray.empty s (by rw [← hm]; exact hslt)
  have hv : R.getD s ByteArray.empty = l.getD (l.length - 1) ByteArray.empty := by
    have e : l.length - 1 = q := by omega
    rw [List.getD_eq_getElem?_getD, hat, e, List.getD_eq_getElem?_getD, List.getElem?_eq_getElem (by omega)]
  rw [hv] at k3
  obtain ⟨V, hV⟩ : ∃ V, V = l.getD (l.length - 1) ByteArray.empty := ⟨_, rfl⟩
  rw [← hV] at k3 ⊢
  have n1 : ¬ g = r := hpt.ne
  have n2 : ¬ r = g := fun e => hpt.ne e.symm
  have i1 : (0 : Int) ≤ (s : Int) := Int.natCast_nonneg _
  have i2 : (s : Int) < (m : Int) := by omega
  have i3 := eq_true i1
  have i4 := eq_true i2
  have c1 : ((q : Int) + 1 == 0) = false := beq_eq_false_iff_ne.mpr (by omega)
  have hq1 : (q : Int) ≤ 2097152 := by omega
  have H := Aside0.mk h
  have HP := Aside0.mk hpt
  have Hs := Aside0.mk hs
  have Hm := Aside0.mk hm
  have Hq := Aside0.mk hq
  clear h hpt hle hcap hq hm hfr hat hs hslt hv hV h0
  go_enter Try.func31, Try.ntmps31
  go_wp2_with (first | (go_at_call 17; (with_reducible refine HL.out.mono ?_); rintro e w' ⟨rfl, rfl⟩) | (go_at_call 36; (with_reducible refine HS.out.mono ?_); rintro e w' ⟨rfl, rfl⟩))
  go_ret2
  have hpt2 := (HP.out.setr s ByteArray.empty).setn (q : Int)
  refine ⟨rfl, Pt.dq (cp := cp) (f := f) (R := R.set s ByteArray.empty) ?_ ?_ (by rw [List.length_set]; exact H.out.cap), ?_⟩
  · rw [List.length_dropLast, Hq.out]
    exact hpt2
  · have := H.out.rep.popBack (by rw [Hq.out]; omega) ByteArray.empty
    rw [Hq.out, ← Hm.out, Nat.add_sub_cancel, ← Hs.out] at this
    exact this
  · exact ((Upd.refl _ _ _ _).rowcell HP.out.hr s _).cell HP.out.hg 2 _
set_option maxHeartbeats 4000000 in
set_option maxRecDepth 100000 in
theorem pop_front (g r cp base f : Nat) (R l : List ByteArray) (w : World) (h : DqAt Value.string 51 9 w base g (.slice (some ⟨r, 0, none⟩) R.length cp) R f l) (h0 : 0 < l.length) :
    Calls Try.prog 31 #[.pointer (some ⟨g, 0, none⟩), .bool true] w fun e w' => e = .returned (.tuple #[Value.string (l.getD 0 ByteArray.empty), .bool true]) ∧ Dq Value.string 51 9 w' base g (some r) l.tail ∧ Upd w w' base g (some r) (some r) := by
  have hpt := h.pt (by decide)
  have hle := h.rep.le
  have hcap := h.cap
  obtain ⟨q, hq⟩ : ∃ q, l.length = q + 1 := ⟨l.length - 1, by omega⟩
  obtain ⟨m, hm⟩ : ∃ m, m = R.length := ⟨_, rfl⟩
  obtain ⟨k0, k1, k2, z0, z1, z2⟩ := hpt.cells
  rw [hq] at k2
  have HL := Aside0.mk (len_calls g (q + 1) w k2)
  replace k2 : w.cell? ⟨g, 2, none⟩ = some (.int .i64 ((q : Int) + 1)) := k2
  have hf := h.rep.pos h0
  have hat := h.rep.at_ 0 (by omega)
  rw [slotN_zero hf] at hat
  obtain ⟨s, hs⟩ : ∃ s, s = slotN m f q := ⟨_, rfl⟩
  obtain ⟨t, ht⟩ : ∃ t, t = slotN m f 1 := ⟨_, rfl⟩
  rw [← hm] at k0 hle hcap hf
  have HS := Aside0.mk (slot_calls g f q m cp (some ⟨r, 0, none⟩) w k0 k1 (by omega) hcap (by omega))
  have HS1 : Aside0 (Calls Try.prog 36 #[.pointer (some ⟨g, 0, none⟩), .int .i64 1] w fun e w' => e = .returned (.int .i64 (t : Int)) ∧ w = w') := ⟨by
    rw [ht]
    exact slot_calls g f 1 m cp (some ⟨r, 0, none⟩) w k0 k1 (by omega) hcap (by omega)⟩
  rw [← hs] at HS
  obtain ⟨k3, z3⟩ := hpt.at_ ByteArray.empty f (by rw [← hm]; exact hf)
  have hv : R.getD f ByteArray.empty = l.getD 0 ByteArray.empty := by
    rw [List.getD_eq_getElem?_getD, hat, List.getD_eq_getElem?_getD, List.getElem?_eq_getElem (by omega)]
  rw [hv] at k3
  obtain ⟨V, hV⟩ : ∃ V, V = l.getD 0 ByteArray.empty := ⟨_, rfl⟩
  rw [← hV] at k3 ⊢
  have n1 : ¬ g = r := hpt.ne
  have n2 : ¬ r = g := fun e => hpt.ne e.symm
  have i1 : (0 : Int) ≤ (f : Int) := Int.natCast_nonneg _
  have i2 : (f : Int) < (m : Int) := by omega
  have i3 := eq_true i1
  have i4 := eq_true i2
  have c1 : ((q : Int) + 1 == 0) = false := beq_eq_false_iff_ne.mpr (by omega)
  have hq1 : (q : Int) ≤ 2097152 := by omega
  have H := Aside0.mk h
  have HP := Aside0.mk hpt
  have Ht := Aside0.mk ht
  have Hm := Aside0.mk hm
  have Hq := Aside0.mk hq
  clear h hpt hle hcap hq hm hf hat hs ht hv hV h0
  go_enter Try.func31, Try.ntmps31
  go_wp2_with (first | (go_at_call 17; (with_reducible refine HL.out.mono ?_); rintro e w' ⟨rfl, rfl⟩) | (go_at_call 36; first | ((with_reducible refine HS.out.mono ?_); rintro e w' ⟨rfl, rfl⟩) | ((with_reducible refine HS1.out.mono ?_); rintro e w' ⟨rfl, rfl⟩)))
  go_ret2
  have hpt2 := ((HP.out.setf (t : Int)).setr f ByteArray.empty).setn (q : Int)
  refine ⟨rfl, Pt.dq (cp := cp) (f := t) (R := R.set f ByteArray.empty) ?_ ?_ (by rw [List.length_set]; exact H.out.cap), ?_⟩
  · rw [List.length_tail, Hq.out]
    exact hpt2
  · have := H.out.rep.popFront (by rw [Hq.out]; omega) ByteArray.empty
    rw [← Hm.out, ← Ht.out] at this
    exact this
  · exact (((Upd.refl _ _ _ _).cell HP.out.hg 1 _).rowcell HP.out.hr f _).cell HP.out.hg 2 _
/-- Pop, at either end. -/
theorem pop_calls (g base : Nat) (row : Option Nat) (l : List ByteArray) (front : Bool) (w : World) (h : Dq Value.string 51 9 w base g row l) :
    Calls Try.prog 31 #[.pointer (some ⟨g, 0, none⟩), .bool front] w fun e w' => e = .returned (.tuple #[Value.string (if front then l.getD 0 ByteArray.empty else l.getD (l.length - 1) ByteArray.empty), .bool (!l.isEmpty)]) ∧ Dq Value.string 51 9 w' base g row (if front then l.tail else l.dropLast) ∧ Upd w w' base g row row := by
  have H := h
  obtain ⟨v, R, f, rfl, h⟩ := h
  cases l with
  | nil =>
    have k2 := h.cells.2.2.1
    refine (pop_none g front w k2).mono fun e w' he => ?_
    obtain ⟨rfl, rfl⟩ := he
    cases front <;> exact ⟨rfl, H, Upd.refl _ _ _ _⟩
  | cons x l' =>
    obtain ⟨r, cp, rfl, _⟩ := h.own.form (by have := h.rep.le; simp at this; omega)
    cases front with
    | true =>
      refine (pop_front g r cp base f R (x :: l') w h (by simp)).mono fun e w' he => ?_
      obtain ⟨rfl, h1, h2⟩ := he
      exact ⟨rfl, h1, h2⟩
    | false =>
      refine (pop_back g r cp base f R (x :: l') w h (by simp)).mono fun e w' he => ?_
      obtain ⟨rfl, h1, h2⟩ := he
      exact ⟨rfl, h1, h2⟩
/-- A place, told from the end if it is below 0. -/
def placeI (n : Nat) (i : Int) : Int := if i < 0 then i + n else i
def okI (n : Nat) (i : Int) : Bool := decide (0 ≤ placeI n i) && decide (placeI n i < n)
set_option maxHeartbeats 1000000 in
theorem place_calls (g n : Nat) (i : Int) (w : World) (h2 : w.cell? ⟨g, 2, none⟩ = some (.int .i64 n)) (hn : n ≤ 2097152) (hi : Aside0 (-9223372036854775808 ≤ i ∧ i ≤ 9223372036854775807)) :
    Calls Try.prog 37 #[.pointer (some ⟨g, 0, none⟩), .int .i64 i] w fun e w' => e = .returned (.tuple #[.int .i64 (placeI n i), .bool (okI n i)]) ∧ w = w' := by
  have HL := Aside0.mk (len_calls g n w h2)
  by_cases c : i < 0
  · have hp : placeI n i = i + n := by unfold placeI; rw [if_pos c]
    have hw : IntKind.i64.wrap (i + (n : Int)) = i + n := by have := hi.out; rw [IntKind.wrap_i64]; omega
    have c1 : decide (i < 0) = true := decide_eq_true c
    have hk : okI n i = (decide (0 ≤ i + (n : Int)) && decide (i + (n : Int) < n)) := by unfold okI; rw [hp]
    rw [hp, hk]
    by_cases p : 0 ≤ i + (n : Int)
    · have c2 : decide (0 ≤ i + (n : Int)) = true := decide_eq_true p
      have c3 : decide (i + (n : Int) < (n : Int)) = true := decide_eq_true (by omega)
      rw [c2, c3]
      clear c hp hk hn h2 p
      go_enter Try.func37, Try.ntmps37
      go_wp2_with (first | (go_at_call 17; (with_reducible refine HL.out.mono ?_); rintro e w' ⟨rfl, rfl⟩))
      go_ret2
      exact ⟨by first | rfl | simp [c2, c3], rfl⟩
    · have c2 : decide (0 ≤ i + (n : Int)) = false := decide_eq_false p
      rw [c2]
      clear c hp hk hn h2 p
      go_enter Try.func37, Try.ntmps37
      go_wp2_with (first | (go_at_call 17; (with_reducible refine HL.out.mono ?_); rintro e w' ⟨rfl, rfl⟩))
      go_ret2
      exact ⟨by first | rfl | simp [c2], rfl⟩
  · have hp : placeI n i = i := by unfold placeI; rw [if_neg c]
    have hk : okI n i = decide (i < n) := by unfold okI; rw [hp]; simp; omega
    rw [hp, hk]
    have c1 : decide (i < 0) = false := decide_eq_false c
    have c2 : decide (0 ≤ i) = true := decide_eq_true (by omega)
    by_cases q : i < n
    · have c3 : decide (i < (n : Int)) = true := decide_eq_true q
      rw [c3]
      clear c hp hk q hn h2
      go_enter Try.func37, Try.ntmps37
      go_wp2_with (first | (go_at_call 17; (with_reducible refine HL.out.mono ?_); rintro e w' ⟨rfl, rfl⟩))
      go_ret2
      exact ⟨by first | rfl | simp [c3], rfl⟩
    · have c3 : decide (i < (n : Int)) = false := decide_eq_false q
      rw [c3]
      clear c hp hk q hn h2
      go_enter Try.func37, Try.ntmps37
      go_wp2_with (first | (go_at_call 17; (with_reducible refine HL.out.mono ?_); rintro e w' ⟨rfl, rfl⟩))
      go_ret2
      exact ⟨by first | rfl | simp [c3], rfl⟩
theorem place_nil (i : Int) (w : World) (hi : Aside0 (-9223372036854775808 ≤ i ∧ i ≤ 9223372036854775807)) : Calls Try.prog 37 #[.pointer none, .int .i64 i] w fun e w' => (∃ j, e = .returned (.tuple #[.int .i64 j, .bool false])) ∧ w = w' := by
  have HL := Aside0.mk (len_nil w)
  have hw : IntKind.i64.wrap i = i := by have := hi.out; rw [IntKind.wrap_i64]; omega
  have hw2 : wrap64 i = i := by have := hi.out; unfold wrap64; omega
  by_cases c : i < 0
  · have c1 : decide (i < 0) = true := decide_eq_true c
    have c2 : decide (0 ≤ i) = false := decide_eq_false (by omega)
    clear c
    go_enter Try.func37, Try.ntmps37
    go_wp2_with (first | (go_at_call 17; (with_reducible refine HL.out.mono ?_); rintro e w' ⟨rfl, rfl⟩))
    go_ret2
    exact ⟨⟨_, rfl⟩, rfl⟩
  · have c1 : decide (i < 0) = false := decide_eq_false c
    have c2 : decide (0 ≤ i) = true := decide_eq_true (by omega)
    clear c
    go_enter Try.func37, Try.ntmps37
    go_wp2_with (first | (go_at_call 17; (with_reducible refine HL.out.mono ?_); rintro e w' ⟨rfl, rfl⟩))
    go_ret2
    exact ⟨⟨_, rfl⟩, rfl⟩
end Go.Proofs.Ytbficlkjlhigjaa.Dq
