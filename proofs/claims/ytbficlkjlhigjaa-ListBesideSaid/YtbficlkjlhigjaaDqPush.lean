/- The deque's Push. -/
import Derived.Test.YtbficlkjlhigjaaDqGrow
namespace Go.Proofs.Ytbficlkjlhigjaa.Dq
open Go.RowKit Go.Proofs.YtbficlkjlhigjaaW.PrintWords Go.Proofs.YtbficlkjlhigjaaW.PrintMore Go.Proofs.YtbficlkjlhigjaaW.PrintLast
set_option linter.unusedVariables false
set_option linter.unusedSimpArgs false
attribute [local go_sem ↓] Go.wp_at_zero Go.wp_at_succ
/-- Room for one more, whether there was or is made. -/
theorem grow_calls (g base : Nat) (row : Option Nat) (l : List ByteArray) (w : World) (h : Dq Value.string 51 9 w base g row l) (hb : l.length < 1048576) :
    Calls Try.prog 35 #[.pointer (some ⟨g, 0, none⟩)] w fun e w' => e = .returned (.tuple #[]) ∧ ∃ r cp f R, l.length < R.length ∧ R.length ≤ 2097152 ∧ Rep R f l ∧ Pt Value.string 51 9 w' base g r cp (f : Nat) (l.length : Nat) R ∧ Upd w w' base g row (some r) := by
  obtain ⟨v, R, f, rfl, h⟩ := h
  obtain ⟨A, cp, rfl⟩ := own_slice h.own
  by_cases c : l.length < R.length
  · refine (grow_room g l.length R.length cp A w h.cells.1 h.cells.2.2.1 c).mono fun e w' he => ?_
    obtain ⟨rfl, k, rfl⟩ := he
    obtain ⟨r, cp', e, hb', _⟩ := h.own.form (by omega)
    obtain ⟨rfl, rfl⟩ : A = some ⟨r, 0, none⟩ ∧ cp = cp' := by
      cases e
      exact ⟨rfl, rfl⟩
    exact ⟨rfl, r, cp, f, R, c, h.cap, h.rep, (h.pt (by decide)).drewN k, Upd.drewN _ _ _ _ _⟩
  · refine (grow_more g f cp base A R l w h (by have := h.rep.le; omega) hb).mono fun e w' he => ?_
    obtain ⟨rfl, r, cp', R', hr, hl, h', hu⟩ := he
    exact ⟨rfl, r, cp', 0, R', hl, h'.cap, h'.rep, h'.pt (by decide), hu⟩
set_option maxHeartbeats 4000000 in
set_option maxRecDepth 100000 in
theorem push_back (g base : Nat) (row : Option Nat) (l : List ByteArray) (v : ByteArray) (w : World) (h : Dq Value.string 51 9 w base g row l) (hb : l.length < 1048576) :
    Calls Try.prog 24 #[.pointer (some ⟨g, 0, none⟩), .bool false, Value.string v] w fun e w' => e = .returned (.bool true) ∧ ∃ row', Dq Value.string 51 9 w' base g row' (l ++ [v]) ∧ Upd w w' base g row row' := by
  have H := Aside0.mk h
  obtain ⟨v0, R, f, rfl, h⟩ := h
  obtain ⟨k0, k1, k2, z0, z1, z2⟩ := h.cells
  obtain ⟨n, hn⟩ : ∃ n, n = l.length := ⟨_, rfl⟩
  rw [← hn] at k2 hb
  have Hn := Aside0.mk hn
  have c1 : decide (1048576 ≤ (n : Int)) = false := decide_eq_false (by omega)
  have c2 : decide (1048576 ≤ n) = false := decide_eq_false (by omega)
  have HG := Aside0.mk (grow_calls g base v0.ownBlock l w H.out (by rw [← hn]; exact hb))
  clear h hn
  go_enter Try.func24, Try.ntmps24
  go_wp2_with (first | (go_at_call 35; (with_reducible refine HG.out.mono ?_); rintro e w1 ⟨rfl, r, cp, f1, R1, hl, hcap, hrep, hpt, hu⟩))
  have hm := hcap
  obtain ⟨m, hmm⟩ : ∃ m, m = R1.length := ⟨_, rfl⟩
  obtain ⟨s, hs⟩ : ∃ s, s = slotN m f1 n := ⟨_, rfl⟩
  have hrep' := hrep
  have hfr := hrep.fr
  rw [← Hn.out] at hl
  rw [← hmm] at hm hfr hl
  have hslt : s < m := by rw [hs]; exact slotN_lt (by omega) hfr
  obtain ⟨k0, k1, k2, z0, z1, z2⟩ := hpt.cells
  obtain ⟨k3, z3⟩ := hpt.at_ ByteArray.empty s (by rw [← hmm]; exact hslt)
  rw [← hmm] at k0
  rw [← Hn.out] at k2
  have HS := Aside0.mk (fun (W : World) h0 h1 => slot_calls g f1 n m cp (some ⟨r, 0, none⟩) W h0 h1 (by omega) hm (by omega))
  rw [← hs] at HS
  have n1 : ¬ g = r := hpt.ne
  have n2 : ¬ r = g := fun e => hpt.ne e.symm
  have i1 : (0 : Int) ≤ (s : Int) := Int.natCast_nonneg _
  have i2 : (s : Int) < (m : Int) := by omega
  have i3 := eq_true i1
  have i4 := eq_true i2
  have Hs := Aside0.mk hs
  have Hm := Aside0.mk hmm
  have HP := Aside0.mk hpt
  have HR := Aside0.mk hrep
  have HU := Aside0.mk hu
  have HC := Aside0.mk hcap
  have HL := Aside0.mk hl
  clear hs hmm hpt hrep hu hcap hfr hslt hm hrep' hl
  go_region_held3 (fun w' => w'.cell? ⟨g, 0, none⟩ = some (.slice (some ⟨r, 0, none⟩) m cp) ∧ w'.cell? ⟨g, 1, none⟩ = some (.int .i64 (f1 : Int)) ∧ w'.cell? ⟨g, 2, none⟩ = some (.int .i64 (n : Int))) (go_keep)
    ((go_at_call 36; refine (HS.out _ (by assumption) (by assumption)).mono ?_; rintro e w' ⟨rfl, rfl⟩))
  go_wp2
  go_ret
  have e : (((l ++ [v]).length : Nat) : Int) = (n : Int) + 1 := by simp [Hn.out]
  refine ⟨rfl, some r, Pt.dq (cp := cp) (f := f1) (R := R1.set s v) ?_ ?_ (by rw [List.length_set]; exact HC.out), ?_⟩
  · rw [e]
    exact ((HP.out.setr s v).setn _).drew
  · rw [Hs.out, Hm.out, Hn.out]
    exact HR.out.back (by rw [← Hm.out, ← Hn.out]; exact HL.out) v
  · exact (((HU.out.rowcell HP.out.hr s _).cell HP.out.hg 2 _)).drew_
theorem front_end (g r cp base f1 n : Nat) (row : Option Nat) (R1 l : List ByteArray) (v : ByteArray) (w w1 W : World) (f' : Nat) (hf' : f' = if f1 = 0 then R1.length - 1 else f1 - 1) (hn : n = l.length) (hl : l.length < R1.length) (hc : R1.length ≤ 2097152) (hrep : Rep R1 f1 l)
    (hp : Pt Value.string 51 9 W base g r cp f' (n : Int) R1) (hu : Upd w W base g row (some r)) :
    ∃ row', Dq Value.string 51 9 ((W.setCell ⟨r, f', none⟩ (Value.string v)).setCell ⟨g, 2, none⟩ (.int .i64 ((n : Int) + 1))).drew base g row' (v :: l) ∧ Upd w ((W.setCell ⟨r, f', none⟩ (Value.string v)).setCell ⟨g, 2, none⟩ (.int .i64 ((n : Int) + 1))).drew base g row row' := by
  have e : (((v :: l).length : Nat) : Int) = (n : Int) + 1 := by simp [hn]
  refine ⟨some r, Pt.dq (cp := cp) (f := f') (R := R1.set f' v) ?_ ?_ (by rw [List.length_set]; exact hc), ?_⟩
  · rw [e]
    exact ((hp.setr f' v).setn _).drew
  · exact hrep.front hl v f' hf'
  · exact ((hu.rowcell hp.hr f' _).cell hp.hg 2 _).drew_
set_option maxHeartbeats 4000000 in
set_option maxRecDepth 100000 in
theorem push_front (g base : Nat) (row : Option Nat) (l : List ByteArray) (v : ByteArray) (w : World) (h : Dq Value.string 51 9 w base g row l) (hb : l.length < 1048576) :
    Calls Try.prog 24 #[.pointer (some ⟨g, 0, none⟩), .bool true, Value.string v] w fun e w' => e = .returned (.bool true) ∧ ∃ row', Dq Value.string 51 9 w' base g row' (v :: l) ∧ Upd w w' base g row row' := by
  have H := Aside0.mk h
  obtain ⟨v0, R, f, rfl, h⟩ := h
  obtain ⟨k0, k1, k2, z0, z1, z2⟩ := h.cells
  obtain ⟨n, hn⟩ : ∃ n, n = l.length := ⟨_, rfl⟩
  rw [← hn] at k2 hb
  have Hn := Aside0.mk hn
  have c1 : decide (1048576 ≤ (n : Int)) = false := decide_eq_false (by omega)
  have c2 : decide (1048576 ≤ n) = false := decide_eq_false (by omega)
  have HG := Aside0.mk (grow_calls g base v0.ownBlock l w H.out (by rw [← hn]; exact hb))
  clear h hn
  go_enter Try.func24, Try.ntmps24
  go_wp2_with fail
  go_at_call 35
  with_reducible refine HG.out.mono ?_
  rintro e w1 ⟨rfl, r, cp, f1, R1, hl, hcap, hrep, hpt, hu⟩
  have HP := Aside0.mk hpt
  have HR := Aside0.mk hrep
  have HU := Aside0.mk hu
  have HC := Aside0.mk hcap
  have HL := Aside0.mk hl
  obtain ⟨m, hmm⟩ : ∃ m, R1.length = m + 1 := ⟨R1.length - 1, by omega⟩
  obtain ⟨k0, k1, k2, z0, z1, z2⟩ := hpt.cells
  rw [hmm] at k0
  rw [← Hn.out] at k2
  have n1 : ¬ g = r := hpt.ne
  have n2 : ¬ r = g := fun e => hpt.ne e.symm
  have Hm := Aside0.mk hmm
  have hm : m < 2097152 := by omega
  have hfr : f1 ≤ m := by have := hrep.fr; omega
  clear hpt hu hcap hrep hl hmm
  rcases Nat.eq_zero_or_pos f1 with hz | hz
  · subst hz
    replace k1 : w1.cell? ⟨g, 1, none⟩ = some (.int .i64 0) := k1
    go_wp2
    obtain ⟨W, hW⟩ : ∃ W, W = (w1.setCell ⟨g, 1, none⟩ (.int .i64 (-1))).setCell ⟨g, 1, none⟩ (.int .i64 (m : Int)) := ⟨_, rfl⟩
    rw [← hW]
    have PW := Aside0.mk (show Pt Value.string 51 9 W base g r cp (m : Int) n R1 by rw [hW, Hn.out]; exact (HP.out.setf (-1)).setf m)
    have UW := Aside0.mk (show Upd w W base g v0.ownBlock (some r) by rw [hW]; exact (HU.out.cell HP.out.hg 1 _).cell HP.out.hg 1 _)
    clear hW
    obtain ⟨k0, k1, k2, z0, z1, z2⟩ := PW.out.cells
    obtain ⟨k3, z3⟩ := PW.out.at_ ByteArray.empty m (by rw [Hm.out]; omega)
    rw [Hm.out] at k0
    have i1 : (0 : Int) ≤ (m : Int) := Int.natCast_nonneg _
    have i2 : (m : Int) < (m : Int) + 1 := by omega
    have i3 := eq_true i1
    have i4 := eq_true i2
    go_region_held3 (fun w' => w'.cell? ⟨g, 0, none⟩ = some (.slice (some ⟨r, 0, none⟩) (m + 1) cp) ∧ w'.cell? ⟨g, 1, none⟩ = some (.int .i64 (m : Int)) ∧ w'.cell? ⟨g, 2, none⟩ = some (.int .i64 (n : Int))) (go_keep) (fail)
    go_wp2
    go_ret
    exact ⟨rfl, front_end g r cp base 0 n v0.ownBlock R1 l v w w1 W m (by rw [if_pos rfl, Hm.out]; omega) Hn.out HL.out HC.out HR.out PW.out UW.out⟩
  · obtain ⟨p, rfl⟩ : ∃ p, f1 = p + 1 := ⟨f1 - 1, by omega⟩
    replace k1 : w1.cell? ⟨g, 1, none⟩ = some (.int .i64 ((p : Int) + 1)) := k1
    have c3 : decide ((p : Int) < 0) = false := decide_eq_false (by omega)
    go_wp2
    obtain ⟨W, hW⟩ : ∃ W, W = w1.setCell ⟨g, 1, none⟩ (.int .i64 (p : Int)) := ⟨_, rfl⟩
    rw [← hW]
    have PW := Aside0.mk (show Pt Value.string 51 9 W base g r cp (p : Int) n R1 by rw [hW, Hn.out]; exact HP.out.setf p)
    have UW := Aside0.mk (show Upd w W base g v0.ownBlock (some r) by rw [hW]; exact HU.out.cell HP.out.hg 1 _)
    clear hW
    obtain ⟨k0, k1, k2, z0, z1, z2⟩ := PW.out.cells
    obtain ⟨k3, z3⟩ := PW.out.at_ ByteArray.empty p (by rw [Hm.out]; omega)
    rw [Hm.out] at k0
    have i1 : (0 : Int) ≤ (p : Int) := Int.natCast_nonneg _
    have i2 : (p : Int) < (m : Int) + 1 := by omega
    have i3 := eq_true i1
    have i4 := eq_true i2
    go_region_held3 (fun w' => w'.cell? ⟨g, 0, none⟩ = some (.slice (some ⟨r, 0, none⟩) (m + 1) cp) ∧ w'.cell? ⟨g, 1, none⟩ = some (.int .i64 (p : Int)) ∧ w'.cell? ⟨g, 2, none⟩ = some (.int .i64 (n : Int))) (go_keep) (fail)
    go_wp2
    go_ret
    exact ⟨rfl, front_end g r cp base (p + 1) n v0.ownBlock R1 l v w w1 W p (by rw [if_neg (by omega)]; omega) Hn.out HL.out HC.out HR.out PW.out UW.out⟩
/-- Push, at either end. -/
theorem push_calls (g base : Nat) (row : Option Nat) (l : List ByteArray) (front : Bool) (v : ByteArray) (w : World) (h : Dq Value.string 51 9 w base g row l) (hb : l.length < 1048576) :
    Calls Try.prog 24 #[.pointer (some ⟨g, 0, none⟩), .bool front, Value.string v] w fun e w' => e = .returned (.bool true) ∧ ∃ row', Dq Value.string 51 9 w' base g row' (if front then v :: l else l ++ [v]) ∧ Upd w w' base g row row' := by
  cases front with
  | true => exact push_front g base row l v w h hb
  | false => exact push_back g base row l v w h hb
theorem push_nil (front : Bool) (v : ByteArray) (w : World) : Calls Try.prog 24 #[.pointer none, .bool front, Value.string v] w fun e w' => e = .returned (.bool false) ∧ w = w' := by
  go_enter Try.func24, Try.ntmps24
  go_wp2
  go_ret
  exact ⟨rfl, rfl⟩
end Go.Proofs.Ytbficlkjlhigjaa.Dq
