/- The deque's At, Set, Insert, Remove, Keep, New. -/
import Derived.Test.YtbficlkjlhigjaaDqCut
import Derived.Test.YtbficlkjlhigjaaDqMove
namespace Go.Proofs.Ytbficlkjlhigjaa.Dq
open Go.RowKit Go.Proofs.YtbficlkjlhigjaaW.PrintWords Go.Proofs.YtbficlkjlhigjaaW.PrintMore Go.Proofs.YtbficlkjlhigjaaW.PrintLast
set_option linter.unusedVariables false
set_option linter.unusedSimpArgs false
attribute [local go_sem ↓] Go.wp_at_zero Go.wp_at_succ
/-- What a place's slot holds, at a world in which the room R stands. -/
theorem Pt.slot_at {w : World} {base g r cp f : Nat} {n : Int} {R l : List ByteArray} (h : Pt Value.string 51 9 w base g r cp f n R) (hrep : Rep R f l) (k : Nat) (hk : k < l.length) :
    slotN R.length f k < R.length ∧ w.cell? ⟨r, slotN R.length f k, none⟩ = some (Value.string (l.getD k ByteArray.empty)) ∧ w.frozen? ⟨r, slotN R.length f k, none⟩ = false := by
  have hlt : slotN R.length f k < R.length := slotN_lt (by have := hrep.le; omega) hrep.fr
  obtain ⟨k3, z3⟩ := h.at_ ByteArray.empty _ hlt
  have hv : R.getD (slotN R.length f k) ByteArray.empty = l.getD k ByteArray.empty := by
    rw [List.getD_eq_getElem?_getD, hrep.at_ k hk, List.getD_eq_getElem?_getD, List.getElem?_eq_getElem hk]
  rw [hv] at k3
  exact ⟨hlt, k3, z3⟩
theorem Dq.open_ {w : World} {base g : Nat} {row : Option Nat} {l : List ByteArray} (h : Dq Value.string 51 9 w base g row l) (h0 : 0 < l.length) :
    ∃ r cp f R, row = some r ∧ Pt Value.string 51 9 w base g r cp (f : Nat) (l.length : Nat) R ∧ Rep R f l ∧ R.length ≤ 2097152 := by
  obtain ⟨v, R, f, rfl, h⟩ := h
  obtain ⟨r, cp, rfl, _⟩ := h.own.form (by have := h.rep.le; omega)
  exact ⟨r, cp, f, R, rfl, h.pt (by decide), h.rep, h.cap⟩
theorem Dq.len {w : World} {base g : Nat} {row : Option Nat} {l : List ByteArray} (h : Dq Value.string 51 9 w base g row l) : w.cell? ⟨g, 2, none⟩ = some (.int .i64 (l.length : Nat)) ∧ l.length ≤ 2097152 := by
  obtain ⟨v, R, f, rfl, h⟩ := h
  exact ⟨h.cells.2.2.1, h.bound.2⟩
set_option maxHeartbeats 4000000 in
set_option maxRecDepth 100000 in
theorem at_calls (g base : Nat) (row : Option Nat) (l : List ByteArray) (i : Int) (w : World) (h : Dq Value.string 51 9 w base g row l) (hi : Aside0 (-9223372036854775808 ≤ i ∧ i ≤ 9223372036854775807)) :
    Calls Try.prog 27 #[.pointer (some ⟨g, 0, none⟩), .int .i64 i] w fun e w' => e = .returned (.tuple #[Value.string (if okI l.length i then l.getD (placeI l.length i).toNat ByteArray.empty else ByteArray.empty), .bool (okI l.length i)]) ∧ Below w.heap.size w w' := by
  have HP := Aside0.mk (place_calls g l.length i w h.len.1 h.len.2 hi)
  by_cases ok : okI l.length i = true
  · have hok := ok
    unfold okI at ok
    simp only [Bool.and_eq_true, decide_eq_true_eq] at ok
    obtain ⟨k, hk⟩ : ∃ k : Nat, placeI l.length i = k := ⟨(placeI l.length i).toNat, by omega⟩
    rw [hk] at ok
    have hkl : k < l.length := by omega
    have hn := h.len.2
    obtain ⟨r, cp, f, R, rfl, hpt, hrep, hcap⟩ := h.open_ (by omega)
    obtain ⟨k0, k1, k2, z0, z1, z2⟩ := hpt.cells
    obtain ⟨hlt, k3, z3⟩ := hpt.slot_at hrep k hkl
    obtain ⟨s, hs⟩ : ∃ s, s = slotN R.length f k := ⟨_, rfl⟩
    have hfr := hrep.fr
    have HS := Aside0.mk (fun (W : World) h0 h1 => slot_calls g f k R.length cp (some ⟨r, 0, none⟩) W h0 h1 (by omega) hcap (by omega))
    rw [← hs] at HS hlt k3 z3
    obtain ⟨m, hmm⟩ : ∃ m, m = R.length := ⟨_, rfl⟩
    rw [← hmm] at k0 HS hlt
    have i1 : (0 : Int) ≤ (s : Int) := Int.natCast_nonneg _
    have i2 : (s : Int) < (m : Int) := by omega
    have i3 := eq_true i1
    have i4 := eq_true i2
    rw [hok, hk] at HP
    rw [hok, if_pos rfl, hk, Int.toNat_natCast]
    obtain ⟨V, hV⟩ : ∃ V, V = l.getD k ByteArray.empty := ⟨_, rfl⟩
    rw [← hV] at k3 ⊢
    clear ok hok hk hkl h hn hpt hrep hcap hs hfr hmm hlt hV hi
    go_enter Try.func27, Try.ntmps27
    go_wp2_with (first | (go_at_call 37; (with_reducible refine HP.out.mono ?_); rintro e w' ⟨rfl, rfl⟩))
    go_region_held3 (fun w' => w'.cell? ⟨g, 0, none⟩ = some (.slice (some ⟨r, 0, none⟩) m cp) ∧ w'.cell? ⟨g, 1, none⟩ = some (.int .i64 (f : Int)) ∧ w'.cell? ⟨r, s, none⟩ = some (Value.string V)) (go_keep) ((go_at_call 36; refine (HS.out _ (by assumption) (by assumption)).mono ?_; rintro e w' ⟨rfl, rfl⟩))
    go_wp2
    go_ret2
    exact ⟨rfl, by repeat (first | exact Below.refl _ _ | apply Below.drew)⟩
  · have hok : okI l.length i = false := by simpa using ok
    rw [hok] at HP
    rw [hok, if_neg (by decide)]
    clear ok hok h hi
    obtain ⟨j, hj⟩ : ∃ j, j = placeI l.length i := ⟨_, rfl⟩
    rw [← hj] at HP
    clear hj
    go_enter Try.func27, Try.ntmps27
    go_wp2_with (first | (go_at_call 37; (with_reducible refine HP.out.mono ?_); rintro e w' ⟨rfl, rfl⟩))
    go_ret2
    exact ⟨rfl, below_alloc (Below.refl _ _) _⟩
theorem at_nil (i : Int) (w : World) (hi : Aside0 (-9223372036854775808 ≤ i ∧ i ≤ 9223372036854775807)) :
    Calls Try.prog 27 #[.pointer none, .int .i64 i] w fun e w' => e = .returned (.tuple #[Value.string ByteArray.empty, .bool false]) ∧ Below w.heap.size w w' := by
  have HP := Aside0.mk (place_nil i w hi)
  clear hi
  go_enter Try.func27, Try.ntmps27
  go_wp2_with (first | (go_at_call 37; (with_reducible refine HP.out.mono ?_); rintro e w' ⟨⟨j, rfl⟩, rfl⟩))
  go_ret2
  exact ⟨rfl, below_alloc (Below.refl _ _) _⟩
end Go.Proofs.Ytbficlkjlhigjaa.Dq
