/- What the document's answers on lists of numbers come to, as calls: rows that are read. -/
import Derived.Test.YtglkfoldhobflaaDqRd
import Derived.Test.YtglkfoldhobflaaX1
import Derived.Test.YtglkfoldhobflaaX2
import Derived.Test.YtglkfoldhobflaaX5
namespace Go.Proofs.Ytglkfoldhobflaa.Dq
open Go.RowKit Go.Proofs.YtglkfoldhobflaaW.PrintWords Go.Proofs.YtglkfoldhobflaaW.PrintMore Go.Proofs.YtglkfoldhobflaaW.PrintLast Go.Proofs.Ytglkfoldhobflaa.X
set_option linter.unusedVariables false
set_option linter.unusedSimpArgs false
attribute [local go_sem ↓] Go.wp_at_zero Go.wp_at_succ
def I64 (i : Int) : Prop := -9223372036854775808 ≤ i ∧ i ≤ 9223372036854775807
theorem rpush_calls (v : Value) (l : List Int) (front : Bool) (x : Int) (w : World) (h : Rd w v l) (hl : l.length ≤ 1000000) :
    Calls Try.prog 12 #[v, .bool front, .int .i64 x] w fun e w' => ∃ v', e = .returned v' ∧ Rd w' v' (if front then x :: l else l ++ [x]) ∧ Below w.heap.size w w' ∧ Fresh w v v' := by
  obtain ⟨A, c, rfl, hc, hr⟩ := h
  have hf : mewsref09_Push.f l front x = some (if front then x :: l else l ++ [x]) := by
    unfold mewsref09_Push.f
    cases front
    · rw [if_neg (by decide), if_pos (by simp; omega)]
      simp only [Option.bind_some]
      rw [if_pos (by simp; omega)]
      simp
    · rw [if_pos rfl]
      simp only [Option.bind_some]
      rw [if_pos (by simp; omega)]
      simp
  refine (mewsref09_Push.calls A c l front x _ w (C_of_readsOf hr) hc hf).mono fun e w' he => ?_
  obtain ⟨v0, rfl, hR, hB⟩ := he
  exact ⟨v0, rfl, rd_of_R hR, hB, .inl (Kd.R_base hR)⟩
theorem rplace_f (l : List Int) (i : Int) (hl : l.length ≤ 1000000) (hi : I64 i) : mewsref09_place.f 1 l i = some (if okI l.length i then placeI l.length i else -1) := by
  unfold I64 at hi
  have hj : ∀ b : Bool, mewsref09_place.j0 1 l i b = if b = true then some (-1) else (if i < 0 then some (wrap64 ((l.length : Int) + i)) else some i) := fun b => rfl
  unfold mewsref09_place.f
  rw [hj, hj]
  have e : wrap64 (-(l.length : Int)) = -(l.length : Int) := by unfold wrap64; omega
  rw [e]
  by_cases a : i ≥ (l.length : Int)
  · have hok : okI l.length i = false := by
      unfold okI placeI
      rw [if_neg (by omega)]
      simp
      omega
    rw [if_pos a, if_pos rfl, hok]
    rfl
  · rw [if_neg a]
    by_cases b : i < -(l.length : Int)
    · have hok : okI l.length i = false := by
        unfold okI placeI
        rw [if_pos (by omega)]
        simp
        omega
      rw [decide_eq_true b, if_pos rfl, hok]
      rfl
    · have hok : okI l.length i = true := by
        unfold okI placeI
        simp only [Bool.and_eq_true, decide_eq_true_eq]
        split <;> omega
      rw [decide_eq_false b, hok]
      simp only [Bool.false_eq_true, if_false, if_true]
      unfold placeI
      split
      · congr 1
        unfold wrap64
        omega
      · rfl
theorem rplace_calls (A : Option Addr) (c : Nat) (l : List Int) (i : Int) (w : World) (hr : ReadsOf (Value.int .i64) 0 w A l.length l) (hc : l.length ≤ c) (hl : l.length ≤ 1000000) (hi : I64 i) :
    Calls Try.prog 29 #[.slice A l.length c, .int .i64 i] w fun e w' => e = .returned (.int .i64 (if okI l.length i then placeI l.length i else -1)) ∧ Drawn0 w w' :=
  mewsref09_place.calls 1 A c l i _ w (C_of_readsOf hr) hc (rplace_f l i hl hi)
theorem rat_calls (v : Value) (l : List Int) (i : Int) (w : World) (h : Rd w v l) (hl : l.length ≤ 1000000) (hi : I64 i) :
    Calls Try.prog 14 #[v, .int .i64 i] w fun e w' => e = .returned (.tuple #[.int .i64 (if okI l.length i then l.getD (placeI l.length i).toNat 0 else 0), .bool (okI l.length i)]) ∧ Below w.heap.size w w' := by
  obtain ⟨A, c, rfl, hc, hr⟩ := h
  have hf : mewsref09_At.f 1 l i = some (if okI l.length i then l.getD (placeI l.length i).toNat 0 else 0, okI l.length i) := by
    unfold mewsref09_At.f
    rw [rplace_f l i hl hi]
    simp only [Option.bind_some]
    by_cases ok : okI l.length i = true
    · have hok := ok
      unfold okI at ok
      simp only [Bool.and_eq_true, decide_eq_true_eq] at ok
      rw [hok, if_pos rfl, if_pos rfl, if_neg (by omega), if_pos (by omega), if_pos (by omega)]
      rfl
    · have hok : okI l.length i = false := by simpa using ok
      simp only [hok, Bool.false_eq_true, if_false]
      rw [if_pos (by decide)]
  refine (mewsref09_At.calls 1 A c l i _ _ w (C_of_readsOf hr) hc hf).mono fun e w' he => ?_
  obtain ⟨rfl, hd⟩ := he
  exact ⟨rfl, hd.below⟩
theorem readsOf_drewN {w : World} {A : Option Addr} {n : Nat} {l : List Int} (h : ReadsOf (Value.int .i64) 0 w A n l) (k : Nat) : ReadsOf (Value.int .i64) 0 (w.drewN k) A n l := h.below (pw_below_drewN (Below.refl _ _) k)
theorem readsOf_below {w w1 : World} {B : Nat} {A : Option Addr} {n : Nat} {l : List Int} (h : ReadsOf (Value.int .i64) 0 w A n l) (hb : Below B w w1) (hB : B = w.heap.size) : ReadsOf (Value.int .i64) 0 w1 A n l := h.below (by rw [← hB]; exact hb)
set_option maxHeartbeats 4000000 in
set_option maxRecDepth 100000 in
theorem rset_calls (v : Value) (l : List Int) (i x : Int) (w : World) (h : Rd w v l) (hl : l.length ≤ 1000000) (hi : I64 i) :
    Calls Try.prog 16 #[v, .int .i64 i, .int .i64 x] w fun e w' => ∃ v', e = .returned (.tuple #[v', .bool (okI l.length i)]) ∧ Rd w' v' (if okI l.length i then l.set (placeI l.length i).toNat x else l) ∧ Below w.heap.size w w' ∧ Fresh w v v' := by
  obtain ⟨A, c, rfl, hc, hr⟩ := h
  have HP := Aside0.mk (rplace_calls A c l i w hr hc hl hi)
  have HR := Aside0.mk hr
  have HC := Aside0.mk hc
  have HL := Aside0.mk hl
  by_cases ok : okI l.length i = true
  · have hok := ok
    unfold okI at ok
    simp only [Bool.and_eq_true, decide_eq_true_eq] at ok
    obtain ⟨k, hk⟩ : ∃ k : Nat, placeI l.length i = k := ⟨(placeI l.length i).toNat, by omega⟩
    rw [hk] at ok
    have hkl : k < l.length := by omega
    rw [hok, if_pos rfl, hk] at HP
    rw [hok, if_pos rfl, hk, Int.toNat_natCast]
    obtain ⟨n, hn⟩ : ∃ n, n = l.length := ⟨_, rfl⟩
    rw [← hn] at HP hkl ⊢
    have Hn := Aside0.mk hn
    have Hkl := Aside0.mk hkl
    have c1 : decide ((k : Int) < 0) = false := decide_eq_false (by omega)
    have i1 : (0 : Int) ≤ (k : Int) := Int.natCast_nonneg _
    have i2 : (k : Int) < (n : Int) := by omega
    clear ok hok hk hkl hr hc hl hi hn
    go_enter Try.func16, Try.ntmps16
    go_wp2_with (first | (go_at_call 29; (with_reducible refine HP.out.mono ?_); rintro e w' ⟨rfl, ⟨nd, rfl⟩⟩) | (at_builtin; refine wp_app rfl (.const (.slice none 0 0)) (.tmp 16) (by rfl) w w.heap.size (.slice none 0 0) [] l A n c (by rfl) (by rfl) (own_nil _ _ _ _) (by rw [Hn.out]; exact readsOf_drewN HR.out nd) (pw_below_drewN (Below.refl _ _) nd) (Nat.le_refl _) (by rw [Hn.out]; have := HL.out; simp; omega) ?_; intro v1 w1 hO hB hs1; rw [List.nil_append] at hO; have HO := Aside0.mk hO; have HB := Aside0.mk hB; obtain ⟨g1, cap1, e1, hb1, _⟩ := hO.form (by rw [← Hn.out]; have := Hkl.out; omega); subst e1; obtain ⟨k3, z3⟩ := own_at_of (d := 0) hO (k : Int) i1 (by rw [← Hn.out]; exact i2); rw [Int.toNat_natCast] at k3 z3; rw [← Hn.out]; have Hb := Aside0.mk hb1; clear hO hB hs1 hb1))
    go_ret2
    have hO2 := (own_store_of HO.out (k : Int) x).1
    rw [Int.toNat_natCast] at hO2
    exact ⟨.slice (some ⟨g1, 0, none⟩) n cap1, rfl, by rw [Hn.out]; exact rd_of_own (base := w.heap.size) (by rw [List.length_set]; exact hO2), HB.out.setCell Hb.out _, by rw [Hn.out]; exact .inl (own_base hO2)⟩
  · have hok : okI l.length i = false := by simpa using ok
    rw [hok, if_neg (by decide)] at HP
    rw [hok, if_neg (by decide)]
    clear ok hok hr hc hl hi
    go_enter Try.func16, Try.ntmps16
    go_wp2_with (first | (go_at_call 29; (with_reducible refine HP.out.mono ?_); rintro e w' ⟨rfl, ⟨nd, rfl⟩⟩))
    go_ret2
    exact ⟨_, rfl, ⟨A, c, rfl, HC.out, readsOf_drewN HR.out nd⟩, pw_below_drewN (Below.refl _ _) nd, .inr rfl⟩
end Go.Proofs.Ytglkfoldhobflaa.Dq
