/- The document's Push and Pop on lists of texts, as calls. -/
import Derived.Test.YtbficlkjlhigjaaDqRd
import Derived.Test.YtbficlkjlhigjaaX7
import Derived.Test.YtbficlkjlhigjaaListRef
namespace Go.Proofs.Ytbficlkjlhigjaa.Dq
open Go.RowKit Go.Proofs.YtbficlkjlhigjaaW.PrintWords Go.Proofs.YtbficlkjlhigjaaW.PrintMore Go.Proofs.YtbficlkjlhigjaaW.PrintLast Go.Proofs.Ytbficlkjlhigjaa.X
set_option linter.unusedVariables false
set_option linter.unusedSimpArgs false
attribute [local go_sem ↓] Go.wp_at_zero Go.wp_at_succ
theorem rpush_calls (v : Value) (l : List ByteArray) (front : Bool) (x : ByteArray) (w : World) (h : Rd w v l) (hl : l.length ≤ 1000000) :
    Calls Try.prog 20 #[v, .bool front, .string x] w fun e w' => ∃ v', e = .returned v' ∧ Rd w' v' (if front then x :: l else l ++ [x]) ∧ Below w.heap.size w w' ∧ Fresh w v v' := by
  obtain ⟨A, c, rfl, hc, hr⟩ := h
  have hf : mewsref21_Push.f l front x = some (if front then x :: l else l ++ [x]) := by
    unfold mewsref21_Push.f
    cases front
    · rw [if_neg (by decide), if_pos (by simp; omega)]
      simp only [Option.bind_some]
      rw [if_pos (by simp; omega)]
      simp
    · rw [if_pos rfl]
      simp only [Option.bind_some]
      rw [if_pos (by simp; omega)]
      simp
  refine (mewsref21_Push.calls A c l front x _ w (C_of_readsOf hr) hc hf).mono fun e w' he => ?_
  obtain ⟨v0, rfl, hR, hB⟩ := he
  exact ⟨v0, rfl, rd_of_R hR, hB, .inl (Kd.R_base hR)⟩
theorem rpop_none (A : Option Addr) (c : Nat) (front : Bool) (w : World) :
    Calls Try.prog 19 #[.slice A 0 c, .bool front] w fun e w' => e = .returned (.tuple #[.slice none 0 0, .string ByteArray.empty, .bool false]) ∧ w = w' := by
  go_enter Try.func19, Try.ntmps19
  go_wp2
  go_ret3
  exact ⟨rfl, rfl⟩
set_option maxHeartbeats 4000000 in
set_option maxRecDepth 100000 in
theorem rpop_front (ad : Addr) (c : Nat) (x : ByteArray) (l : List ByteArray) (w : World) (hc : l.length + 1 ≤ c) (hr : ReadsOf Value.string ByteArray.empty w (some ad) (l.length + 1) (x :: l)) (hl : l.length ≤ 1000000) :
    Calls Try.prog 19 #[.slice (some ad) (l.length + 1) c, .bool true] w fun e w' => ∃ v', e = .returned (.tuple #[v', .string x, .bool true]) ∧ Rd w' v' l ∧ Below w.heap.size w w' ∧ Fresh w (.slice (some ad) (l.length + 1) c) v' := by
  obtain ⟨n, hn⟩ : ∃ n, n = l.length := ⟨_, rfl⟩
  have hl' := hl
  rw [← hn] at hc hr hl ⊢
  obtain ⟨A1, hcut1, hR1⟩ := cut_from (some ad) (n + 1) c 1 (by omega) w
  have HR1 := Aside0.mk (hR1 w _ hc hr)
  obtain ⟨ad', e, hcell⟩ := hr.2.2 (by omega)
  cases e
  have k0 := hcell 0 (by omega)
  have ha0 : ad.add 0 = ad := by unfold Addr.add; rfl
  rw [ha0] at k0
  replace k0 : w.cell? ad = some (.string x) := k0
  replace hcut1 : ∀ W : World, (Instr.slice 22 (.slice (some ad) (n + 1) c) (some (.int .i64 1)) none none).run Try.prog W = .ok (.slice A1 n (c - 1)) W := hcut1
  have c1 : ((n : Int) + 1 == 0) = false := beq_eq_false_iff_ne.mpr (by omega)
  have i1 : (0 : Int) < (n : Int) + 1 := by omega
  have i2 := eq_true i1
  have Hn := Aside0.mk hn
  have HL := Aside0.mk hl
  have Hk := Aside0.mk (show ∀ w1 : World, Below w.heap.size w w1 → w1.cell? ad = some (.string x) from fun w1 hb => pw_cell_below hb k0)
  clear hn hc hr hl hl' hR1 hcell ha0
  go_enter Try.func19, Try.ntmps19
  go_wp2
  go_region_held3 (fun w' => w'.cell? ad = some (.string x)) (go_keep)
    ((refine step_app rfl (.const (.slice none 0 0)) (.tmp 12) (by rfl) w w.heap.size (.slice none 0 0) [] l A1 n (c - 1) (by rfl) (by rfl) (own_nil _ _ _ _) HR1.out (below_drew (Below.refl _ _)) (Nat.le_refl _) (by have := HL.out; simp; omega) ?_; intro v1 w1 hO hB hs1; have q0 := Hk.out w1 hB))
  rw [List.nil_append] at hO
  have HO := Aside0.mk hO
  have HB := Aside0.mk hB
  clear hO hB hs1
  go_wp2
  go_ret3
  exact ⟨_, rfl, rd_of_own HO.out, HB.out, .inl (own_base HO.out)⟩
set_option maxHeartbeats 4000000 in
set_option maxRecDepth 100000 in
theorem rpop_back (ad : Addr) (c n : Nat) (l : List ByteArray) (w : World) (hn : l.length = n + 1) (hc : n + 1 ≤ c) (hr : ReadsOf Value.string ByteArray.empty w (some ad) (n + 1) l) (hl : n ≤ 1000000) :
    Calls Try.prog 19 #[.slice (some ad) (n + 1) c, .bool false] w fun e w' => ∃ v', e = .returned (.tuple #[v', .string (l.getD n ByteArray.empty), .bool true]) ∧ Rd w' v' l.dropLast ∧ Below w.heap.size w w' ∧ Fresh w (.slice (some ad) (n + 1) c) v' := by
  have hcut := cut_to (some ad) (n + 1) c n (by omega)
  have HR1 := Aside0.mk (hr.take_ n (by omega))
  obtain ⟨ad', e, hcell⟩ := hr.2.2 (by omega)
  cases e
  have k0 := hcell n (by omega)
  obtain ⟨X, hX⟩ : ∃ X, X = l.getD n ByteArray.empty := ⟨_, rfl⟩
  rw [← hX] at k0 ⊢
  have c1 : ((n : Int) + 1 == 0) = false := beq_eq_false_iff_ne.mpr (by omega)
  have i0 : (0 : Int) ≤ (n : Int) := Int.natCast_nonneg _
  have i1 : (n : Int) < (n : Int) + 1 := by omega
  have i2 := eq_true i1
  have hw1 : IntKind.i64.wrap ((n : Int) + 1 - 1) = (n : Int) := by rw [IntKind.wrap_i64]; omega
  have hw2 : IntKind.i64.wrap (n : Int) = (n : Int) := by rw [IntKind.wrap_i64]; omega
  have HL := Aside0.mk hl
  have Hd := Aside0.mk (show l.dropLast = l.take n by rw [List.dropLast_eq_take, hn, Nat.add_sub_cancel])
  have Hk := Aside0.mk (show ∀ w1 : World, Below w.heap.size w w1 → w1.cell? (ad.add n) = some (.string X) from fun w1 hb => pw_cell_below hb k0)
  clear hn hc hr hl hcell hX
  go_enter Try.func19, Try.ntmps19
  go_wp2
  go_region_held3 (fun w' => w'.cell? (ad.add n) = some (.string X)) (go_keep)
    ((refine step_app rfl (.const (.slice none 0 0)) (.tmp 21) (by rfl) w w.heap.size (.slice none 0 0) [] (l.take n) (some ad) n c (by rfl) (by rfl) (own_nil _ _ _ _) HR1.out (below_drew (Below.refl _ _)) (Nat.le_refl _) (by have := HL.out; simp; omega) ?_; intro v1 w1 hO hB hs1; have q0 := Hk.out w1 hB))
  rw [List.nil_append, ← Hd.out] at hO
  have HO := Aside0.mk hO
  have HB := Aside0.mk hB
  clear hO hB hs1 hw1 hw2
  go_wp2
  go_ret3
  exact ⟨_, rfl, rd_of_own HO.out, HB.out, .inl (own_base HO.out)⟩
theorem rpop_calls (v : Value) (l : List ByteArray) (front : Bool) (w : World) (h : Rd w v l) (hl : l.length ≤ 1000000) :
    Calls Try.prog 19 #[v, .bool front] w fun e w' => ∃ v', e = .returned (.tuple #[v', .string (if front then l.getD 0 ByteArray.empty else l.getD (l.length - 1) ByteArray.empty), .bool (!l.isEmpty)]) ∧ Rd w' v' (if front then l.tail else l.dropLast) ∧ Below w.heap.size w w' ∧ Fresh w v v' := by
  have H := h
  obtain ⟨A, c, rfl, hc, hr⟩ := h
  cases l with
  | nil =>
    refine (rpop_none A c front w).mono fun e w' he => ?_
    obtain ⟨rfl, rfl⟩ := he
    cases front <;> exact ⟨_, rfl, rd_nil _, Below.refl _ _, .inl (by intro k hk; cases hk)⟩
  | cons x l =>
    obtain ⟨ad, rfl, _⟩ := hr.2.2 (by simp)
    cases front with
    | true =>
      refine (rpop_front ad c x l w hc hr (by simp at hl; omega)).mono fun e w' he => ?_
      obtain ⟨v', rfl, h1, h2⟩ := he
      exact ⟨v', rfl, h1, h2⟩
    | false =>
      refine (rpop_back ad c l.length (x :: l) w rfl hc hr (by simp at hl; omega)).mono fun e w' he => ?_
      obtain ⟨v', rfl, h1, h2⟩ := he
      exact ⟨v', rfl, h1, h2⟩
end Go.Proofs.Ytbficlkjlhigjaa.Dq
