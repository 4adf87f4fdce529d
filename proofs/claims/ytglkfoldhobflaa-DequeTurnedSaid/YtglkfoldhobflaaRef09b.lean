/- The document's Pop, Insert, Remove on lists of numbers, as calls. -/
import Derived.Test.YtglkfoldhobflaaRef09
namespace Go.Proofs.Ytglkfoldhobflaa.Dq
open Go.RowKit Go.Proofs.YtglkfoldhobflaaW.PrintWords Go.Proofs.YtglkfoldhobflaaW.PrintMore Go.Proofs.YtglkfoldhobflaaW.PrintLast Go.Proofs.Ytglkfoldhobflaa.X
set_option linter.unusedVariables false
set_option linter.unusedSimpArgs false
attribute [local go_sem ↓] Go.wp_at_zero Go.wp_at_succ
theorem rpop_none (A : Option Addr) (c : Nat) (front : Bool) (w : World) :
    Calls Try.prog 13 #[.slice A 0 c, .bool front] w fun e w' => e = .returned (.tuple #[.slice A 0 c, .int .i64 0, .bool false]) ∧ w = w' := by
  go_enter Try.func13, Try.ntmps13
  go_wp2
  go_ret3
  exact ⟨rfl, rfl⟩
set_option maxHeartbeats 4000000 in
set_option maxRecDepth 100000 in
theorem rpop_front (ad : Addr) (c : Nat) (x : Int) (l : List Int) (w : World) (hc : l.length + 1 ≤ c) (hr : ReadsOf (Value.int .i64) 0 w (some ad) (l.length + 1) (x :: l)) (hl : l.length ≤ 1000000) :
    Calls Try.prog 13 #[.slice (some ad) (l.length + 1) c, .bool true] w fun e w' => ∃ v', e = .returned (.tuple #[v', .int .i64 x, .bool true]) ∧ Rd w' v' l ∧ Below w.heap.size w w' ∧ Fresh w (.slice (some ad) (l.length + 1) c) v' := by
  obtain ⟨n, hn⟩ : ∃ n, n = l.length := ⟨_, rfl⟩
  have hl' := hl
  rw [← hn] at hc hr hl ⊢
  obtain ⟨A1, hcut1, hR1⟩ := cut_from (some ad) (n + 1) c 1 (by omega) w
  have HR1 := Aside0.mk (hR1 w _ hc hr)
  obtain ⟨ad', e, hcell⟩ := hr.2.2 (by omega)
  cases e
  have k0 := hcell 0 (by omega)
  have ha0 : ad.add 0 = ad := by unfold Addr.add; rfl
  rw [ha0] at k0
  replace k0 : w.cell? ad = some (.int .i64 x) := k0
  replace hcut1 : ∀ W : World, (Instr.slice 22 (.slice (some ad) (n + 1) c) (some (.int .i64 1)) none none).run Try.prog W = .ok (.slice A1 n (c - 1)) W := hcut1
  have c1 : ((n : Int) + 1 == 0) = false := beq_eq_false_iff_ne.mpr (by omega)
  have i1 : (0 : Int) < (n : Int) + 1 := by omega
  have i2 := eq_true i1
  have Hn := Aside0.mk hn
  have HL := Aside0.mk hl
  have Hk := Aside0.mk (show ∀ w1 : World, Below w.heap.size w w1 → w1.cell? ad = some (.int .i64 x) from fun w1 hb => pw_cell_below hb k0)
  clear hn hc hr hl hl' hR1 hcell ha0
  go_enter Try.func13, Try.ntmps13
  go_wp2
  go_region_held3 (fun w' => w'.cell? ad = some (.int .i64 x)) (go_keep)
    ((refine step_app rfl (.const (.slice none 0 0)) (.tmp 13) (by rfl) w w.heap.size (.slice none 0 0) [] l A1 n (c - 1) (by rfl) (by rfl) (own_nil _ _ _ _) HR1.out (below_drew (Below.refl _ _)) (Nat.le_refl _) (by have := HL.out; simp; omega) ?_; intro v1 w1 hO hB hs1; have q0 := Hk.out w1 hB))
  rw [List.nil_append] at hO
  have HO := Aside0.mk hO
  have HB := Aside0.mk hB
  clear hO hB hs1
  go_wp2
  go_ret3
  exact ⟨_, rfl, rd_of_own HO.out, HB.out, .inl (own_base HO.out)⟩
set_option maxHeartbeats 4000000 in
set_option maxRecDepth 100000 in
theorem rpop_back (ad : Addr) (c n : Nat) (l : List Int) (w : World) (hn : l.length = n + 1) (hc : n + 1 ≤ c) (hr : ReadsOf (Value.int .i64) 0 w (some ad) (n + 1) l) (hl : n ≤ 1000000) :
    Calls Try.prog 13 #[.slice (some ad) (n + 1) c, .bool false] w fun e w' => ∃ v', e = .returned (.tuple #[v', .int .i64 (l.getD n 0), .bool true]) ∧ Rd w' v' l.dropLast ∧ Below w.heap.size w w' ∧ Fresh w (.slice (some ad) (n + 1) c) v' := by
  have hcut := cut_to (some ad) (n + 1) c n (by omega)
  have HR1 := Aside0.mk (hr.take_ n (by omega))
  obtain ⟨ad', e, hcell⟩ := hr.2.2 (by omega)
  cases e
  have k0 := hcell n (by omega)
  obtain ⟨X, hX⟩ : ∃ X, X = l.getD n 0 := ⟨_, rfl⟩
  rw [← hX] at k0 ⊢
  have c1 : ((n : Int) + 1 == 0) = false := beq_eq_false_iff_ne.mpr (by omega)
  have i0 : (0 : Int) ≤ (n : Int) := Int.natCast_nonneg _
  have i1 : (n : Int) < (n : Int) + 1 := by omega
  have i2 := eq_true i1
  have hw1 : IntKind.i64.wrap ((n : Int) + 1 - 1) = (n : Int) := by rw [IntKind.wrap_i64]; omega
  have hw2 : IntKind.i64.wrap (n : Int) = (n : Int) := by rw [IntKind.wrap_i64]; omega
  have HL := Aside0.mk hl
  have Hd := Aside0.mk (show l.dropLast = l.take n by rw [List.dropLast_eq_take, hn, Nat.add_sub_cancel])
  have Hk := Aside0.mk (show ∀ w1 : World, Below w.heap.size w w1 → w1.cell? (ad.add n) = some (.int .i64 X) from fun w1 hb => pw_cell_below hb k0)
  clear hn hc hr hl hcell hX
  go_enter Try.func13, Try.ntmps13
  go_wp2
  go_region_held3 (fun w' => w'.cell? (ad.add n) = some (.int .i64 X)) (go_keep)
    ((refine step_app rfl (.const (.slice none 0 0)) (.tmp 22) (by rfl) w w.heap.size (.slice none 0 0) [] (l.take n) (some ad) n c (by rfl) (by rfl) (own_nil _ _ _ _) HR1.out (below_drew (Below.refl _ _)) (Nat.le_refl _) (by have := HL.out; simp; omega) ?_; intro v1 w1 hO hB hs1; have q0 := Hk.out w1 hB))
  rw [List.nil_append, ← Hd.out] at hO
  have HO := Aside0.mk hO
  have HB := Aside0.mk hB
  clear hO hB hs1 hw1 hw2
  go_wp2
  go_ret3
  exact ⟨_, rfl, rd_of_own HO.out, HB.out, .inl (own_base HO.out)⟩
theorem rpop_calls (v : Value) (l : List Int) (front : Bool) (w : World) (h : Rd w v l) (hl : l.length ≤ 1000000) :
    Calls Try.prog 13 #[v, .bool front] w fun e w' => ∃ v', e = .returned (.tuple #[v', .int .i64 (if front then l.getD 0 0 else l.getD (l.length - 1) 0), .bool (!l.isEmpty)]) ∧ Rd w' v' (if front then l.tail else l.dropLast) ∧ Below w.heap.size w w' ∧ Fresh w v v' := by
  have H := h
  obtain ⟨A, c, rfl, hc, hr⟩ := h
  cases l with
  | nil =>
    refine (rpop_none A c front w).mono fun e w' he => ?_
    obtain ⟨rfl, rfl⟩ := he
    cases front <;> exact ⟨_, rfl, H, Below.refl _ _, .inr rfl⟩
  | cons x l =>
    obtain ⟨ad, rfl, _⟩ := hr.2.2 (by simp)
    cases front with
    | true =>
      refine (rpop_front ad c x l w hc hr (by simp at hl; omega)).mono fun e w' he => ?_
      obtain ⟨v', rfl, h1, h2⟩ := he
      exact ⟨v', rfl, h1, h2⟩
    | false =>
      refine (rpop_back ad c l.length (x :: l) w rfl hc hr (by simp at hl; omega)).mono fun e w' he => ?_
      obtain ⟨v', rfl, h1, h2⟩ := he
      exact ⟨v', rfl, h1, h2⟩
set_option maxHeartbeats 4000000 in
set_option maxRecDepth 100000 in
theorem rinsert_good (A : Option Addr) (c n i : Nat) (l : List Int) (x : Int) (w : World) (hn : l.length = n) (hc : n ≤ c) (hr : ReadsOf (Value.int .i64) 0 w A n l) (hl : n ≤ 1000000) (hi : i ≤ n) :
    Calls Try.prog 18 #[.slice A n c, .int .i64 (i : Int), .int .i64 x] w fun e w' => ∃ v', e = .returned (.tuple #[v', .bool true]) ∧ Rd w' v' (l.take i ++ x :: l.drop i) ∧ Below w.heap.size w w' ∧ Fresh w (.slice A n c) v' := by
  have hcut := cut_to A n c i (by omega)
  have HR1 := Aside0.mk (hr.take_ i hi)
  obtain ⟨A1, hcut1, hR1⟩ := cut_from A n c i hi w
  have HR2 := Aside0.mk (hR1 w _ hc hr)
  have c1 : decide ((i : Int) < 0) = false := decide_eq_false (by omega)
  have c2 : decide ((n : Int) < (i : Int)) = false := decide_eq_false (by omega)
  have c3 : decide (n < i) = false := decide_eq_false (by omega)
  have c4 : decide (1048576 ≤ (n : Int)) = false := decide_eq_false (by omega)
  have c5 : decide (1048576 ≤ n) = false := decide_eq_false (by omega)
  have HL := Aside0.mk hl
  have HI := Aside0.mk hi
  have Hlt := Aside0.mk (show (l.take i).length = i by simp; omega)
  have He := Aside0.mk (show l.take i ++ x :: l.drop i = l.take i ++ [x] ++ l.drop i by simp)
  rw [He.out]
  clear hn hc hr hl hi hR1
  go_enter Try.func18, Try.ntmps18
  go_wp2_with (first | (at_builtin; refine wp_app rfl (.const (.slice none 0 0)) (.tmp 25) (by rfl) w w.heap.size (.slice none 0 0) [] (l.take i) A i c (by rfl) (by rfl) (own_nil _ _ _ _) HR1.out (Below.refl _ _) (Nat.le_refl _) (by have := HL.out; have := HI.out; simp; omega) ?_; intro v1 w1 hO1 hB1 hs1; rw [List.nil_append] at hO1; have HO1 := Aside0.mk hO1; have HB1 := Aside0.mk hB1; clear hO1 hB1) | (at_builtin; refine wp_app rfl (.tmp 27) (.tmp 29) (by rfl) w w.heap.size v1 (l.take i) [x] (some ⟨w1.heap.size, 0, none⟩) 1 1 (by rfl) (by rfl) (HO1.out.alloc _) (reads_one w1 x) (HB1.out.alloc hs1 _) (by simp; omega) (by rw [Hlt.out]; have := HL.out; have := HI.out; omega) ?_; intro v2 w2 hO2 hB2 hs2; have HO2 := Aside0.mk hO2; have HB2 := Aside0.mk hB2; clear hO2 hB2) | (at_builtin; refine wp_app rfl (.tmp 31) (.tmp 34) (by rfl) w w.heap.size v2 (l.take i ++ [x]) (l.drop i) A1 (n - i) (c - i) (by rfl) (by rfl) HO2.out (HR2.out.below HB2.out) HB2.out hs2 (by rw [List.length_append, Hlt.out]; have := HL.out; have := HI.out; simp; omega) ?_; intro v3 w3 hO3 hB3 hs3; have HO3 := Aside0.mk hO3; have HB3 := Aside0.mk hB3; clear hO3 hB3))
  go_ret2
  exact ⟨_, rfl, rd_of_own HO3.out, HB3.out, .inl (own_base HO3.out)⟩
theorem rinsert_bad (A : Option Addr) (c : Nat) (l : List Int) (i x : Int) (w : World) (hl : l.length ≤ 1000000) (hi : i < 0 ∨ (l.length : Int) < i) :
    Calls Try.prog 18 #[.slice A l.length c, .int .i64 i, .int .i64 x] w fun e w' => e = .returned (.tuple #[.slice A l.length c, .bool false]) ∧ w = w' := by
  by_cases c0 : i < 0
  · have c1 : decide (i < 0) = true := decide_eq_true c0
    clear c0 hi hl
    go_enter Try.func18, Try.ntmps18
    go_wp2
    go_ret2
    exact ⟨rfl, rfl⟩
  · have c1 : decide (i < 0) = false := decide_eq_false c0
    have c2 : decide ((l.length : Int) < i) = true := decide_eq_true (by omega)
    clear c0 hi hl
    go_enter Try.func18, Try.ntmps18
    go_wp2
    go_ret2
    exact ⟨rfl, rfl⟩
theorem rinsert_calls (v : Value) (l : List Int) (i x : Int) (w : World) (h : Rd w v l) (hl : l.length ≤ 1000000) :
    Calls Try.prog 18 #[v, .int .i64 i, .int .i64 x] w fun e w' => ∃ v', e = .returned (.tuple #[v', .bool (decide (0 ≤ i ∧ i ≤ l.length))]) ∧ Rd w' v' (if 0 ≤ i ∧ i ≤ l.length then l.take i.toNat ++ x :: l.drop i.toNat else l) ∧ Below w.heap.size w w' ∧ Fresh w v v' := by
  have H := h
  obtain ⟨A, c, rfl, hc, hr⟩ := h
  by_cases d : 0 ≤ i ∧ i ≤ l.length
  · obtain ⟨k, rfl⟩ : ∃ k : Nat, i = k := ⟨i.toNat, by omega⟩
    rw [decide_eq_true d, if_pos d, Int.toNat_natCast]
    exact rinsert_good A c l.length k l x w rfl hc hr hl (by omega)
  · rw [decide_eq_false d, if_neg d]
    refine (rinsert_bad A c l i x w hl (by omega)).mono fun e w' he => ?_
    obtain ⟨rfl, rfl⟩ := he
    exact ⟨_, rfl, H, Below.refl _ _, .inr rfl⟩
set_option maxHeartbeats 4000000 in
set_option maxRecDepth 100000 in
theorem rremove_good (A : Option Addr) (c n i : Nat) (l : List Int) (a1 : Int) (w : World) (hn : l.length = n) (hc : n ≤ c) (hr : ReadsOf (Value.int .i64) 0 w A n l) (hl : n ≤ 1000000) (hi : i < n)
    (hp : Calls Try.prog 29 #[.slice A n c, .int .i64 a1] w fun e w' => e = .returned (.int .i64 (i : Int)) ∧ Drawn0 w w') :
    Calls Try.prog 20 #[.slice A n c, .int .i64 a1] w fun e w' => ∃ v', e = .returned (.tuple #[v', .bool true]) ∧ Rd w' v' (l.take i ++ l.drop (i + 1)) ∧ Below w.heap.size w w' ∧ Fresh w (.slice A n c) v' := by
  have HP := Aside0.mk hp
  have hcut := cut_to A n c i (by omega)
  have HR1 := Aside0.mk (hr.take_ i (by omega))
  obtain ⟨A1, hcut1, hR1⟩ := cut_from A n c (i + 1) (by omega) w
  replace hcut1 : ∀ W : World, (Instr.slice 22 (.slice A n c) (some (.int .i64 ((i : Int) + 1))) none none).run Try.prog W = .ok (.slice A1 (n - (i + 1)) (c - (i + 1))) W := hcut1
  have HR2 := Aside0.mk (hR1 w _ hc hr)
  have c1 : decide ((i : Int) < 0) = false := decide_eq_false (by omega)
  have hw1 : IntKind.i64.wrap ((i : Int) + 1) = (i : Int) + 1 := by rw [IntKind.wrap_i64]; omega
  have HL := Aside0.mk hl
  have HI := Aside0.mk hi
  have Hlt := Aside0.mk (show (l.take i).length = i by simp; omega)
  clear hn hc hr hl hi hR1 hp
  go_enter Try.func20, Try.ntmps20
  go_wp2_with (first | (go_at_call 29; (with_reducible refine HP.out.mono ?_); rintro e w' ⟨rfl, ⟨nd, rfl⟩⟩))
  go_region_held3 (fun _ => True) (trivial) (first | ((refine step_app rfl (.const (.slice none 0 0)) (.tmp 15) (by rfl) w w.heap.size (.slice none 0 0) [] (l.take i) A i c (by rfl) (by rfl) (own_nil _ _ _ _) (HR1.out.below (by exact below_drew (pw_below_drewN (Below.refl _ _) nd))) (below_drew (pw_below_drewN (Below.refl _ _) nd)) (Nat.le_refl _) (by have := HL.out; have := HI.out; simp; omega) ?_; intro v1 w1 hO1 hB1 hs1; rw [List.nil_append] at hO1; have HO1 := Aside0.mk hO1; have HB1 := Aside0.mk hB1; clear hO1 hB1)) | ((refine step_app rfl (.tmp 16) (.tmp 20) (by rfl) w w.heap.size v1 (l.take i) (l.drop (i + 1)) A1 (n - (i + 1)) (c - (i + 1)) (by rfl) (by rfl) HO1.out (HR2.out.below HB1.out) HB1.out hs1 (by rw [Hlt.out]; have := HL.out; have := HI.out; omega) ?_; intro v2 w2 hO2 hB2 hs2; have HO2 := Aside0.mk hO2; have HB2 := Aside0.mk hB2; clear hO2 hB2)))
  clear hw1
  go_wp2
  go_ret2
  exact ⟨_, rfl, rd_of_own HO2.out, HB2.out, .inl (own_base HO2.out)⟩
theorem rremove_calls (v : Value) (l : List Int) (i : Int) (w : World) (h : Rd w v l) (hl : l.length ≤ 1000000) (hi : I64 i) :
    Calls Try.prog 20 #[v, .int .i64 i] w fun e w' => ∃ v', e = .returned (.tuple #[v', .bool (okI l.length i)]) ∧ Rd w' v' (if okI l.length i then l.take (placeI l.length i).toNat ++ l.drop ((placeI l.length i).toNat + 1) else l) ∧ Below w.heap.size w w' ∧ Fresh w v v' := by
  obtain ⟨A, c, rfl, hc, hr⟩ := h
  have HP := rplace_calls A c l i w hr hc hl hi
  by_cases ok : okI l.length i = true
  · have hok := ok
    unfold okI at ok
    simp only [Bool.and_eq_true, decide_eq_true_eq] at ok
    obtain ⟨k, hk⟩ : ∃ k : Nat, placeI l.length i = k := ⟨(placeI l.length i).toNat, by omega⟩
    rw [hk] at ok
    rw [hok, if_pos rfl, hk] at HP
    rw [hok, if_pos rfl, hk, Int.toNat_natCast]
    exact rremove_good A c l.length k l i w rfl hc hr hl (by omega) HP
  · have hok : okI l.length i = false := by simpa using ok
    rw [hok, if_neg (by decide)] at HP
    rw [hok, if_neg (by decide)]
    have HP := Aside0.mk HP
    have HR := Aside0.mk hr
    have HC := Aside0.mk hc
    clear ok hok hr hc hl hi
    go_enter Try.func20, Try.ntmps20
    go_wp2_with (first | (go_at_call 29; (with_reducible refine HP.out.mono ?_); rintro e w' ⟨rfl, ⟨nd, rfl⟩⟩))
    go_ret2
    exact ⟨_, rfl, ⟨A, c, rfl, HC.out, readsOf_drewN HR.out nd⟩, pw_below_drewN (Below.refl _ _) nd, .inr rfl⟩
end Go.Proofs.Ytglkfoldhobflaa.Dq
