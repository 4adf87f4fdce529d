/- The contract of the statement ListBeside, walked by hand. -/
import Derived.Test.YtbficlkjlhigjaaLaw21a
import Derived.Test.YtbficlkjlhigjaaListBes
import Derived.Test.YtbficlkjlhigjaaX0
namespace Go.Proofs.Ytbficlkjlhigjaa.X
set_option linter.unusedVariables false
open Classical in
noncomputable def mewslaw21_ListBeside.f (_k : Nat) (l0 : List ByteArray) (b : Bool) (x y : ByteArray) : Option Bool := if l0.length ≤ 9223372036854775000 then some true else none
end Go.Proofs.Ytbficlkjlhigjaa.X
namespace Go.Proofs.Ytbficlkjlhigjaa.Dq
open Go.RowKit Go.Proofs.YtbficlkjlhigjaaW.PrintWords Go.Proofs.YtbficlkjlhigjaaW.PrintMore Go.Proofs.YtbficlkjlhigjaaW.PrintLast Go.Proofs.Ytbficlkjlhigjaa.X Go.Proofs.Ytbficlkjlhigjaa.Y
set_option linter.unusedVariables false
set_option linter.unusedSimpArgs false
attribute [local go_sem ↓] Go.wp_at_zero Go.wp_at_succ
theorem cells2f {w : World} {g : Nat} {t : TypeId} {a b : Value} (h : w.heap[g]? = some (.cells #[a, b] t (0, 0))) : w.cell? ⟨g, 0, none⟩ = some a ∧ w.cell? ⟨g, 1, none⟩ = some b := ⟨(blk_cell h 0).trans rfl, (blk_cell h 1).trans rfl⟩
set_option maxHeartbeats 8000000 in
set_option maxRecDepth 100000 in
theorem besides_calls (v0 : Value) (l : List ByteArray) (bf : Bool) (p s : ByteArray) (w : World) (hr : Rd w v0 l) (hl : l.length ≤ 9223372036854775000) :
    Calls Try.prog 7 #[v0, .bool bf, .agg #[.string p, .string s]] w fun e w' => e = .returned (.bool true) ∧ Below w.heap.size w w' := by
  have HR := Aside0.mk hr
  have HL := Aside0.mk hl
  obtain ⟨B, hB⟩ : ∃ B, B = w.heap.size := ⟨_, rfl⟩
  rw [← hB]
  have HB := Aside0.mk hB
  have HALL := Aside0.mk (fun (W : World) (p : Prop) (hp : Below B w W) (hs : B ≤ W.heap.size) => (⟨(alive_calls W).mono fun e w' he => ⟨he.1, hp.trans (he.2.mono hs)⟩, trivial⟩ : Calls Try.prog 9 #[] W (fun e w' => e = .returned (.bool true) ∧ Below B w w') ∧ True).1)
  clear hr hl hB
  go_enter Try.func7, Try.ntmps7
  go_wp2_with fail
  obtain ⟨w1, hw1⟩ : ∃ W, W = w.alloc (.cells #[.string p, .string s] 45) := ⟨_, rfl⟩
  rw [← hw1, ← HB.out]
  have HX1 := Aside0.mk (show w1.heap[B]? = some (.cells #[.string p, .string s] 45 (0, 0)) by rw [hw1, HB.out]; exact blk_new _ _)
  have HD1 := Aside0.mk (show Below B w w1 by rw [hw1, HB.out]; exact below_alloc (Below.refl _ _) _)
  have HS1 := Aside0.mk (show B ≤ w1.heap.size from Nat.le_of_lt (blk_lt HX1.out))
  have HR1 := Aside0.mk (show Rd w1 v0 l from HR.out.below (by rw [← HB.out]; exact HD1.out))
  clear hw1
  go_at_call 8
  with_reducible refine Calls.mono (far_calls _ l w1 HR1.out HL.out) ?_
  rintro e w2 ⟨fl, rfl, hfl, hd⟩
  have HX2 := Aside0.mk (show w2.heap[B]? = some (.cells #[.string p, .string s] 45 (0, 0)) from KeepT.of_below hd.below _ _ _ HX1.out (by decide) (by decide))
  have HD2 := Aside0.mk (HD1.out.trans (hd.below.mono HS1.out))
  have HS2 := Aside0.mk (show B ≤ w2.heap.size from Nat.le_trans HS1.out hd.below.size)
  clear hd
  cases fl with
  | true =>
    clear hfl
    go_wp2_with (first | (go_at_call 9; (with_reducible refine Calls.mono (HALL.out _ True HD2.out HS2.out) ?_); rintro e w2 ⟨rfl, hb2⟩; have HB2 := Aside0.mk hb2; clear hb2))
    go_ret
    exact ⟨rfl, HB2.out⟩
  | false =>
    have HLN := Aside0.mk (hfl rfl)
    clear hfl
    obtain ⟨y0, y1⟩ := cells2f HX2.out
    go_wp2_with fail
    go_at_call 8
    have hf : Calls Try.prog 8 #[.slice (some ⟨w2.heap.size, 0, none⟩) 2 2] (w2.alloc (.cells #[.string p, .string s] 9)) _ := far_calls _ [p, s] _ (rd_lit w2 [p, s] (by simp)) (by simp)
    with_reducible refine Calls.mono hf ?_
    clear hf
    rintro e w3 ⟨fm, rfl, -, hd⟩
    have HDD := Aside0.mk (show Below w2.heap.size w2 w3 from (below_alloc (Below.refl _ _) _).trans (hd.below.mono (by simp)))
    have HX3 := Aside0.mk (show w3.heap[B]? = some (.cells #[.string p, .string s] 45 (0, 0)) from KeepT.of_below HDD.out _ _ _ HX2.out (by decide) (by decide))
    have HD3 := Aside0.mk (HD2.out.trans (HDD.out.mono HS2.out))
    have HS3 := Aside0.mk (show B < w3.heap.size from blk_lt HX3.out)
    have HR3 := Aside0.mk (show Rd w3 v0 l from HR.out.below (by rw [← HB.out]; exact HD3.out))
    clear hd HDD y0 y1
    cases fm with
    | true =>
      go_wp2_with (first | (go_at_call 9; (with_reducible refine Calls.mono (HALL.out _ True HD3.out (Nat.le_of_lt HS3.out)) ?_); rintro e w2 ⟨rfl, hb2⟩; have HB2 := Aside0.mk hb2; clear hb2))
      go_ret
      exact ⟨rfl, HB2.out⟩
    | false =>
      go_wp2_with fail
      go_at_call 10
      with_reducible refine Calls.mono (St.newRd (w := w3) (B := w3.heap.size) (Below.refl _ _) (Nat.le_refl _) HR3.out (by have := HLN.out; omega)) ?_
      rintro e w4 ⟨g, rfl, h4, hb4⟩
      have H4 := Aside0.mk h4
      have HX4 := Aside0.mk (show w4.heap[B]? = some (.cells #[.string p, .string s] 45 (0, 0)) from (h4.out.block _ HS3.out).trans HX3.out)
      clear h4 hb4
      obtain ⟨y0, y1⟩ := cells2f HX4.out
      have HBES := Aside0.mk (show ∀ W, St w3 w3.heap.size g l W → Calls Try.prog 21 #[.pointer (some ⟨g, 0, none⟩), .bool bf, .string p, .string s] W _ from fun W h => beside_calls bf p s h (by have := HLN.out; omega))
      go_wp2_with fail
      go_at_call 21
      with_reducible refine Calls.mono (HBES.out _ H4.out) ?_
      rintro e w5 ⟨rfl, h5⟩
      have H5 := Aside0.mk h5
      have HX5 := Aside0.mk (show w5.heap[B]? = some (.cells #[.string p, .string s] 45 (0, 0)) from (h5.out.block _ HS3.out).trans HX3.out)
      have HR5 := Aside0.mk (HR3.out.below h5.out)
      clear h5 y0 y1
      obtain ⟨y0, y1⟩ := cells2f HX5.out
      go_wp2_with fail
      go_at_call 22
      with_reducible refine Calls.mono (rbeside_calls v0 l bf p s w5 HR5.out (by have := HLN.out; omega)) ?_
      rintro e w6 ⟨v6, rfl, hr6, hb6⟩
      have H6 := Aside0.mk (H5.out.below hb6)
      have HR6 := Aside0.mk hr6
      have HLB := Aside0.mk (show (besF bf p s l).length ≤ 201 by
        have := HLN.out
        by_cases c : fidx p l < l.length
        · rw [besF_len bf p s l c]; omega
        · rw [besF_none bf p s l c]; omega)
      obtain ⟨J, hJ⟩ : ∃ J, J = besI bf p s l := ⟨_, rfl⟩
      obtain ⟨L, hL⟩ : ∃ L, L = besF bf p s l := ⟨_, rfl⟩
      rw [← hJ]
      rw [← hL] at H6 HR6 HLB
      have hJJ : (J == J) = true := beq_self_eq_true _
      clear hr6 hb6 y0 y1 hJ hL
      go_wp2_with fail
      go_at_call 14
      with_reducible refine Calls.mono H6.out.all ?_
      rintro e w7 ⟨v7, rfl, hr7, hb7, -⟩
      have H7 := Aside0.mk (H6.out.below hb7)
      have HR7 := Aside0.mk hr7
      have HO7 := Aside0.mk (HR6.out.below hb7)
      clear hr7 hb7
      go_wp2_with fail
      go_at_call 13
      with_reducible refine Calls.mono (rsame_calls _ _ L _ HR7.out HO7.out (by have := HLB.out; omega)) ?_
      rintro e w8 ⟨rfl, hw8⟩
      have H8 := Aside0.mk (H7.out.below hw8.below)
      have HO8 := Aside0.mk (HO7.out.below hw8.below)
      clear hw8
      go_wp2_with fail
      go_at_call 10
      with_reducible refine Calls.mono (St.newRd (w := w3) (B := w3.heap.size) H8.out.out H8.out.size HO8.out (by have := HLB.out; omega)) ?_
      rintro e w9 ⟨g9, rfl, h9, hb9⟩
      have H9 := Aside0.mk h9
      have H89 := Aside0.mk (H8.out.below hb9)
      clear h9 hb9
      go_wp2_with fail
      go_at_call 23
      with_reducible refine Calls.mono (lsame_calls H89.out H9.out (by have := HLB.out; omega)) ?_
      rintro e wi ⟨rfl, hwi⟩
      have HOi := Aside0.mk (HD3.out.trans ((H9.out.below hwi).out.mono (Nat.le_of_lt HS3.out)))
      have HSi := Aside0.mk (Nat.le_trans (Nat.le_of_lt HS3.out) (H9.out.below hwi).size)
      clear hwi
      go_wp2_with (first | (go_at_call 9; (with_reducible refine Calls.mono (HALL.out _ True HOi.out HSi.out) ?_); rintro e w8 ⟨rfl, hb8⟩; have HB8 := Aside0.mk hb8; clear hb8))
      go_ret
      exact ⟨rfl, HB8.out⟩
end Go.Proofs.Ytbficlkjlhigjaa.Dq
namespace Go.Proofs.Ytbficlkjlhigjaa.X
set_option linter.unusedVariables false
open Go.RowKit Go.Proofs.YtbficlkjlhigjaaW.PrintWords Go.Proofs.YtbficlkjlhigjaaW.PrintMore Go.Proofs.YtbficlkjlhigjaaW.PrintLast Go.Proofs.Ytbficlkjlhigjaa.Dq
theorem mewslaw21_ListBeside.calls (k : Nat) (A0 : Option Addr) (c0 : Nat) (l0 : List ByteArray) (a1 : Bool) (x y : ByteArray) (r : Bool) (w : World) (hr0 : Kd.C Kd.string w A0 l0.length l0) (hc0 : l0.length ≤ c0) (hr_ : Aside0 (r = true)) (h : mewslaw21_ListBeside.f k l0 a1 x y = some r) :
    Calls Try.prog 7 #[.slice A0 l0.length c0, .bool a1, .agg #[.string x, .string y]] w fun e w' => e = .returned (.bool r) ∧ Below w.heap.size w w' := by
  have hbd : l0.length ≤ 9223372036854775000 := by
    unfold mewslaw21_ListBeside.f at h
    by_cases q : l0.length ≤ 9223372036854775000
    · exact q
    · rw [if_neg q] at h; cases h
  rw [hr_.out]
  exact besides_calls _ l0 a1 x y w ⟨A0, c0, rfl, hc0, readsOf_of_C hr0⟩ hbd
end Go.Proofs.Ytbficlkjlhigjaa.X
