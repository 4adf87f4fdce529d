/- The contract of the statement ListDrops, walked by hand. -/
import Derived.Test.YtbficlkjlhigjaaLaw21a
namespace Go.Proofs.Ytbficlkjlhigjaa.X
set_option linter.unusedVariables false
/-- The statement's own bounds. -/
def BdL (l : List ByteArray) (c : Int) : Prop := l.length ≤ 9223372036854775000 ∧ -9223372036854775808 ≤ c ∧ c ≤ 9223372036854775807
open Classical in
noncomputable def mewslaw21_ListDrops.f (_k : Nat) (l0 : List ByteArray) (c : Int) (s : ByteArray) : Option Bool := if BdL l0 c then some true else none
end Go.Proofs.Ytbficlkjlhigjaa.X
namespace Go.Proofs.Ytbficlkjlhigjaa.Dq
open Go.RowKit Go.Proofs.YtbficlkjlhigjaaW.PrintWords Go.Proofs.YtbficlkjlhigjaaW.PrintMore Go.Proofs.YtbficlkjlhigjaaW.PrintLast Go.Proofs.Ytbficlkjlhigjaa.X Go.Proofs.Ytbficlkjlhigjaa.Y
set_option linter.unusedVariables false
set_option linter.unusedSimpArgs false
attribute [local go_sem ↓] Go.wp_at_zero Go.wp_at_succ
theorem dropL_len (l : List ByteArray) (c : Int) (s : ByteArray) : (dropL l c s).1.length + (dropL l c s).2 = l.length := by
  unfold dropL
  have := dropF_len s (if c = 0 then none else some c.natAbs) (tl (decide (c < 0)) l)
  rw [tl_len] at this
  rw [tl_len]
  exact this
set_option maxHeartbeats 8000000 in
set_option maxRecDepth 100000 in
theorem drops_calls (A : Option Addr) (cp : Nat) (l : List ByteArray) (c : Int) (s : ByteArray) (w : World) (hr : ReadsOf Value.string ByteArray.empty w A l.length l) (hcp : l.length ≤ cp) (hl : l.length ≤ 9223372036854775000) (hc : -9223372036854775808 ≤ c ∧ c ≤ 9223372036854775807) :
    Calls Try.prog 3 #[.slice A l.length cp, .int .i64 c, .string s] w fun e w' => e = .returned (.bool true) ∧ Below w.heap.size w w' := by
  have HR := Aside0.mk (show Rd w (.slice A l.length cp) l from ⟨A, cp, rfl, hcp, hr⟩)
  have HFAR := Aside0.mk (far_calls _ l w HR.out hl)
  have HC := Aside0.mk hc
  have HL := Aside0.mk hl
  obtain ⟨n, hn⟩ : ∃ n, n = l.length := ⟨_, rfl⟩
  rw [← hn] at HR HFAR ⊢
  have Hn := Aside0.mk hn
  obtain ⟨B, hB⟩ : ∃ B, B = w.heap.size := ⟨_, rfl⟩
  rw [← hB]
  have HB := Aside0.mk hB
  have HALL := Aside0.mk (fun (W : World) (p : Prop) (hp : Below B w W) (hs : B ≤ W.heap.size) => (⟨(alive_calls W).mono fun e w' he => ⟨he.1, hp.trans (he.2.mono hs)⟩, trivial⟩ : Calls Try.prog 9 #[] W (fun e w' => e = .returned (.bool true) ∧ Below B w w') ∧ True).1)
  clear hn hr hcp hc hl hB
  go_enter Try.func3, Try.ntmps3
  go_wp2_with fail
  go_at_call 8
  with_reducible refine Calls.mono HFAR.out ?_
  rintro e w1 ⟨b, rfl, hb, hd⟩
  cases b with
  | true =>
    have HD := Aside0.mk (show Below B w w1 by rw [HB.out]; exact hd.below)
    have HS := Aside0.mk (show B ≤ w1.heap.size by rw [HB.out]; exact hd.below.size)
    clear hb hd
    go_wp2_with (first | (go_at_call 9; (with_reducible refine Calls.mono (HALL.out _ True HD.out HS.out) ?_); rintro e w2 ⟨rfl, hb2⟩; have HB2 := Aside0.mk hb2; clear hb2))
    go_ret
    exact ⟨rfl, HB2.out⟩
  | false =>
    have HLN := Aside0.mk (hb rfl)
    have HD := Aside0.mk (show Below B w w1 by rw [HB.out]; exact hd.below)
    have HS := Aside0.mk (show B ≤ w1.heap.size by rw [HB.out]; exact hd.below.size)
    clear hb hd
    go_wp2_with fail
    go_at_call 8
    have hf : Calls Try.prog 8 #[.slice (some ⟨w1.heap.size, 0, none⟩) 1 1] (w1.alloc (.cells #[.string s] 9)) _ := far_calls _ [s] _ (rd_lit w1 [s] (by simp)) (by simp)
    with_reducible refine Calls.mono hf ?_
    clear hf
    rintro e w2 ⟨b, rfl, -, hd⟩
    have HD2 := Aside0.mk (show Below B w w2 from (HD.out.trans ((below_alloc (Below.refl _ _) _).mono HS.out)).trans (hd.below.mono (by have := HS.out; simp; omega)))
    have HS2 := Aside0.mk (show B ≤ w2.heap.size by have h0 := HS.out; have := hd.below.size; simp at this; omega)
    have HRW := Aside0.mk (show Rd w2 (.slice A n cp) l from ((HR.out.below (by rw [← HB.out]; exact HD2.out))))
    clear hd
    cases b with
    | true =>
      go_wp2_with (first | (go_at_call 9; (with_reducible refine Calls.mono (HALL.out _ True HD2.out HS2.out) ?_); rintro e w2 ⟨rfl, hb2⟩; have HB2 := Aside0.mk hb2; clear hb2))
      go_ret
      exact ⟨rfl, HB2.out⟩
    | false =>
      go_wp2_with fail
      go_at_call 10
      have hnw : Calls Try.prog 10 #[.slice A n cp] w2 (fun e W' => ∃ g, e = .returned (.pointer (some ⟨g, 0, none⟩)) ∧ w2.heap.size ≤ g ∧ St w B g l W' ∧ Below w2.heap.size w2 W') := by
        obtain ⟨A', c', e', hc', hr'⟩ := HRW.out
        injection e' with e1 e2 e3
        subst e1
        subst e3
        rw [Hn.out]
        exact St.new HD2.out HS2.out hr' (by have := HLN.out; omega)
      with_reducible refine Calls.mono hnw ?_
      clear hnw
      rintro e w3 ⟨g, rfl, -, h3, hb3⟩
      have H3 := Aside0.mk h3
      have HR3 := Aside0.mk (HRW.out.below hb3)
      have H3S := Aside0.mk (show w2.heap.size ≤ w3.heap.size from hb3.size)
      clear h3 hb3
      go_wp2_with fail
      go_at_call 11
      with_reducible refine Calls.mono (drop_calls w B g l c s w3 H3.out HC.out (by have := HLN.out; have := Hn.out; omega)) ?_
      rintro e w4 ⟨rfl, h4⟩
      have H4 := Aside0.mk h4
      have HR4 := Aside0.mk (show Rd w4 (.slice A n cp) l from HR.out.below (by rw [← HB.out]; exact H4.out.out))
      have HN4 := Aside0.mk (show (dropL l c s).1.length + (dropL l c s).2 = n by rw [Hn.out]; exact dropL_len l c s)
      clear h4
      go_wp2_with fail
      go_at_call 12
      with_reducible refine Calls.mono (rdrop_calls _ l c s w4 HR4.out (by have := HLN.out; have := Hn.out; omega) HC.out) ?_
      rintro e w5 ⟨v5, rfl, hr5, hb5, -⟩
      have H5 := Aside0.mk (H4.out.below hb5)
      have HR5 := Aside0.mk hr5
      clear hr5 hb5
      obtain ⟨m, hm⟩ : ∃ m, m = (dropL l c s).2 := ⟨_, rfl⟩
      have d5 : (((m : Nat) : Int) == ((m : Nat) : Int)) = true := beq_self_eq_true _
      rw [← hm]
      go_wp2_with fail
      go_at_call 14
      with_reducible refine Calls.mono H5.out.all ?_
      rintro e w6 ⟨v6, rfl, hr6, hb6, -⟩
      have H6 := Aside0.mk (H5.out.below hb6)
      have HR6 := Aside0.mk hr6
      have HRL := Aside0.mk (HR5.out.below hb6)
      clear hr6 hb6
      go_wp2_with fail
      go_at_call 13
      with_reducible refine Calls.mono (rsame_calls _ _ (dropL l c s).1 _ HR6.out HRL.out (by have := HN4.out; have := Hn.out; have := HLN.out; omega)) ?_
      rintro e w7 ⟨rfl, hw7⟩
      have H7 := Aside0.mk (H6.out.below hw7.below)
      clear hw7
      go_wp2_with (first | (go_at_call 9; (with_reducible refine Calls.mono (HALL.out _ True H7.out.out H7.out.size) ?_); rintro e w8 ⟨rfl, hb8⟩; have HB8 := Aside0.mk hb8; clear hb8))
      go_ret
      exact ⟨rfl, HB8.out⟩
end Go.Proofs.Ytbficlkjlhigjaa.Dq
namespace Go.Proofs.Ytbficlkjlhigjaa.X
set_option linter.unusedVariables false
open Go.RowKit Go.Proofs.YtbficlkjlhigjaaW.PrintWords Go.Proofs.YtbficlkjlhigjaaW.PrintMore Go.Proofs.YtbficlkjlhigjaaW.PrintLast Go.Proofs.Ytbficlkjlhigjaa.Dq
theorem mewslaw21_ListDrops.calls (k : Nat) (A0 : Option Addr) (c0 : Nat) (l0 : List ByteArray) (a1 : Int) (a2 : ByteArray) (r : Bool) (w : World) (hr0 : Kd.C Kd.string w A0 l0.length l0) (hc0 : l0.length ≤ c0) (hr_ : Aside0 (r = true)) (h : mewslaw21_ListDrops.f k l0 a1 a2 = some r) :
    Calls Try.prog 3 #[.slice A0 l0.length c0, .int .i64 a1, .string a2] w fun e w' => e = .returned (.bool r) ∧ Below w.heap.size w w' := by
  have hbd : BdL l0 a1 := by
    unfold mewslaw21_ListDrops.f at h
    by_cases q : BdL l0 a1
    · exact q
    · rw [if_neg q] at h; cases h
  rw [hr_.out]
  exact drops_calls A0 c0 l0 a1 a2 w (readsOf_of_C hr0) hc0 hbd.1 hbd.2
end Go.Proofs.Ytbficlkjlhigjaa.X
