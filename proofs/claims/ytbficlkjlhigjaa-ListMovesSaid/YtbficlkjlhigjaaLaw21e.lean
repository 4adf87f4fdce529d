/- The contract of the statement ListMoves, walked by hand. -/
import Derived.Test.YtbficlkjlhigjaaLaw21a
import Derived.Test.YtbficlkjlhigjaaListRef3
import Derived.Test.YtbficlkjlhigjaaListMove
namespace Go.Proofs.Ytbficlkjlhigjaa.X
set_option linter.unusedVariables false
/-- The statement's own bounds. -/
def BdM (l m : List ByteArray) : Prop := l.length ≤ 9223372036854775000 ∧ m.length ≤ 9223372036854775000
open Classical in
noncomputable def mewslaw21_ListMoves.f (_k : Nat) (l0 l1 : List ByteArray) (how : Int) : Option Bool := if BdM l0 l1 then some true else none
end Go.Proofs.Ytbficlkjlhigjaa.X
namespace Go.Proofs.Ytbficlkjlhigjaa.Dq
open Go.RowKit Go.Proofs.YtbficlkjlhigjaaW.PrintWords Go.Proofs.YtbficlkjlhigjaaW.PrintMore Go.Proofs.YtbficlkjlhigjaaW.PrintLast Go.Proofs.Ytbficlkjlhigjaa.X Go.Proofs.Ytbficlkjlhigjaa.Y
set_option linter.unusedVariables false
set_option linter.unusedSimpArgs false
attribute [local go_sem ↓] Go.wp_at_zero Go.wp_at_succ
theorem St.newRd {w W : World} {B : Nat} {v : Value} {l : List ByteArray} (hB : Below B w W) (hs : B ≤ W.heap.size) (hr : Rd W v l) (hl : l.length < 1048576) :
    Calls Try.prog 10 #[v] W fun e W' => ∃ g, e = .returned (.pointer (some ⟨g, 0, none⟩)) ∧ St w B g l W' ∧ Below W.heap.size W W' := by
  obtain ⟨A, c, rfl, hc, hr⟩ := hr
  refine (St.new hB hs hr hl).mono fun e W' he => ?_
  obtain ⟨g, rfl, _, h, hb⟩ := he
  exact ⟨g, rfl, h, hb⟩
theorem SD.of_new {w w3 w4 : World} {B g g' : Nat} {l m : List ByteArray} (h3 : St w B g l w3) (h4 : St w3 w3.heap.size g' m w4) : SD w B g g' l m w4 := by
  obtain ⟨row, hd, hB, hs⟩ := h3
  obtain ⟨row', he, hb', _⟩ := h4
  exact SD.mk_ hd he hb' hB hs
set_option maxHeartbeats 8000000 in
set_option maxRecDepth 100000 in
theorem moves_calls (v0 v1 : Value) (l m : List ByteArray) (how : Int) (w : World) (hr : Rd w v0 l) (hr1 : Rd w v1 m) (hl : l.length ≤ 9223372036854775000) (hm : m.length ≤ 9223372036854775000) :
    Calls Try.prog 6 #[v0, v1, .int .i64 how] w fun e w' => e = .returned (.bool true) ∧ Below w.heap.size w w' := by
  have HR := Aside0.mk hr
  have HM := Aside0.mk hr1
  have HFAR := Aside0.mk (far_calls _ l w hr hl)
  have HLM := Aside0.mk hm
  obtain ⟨B, hB⟩ : ∃ B, B = w.heap.size := ⟨_, rfl⟩
  rw [← hB]
  have HB := Aside0.mk hB
  have HALL := Aside0.mk (fun (W : World) (p : Prop) (hp : Below B w W) (hs : B ≤ W.heap.size) => (⟨(alive_calls W).mono fun e w' he => ⟨he.1, hp.trans (he.2.mono hs)⟩, trivial⟩ : Calls Try.prog 9 #[] W (fun e w' => e = .returned (.bool true) ∧ Below B w w') ∧ True).1)
  obtain ⟨a, ha⟩ : ∃ a, (Go.bits .and .i64 how 1 == 1) = a := ⟨_, rfl⟩
  obtain ⟨b, hb⟩ : ∃ b, (Go.bits .and .i64 how 2 == 2) = b := ⟨_, rfl⟩
  clear hr hr1 hl hm hB
  go_enter Try.func6, Try.ntmps6
  go_wp2_with fail
  go_at_call 8
  with_reducible refine Calls.mono HFAR.out ?_
  rintro e w1 ⟨fl, rfl, hfl, hd⟩
  have HD := Aside0.mk (show Below B w w1 by rw [HB.out]; exact hd.below)
  have HS := Aside0.mk (show B ≤ w1.heap.size by rw [HB.out]; exact hd.below.size)
  clear hd
  cases fl with
  | true =>
    clear hfl
    go_wp2_with (first | (go_at_call 9; (with_reducible refine Calls.mono (HALL.out _ True HD.out HS.out) ?_); rintro e w2 ⟨rfl, hb2⟩; have HB2 := Aside0.mk hb2; clear hb2))
    go_ret
    exact ⟨rfl, HB2.out⟩
  | false =>
    have HLN := Aside0.mk (hfl rfl)
    have HM1 := Aside0.mk (show Rd w1 v1 m from HM.out.below (by rw [← HB.out]; exact HD.out))
    clear hfl
    go_wp2_with fail
    go_at_call 8
    with_reducible refine Calls.mono (far_calls _ m _ HM1.out HLM.out) ?_
    rintro e w2 ⟨fm, rfl, hfm, hd⟩
    have HD2 := Aside0.mk (HD.out.trans (hd.below.mono HS.out))
    have HS2 := Aside0.mk (show B ≤ w2.heap.size from Nat.le_trans HS.out hd.below.size)
    clear hd
    cases fm with
    | true =>
      clear hfm
      go_wp2_with (first | (go_at_call 9; (with_reducible refine Calls.mono (HALL.out _ True HD2.out HS2.out) ?_); rintro e w2 ⟨rfl, hb2⟩; have HB2 := Aside0.mk hb2; clear hb2))
      go_ret
      exact ⟨rfl, HB2.out⟩
    | false =>
      have HLN2 := Aside0.mk (hfm rfl)
      have HR2 := Aside0.mk (show Rd w2 v0 l from HR.out.below (by rw [← HB.out]; exact HD2.out))
      clear hfm
      go_wp2_with fail
      go_at_call 10
      with_reducible refine Calls.mono (St.newRd HD2.out HS2.out HR2.out (by have := HLN.out; omega)) ?_
      rintro e w3 ⟨g, rfl, h3, hb3⟩
      have H3 := Aside0.mk h3
      have HM3 := Aside0.mk (show Rd w3 v1 m from HM.out.below (by rw [← HB.out]; exact h3.out))
      clear h3 hb3 ha hb
      go_wp2_with fail
      go_at_call 10
      with_reducible refine Calls.mono (St.newRd (w := w3) (B := w3.heap.size) (Below.refl _ _) (Nat.le_refl _) HM3.out (by have := HLN2.out; omega)) ?_
      rintro e w4 ⟨g', rfl, h4, hb4⟩
      have H4 := Aside0.mk (SD.of_new H3.out h4)
      clear h4 hb4
      go_wp2_with fail
      go_at_call 18
      with_reducible refine Calls.mono (move_two a b H4.out (by have := HLN2.out; omega)) ?_
      rintro e w5 ⟨rfl, h5⟩
      obtain ⟨X, hX⟩ : ∃ X, X = popX a l := ⟨_, rfl⟩
      have HXX := Aside0.mk hX
      obtain ⟨E, hE⟩ : ∃ E, E = l.isEmpty := ⟨_, rfl⟩
      have HEE := Aside0.mk hE
      rw [← hX, ← hE] at h5 ⊢
      have H5 := Aside0.mk h5
      have HR5 := Aside0.mk (show Rd w5 v0 l from HR.out.below (by rw [← HB.out]; exact h5.st.out))
      have HPL := Aside0.mk (popR_len a l)
      clear hX hE h5
      have x1 : (X.toList != X.toList) = false := by simp
      have x2 : (X.toList == X.toList) = true := beq_self_eq_true _
      go_wp2_with fail
      go_at_call 19
      have hp : Calls Try.prog 19 #[v0, .bool a] w5 (fun e w' => ∃ v', e = .returned (.tuple #[v', .string X, .bool (!E)]) ∧ Rd w' v' (popR a l) ∧ Below w5.heap.size w5 w') := by
        rw [HXX.out, HEE.out]
        refine (rpop_calls v0 l a w5 HR5.out (by have := HLN.out; omega)).mono fun e w' he => ?_
        obtain ⟨v', rfl, h1, h2, _⟩ := he
        exact ⟨v', rfl, h1, h2⟩
      with_reducible refine Calls.mono hp ?_
      clear hp
      rintro e w6 ⟨v6, rfl, hr6, hb6⟩
      have H6 := Aside0.mk (H5.out.below hb6)
      have HR6 := Aside0.mk hr6
      clear hr6 hb6
      cases E with
      | true =>
        have HM6 := Aside0.mk (show Rd w6 v1 m from HM.out.below (by rw [← HB.out]; exact H6.out.st.out))
        have H6t : Aside0 (SD w B g g' (popR a l) m w6) := ⟨H6.out⟩
        go_wp2_with fail
        go_at_call 14
        with_reducible refine Calls.mono H6t.out.st.all ?_
        rintro e wa ⟨va, rfl, hra, hba, -⟩
        have Ha := Aside0.mk (H6t.out.below hba)
        have HRa := Aside0.mk hra
        have HRa2 := Aside0.mk (HR6.out.below hba)
        have HMa := Aside0.mk (HM6.out.below hba)
        clear hra hba
        go_wp2_with fail
        go_at_call 13
        with_reducible refine Calls.mono (rsame_calls _ _ (popR a l) _ HRa.out HRa2.out (by have := HPL.out; have := HLN.out; omega)) ?_
        rintro e wb ⟨rfl, hwb⟩
        have Hb := Aside0.mk (Ha.out.below hwb.below)
        have HRb := Aside0.mk (HRa2.out.below hwb.below)
        have HMb := Aside0.mk (HMa.out.below hwb.below)
        clear hwb
        go_wp2_with fail
        go_at_call 14
        with_reducible refine Calls.mono Hb.out.symm.st.all ?_
        rintro e wc ⟨vc, rfl, hrc, hbc, -⟩
        have Hc := Aside0.mk (Hb.out.below hbc)
        have HRc := Aside0.mk (HRb.out.below hbc)
        have HMc := Aside0.mk (HMb.out.below hbc)
        have HMc2 := Aside0.mk hrc
        clear hrc hbc
        go_wp2_with fail
        go_at_call 13
        with_reducible refine Calls.mono (rsame_calls _ _ (m) _ HMc2.out HMc.out (by first | (have := HLN2.out; omega) | (rw [pushL_len]; have := HLN2.out; omega))) ?_
        rintro e wd ⟨rfl, hwd⟩
        have Hd := Aside0.mk (Hc.out.below hwd.below)
        have HRd := Aside0.mk (HRc.out.below hwd.below)
        have HL_d := Aside0.mk (show Rd wd v0 l from HR.out.below (by rw [← HB.out]; exact Hd.out.st.out))
        clear hwd
        go_wp2_with fail
        go_at_call 10
        with_reducible refine Calls.mono (St.newRd (w := wd) (B := wd.heap.size) (Below.refl _ _) (Nat.le_refl _) HL_d.out (by have := HLN.out; omega)) ?_
        rintro e we ⟨g3, rfl, he, hbe⟩
        have He := Aside0.mk he
        clear he hbe
        go_wp2_with fail
        go_at_call 18
        have hp : Calls Try.prog 18 #[.pointer (some ⟨g3, 0, none⟩), .pointer (some ⟨g3, 0, none⟩), .bool a, .bool b] we (fun e W' => e = .returned (.tuple #[.string X, .bool (!true)]) ∧ St wd wd.heap.size g3 (popR a l) W') := by
          have h := move_same a b He.out (by have := HLN.out; omega)
          rw [← HXX.out, ← HEE.out] at h
          exact h
        with_reducible refine Calls.mono hp ?_
        clear hp
        rintro e wf ⟨rfl, hf⟩
        have Hf := Aside0.mk hf
        have HRf := Aside0.mk (HRd.out.below hf.out)
        clear hf
        have Hg := Hf
        have HRg := HRf
        go_wp2_with (first | (go_at_call 18; (with_reducible refine Calls.mono (move_nil _ a b _) ?_); rintro e w' ⟨rfl, rfl⟩))
        go_at_call 14
        with_reducible refine Calls.mono Hg.out.all ?_
        rintro e wh ⟨vh, rfl, hrh, hbh, -⟩
        have Hh := Aside0.mk (Hg.out.below hbh)
        have HRh := Aside0.mk hrh
        have HRh2 := Aside0.mk (HRg.out.below hbh)
        clear hrh hbh
        go_wp2_with fail
        go_at_call 13
        with_reducible refine Calls.mono (rsame_calls _ _ (popR a l) _ HRh.out HRh2.out (by first | (have := HPL.out; have := HLN.out; omega) | (rw [pushL_len]; have := HPL.out; have := HLN.out; omega))) ?_
        rintro e wi ⟨rfl, hwi⟩
        have HOi := Aside0.mk (Hd.out.st.out.trans ((Hh.out.below hwi.below).out.mono Hd.out.st.size))
        have HSi := Aside0.mk (Nat.le_trans Hd.out.st.size (Hh.out.below hwi.below).size)
        clear hwi
        go_wp2_with (first | (go_at_call 9; (with_reducible refine Calls.mono (HALL.out _ True HOi.out HSi.out) ?_); rintro e w8 ⟨rfl, hb8⟩; have HB8 := Aside0.mk hb8; clear hb8))
        go_ret
        exact ⟨rfl, HB8.out⟩
      | false =>
        have HM6 := Aside0.mk (show Rd w6 v1 m from HM.out.below (by rw [← HB.out]; exact H6.out.st.out))
        have H6t : Aside0 (SD w B g g' (popR a l) (pushL b m X) w6) := ⟨H6.out⟩
        go_wp2_with fail
        go_at_call 20
        have hp : Calls Try.prog 20 #[v1, .bool b, .string X] w6 (fun e w' => ∃ v', e = .returned v' ∧ Rd w' v' (pushL b m X) ∧ Below w6.heap.size w6 w') := by
          refine (rpush_calls v1 m b X w6 HM6.out (by have := HLN2.out; omega)).mono fun e w' he => ?_
          obtain ⟨v', rfl, h1, h2, _⟩ := he
          exact ⟨v', rfl, h1, h2⟩
        with_reducible refine Calls.mono hp ?_
        clear hp
        rintro e w7 ⟨v7, rfl, hr7, hb7⟩
        have H7 := Aside0.mk (H6t.out.below hb7)
        have HR7 := Aside0.mk (HR6.out.below hb7)
        have HM7 := Aside0.mk hr7
        clear hr7 hb7
        go_wp2_with fail
        go_at_call 14
        with_reducible refine Calls.mono H7.out.st.all ?_
        rintro e wa ⟨va, rfl, hra, hba, -⟩
        have Ha := Aside0.mk (H7.out.below hba)
        have HRa := Aside0.mk hra
        have HRa2 := Aside0.mk (HR7.out.below hba)
        have HMa := Aside0.mk (HM7.out.below hba)
        clear hra hba
        go_wp2_with fail
        go_at_call 13
        with_reducible refine Calls.mono (rsame_calls _ _ (popR a l) _ HRa.out HRa2.out (by have := HPL.out; have := HLN.out; omega)) ?_
        rintro e wb ⟨rfl, hwb⟩
        have Hb := Aside0.mk (Ha.out.below hwb.below)
        have HRb := Aside0.mk (HRa2.out.below hwb.below)
        have HMb := Aside0.mk (HMa.out.below hwb.below)
        clear hwb
        go_wp2_with fail
        go_at_call 14
        with_reducible refine Calls.mono Hb.out.symm.st.all ?_
        rintro e wc ⟨vc, rfl, hrc, hbc, -⟩
        have Hc := Aside0.mk (Hb.out.below hbc)
        have HRc := Aside0.mk (HRb.out.below hbc)
        have HMc := Aside0.mk (HMb.out.below hbc)
        have HMc2 := Aside0.mk hrc
        clear hrc hbc
        go_wp2_with fail
        go_at_call 13
        with_reducible refine Calls.mono (rsame_calls _ _ (pushL b m X) _ HMc2.out HMc.out (by first | (have := HLN2.out; omega) | (rw [pushL_len]; have := HLN2.out; omega))) ?_
        rintro e wd ⟨rfl, hwd⟩
        have Hd := Aside0.mk (Hc.out.below hwd.below)
        have HRd := Aside0.mk (HRc.out.below hwd.below)
        have HL_d := Aside0.mk (show Rd wd v0 l from HR.out.below (by rw [← HB.out]; exact Hd.out.st.out))
        clear hwd
        go_wp2_with fail
        go_at_call 10
        with_reducible refine Calls.mono (St.newRd (w := wd) (B := wd.heap.size) (Below.refl _ _) (Nat.le_refl _) HL_d.out (by have := HLN.out; omega)) ?_
        rintro e we ⟨g3, rfl, he, hbe⟩
        have He := Aside0.mk he
        clear he hbe
        go_wp2_with fail
        go_at_call 18
        have hp : Calls Try.prog 18 #[.pointer (some ⟨g3, 0, none⟩), .pointer (some ⟨g3, 0, none⟩), .bool a, .bool b] we (fun e W' => e = .returned (.tuple #[.string X, .bool (!false)]) ∧ St wd wd.heap.size g3 (pushL b (popR a l) X) W') := by
          have h := move_same a b He.out (by have := HLN.out; omega)
          rw [← HXX.out, ← HEE.out] at h
          exact h
        with_reducible refine Calls.mono hp ?_
        clear hp
        rintro e wf ⟨rfl, hf⟩
        have Hf := Aside0.mk hf
        have HRf := Aside0.mk (HRd.out.below hf.out)
        clear hf
        go_wp2_with fail
        go_at_call 20
        have hp : Calls Try.prog 20 #[v6, .bool b, .string X] wf (fun e w' => ∃ v', e = .returned v' ∧ Rd w' v' (pushL b (popR a l) X) ∧ Below wf.heap.size wf w') := by
          refine (rpush_calls v6 (popR a l) b X wf HRf.out (by have := HPL.out; have := HLN.out; omega)).mono fun e w' he => ?_
          obtain ⟨v', rfl, h1, h2, _⟩ := he
          exact ⟨v', rfl, h1, h2⟩
        with_reducible refine Calls.mono hp ?_
        clear hp
        rintro e wg ⟨vg, rfl, hrg, hbg⟩
        have Hg := Aside0.mk (Hf.out.below hbg)
        have HRg := Aside0.mk hrg
        clear hrg hbg
        go_wp2_with (first | (go_at_call 18; (with_reducible refine Calls.mono (move_nil _ a b _) ?_); rintro e w' ⟨rfl, rfl⟩))
        go_at_call 14
        with_reducible refine Calls.mono Hg.out.all ?_
        rintro e wh ⟨vh, rfl, hrh, hbh, -⟩
        have Hh := Aside0.mk (Hg.out.below hbh)
        have HRh := Aside0.mk hrh
        have HRh2 := Aside0.mk (HRg.out.below hbh)
        clear hrh hbh
        go_wp2_with fail
        go_at_call 13
        with_reducible refine Calls.mono (rsame_calls _ _ (pushL b (popR a l) X) _ HRh.out HRh2.out (by first | (have := HPL.out; have := HLN.out; omega) | (rw [pushL_len]; have := HPL.out; have := HLN.out; omega))) ?_
        rintro e wi ⟨rfl, hwi⟩
        have HOi := Aside0.mk (Hd.out.st.out.trans ((Hh.out.below hwi.below).out.mono Hd.out.st.size))
        have HSi := Aside0.mk (Nat.le_trans Hd.out.st.size (Hh.out.below hwi.below).size)
        clear hwi
        go_wp2_with (first | (go_at_call 9; (with_reducible refine Calls.mono (HALL.out _ True HOi.out HSi.out) ?_); rintro e w8 ⟨rfl, hb8⟩; have HB8 := Aside0.mk hb8; clear hb8))
        go_ret
        exact ⟨rfl, HB8.out⟩
end Go.Proofs.Ytbficlkjlhigjaa.Dq
namespace Go.Proofs.Ytbficlkjlhigjaa.X
set_option linter.unusedVariables false
open Go.RowKit Go.Proofs.YtbficlkjlhigjaaW.PrintWords Go.Proofs.YtbficlkjlhigjaaW.PrintMore Go.Proofs.YtbficlkjlhigjaaW.PrintLast Go.Proofs.Ytbficlkjlhigjaa.Dq
theorem mewslaw21_ListMoves.calls (k : Nat) (A0 : Option Addr) (c0 : Nat) (l0 : List ByteArray) (A1 : Option Addr) (c1 : Nat) (l1 : List ByteArray) (a2 : Int) (r : Bool) (w : World) (hr0 : Kd.C Kd.string w A0 l0.length l0) (hc0 : l0.length ≤ c0) (hr1 : Kd.C Kd.string w A1 l1.length l1) (hc1 : l1.length ≤ c1) (hr_ : Aside0 (r = true)) (h : mewslaw21_ListMoves.f k l0 l1 a2 = some r) :
    Calls Try.prog 6 #[.slice A0 l0.length c0, .slice A1 l1.length c1, .int .i64 a2] w fun e w' => e = .returned (.bool r) ∧ Below w.heap.size w w' := by
  have hbd : BdM l0 l1 := by
    unfold mewslaw21_ListMoves.f at h
    by_cases q : BdM l0 l1
    · exact q
    · rw [if_neg q] at h; cases h
  rw [hr_.out]
  exact moves_calls _ _ l0 l1 a2 w ⟨A0, c0, rfl, hc0, readsOf_of_C hr0⟩ ⟨A1, c1, rfl, hc1, readsOf_of_C hr1⟩ hbd.1 hbd.2
end Go.Proofs.Ytbficlkjlhigjaa.X
