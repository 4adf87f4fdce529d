/- The contract of the statement GlobQuotes, walked by hand. -/
import Derived.Test.YtncdoanemfnjjaaGlLaw
import Derived.Test.YtncdoanemfnjjaaGlPlainW
import Derived.Test.YtncdoanemfnjjaaGlQuote
namespace Go.Proofs.Ytncdoanemfnjjaa.X
noncomputable def mewslaw02_GlobQuotes.f (_k : Nat) (_p : ByteArray) (l : List ByteArray) : Option Bool := if l.length ≤ 140737488351232 then some true else none
end Go.Proofs.Ytncdoanemfnjjaa.X
namespace Go.Proofs.Ytncdoanemfnjjaa.Gl
open Go.RowKit Go.Proofs.YtncdoanemfnjjaaW.PrintWords Go.Proofs.YtncdoanemfnjjaaW.PrintMore Go.Proofs.YtncdoanemfnjjaaW.PrintLast Go.Proofs.Ytncdoanemfnjjaa.Y Go.Proofs.Ytncdoanemfnjjaa.X Go.Proofs.Ytncdoanemfnjjaa.Pure
set_option linter.unusedVariables false
set_option linter.unusedSimpArgs false
/-- A row of texts that was given back. -/
def RC (W : World) (A : Option Addr) (c : Nat) (l : List ByteArray) : Prop := l.length ≤ c ∧ Kd.C Kd.string W A l.length l
theorem RC.below {W W1 : World} {A : Option Addr} {c : Nat} {l : List ByteArray} (h : RC W A c l) (hb : Below W.heap.size W W1) : RC W1 A c l := ⟨h.1, Kd.C_below h.2 hb⟩
theorem gplain_con (p : ByteArray) (hp : p.size ≤ 1000) (W : World) : Calls Try.prog 11 #[.string p] W fun e w' => e = .returned (.tuple #[.string (plainR [] (plainL p.data.toList)).1, .bool (plainR [] (plainL p.data.toList)).2]) ∧ Below W.heap.size W w' := by
  obtain ⟨k, hk⟩ := (plain_ev p hp).rounds
  exact glob_Plain.calls k p _ _ W hk
theorem gquote_con (p : ByteArray) (hp : p.size ≤ 1000) (W : World) : Calls Try.prog 12 #[.string p] W fun e w' => e = .returned (.string (ofL (quoteL p.data.toList))) ∧ Below W.heap.size W w' := by
  obtain ⟨k, hk⟩ := (quote_ev p hp).rounds
  exact glob_Quote.calls k p _ W hk
theorem rquote_con (p : ByteArray) (hp : p.size ≤ 1000) (W : World) : Calls Try.prog 14 #[.string p] W fun e w' => e = .returned (.string (ofL (quoteL p.data.toList))) ∧ Below W.heap.size W w' := by
  obtain ⟨k, hk⟩ := (rquote_ev p hp).rounds
  exact (mewsref02_Quote.calls k p _ W hk).mono (fun e w' h => ⟨h.1, h.2.below⟩)
theorem gall_con (p : ByteArray) (hp : p.size ≤ 1000) (l : List ByteArray) (hl : l.length ≤ 1000) (hs : ∀ s ∈ l, s.size ≤ 1000) (A : Option Addr) (c : Nat) (hc : l.length ≤ c) (W : World) (hr : Kd.C Kd.string W A l.length l) :
    Calls Try.prog 16 #[.string p, .slice A l.length c] W fun e w' => ∃ X y, e = .returned (.slice X (l.filter (fun s => matchL p.data.toList s.data.toList)).length y) ∧ RC w' X y (l.filter (fun s => matchL p.data.toList s.data.toList)) ∧ Below W.heap.size W w' := by
  obtain ⟨k, hk⟩ := (gall_ev p hp l hl hs).rounds
  refine (glob_All.calls k p A c l _ W hr hc hk).mono (fun e w' h => ?_)
  obtain ⟨v, he, hR, hB⟩ := h
  obtain ⟨X, y, hv, h1, h2⟩ := Kd.R_reads hR
  subst hv
  exact ⟨X, y, he, ⟨h1, h2⟩, hB⟩
theorem rall_con (p : ByteArray) (hp : p.size ≤ 1000) (l : List ByteArray) (hl : l.length ≤ 1000) (hs : ∀ s ∈ l, s.size ≤ 1000) (A : Option Addr) (c : Nat) (hc : l.length ≤ c) (W : World) (hr : Kd.C Kd.string W A l.length l) :
    Calls Try.prog 17 #[.string p, .slice A l.length c] W fun e w' => ∃ X y, e = .returned (.slice X (l.filter (fun s => matchL p.data.toList s.data.toList)).length y) ∧ RC w' X y (l.filter (fun s => matchL p.data.toList s.data.toList)) ∧ Below W.heap.size W w' := by
  refine (rall_calls p hp l hl hs A c hc W hr).mono (fun e w' h => ?_)
  obtain ⟨v, he, hR, hB⟩ := h
  obtain ⟨X, y, hv, h1, h2⟩ := Kd.R_reads hR
  subst hv
  exact ⟨X, y, he, ⟨h1, h2⟩, hB⟩
theorem same_con (l : List ByteArray) (hl : l.length ≤ 1000000000) (W : World) (A B : Option Addr) (c d : Nat) (h1 : RC W A c l) (h2 : RC W B d l) : Calls Try.prog 15 #[.slice A l.length c, .slice B l.length d] W fun e w' => e = .returned (.bool true) ∧ Below W.heap.size W w' := by
  obtain ⟨k, hk⟩ := (same2_ev l hl).rounds
  exact (mewsref02_Same.calls k A c l B d l true W h1.2 h1.1 h2.2 h2.1 hk).mono (fun e w' h => ⟨h.1, h.2.below⟩)
set_option maxHeartbeats 4000000 in
set_option maxRecDepth 100000 in
theorem gquotes_calls (p : ByteArray) (l : List ByteArray) (hl : l.length ≤ 140737488351232) (A : Option Addr) (n c : Nat) (hn : n = l.length) (hc : n ≤ c) (w : World) (hr : Kd.C Kd.string w A l.length l) : Calls Try.prog 6 #[.string p, .slice A n c] w fun e w' => e = .returned (.bool true) ∧ Below w.heap.size w w' := by
  have BB := Aside0.mk (Below.refl w.heap.size w)
  obtain ⟨b1, hb1⟩ : ∃ b1, b1 = farB [p] := ⟨_, rfl⟩
  obtain ⟨b2, hb2⟩ : ∃ b2, b2 = farB l := ⟨_, rfl⟩
  have HF1 := Aside0.mk (fun (W : World) (A : Option Addr) h => (show Calls Try.prog 7 #[.slice A 1 1] W (fun e w' => e = .returned (.bool b1) ∧ Below W.heap.size W w') from by rw [hb1]; exact far_con [p] (by simp) W A 1 (Nat.le_refl _) h))
  have HF2 := Aside0.mk (fun (W : World) (h : Kd.C Kd.string W A l.length l) => (show Calls Try.prog 7 #[.slice A n c] W (fun e w' => e = .returned (.bool b2) ∧ Below W.heap.size W w') from by rw [hb2, hn]; exact far_con l hl W A c (by omega) h))
  have HN1 := Aside0.mk (fun (e : b1 = false) => far_no (hb1.symm.trans e))
  have HN2 := Aside0.mk (fun (e : b2 = false) => far_no (hb2.symm.trans e))
  have HR := Aside0.mk hr
  have HNN := Aside0.mk hn
  have HC := Aside0.mk hc
  clear hb1 hb2 hr hn hc hl
  go_enter Try.func6, Try.ntmps6
  go_wp2_with (first | ((with_reducible refine gate_dst (N := 10) rfl ?_); refine lit_event ?hg (N := 10) ?hd (cs := #[.string p]) (t := 9) (n := 1) ?hr ?_; (case hd => rfl); (case hg => rfl); (case hr => first | (go_simp; done) | (go_simp; rfl)); intro h7 hg w1 hbox hb; have T_ := Aside0.mk (below_tr BB.out hb); clear BB; have BB := T_; clear T_; have R7 := Aside0.mk (lit_C (W := w1) [p] hbox (by simp [maxLen])); clear hbox hb hg))
  go_at_call 7
  with_reducible refine Calls.mono (HF1.out _ _ R7.out) ?_
  rintro e w2 ⟨rfl, hb⟩
  have T_ := Aside0.mk (below_tr BB.out hb)
  clear BB
  have BB := T_
  clear T_
  clear hb HF1 R7
  cases b1 with
  | true =>
    go_wp2_with (first | (go_at_call 8; (with_reducible refine Calls.mono (alive_con _) ?_); rintro e wx ⟨rfl, hb⟩; have T_ := Aside0.mk (below_tr BB.out hb); clear BB; have BB := T_; clear T_; clear hb))
    go_ret
    exact ⟨rfl, BB.out⟩
  | false =>
    go_wp2_with fail
    go_at_call 7
    with_reducible refine Calls.mono (HF2.out _ (Kd.C_below HR.out BB.out)) ?_
    rintro e w3 ⟨rfl, hb⟩
    have T_ := Aside0.mk (below_tr BB.out hb)
    clear BB
    have BB := T_
    clear T_
    clear hb HF2
    cases b2 with
    | true =>
      go_wp2_with (first | (go_at_call 8; (with_reducible refine Calls.mono (alive_con _) ?_); rintro e wx ⟨rfl, hb⟩; have T_ := Aside0.mk (below_tr BB.out hb); clear BB; have BB := T_; clear T_; clear hb))
      go_ret
      exact ⟨rfl, BB.out⟩
    | false =>
      obtain ⟨_, hz⟩ := HN1.out (by first | rfl | trivial)
      obtain ⟨hl2, hz2⟩ := HN2.out (by first | rfl | trivial)
      have HP := Aside0.mk (show p.size ≤ 1000 from by have := hz p (by simp); omega)
      have HL := Aside0.mk (show l.length ≤ 1000 from by omega)
      have HS := Aside0.mk (show ∀ s ∈ l, s.size ≤ 1000 from fun s hs => by have := hz2 s hs; omega)
      clear HN1 HN2 hz hz2 hl2
      obtain ⟨a, q, haq⟩ : ∃ a q, plainR [] (plainL p.data.toList) = (a, q) := ⟨_, _, rfl⟩
      obtain ⟨u, hu⟩ : ∃ u, u = ofL (quoteL p.data.toList) := ⟨_, rfl⟩
      obtain ⟨F, hF⟩ : ∃ F, F = l.filter (fun s => matchL p.data.toList s.data.toList) := ⟨_, rfl⟩
      obtain ⟨m, hm⟩ : ∃ m, m = F.length := ⟨_, rfl⟩
      have HFL := Aside0.mk (show F.length ≤ 1000000000 from by have h1 := List.length_filter_le (fun s : ByteArray => matchL p.data.toList s.data.toList) l; rw [← hF] at h1; have := HL.out; omega)
      have P1 := Aside0.mk (fun (W : World) => (show Calls Try.prog 11 #[.string p] W (fun e w' => e = .returned (.tuple #[.string a, .bool q]) ∧ Below W.heap.size W w') from by have h := gplain_con p HP.out W; rw [haq] at h; exact h))
      have P2 := Aside0.mk (fun (W : World) => (show Calls Try.prog 13 #[.string p] W (fun e w' => e = .returned (.tuple #[.string a, .bool q]) ∧ Below W.heap.size W w') from by have h := rplain_calls p HP.out W; rw [haq] at h; exact h))
      have Q1 := Aside0.mk (fun (W : World) => (show Calls Try.prog 12 #[.string p] W (fun e w' => e = .returned (.string u) ∧ Below W.heap.size W w') from by rw [hu]; exact gquote_con p HP.out W))
      have Q2 := Aside0.mk (fun (W : World) => (show Calls Try.prog 14 #[.string p] W (fun e w' => e = .returned (.string u) ∧ Below W.heap.size W w') from by rw [hu]; exact rquote_con p HP.out W))
      have A1_ := Aside0.mk (fun (W : World) (h : Kd.C Kd.string W A l.length l) => (show Calls Try.prog 16 #[.string p, .slice A n c] W (fun e w' => ∃ X y, e = .returned (.slice X m y) ∧ RC w' X y F ∧ Below W.heap.size W w') from by rw [hm, hF, HNN.out]; exact gall_con p HP.out l HL.out HS.out A c (by rw [← HNN.out]; exact HC.out) W h))
      have A2_ := Aside0.mk (fun (W : World) (h : Kd.C Kd.string W A l.length l) => (show Calls Try.prog 17 #[.string p, .slice A n c] W (fun e w' => ∃ X y, e = .returned (.slice X m y) ∧ RC w' X y F ∧ Below W.heap.size W w') from by rw [hm, hF, HNN.out]; exact rall_con p HP.out l HL.out HS.out A c (by rw [← HNN.out]; exact HC.out) W h))
      have S1 := Aside0.mk (fun (W : World) (A B : Option Addr) (c d : Nat) (h1 : RC W A c F) (h2 : RC W B d F) => (show Calls Try.prog 15 #[.slice A m c, .slice B m d] W (fun e w' => e = .returned (.bool true) ∧ Below W.heap.size W w') from by rw [hm]; exact same_con F HFL.out W A B c d h1 h2))
      clear haq hu hF hm
      cases q
      all_goals
        go_wp2_with (first | (go_at_call 11; (with_reducible refine Calls.mono (P1.out _) ?_); rintro e wy ⟨rfl, hb⟩; have T_ := Aside0.mk (below_tr BB.out hb); clear BB; have BB := T_; clear T_; clear hb) | (go_at_call 13; (with_reducible refine Calls.mono (P2.out _) ?_); rintro e wy ⟨rfl, hb⟩; have T_ := Aside0.mk (below_tr BB.out hb); clear BB; have BB := T_; clear T_; clear hb) | (go_at_call 12; (with_reducible refine Calls.mono (Q1.out _) ?_); rintro e wy ⟨rfl, hb⟩; have T_ := Aside0.mk (below_tr BB.out hb); clear BB; have BB := T_; clear T_; clear hb) | (go_at_call 14; (with_reducible refine Calls.mono (Q2.out _) ?_); rintro e wy ⟨rfl, hb⟩; have T_ := Aside0.mk (below_tr BB.out hb); clear BB; have BB := T_; clear T_; clear hb) | (go_at_call 16; (with_reducible refine Calls.mono (A1_.out _ (Kd.C_below HR.out BB.out)) ?_); rintro e wy ⟨X1, y1, rfl, ho, hb⟩; have O1 := Aside0.mk ho; clear ho; have T_ := Aside0.mk (below_tr BB.out hb); clear BB; have BB := T_; clear T_; clear hb) | (go_at_call 17; (with_reducible refine Calls.mono (A2_.out _ (Kd.C_below HR.out BB.out)) ?_); rintro e wy ⟨X2, y2, rfl, ho, hb⟩; have O2 := Aside0.mk ho; clear ho; have O1' := Aside0.mk (O1.out.below hb); clear O1; have T_ := Aside0.mk (below_tr BB.out hb); clear BB; have BB := T_; clear T_; clear hb) | (go_at_call 15; (with_reducible refine Calls.mono (S1.out _ _ _ _ _ O1'.out O2.out) ?_); rintro e wy ⟨rfl, hb⟩; have T_ := Aside0.mk (below_tr BB.out hb); clear BB; have BB := T_; clear T_; clear hb) | (go_at_call 8; (with_reducible refine Calls.mono (alive_con _) ?_); rintro e wx ⟨rfl, hb⟩; have T_ := Aside0.mk (below_tr BB.out hb); clear BB; have BB := T_; clear T_; clear hb))
        go_ret
        exact ⟨rfl, BB.out⟩
end Go.Proofs.Ytncdoanemfnjjaa.Gl
namespace Go.Proofs.Ytncdoanemfnjjaa.X
open Go.RowKit Go.Proofs.YtncdoanemfnjjaaW.PrintWords Go.Proofs.YtncdoanemfnjjaaW.PrintLast Go.Proofs.YtncdoanemfnjjaaW.PrintMore Go.Proofs.Ytncdoanemfnjjaa.Y
set_option linter.unusedVariables false
theorem mewslaw02_GlobQuotes.calls (k : Nat) (a0 : ByteArray) (A1 : Option Addr) (c1 : Nat) (l1 : List ByteArray) (r : Bool) (w : World) (hr1 : Kd.C Kd.string w A1 l1.length l1) (hc1 : l1.length ≤ c1) (hr_ : Aside0 (r = true)) (h : mewslaw02_GlobQuotes.f k a0 l1 = some r) :
    Calls Try.prog 6 #[.string a0, .slice A1 l1.length c1] w fun e w' => e = .returned (.bool r) ∧ Below w.heap.size w w' := by
  have hbd : l1.length ≤ 140737488351232 := by
    unfold mewslaw02_GlobQuotes.f at h
    by_cases q : l1.length ≤ 140737488351232
    · exact q
    · rw [if_neg q] at h; cases h
  rw [hr_.out]
  exact Go.Proofs.Ytncdoanemfnjjaa.Gl.gquotes_calls a0 l1 hbd A1 _ c1 rfl hc1 w hr1
end Go.Proofs.Ytncdoanemfnjjaa.X
