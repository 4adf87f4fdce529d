/- The contract of the statement GlobMatches, walked by hand. -/
import Derived.Test.YtncdoanemfnjjaaGlLaw
namespace Go.Proofs.Ytncdoanemfnjjaa.X
def mewslaw02_GlobMatches.f (_k : Nat) (_p _s : ByteArray) : Option Bool := some true
end Go.Proofs.Ytncdoanemfnjjaa.X
namespace Go.Proofs.Ytncdoanemfnjjaa.Gl
open Go.RowKit Go.Proofs.YtncdoanemfnjjaaW.PrintWords Go.Proofs.YtncdoanemfnjjaaW.PrintMore Go.Proofs.YtncdoanemfnjjaaW.PrintLast Go.Proofs.Ytncdoanemfnjjaa.Y Go.Proofs.Ytncdoanemfnjjaa.X Go.Proofs.Ytncdoanemfnjjaa.Pure
set_option linter.unusedVariables false
set_option linter.unusedSimpArgs false
set_option maxHeartbeats 4000000 in
set_option maxRecDepth 100000 in
theorem gmatches_calls (p s : ByteArray) (w : World) : Calls Try.prog 3 #[.string p, .string s] w fun e w' => e = .returned (.bool true) ∧ Below w.heap.size w w' := by
  have BB := Aside0.mk (Below.refl w.heap.size w)
  obtain ⟨bf, hbf⟩ : ∃ bf, bf = farB [p, s] := ⟨_, rfl⟩
  have HF := Aside0.mk (fun (W : World) (A : Option Addr) h => (show Calls Try.prog 7 #[.slice A 2 2] W (fun e w' => e = .returned (.bool bf) ∧ Below W.heap.size W w') from by rw [hbf]; exact far_con [p, s] (by simp) W A 2 (Nat.le_refl _) h))
  have HN := Aside0.mk (fun (e : bf = false) => far_no (hbf.symm.trans e))
  clear hbf
  go_enter Try.func3, Try.ntmps3
  go_wp2_with (first | ((with_reducible refine gate_dst (N := 7) rfl ?_); refine lit_event ?hg (N := 7) ?hd (cs := #[.string p, .string s]) (t := 9) (n := 2) ?hr ?_; (case hd => rfl); (case hg => rfl); (case hr => first | (go_simp; done) | (go_simp; rfl)); intro h7 hg w1 hbox hb; have T_ := Aside0.mk (below_tr BB.out hb); clear BB; have BB := T_; clear T_; have R7 := Aside0.mk (lit_C (W := w1) [p, s] hbox (by simp [maxLen])); clear hbox hb hg))
  go_at_call 7
  with_reducible refine Calls.mono (HF.out _ _ R7.out) ?_
  rintro e w2 ⟨rfl, hb⟩
  have T_ := Aside0.mk (below_tr BB.out hb)
  clear BB
  have BB := T_
  clear T_
  clear hb HF R7
  cases bf with
  | true =>
    go_wp2_with (first | (go_at_call 8; (with_reducible refine Calls.mono (alive_con _) ?_); rintro e wx ⟨rfl, hb⟩; have T_ := Aside0.mk (below_tr BB.out hb); clear BB; have BB := T_; clear T_; clear hb))
    go_ret
    exact ⟨rfl, BB.out⟩
  | false =>
    obtain ⟨_, hz⟩ := HN.out rfl
    have hp : p.size ≤ 300 := hz p (by simp)
    have hs : s.size ≤ 300 := hz s (by simp)
    have HP := Aside0.mk hp
    have HS := Aside0.mk hs
    clear HN hz hp hs
    obtain ⟨b, hb_⟩ : ∃ b, b = matchL p.data.toList s.data.toList := ⟨_, rfl⟩
    have M1 := Aside0.mk (fun (W : World) => (show Calls Try.prog 9 #[.string p, .string s] W (fun e w' => e = .returned (.bool b) ∧ Below W.heap.size W w') from by rw [hb_]; exact gmatch_con p s (by have := HP.out; omega) (by have := HS.out; omega) W))
    have M2 := Aside0.mk (fun (W : World) => (show Calls Try.prog 10 #[.string p, .string s] W (fun e w' => e = .returned (.bool b) ∧ Below W.heap.size W w') from by rw [hb_]; exact rmatch_calls p s (by have := HP.out; omega) (by have := HS.out; omega) W))
    clear hb_
    cases b
    all_goals
      go_wp2_with (first | (go_at_call 9; (with_reducible refine Calls.mono (M1.out _) ?_); rintro e w3 ⟨rfl, hb⟩; have T_ := Aside0.mk (below_tr BB.out hb); clear BB; have BB := T_; clear T_; clear hb) | (go_at_call 10; (with_reducible refine Calls.mono (M2.out _) ?_); rintro e w4 ⟨rfl, hb⟩; have T_ := Aside0.mk (below_tr BB.out hb); clear BB; have BB := T_; clear T_; clear hb) | (go_at_call 8; (with_reducible refine Calls.mono (alive_con _) ?_); rintro e wx ⟨rfl, hb⟩; have T_ := Aside0.mk (below_tr BB.out hb); clear BB; have BB := T_; clear T_; clear hb))
      go_ret
      exact ⟨rfl, BB.out⟩
end Go.Proofs.Ytncdoanemfnjjaa.Gl
namespace Go.Proofs.Ytncdoanemfnjjaa.X
open Go.RowKit Go.Proofs.YtncdoanemfnjjaaW.PrintWords Go.Proofs.YtncdoanemfnjjaaW.PrintLast Go.Proofs.YtncdoanemfnjjaaW.PrintMore Go.Proofs.Ytncdoanemfnjjaa.Y
set_option linter.unusedVariables false
theorem mewslaw02_GlobMatches.calls (k : Nat) (a0 : ByteArray) (a1 : ByteArray) (r : Bool) (w : World) (hr_ : Aside0 (r = true)) (h : mewslaw02_GlobMatches.f k a0 a1 = some r) :
    Calls Try.prog 3 #[.string a0, .string a1] w fun e w' => e = .returned (.bool r) ∧ Below w.heap.size w w' := by
  rw [hr_.out]
  exact Go.Proofs.Ytncdoanemfnjjaa.Gl.gmatches_calls a0 a1 w
end Go.Proofs.Ytncdoanemfnjjaa.X
