/- A store in a region that draws: the steps, told apart of the walk. -/
import Derived.Test.YtkamejnccmapkaaMuEv
import Derived.Deep.RegionHeld3
namespace Go.Proofs.Ytkamejnccmapkaa.Mu
open Go.RowKit Go.Proofs.YtkamejnccmapkaaW.PrintWords Go.Proofs.YtkamejnccmapkaaW.PrintMore Go.Proofs.YtkamejnccmapkaaW.PrintLast
set_option linter.unusedVariables false
set_option linter.unusedSimpArgs false
set_option maxHeartbeats 4000000
theorem step_run {ops : Array Oper} {o : Oper} {a : Act} {W w1 : World} {K : Act → World → Prop} {Q : Exit → Act → World → Prop} {E : Prop} (hgd : o.guard = none) (hN : o.dst = none)
    (hrun : (execOp a.eval o).run Try.prog W = .ok .skip w1) (h : ∀ w', w' = w1 → K a w') :
    if Region.wanted o (yielded ops a.tmps) = true then Oper.wp Try.prog o a W K Q else E := by
  have hw : Region.wanted o (yielded ops a.tmps) = true := by simp [Region.wanted, hgd]
  rw [if_pos hw]
  unfold Oper.wp
  rw [hrun]
  show K (a.put o.dst undef) w1
  rw [hN]
  exact h _ rfl
theorem run_tx {a : Act} {o : Oper} {W : World} {p s : Tmp} {g : Nat} {b0 b1 b2 : Bool} {qA wA : Option Addr} {qn qc wn wc : Nat} {z : Int} {c0 c1 c2 c3 c4 c5 : Value} (ho : o.op = .store 27 (.tmp p) (.tmp s)) (hp : a.eval (.tmp p) = .pointer (some ⟨g, 0, none⟩)) (hs : a.eval (.tmp s) = .agg #[.bool b0, .bool b1, .bool b2, .slice qA qn qc, .int .i64 z, .slice wA wn wc])
    (hb : W.heap[g]? = some (.cells #[c0, c1, c2, c3, c4, c5] 27 (0, 0))) :
    (execOp a.eval o).run Try.prog W = .ok .skip (set6 W g (.bool b0) (.bool b1) (.bool b2) (.slice qA qn qc) (.int .i64 z) (.slice wA wn wc)) := by
  have hu := Try.underlying27
  obtain ⟨q0, q1, q2, q3, q4, q5, r0, r1, r2, r3, r4, r5⟩ := cells6 hb
  unfold execOp
  simp only [ho, hp, hs]
  clear ho hp hs hb
  unfold set6
  first | (go_simp; done) | (go_simp; rfl)
theorem step_tx {ops : Array Oper} {o : Oper} {a : Act} {W : World} {K : Act → World → Prop} {Q : Exit → Act → World → Prop} {E : Prop} {p s : Tmp} {g : Nat} {b0 b1 b2 : Bool} {qA wA : Option Addr} {qn qc wn wc : Nat} {z : Int} {c0 c1 c2 c3 c4 c5 : Value} (hgd : o.guard = none) (hN : o.dst = none) (ho : o.op = .store 27 (.tmp p) (.tmp s)) (hp : a.eval (.tmp p) = .pointer (some ⟨g, 0, none⟩)) (hs : a.eval (.tmp s) = .agg #[.bool b0, .bool b1, .bool b2, .slice qA qn qc, .int .i64 z, .slice wA wn wc])
    (hb : W.heap[g]? = some (.cells #[c0, c1, c2, c3, c4, c5] 27 (0, 0))) (h : ∀ w', w' = set6 W g (.bool b0) (.bool b1) (.bool b2) (.slice qA qn qc) (.int .i64 z) (.slice wA wn wc) → K a w') :
    if Region.wanted o (yielded ops a.tmps) = true then Oper.wp Try.prog o a W K Q else E := step_run hgd hN (run_tx ho hp hs hb) h
theorem run_rp {a : Act} {o : Oper} {W : World} {p s : Tmp} {g : Nat} {k : Int} {rs : ByteArray} {c0 c1 c2 c3 : Value} (ho : o.op = .store 30 (.tmp p) (.tmp s)) (hp : a.eval (.tmp p) = .pointer (some ⟨g, 0, none⟩)) (hs : a.eval (.tmp s) = .agg #[.int .i64 k, .int .i64 0, .string rs, .slice none 0 0])
    (hb : W.heap[g]? = some (.cells #[c0, c1, c2, c3] 30 (0, 0))) :
    (execOp a.eval o).run Try.prog W = .ok .skip (set4 W g (.int .i64 k) (.int .i64 0) (.string rs) (.slice none 0 0)) := by
  have hu := Try.underlying30
  obtain ⟨q0, q1, q2, q3, r0, r1, r2, r3⟩ := cells4 hb
  unfold execOp
  simp only [ho, hp, hs]
  clear ho hp hs hb
  unfold set4
  first | (go_simp; done) | (go_simp; rfl)
theorem step_rp {ops : Array Oper} {o : Oper} {a : Act} {W : World} {K : Act → World → Prop} {Q : Exit → Act → World → Prop} {E : Prop} {p s : Tmp} {g : Nat} {k : Int} {rs : ByteArray} {c0 c1 c2 c3 : Value} (hgd : o.guard = none) (hN : o.dst = none) (ho : o.op = .store 30 (.tmp p) (.tmp s)) (hp : a.eval (.tmp p) = .pointer (some ⟨g, 0, none⟩)) (hs : a.eval (.tmp s) = .agg #[.int .i64 k, .int .i64 0, .string rs, .slice none 0 0])
    (hb : W.heap[g]? = some (.cells #[c0, c1, c2, c3] 30 (0, 0))) (h : ∀ w', w' = set4 W g (.int .i64 k) (.int .i64 0) (.string rs) (.slice none 0 0) → K a w') :
    if Region.wanted o (yielded ops a.tmps) = true then Oper.wp Try.prog o a W K Q else E := step_run hgd hN (run_rp ho hp hs hb) h
theorem next_tx {ops : Array Oper} {S : World → Prop} {fuel : Nat} {listed : Array Bool} {a : Act} {W : World} {Q : Exit → Act → World → Prop} (i : Nat) {p s : Tmp} {g : Nat} {b0 b1 b2 : Bool} {qA wA : Option Addr} {qn qc wn wc : Nat} {z : Int} {c0 c1 c2 c3 c4 c5 : Value}
    (hr : Region.ready .any ops listed = [i]) (hi : (ops[i]?).map (fun o => (o.guard.isNone, o.dst, o.op)) = some (true, none, .store 27 (.tmp p) (.tmp s))) (hp : a.eval (.tmp p) = .pointer (some ⟨g, 0, none⟩)) (hs : a.eval (.tmp s) = .agg #[.bool b0, .bool b1, .bool b2, .slice qA qn qc, .int .i64 z, .slice wA wn wc])
    (hb : W.heap[g]? = some (.cells #[c0, c1, c2, c3, c4, c5] 27 (0, 0))) (h : ∀ w', w' = set6 W g (.bool b0) (.bool b1) (.bool b2) (.slice qA qn qc) (.int .i64 z) (.slice wA wn wc) → S w' ∧ wpAnyH Try.prog .any ops Q S fuel (listed.setIfInBounds i true) a w') :
    wpAnyH Try.prog .any ops Q S (fuel + 1) listed a W := by
  match ho : ops[i]? with
  | none => rw [ho] at hi; cases hi
  | some o =>
    rw [ho] at hi
    injection hi with hi
    injection hi with h1 h2
    injection h2 with h2 h3
    have hgd : o.guard = none := by
      cases hg : o.guard with
      | none => rfl
      | some x => rw [hg] at h1; cases h1
    refine wpAnyH_ready hr (by simp) (AllReadyH.cons ho (fun K hK => ?_) AllReadyH.nil)
    exact step_tx hgd h2 h3 hp hs hb (fun w' e => hK.out _ _ (h w' e).1 (fun _ => (h w' e).2))
theorem next_rp {ops : Array Oper} {S : World → Prop} {fuel : Nat} {listed : Array Bool} {a : Act} {W : World} {Q : Exit → Act → World → Prop} (i : Nat) {p s : Tmp} {g : Nat} {k : Int} {rs : ByteArray} {c0 c1 c2 c3 : Value}
    (hr : Region.ready .any ops listed = [i]) (hi : (ops[i]?).map (fun o => (o.guard.isNone, o.dst, o.op)) = some (true, none, .store 30 (.tmp p) (.tmp s))) (hp : a.eval (.tmp p) = .pointer (some ⟨g, 0, none⟩)) (hs : a.eval (.tmp s) = .agg #[.int .i64 k, .int .i64 0, .string rs, .slice none 0 0])
    (hb : W.heap[g]? = some (.cells #[c0, c1, c2, c3] 30 (0, 0))) (h : ∀ w', w' = set4 W g (.int .i64 k) (.int .i64 0) (.string rs) (.slice none 0 0) → S w' ∧ wpAnyH Try.prog .any ops Q S fuel (listed.setIfInBounds i true) a w') :
    wpAnyH Try.prog .any ops Q S (fuel + 1) listed a W := by
  match ho : ops[i]? with
  | none => rw [ho] at hi; cases hi
  | some o =>
    rw [ho] at hi
    injection hi with hi
    injection hi with h1 h2
    injection h2 with h2 h3
    have hgd : o.guard = none := by
      cases hg : o.guard with
      | none => rfl
      | some x => rw [hg] at h1; cases h1
    refine wpAnyH_ready hr (by simp) (AllReadyH.cons ho (fun K hK => ?_) AllReadyH.nil)
    exact step_rp hgd h2 h3 hp hs hb (fun w' e => hK.out _ _ (h w' e).1 (fun _ => (h w' e).2))
theorem region_drew {id : Nat} {ops : Array Oper} {Q : Exit → Act → World → Prop} (S : World → Prop) {a : Act} {w : World} (hm : Try.prog.follows .mixedOrders = true)
    (h : ∀ d, Below w.heap.size w d → S d ∧ (S d → wpAnyH Try.prog .any ops Q S ops.size (Array.replicate ops.size false) a d)) : (Code.region id ops true).wp Try.prog Q a w :=
  have hd := h _ (below_drew (Below.refl _ _))
  wp_region_held_drew hm hd.1 hd.2
end Go.Proofs.Ytkamejnccmapkaa.Mu
