/- The document's line: its state and its methods; a line and the document's line, side by side. -/
import Derived.Test.YtnegagkjhnpgmaaScDel
import Derived.Test.YtnegagkjhnpgmaaScBack
import Derived.Test.YtnegagkjhnpgmaaScNext
import Derived.Test.YtnegagkjhnpgmaaScStepG
import Derived.Test.YtnegagkjhnpgmaaScSame
namespace Go.Proofs.Ytnegagkjhnpgmaa.Sc
open Go.RowKit Go.Proofs.YtnegagkjhnpgmaaW.PrintWords Go.Proofs.YtnegagkjhnpgmaaW.PrintMore Go.Proofs.YtnegagkjhnpgmaaW.PrintLast Go.Proofs.Ytnegagkjhnpgmaa.Dq
set_option linter.unusedVariables false
set_option linter.unusedSimpArgs false
attribute [local go_sem ↓] Go.wp_at_zero Go.wp_at_succ
section
variable {ops : Array Oper} {rest : List Oper} {o : Oper} {a : Act} {Q : Exit → Act → World → Prop} {W : World}
theorem run_app_empty (ty : TypeId) (base : Nat) (v : Value) (L : List Jb) (hown : OwnJ W base v L) (A : Option Addr) (c : Nat) :
    (Builtin.append_ #[36, 36] ty #[v, .slice A 0 c]).run Try.prog W = .ok v W := by
  obtain ⟨i0, hi0, hzz⟩ := Option.map_eq_some_iff.1 infoJ
  have ht := Try.underlying36
  rcases hown.2 with ⟨rfl, h0⟩ | ⟨g, cap, cur, rfl, _, _, hnc, _⟩
  · cases A <;> simp [Builtin.append_, run_underlying ht, sizeOf, typeInfo, hi0, Builtin.lenOf, Builtin.firstCells, storeCells, loadCells, loadCellsFrom]
  · cases A <;> simp [Builtin.append_, run_underlying ht, sizeOf, typeInfo, hi0, Builtin.lenOf, Builtin.firstCells, hnc, storeCells, loadCells, loadCellsFrom]
/-- A row appended to a row, whatever the two. -/
theorem appJ_event (hgd : o.guard = none) {N : Tmp} (hd : o.dst = some N) (s x : Operand) (ho : o.op = .call { callee := .builtin .append, args := #[s, x], argTypes := #[36, 36] })
    (base : Nat) (v : Value) (L J : List Jb) (A : Option Addr) (c nj ns : Nat) (hnj : nj = J.length) (hns : ns = L.length + J.length) (hs0 : a.eval s = v) (hx : a.eval x = .slice A nj c) (hown : OwnJ W base v L) (hJ : Reads W A J)
    (hL : ns ≤ 2097152) (hbase : base ≤ W.heap.size)
    (h : ∀ A' cap w1, OwnJ w1 base (.slice A' ns cap) (L ++ J) → W.grownBy w1 v.ownBlock → (∀ ad, A' = some ad → v.ownBlock = some ad.block ∨ ad.block = W.heap.size) → wpList Try.prog ops Q rest (a.put o.dst (.slice A' ns cap)) w1) :
    wpList Try.prog ops Q (o :: rest) a W := by
  subst hnj
  subst hns
  by_cases h0 : 0 < J.length
  · obtain ⟨i0, hi0, hzz⟩ := Option.map_eq_some_iff.1 infoJ
    simp only [Prod.mk.injEq] at hzz
    obtain ⟨ad, rfl, hc⟩ := hJ h0
    refine wpList_append_lies W hgd s x 36 ho base 29 i0 _ 4 56 Try.underlying36 hi0 hzz.1 hzz.2.1 hzz.2.2 rfl (by omega) v L.length (flat L) hs0 hown ad J.length c (flat J) hx (flat_len J) hc (flat_one J) h0 (by simp only [maxLen]; omega) (by omega) hbase _ rfl (fun gg cap w1 h2 h3 h4 h5 => h _ cap w1 ?_ h3 (fun ad' e => ?_))
    · unfold OwnJ
      rw [List.length_append, flat_append]
      exact h2
    · injection e with e
      rw [← e]
      exact h4
  · have hJ0 : J = [] := List.eq_nil_of_length_eq_zero (by omega)
    subst hJ0
    obtain ⟨A', c', hv, _⟩ := hown.form
    refine wpList_plain hgd fun K hK => ?_
    have hrun := run_app_empty o.type base v L hown A c
    have hx0 : a.eval x = .slice A 0 c := hx
    unfold Oper.wp execOp
    simp only [ho, resolve, invoke, builtin, Sem.run_bind, Sem.run_pure, Result.andThen_ok, List.map_toArray, List.map_cons, List.map_nil, hs0, hx0, hrun]
    have hh := h A' c' W (by rw [List.append_nil]; show OwnJ W base (.slice A' L.length c') L; rw [← hv]; exact hown) ⟨rfl, rfl, rfl, Nat.le_refl _, fun _ _ _ => rfl⟩ (fun ad e => .inl (by rw [hv, e]; rfl))
    have e2 : (Value.slice A' (L.length + ([] : List Jb).length) c') = v := by rw [hv]; rfl
    rw [e2] at hh
    exact hK _ _ hh
end
def RelS (w : World) (k : Int) (L : List Jb) (v6 v7 v8 : Value) (wr : World) : Prop :=
  ∃ i : Nat, v8 = .int .i64 i ∧ i ≤ L.length ∧ OwnJ wr w.heap.size v6 (own k (L.take i)) ∧ OwnJ wr w.heap.size v7 (oth k (L.take i)) ∧ (∀ j, v6.ownBlock = some j → v7.ownBlock ≠ some j) ∧ Below w.heap.size w wr
set_option maxHeartbeats 4000000 in
set_option maxRecDepth 100000 in
theorem split_calls (L : List Jb) (A0 : Option Addr) (c n : Nat) (hn : n = L.length) (k : Int) (w : World) (hA : Reads w A0 L) (hL : n ≤ 2097152) :
    Calls Try.prog 31 #[.slice A0 n c, .int .i64 k] w fun e w' => ∃ A1 c1 A2 c2, e = .returned (.tuple #[.slice A1 (own k L).length c1, .slice A2 (oth k L).length c2]) ∧ OwnJ w' w.heap.size (.slice A1 (own k L).length c1) (own k L) ∧ OwnJ w' w.heap.size (.slice A2 (oth k L).length c2) (oth k L) ∧ (∀ j, (Value.slice A1 (own k L).length c1).ownBlock = some j → (Value.slice A2 (oth k L).length c2).ownBlock ≠ some j) ∧ Below w.heap.size w w' := by
  have hu := Try.underlying29
  have HA := Aside0.mk hA
  have HN := Aside0.mk hn
  have HLL := Aside0.mk hL
  clear hA hn hL
  go_enter Try.func31, Try.ntmps31
  go_wp2_with fail
  go_loopw [6, 7, 8] (fun v6 v7 v8 wr => RelS w k L v6 v7 v8 wr) (fun _ _ v8 _ => n - (intOf v8).toNat)
  case atStart => exact ⟨0, rfl, Nat.zero_le _, by rw [List.take_zero]; exact own_nil _ _ _ _, by rw [List.take_zero]; exact own_nil _ _ _ _, by simp [Value.ownBlock], Below.refl _ _⟩
  case round =>
    obtain ⟨i, rfl, hi, ho6, ho7, hap, hb⟩ := hrel
    have O6 := Aside0.mk ho6
    have O7 := Aside0.mk ho7
    have AP0 := Aside0.mk hap
    have HB := Aside0.mk hb
    clear ho6 ho7 hap hb
    by_cases hlt : i < n
    · have HLT := Aside0.mk hlt
      have hlr : i < L.length := by rw [← HN.out]; exact hlt
      have HLR := Aside0.mk hlr
      have e1 : ((i : Int) < (n : Int)) := by omega
      have e2 : (0 : Int) ≤ (i : Int) := Int.natCast_nonneg _
      have e3 := eq_true e1
      have e4 := eq_true e2
      have e5 := d_i i (by have := HLL.out; omega)
      have e6 := d_w i (by have := HLL.out; omega)
      obtain ⟨ad, hAd, hc⟩ := (HA.out.below HB.out) (by omega)
      subst hAd
      obtain ⟨f0, f1, f2, f3⟩ := flat_get L i HLR.out
      obtain ⟨x, hx⟩ : ∃ x, x = L[i]'HLR.out := ⟨_, rfl⟩
      rw [← hx] at f0 f1 f2 f3
      obtain ⟨xh, xA, xn, xc, xs, xf⟩ := x
      have HX := Aside0.mk hx
      have x0 : wr.cell? (ad.add (i * 4)) = some (.int .i64 xh) := hc _ _ f0
      have x1' := hc _ _ f1
      have x2' := hc _ _ f2
      have x3' := hc _ _ f3
      rw [← Addr.add_add] at x1' x2' x3'
      have x1 : wr.cell? ⟨(ad.add (i * 4)).block, (ad.add (i * 4)).off + 1, none⟩ = some (.slice xA xn xc) := by rw [← add_field _ _ 1 (by omega)]; exact hc _ _ f1
      have x2 : wr.cell? ⟨(ad.add (i * 4)).block, (ad.add (i * 4)).off + 2, none⟩ = some (.int .i64 xs) := by rw [← add_field _ _ 2 (by omega)]; exact hc _ _ f2
      have x3 : wr.cell? ⟨(ad.add (i * 4)).block, (ad.add (i * 4)).off + 3, none⟩ = some (.string xf) := by rw [← add_field _ _ 3 (by omega)]; exact hc _ _ f3
      clear hx f0 f1 f2 f3 hc
      have LE6 := Aside0.mk (show (own k (L.take i)).length ≤ 2097152 from by have := HLL.out; have := own_le k (L.take i); have := List.length_take_le i L; omega)
      have LE7 := Aside0.mk (show (oth k (L.take i)).length ≤ 2097152 from by have := HLL.out; have := oth_le k (L.take i); have := List.length_take_le i L; omega)
      have BS0 := Aside0.mk HB.out.size
      have T1 := Aside0.mk (own_take k L i HLR.out)
      have T2 := Aside0.mk (oth_take k L i HLR.out)
      rw [← HX.out] at T1 T2
      clear hlr hlt
      by_cases hk : xh = k
      · have hkd : decide (xh = k) = true := decide_eq_true hk
        have hkb : (xh == k) = true := by simp [hk]
        have T1' := Aside0.mk (T1.out.trans (if_pos hk))
        have T2' := Aside0.mk (T2.out.trans (if_pos hk))
        clear hk
        go_wp2_with (first | ((with_reducible refine gate_dst (N := 27) rfl ?_); refine bs_event ?hg (N := 27) ?hd 26 ⟨xh, xA, xn, xc, xs, xf⟩ ?ho ?hx ?_; (case hd => rfl); (case hg => rfl); (case ho => rfl); (case hx => rfl); intro b w6 hbs hbb hbl; have BB := Aside0.mk hbb; have BW6 := Aside0.mk hbl; clear hbs hbb hbl x0 x1 x2 x3 x1' x2' x3') | ((with_reducible refine gate_dst (N := 28) rfl ?_); refine app_event ?hg (N := 28) ?hd 22 27 ?ho w.heap.size b u6 (own k (L.take i)) ⟨xh, xA, xn, xc, xs, xf⟩ ?hs ?hx (OwnJ.below O6.out BW6.out) BB.out LE6.out (Nat.le_trans BS0.out BW6.out.size) ?_; (case hd => rfl); (case hg => rfl); (case ho => rfl); (case hs => rfl); (case hx => rfl); intro gg cap w7 hown hgrow hat; have HOW := Aside0.mk hown; have HGR := Aside0.mk hgrow; have HAT := Aside0.mk hat; clear hown hgrow hat))
        go_roundw
        case rel =>
          refine ⟨i + 1, by simp, HLR.out, by rw [T1'.out]; exact HOW.out, by rw [T2'.out]; exact (O7.out.below BW6.out).grown HGR.out (fun j e e2 => AP0.out j e2 e), fun j e e2 => ?_, pw_below_grown (below_all BW6.out HB.out.size HB.out) _ (by have := HB.out.size; have := BW6.out.size; omega) HGR.out (own_base O6.out)⟩
          have e' : gg = j := by injection e
          subst e'
          rcases HAT.out with e3 | e3
          · exact AP0.out _ e3 e2
          · have := (World.ownsRow.lt O7.out _ e2).2; have := BW6.out.size; omega
        case measure => have := HLT.out; simp [intOf] <;> omega
      · have hkd : decide (xh = k) = false := decide_eq_false hk
        have hkb : (xh == k) = false := by simp [hk]
        have T1' := Aside0.mk (T1.out.trans (if_neg hk))
        have T2' := Aside0.mk (T2.out.trans (if_neg hk))
        clear hk
        go_wp2_with (first | ((with_reducible refine gate_dst (N := 34) rfl ?_); refine bs_event ?hg (N := 34) ?hd 33 ⟨xh, xA, xn, xc, xs, xf⟩ ?ho ?hx ?_; (case hd => rfl); (case hg => rfl); (case ho => rfl); (case hx => rfl); intro b w6 hbs hbb hbl; have BB := Aside0.mk hbb; have BW6 := Aside0.mk hbl; clear hbs hbb hbl x0 x1 x2 x3 x1' x2' x3') | ((with_reducible refine gate_dst (N := 35) rfl ?_); refine app_event ?hg (N := 35) ?hd 29 34 ?ho w.heap.size b u7 (oth k (L.take i)) ⟨xh, xA, xn, xc, xs, xf⟩ ?hs ?hx (OwnJ.below O7.out BW6.out) BB.out LE7.out (Nat.le_trans BS0.out BW6.out.size) ?_; (case hd => rfl); (case hg => rfl); (case ho => rfl); (case hs => rfl); (case hx => rfl); intro gg cap w7 hown hgrow hat; have HOW := Aside0.mk hown; have HGR := Aside0.mk hgrow; have HAT := Aside0.mk hat; clear hown hgrow hat))
        go_roundw
        case rel =>
          refine ⟨i + 1, by simp, HLR.out, by rw [T1'.out]; exact (O6.out.below BW6.out).grown HGR.out (fun j e e2 => AP0.out j e e2), by rw [T2'.out]; exact HOW.out, fun j e e2 => ?_, pw_below_grown (below_all BW6.out HB.out.size HB.out) _ (by have := HB.out.size; have := BW6.out.size; omega) HGR.out (own_base O7.out)⟩
          have e' : gg = j := by injection e2
          subst e'
          rcases HAT.out with e3 | e3
          · exact AP0.out _ e e3
          · have := (World.ownsRow.lt O6.out _ e).2; have := BW6.out.size; omega
        case measure => have := HLT.out; simp [intOf] <;> omega
    · have e1 : ¬ ((i : Int) < (n : Int)) := by omega
      have e3 := eq_false e1
      have hie : L.take i = L := List.take_of_length_le (by have := HN.out; omega)
      have o6 := O6.out
      have o7 := O7.out
      rw [hie] at o6 o7
      obtain ⟨A1, c1, h1, _⟩ := o6.form
      obtain ⟨A2, c2, h2, _⟩ := o7.form
      subst h1
      subst h2
      have Q6 := Aside0.mk o6
      have Q7 := Aside0.mk o7
      clear o6 o7 hie hlt hi e1
      go_wp2_with fail
      go_ret2
      exact ⟨A1, c1, A2, c2, rfl, Q6.out, Q7.out, AP0.out, HB.out⟩
/-- The document's line at a block. -/
structure RLn (W : World) (base g : Nat) (L S : List Jb) (vL vA : Value) : Prop where
  hg : base ≤ g
  blk : W.heap[g]? = some (.cells #[vL, vA] 46 (0, 0))
  oL : OwnJ W base vL L
  oA : OwnJ W base vA S
  ap : ∀ k, vL.ownBlock = some k → vA.ownBlock ≠ some k
def rfoot (g : Nat) (vL vA : Value) (k : Nat) : Prop := k = g ∨ vL.ownBlock = some k ∨ vA.ownBlock = some k
def RL (W : World) (base g : Nat) (L S : List Jb) (F : Nat → Prop) : Prop := ∃ vL vA, RLn W base g L S vL vA ∧ F = rfoot g vL vA
theorem RLn.rows {W : World} {base g : Nat} {L S : List Jb} {vL vA : Value} (h : RLn W base g L S vL vA) : (∀ k, vL.ownBlock = some k → k ≠ g) ∧ (∀ k, vA.ownBlock = some k → k ≠ g) := by
  have key : ∀ (v : Value) (X : List Jb), OwnJ W base v X → ∀ k, v.ownBlock = some k → k ≠ g := fun v X ho k e e2 => by
    obtain ⟨cs, hc⟩ := ho.kind e
    rw [e2, h.blk] at hc
    injection hc with hc
    injection hc with _ hc
    exact absurd hc (by decide)
  exact ⟨key _ _ h.oL, key _ _ h.oA⟩
theorem RLn.foot_lt {W : World} {base g : Nat} {L S : List Jb} {vL vA : Value} (h : RLn W base g L S vL vA) (k : Nat) (hk : rfoot g vL vA k) : base ≤ k ∧ k < W.heap.size := by
  rcases hk with rfl | e | e
  · exact ⟨h.hg, blk_lt h.blk⟩
  · exact World.ownsRow.lt h.oL k e
  · exact World.ownsRow.lt h.oA k e
theorem RLn.kept {W W1 : World} {base g : Nat} {L S : List Jb} {vL vA : Value} (h : RLn W base g L S vL vA) (hk : ∀ k, rfoot g vL vA k → W1.heap[k]? = W.heap[k]?) : RLn W1 base g L S vL vA :=
  ⟨h.hg, (hk g (.inl rfl)).trans h.blk, h.oL.kept (fun k e => hk k (.inr (.inl e))), h.oA.kept (fun k e => hk k (.inr (.inr e))), h.ap⟩
theorem RLn.below {W W1 : World} {base g : Nat} {L S : List Jb} {vL vA : Value} (h : RLn W base g L S vL vA) (hb : Below W.heap.size W W1) : RLn W1 base g L S vL vA := h.kept fun k hk => hb.block k (h.foot_lt k hk).2
theorem RLn.base_le {W : World} {base g : Nat} {L S : List Jb} {vL vA : Value} (h : RLn W base g L S vL vA) : base ≤ W.heap.size := Nat.le_of_lt (Nat.lt_of_le_of_lt h.hg (blk_lt h.blk))
theorem RLn.cells {W : World} {base g : Nat} {L S : List Jb} {vL vA : Value} (h : RLn W base g L S vL vA) : W.cell? ⟨g, 0, none⟩ = some vL ∧ W.cell? ⟨g, 1, none⟩ = some vA ∧ W.frozen? ⟨g, 0, none⟩ = false ∧ W.frozen? ⟨g, 1, none⟩ = false :=
  ⟨(blk_cell h.blk 0).trans rfl, (blk_cell h.blk 1).trans rfl, blk_frozen h.blk 0, blk_frozen h.blk 1⟩
theorem rheld_calls (base g : Nat) (L S : List Jb) (F : Nat → Prop) (k : Int) (w : World) (h : RL w base g L S F) (hS : S.length ≤ 2097152) :
    Calls Try.prog 22 #[.pointer (some ⟨g, 0, none⟩), .int .i64 k] w fun e w' => e = .returned (.int .i64 (own k S).length) ∧ Below w.heap.size w w' := by
  obtain ⟨vL, vA, h, _⟩ := h
  obtain ⟨AA, cA, hvA, hrd⟩ := h.oA.form
  obtain ⟨n, hn⟩ : ∃ n, n = S.length := ⟨_, rfl⟩
  rw [← hn] at hvA
  subst hvA
  obtain ⟨k0, k1, z0, z1⟩ := h.cells
  have HSP := Aside0.mk (split_calls S AA cA n hn k w hrd (by omega))
  clear h hn hrd hS
  go_enter Try.func22, Try.ntmps22
  go_wp2_with (first | (go_at_call 31; (with_reducible refine HSP.out.mono ?_); rintro e w1 ⟨A1, c1, A2, c2, rfl, _, _, _, hb⟩; have BB := Aside0.mk hb; clear hb k0 k1 z0 z1))
  go_ret
  exact ⟨rfl, BB.out⟩
end Go.Proofs.Ytnegagkjhnpgmaa.Sc

namespace Go.Proofs.Ytnegagkjhnpgmaa.Sc
open Go.RowKit Go.Proofs.YtnegagkjhnpgmaaW.PrintWords Go.Proofs.YtnegagkjhnpgmaaW.PrintMore Go.Proofs.YtnegagkjhnpgmaaW.PrintLast Go.Proofs.Ytnegagkjhnpgmaa.Dq
set_option linter.unusedVariables false
set_option linter.unusedSimpArgs false
attribute [local go_sem ↓] Go.wp_at_zero Go.wp_at_succ
theorem own_reads {W : World} {base n c : Nat} {A : Option Addr} {L : List Jb} (h : OwnJ W base (.slice A n c) L) : Reads W A L := by
  obtain ⟨A', c', e, hr⟩ := h.form
  injection e with e _ _
  rw [e]
  exact hr
theorem FrL.setg {w W : World} {base g i : Nat} {F F' : Nat → Prop} (h : FrL w W base F F') (hF : F g) (hb : base ≤ g) (v : Value) : FrL w (W.setCell ⟨g, i, none⟩ v) base F F' :=
  ⟨by rw [size_set]; exact h.size, fun k hk hn => (heap_other (fun e => hn (by rw [e]; exact hF)) v).trans (h.keep k hk hn), fun w0 e hb0 => below_set (h.below w0 e hb0) (by omega), h.new⟩
theorem r_e (a b : Nat) (h : a + b < 4194304) : IntKind.i64.wrap ((a : Int) + (b : Int)) = (a : Int) + (b : Int) := by
  obtain ⟨z, hz⟩ : ∃ z : Int, z = (a : Int) + (b : Int) := ⟨_, rfl⟩
  have h1 : 0 ≤ z ∧ z < 4194304 := by omega
  rw [← hz]
  clear hz
  rw [IntKind.wrap_i64]
  omega
theorem r_f (a b : Nat) (h : a + b < 4194304) : wrap64 ((a : Int) + (b : Int)) = (a : Int) + (b : Int) := by
  obtain ⟨z, hz⟩ : ∃ z : Int, z = (a : Int) + (b : Int) := ⟨_, rfl⟩
  have h1 : 0 ≤ z ∧ z < 4194304 := by omega
  rw [← hz]
  clear hz
  unfold wrap64
  omega
set_option maxHeartbeats 8000000 in
set_option maxRecDepth 100000 in
theorem rdrop_calls (base g : Nat) (L S : List Jb) (F : Nat → Prop) (k : Int) (w : World) (h : RL w base g L S F) (hL : L.length ≤ 1000000) (hS : S.length ≤ 1000000) :
    Calls Try.prog 21 #[.pointer (some ⟨g, 0, none⟩), .int .i64 k] w fun e w' => e = .returned (.int .i64 (((own k L).length : Int) + ((own k S).length : Int))) ∧ ∃ F', RL w' base g (oth k L) (oth k S) F' ∧ FrL w w' base F F' := by
  obtain ⟨vL, vA, h, hF⟩ := h
  subst hF
  obtain ⟨AL, cL, hvL, hrL⟩ := h.oL.form
  obtain ⟨AA, cA, hvA, hrA⟩ := h.oA.form
  obtain ⟨nL, hnL⟩ : ∃ n, n = L.length := ⟨_, rfl⟩
  obtain ⟨nS, hnS⟩ : ∃ n, n = S.length := ⟨_, rfl⟩
  rw [← hnL] at hvL
  rw [← hnS] at hvA
  subst hvL
  subst hvA
  have HR := Aside0.mk h
  have HNS := Aside0.mk hnS
  have HRA := Aside0.mk hrA
  have HBS := Aside0.mk (show nS ≤ 2097152 by omega)
  obtain ⟨k0, k1, z0, z1⟩ := h.cells
  have HSP1 := Aside0.mk (split_calls L AL cL nL hnL k w hrL (by omega))
  have HSL := Aside0.mk (show (own k L).length + (own k S).length < 4194304 from by have := own_le k L; have := own_le k S; omega)
  have GLT := Aside0.mk (blk_lt h.blk)
  clear h hnL hnS hrL hrA hL hS
  have E1 := Aside0.mk (r_e _ _ HSL.out)
  have E2 := Aside0.mk (r_f _ _ HSL.out)
  obtain ⟨q1, hq1⟩ : ∃ q1, q1 = (own k L).length := ⟨_, rfl⟩
  obtain ⟨q3, hq3⟩ : ∃ q3, q3 = (own k S).length := ⟨_, rfl⟩
  rw [← hq1, ← hq3] at E1 E2
  rw [← hq1, ← hq3]
  rw [← hq1] at HSP1
  have e1 := E1.out
  have e2 := E2.out
  have HQ3 := Aside0.mk hq3
  clear E1 E2 hq1 hq3
  go_enter Try.func21, Try.ntmps21
  go_wp2_with (first | (go_at_call 31; (with_reducible refine HSP1.out.mono ?_); rintro e w1 ⟨A1, c1, A2, c2, rfl, p1, p2, p3, hb⟩; have B1 := Aside0.mk hb; have P2 := Aside0.mk p2; have R1 := Aside0.mk (HR.out.below hb); have HSP2 := Aside0.mk (split_calls S AA cA nS HNS.out k w1 (Reads.below HRA.out hb) HBS.out); rw [← HQ3.out] at HSP2; clear p1 p2 p3 hb k0 k1 z0 z1; obtain ⟨k0, k1, z0, z1⟩ := R1.out.cells) | (go_at_call 31; (with_reducible refine HSP2.out.mono ?_); rintro e w2 ⟨A3, c3, A4, c4, rfl, p1, p2, p3, hb⟩; have B2 := Aside0.mk hb; have P4 := Aside0.mk p2; have R2 := Aside0.mk (R1.out.below hb); clear p1 p2 p3 hb k0 k1 z0 z1; obtain ⟨k0, k1, z0, z1⟩ := R2.out.cells) | ((with_reducible refine gate_store (t := 36) (p := 30) rfl ?_); refine store_event2 (w1 := w2.setCell ⟨g, 0, none⟩ (.slice A2 (oth k L).length c2)) ?hg ?hn ?hr ?_; (case hg => rfl); (case hn => rfl); (case hr => first | (go_simp; done) | (go_simp; rfl)); intro w3 hW_; have HW3 := Aside0.mk hW_; clear hW_; have Z3 := Aside0.mk (show w3.heap[g]? = some (.cells #[.slice A2 (oth k L).length c2, .slice AA nS cA] 46 (0, 0)) from by rw [HW3.out]; exact blk_put R2.out.blk 0 _ rfl); clear k0 k1 z0 z1; have k0 := (blk_cell Z3.out 0).trans rfl; have k1 := (blk_cell Z3.out 1).trans rfl; have z0 := blk_frozen Z3.out 0; have z1 := blk_frozen Z3.out 1) | ((with_reducible refine gate_store (t := 36) (p := 34) rfl ?_); refine store_event2 (w1 := w3.setCell ⟨g, 1, none⟩ (.slice A4 (oth k S).length c4)) ?hg ?hn ?hr ?_; (case hg => rfl); (case hn => rfl); (case hr => first | (go_simp; done) | (go_simp; rfl)); intro w4 hW_; have HW4 := Aside0.mk hW_; clear hW_; have Z4 := Aside0.mk (show w4.heap[g]? = some (.cells #[.slice A2 (oth k L).length c2, .slice A4 (oth k S).length c4] 46 (0, 0)) from by rw [HW4.out]; exact blk_put Z3.out 1 _ rfl); clear k0 k1 z0 z1))
  go_ret
  have s1 := B1.out.size
  have s2 := B2.out.size
  have hg := GLT.out
  have o3 : ∀ j, j ≠ g → w4.heap[j]? = w2.heap[j]? := fun j hj => by rw [HW4.out, heap_other hj, HW3.out, heap_other hj]
  have q2 : OwnJ w4 w.heap.size (.slice A2 (oth k L).length c2) (oth k L) := (P2.out.below B2.out).kept fun j e => o3 j (by have := own_base P2.out j e; omega)
  have q4 : OwnJ w4 w1.heap.size (.slice A4 (oth k S).length c4) (oth k S) := P4.out.kept fun j e => o3 j (by have := own_base P4.out j e; omega)
  refine ⟨rfl, _, ⟨_, _, ⟨HR.out.hg, Z4.out, q2.mono HR.out.base_le, q4.mono (Nat.le_trans HR.out.base_le s1), fun j e e2 => by have := (World.ownsRow.lt P2.out j e).2; have := own_base P4.out j e2; omega⟩, rfl⟩, ?_⟩
  rw [HW4.out, HW3.out]
  have f0 : FrL w w2 base (rfoot g (.slice AL nL cL) (.slice AA nS cA)) (rfoot g (.slice AL nL cL) (.slice AA nS cA)) := FrL.of_below _ (below_tr B1.out B2.out) HR.out.base_le
  refine ((f0.setg (.inl rfl) HR.out.hg _).setg (.inl rfl) HR.out.hg _).anew (fun j hj => ?_)
  rcases hj with e | e | e
  · exact .inl (.inl e)
  · exact .inr (own_base P2.out j e)
  · exact .inr (Nat.le_trans s1 (own_base P4.out j e))
set_option maxHeartbeats 8000000 in
set_option maxRecDepth 100000 in
theorem rback_calls (base g : Nat) (L S : List Jb) (F : Nat → Prop) (k : Int) (w : World) (h : RL w base g L S F) (hL : L.length ≤ 1000000) (hS : S.length ≤ 1000000) :
    Calls Try.prog 19 #[.pointer (some ⟨g, 0, none⟩), .int .i64 k] w fun e w' => e = .returned (.int .i64 (own k S).length) ∧ ∃ F', RL w' base g (if own k S = [] then L else oth k L ++ own k S ++ own k L) (if own k S = [] then S else oth k S) F' ∧ FrL w w' base F F' := by
  obtain ⟨vL, vA, h, hF⟩ := h
  subst hF
  obtain ⟨AL, cL, hvL, hrL⟩ := h.oL.form
  obtain ⟨AA, cA, hvA, hrA⟩ := h.oA.form
  obtain ⟨nL, hnL⟩ : ∃ n, n = L.length := ⟨_, rfl⟩
  obtain ⟨nS, hnS⟩ : ∃ n, n = S.length := ⟨_, rfl⟩
  rw [← hnL] at hvL
  rw [← hnS] at hvA
  subst hvL
  subst hvA
  have HR := Aside0.mk h
  have HNL := Aside0.mk hnL
  have HRL := Aside0.mk hrL
  have HBL := Aside0.mk (show nL ≤ 2097152 by omega)
  obtain ⟨k0, k1, z0, z1⟩ := h.cells
  have HSP1 := Aside0.mk (split_calls S AA cA nS hnS k w hrA (by omega))
  obtain ⟨a1, ha1⟩ : ∃ a1, a1 = (own k S).length := ⟨_, rfl⟩
  obtain ⟨a3, ha3⟩ : ∃ a3, a3 = (own k L).length := ⟨_, rfl⟩
  obtain ⟨a4, ha4⟩ : ∃ a4, a4 = (oth k L).length := ⟨_, rfl⟩
  obtain ⟨n5, hn5⟩ : ∃ n5, n5 = (oth k L).length + (own k S).length := ⟨_, rfl⟩
  obtain ⟨n6, hn6⟩ : ∃ n6, n6 = (oth k L ++ own k S).length + (own k L).length := ⟨_, rfl⟩
  have HA1 := Aside0.mk ha1
  have HA3 := Aside0.mk ha3
  have HA4 := Aside0.mk ha4
  have HN5 := Aside0.mk hn5
  have HN6 := Aside0.mk hn6
  have HB5 := Aside0.mk (show n5 ≤ 2097152 from by have := oth_le k L; have := own_le k S; omega)
  have HB6 := Aside0.mk (show n6 ≤ 2097152 from by have := own_oth k L; have := own_le k S; rw [List.length_append] at hn6; omega)
  obtain ⟨L1, hL1⟩ : ∃ L1, L1 = (if own k S = [] then L else oth k L ++ own k S ++ own k L) := ⟨_, rfl⟩
  obtain ⟨S1, hS1⟩ : ∃ S1, S1 = (if own k S = [] then S else oth k S) := ⟨_, rfl⟩
  rw [← hL1, ← hS1, ← ha1]
  have HL1 := Aside0.mk hL1
  have HS1 := Aside0.mk hS1
  clear h hnL hnS hrL hrA hL hS ha3 ha4 hn5 hn6 hL1 hS1
  by_cases h0 : own k S = []
  · have H0 := Aside0.mk h0
    rw [h0] at ha1
    have ha0 : a1 = 0 := ha1
    subst ha0
    clear ha1 h0
    go_enter Try.func19, Try.ntmps19
    go_wp2_with (first | (go_at_call 31; (with_reducible refine HSP1.out.mono ?_); rintro e w1 ⟨A1, c1, A2, c2, rfl, p1, p2, p3, hb⟩; have B1 := Aside0.mk hb; have P1 := Aside0.mk p1; have P2 := Aside0.mk p2; have R1 := Aside0.mk (HR.out.below hb); have HSP2 := Aside0.mk (split_calls L AL cL nL HNL.out k w1 (Reads.below HRL.out hb) HBL.out); clear p1 p2 p3 hb k0 k1 z0 z1; obtain ⟨k0, k1, z0, z1⟩ := R1.out.cells; rw [← HA1.out] at P1; rw [← HA1.out]))
    go_ret
    rw [HL1.out, HS1.out, if_pos H0.out, if_pos H0.out]
    exact ⟨rfl, _, ⟨_, _, R1.out, rfl⟩, FrL.of_below _ B1.out HR.out.base_le⟩
  · have H0 := Aside0.mk h0
    have hne : ¬ a1 = 0 := fun e => h0 (List.eq_nil_of_length_eq_zero (ha1.symm.trans e))
    have i1 : ¬ ((a1 : Int) = 0) := by omega
    have i2 : decide ((a1 : Int) = 0) = false := decide_eq_false i1
    clear h0 hne ha1
    go_enter Try.func19, Try.ntmps19
    go_wp2_with (first | (go_at_call 31; (with_reducible refine HSP1.out.mono ?_); rintro e w1 ⟨A1, c1, A2, c2, rfl, p1, p2, p3, hb⟩; have B1 := Aside0.mk hb; have P1 := Aside0.mk p1; have P2 := Aside0.mk p2; have R1 := Aside0.mk (HR.out.below hb); have HSP2 := Aside0.mk (split_calls L AL cL nL HNL.out k w1 (Reads.below HRL.out hb) HBL.out); clear p1 p2 p3 hb k0 k1 z0 z1; obtain ⟨k0, k1, z0, z1⟩ := R1.out.cells; rw [← HA1.out] at P1; rw [← HA1.out]) | (go_at_call 31; (with_reducible refine HSP2.out.mono ?_); rintro e w2 ⟨A3, c3, A4, c4, rfl, p1, p2, p3, hb⟩; have B2 := Aside0.mk hb; have P3 := Aside0.mk p1; have P4 := Aside0.mk p2; have P34 := Aside0.mk p3; have R2 := Aside0.mk (R1.out.below hb); clear p1 p2 p3 hb k0 k1 z0 z1; obtain ⟨k0, k1, z0, z1⟩ := R2.out.cells; rw [← HA3.out] at P3 P34; rw [← HA3.out]; rw [← HA4.out] at P4 P34; rw [← HA4.out]) | ((with_reducible refine gate_store (t := 36) (p := 33) rfl ?_); refine store_event2 (w1 := w2.setCell ⟨g, 1, none⟩ (.slice A2 (oth k S).length c2)) ?hg ?hn ?hr ?_; (case hg => rfl); (case hn => rfl); (case hr => first | (go_simp; done) | (go_simp; rfl)); intro w3 hW_; have HW3 := Aside0.mk hW_; clear hW_; have Z3 := Aside0.mk (show w3.heap[g]? = some (.cells #[.slice AL nL cL, .slice A2 (oth k S).length c2] 46 (0, 0)) from by rw [HW3.out]; exact blk_put R2.out.blk 1 _ rfl); have GF := Aside0.mk (blk_lt HR.out.blk); have SZ1 := Aside0.mk B1.out.size; have SZ2 := Aside0.mk B2.out.size; have K3 := Aside0.mk (fun (j : Nat) (hj : w.heap.size ≤ j) => (show w3.heap[j]? = w2.heap[j]? from by rw [HW3.out]; exact heap_other (by have := GF.out; omega) _)); have Q1 := Aside0.mk (((P1.out.below B2.out).kept (fun j e => K3.out j (own_base P1.out j e))) : OwnJ w3 w.heap.size (.slice A1 a1 c1) (own k S)); have Q2 := Aside0.mk (((P2.out.below B2.out).kept (fun j e => K3.out j (own_base P2.out j e))) : OwnJ w3 w.heap.size (.slice A2 (oth k S).length c2) (oth k S)); have Q3 := Aside0.mk ((P3.out.kept (fun j e => K3.out j (Nat.le_trans SZ1.out (own_base P3.out j e)))) : OwnJ w3 w1.heap.size (.slice A3 a3 c3) (own k L)); have Q4 := Aside0.mk ((P4.out.kept (fun j e => K3.out j (Nat.le_trans SZ1.out (own_base P4.out j e)))) : OwnJ w3 w1.heap.size (.slice A4 a4 c4) (oth k L)); have SZ3 := Aside0.mk (show w3.heap.size = w2.heap.size from by rw [HW3.out, size_set]); clear k0 k1 z0 z1) | ((with_reducible refine gate_dst (N := 36) rfl ?_); refine appJ_event ?hg (N := 36) ?hd (.tmp 34) (.tmp 35) ?ho w1.heap.size (.slice A4 a4 c4) (oth k L) (own k S) A1 c1 a1 n5 HA1.out HN5.out ?hs ?hx Q4.out (own_reads Q1.out) HB5.out (by rw [SZ3.out]; exact SZ2.out) ?_; (case hd => rfl); (case hg => rfl); (case ho => rfl); (case hs => rfl); (case hx => rfl); intro A5 c5 w4 h5 hg5 ha5; have Q5 := Aside0.mk h5; have G5 := Aside0.mk hg5; have H5 := Aside0.mk ha5; have Q3' := Aside0.mk (show OwnJ w4 w1.heap.size (.slice A3 a3 c3) (own k L) from Q3.out.grown hg5 (fun j e e2 => P34.out j e e2)); have Q2' := Aside0.mk (show OwnJ w4 w.heap.size (.slice A2 (oth k S).length c2) (oth k S) from Q2.out.grown hg5 (fun j e e2 => by have h1 := own_base P4.out j e2; have h2 := (World.ownsRow.lt P2.out j e).2; omega)); clear h5 hg5 ha5) | ((with_reducible refine gate_dst (N := 39) rfl ?_); refine appJ_event ?hg (N := 39) ?hd (.tmp 37) (.tmp 38) ?ho w1.heap.size (.slice A5 n5 c5) (oth k L ++ own k S) (own k L) A3 c3 a3 n6 HA3.out HN6.out ?hs ?hx Q5.out (own_reads Q3'.out) HB6.out (Nat.le_trans (by rw [SZ3.out]; exact SZ2.out) G5.out.size) ?_; (case hd => rfl); (case hg => rfl); (case ho => rfl); (case hs => rfl); (case hx => rfl); intro A6 c6 w5 h6 hg6 ha6; have Q6 := Aside0.mk h6; have G6 := Aside0.mk hg6; have H6 := Aside0.mk ha6; have Q2'' := Aside0.mk (show OwnJ w5 w.heap.size (.slice A2 (oth k S).length c2) (oth k S) from Q2'.out.grown hg6 (fun j e e2 => by have h1 := own_base Q5.out j e2; have h2 := (World.ownsRow.lt P2.out j e).2; omega)); have Z5 := Aside0.mk (show w5.heap[g]? = some (.cells #[.slice AL nL cL, .slice A2 (oth k S).length c2] 46 (0, 0)) from ((hg6.block g (Nat.lt_of_lt_of_le (blk_lt Z3.out) G5.out.size) (fun e => by have h1 := own_base Q5.out g e.symm; have := GF.out; have := SZ1.out; omega)).trans (G5.out.block g (blk_lt Z3.out) (fun e => by have h1 := own_base P4.out g e.symm; have := GF.out; have := SZ1.out; omega))).trans Z3.out); clear h6 hg6 ha6; have k0 := (blk_cell Z5.out 0).trans rfl; have k1 := (blk_cell Z5.out 1).trans rfl; have z0 := blk_frozen Z5.out 0; have z1 := blk_frozen Z5.out 1) | ((with_reducible refine gate_store (t := 36) (p := 43) rfl ?_); refine store_event2 (w1 := w5.setCell ⟨g, 0, none⟩ (.slice A6 n6 c6)) ?hg ?hn ?hr ?_; (case hg => rfl); (case hn => rfl); (case hr => first | (go_simp; done) | (go_simp; rfl)); intro w6 hW_; have HW6 := Aside0.mk hW_; clear hW_; have Z6 := Aside0.mk (show w6.heap[g]? = some (.cells #[.slice A6 n6 c6, .slice A2 (oth k S).length c2] 46 (0, 0)) from by rw [HW6.out]; exact blk_put Z5.out 0 _ rfl); clear k0 k1 z0 z1))
    go_ret
    rw [HL1.out, HS1.out, if_neg H0.out, if_neg H0.out]
    have s1 := SZ1.out
    have s2 := SZ2.out
    have s3 := SZ3.out
    have hg := GF.out
    have o6 : ∀ j, j ≠ g → w6.heap[j]? = w5.heap[j]? := fun j hj => by rw [HW6.out, heap_other hj]
    have q6 : OwnJ w6 w1.heap.size (.slice A6 n6 c6) (oth k L ++ own k S ++ own k L) := Q6.out.kept fun j e => o6 j (by have := own_base Q6.out j e; omega)
    have q2 : OwnJ w6 w.heap.size (.slice A2 (oth k S).length c2) (oth k S) := Q2''.out.kept fun j e => o6 j (by have := own_base P2.out j e; omega)
    refine ⟨rfl, _, ⟨_, _, ⟨HR.out.hg, Z6.out, q6.mono (Nat.le_trans HR.out.base_le s1), q2.mono HR.out.base_le, fun j e e2 => by have := own_base Q6.out j e; have := (World.ownsRow.lt P2.out j e2).2; omega⟩, rfl⟩, ?_⟩
    rw [HW6.out]
    have f0 : FrL w w2 base (rfoot g (.slice AL nL cL) (.slice AA nS cA)) (rfoot g (.slice AL nL cL) (.slice AA nS cA)) := FrL.of_below _ (below_tr B1.out B2.out) HR.out.base_le
    have f1 := f0.setg (i := 1) (.inl rfl) HR.out.hg (.slice A2 (oth k S).length c2)
    rw [← HW3.out] at f1
    have f2 := f1.grown G5.out (fun j e => ⟨by have := own_base P4.out j e; have := HR.out.base_le; omega, .inr (by have := own_base P4.out j e; omega)⟩) HR.out.base_le
    have f3 := f2.grown G6.out (fun j e => ⟨by have := own_base Q5.out j e; have := HR.out.base_le; omega, .inr (by have := own_base Q5.out j e; omega)⟩) HR.out.base_le
    refine (f3.setg (.inl rfl) HR.out.hg _).anew (fun j hj => ?_)
    rcases hj with e | e | e
    · exact .inl (.inl e)
    · exact .inr (Nat.le_trans s1 (own_base Q6.out j e))
    · exact .inr (own_base P2.out j e)
end Go.Proofs.Ytnegagkjhnpgmaa.Sc

namespace Go.Proofs.Ytnegagkjhnpgmaa.Sc
open Go.RowKit Go.Proofs.YtnegagkjhnpgmaaW.PrintWords Go.Proofs.YtnegagkjhnpgmaaW.PrintMore Go.Proofs.YtnegagkjhnpgmaaW.PrintLast Go.Proofs.Ytnegagkjhnpgmaa.Dq
set_option linter.unusedVariables false
set_option linter.unusedSimpArgs false
attribute [local go_sem ↓] Go.wp_at_zero Go.wp_at_succ
/-- Next, as the document has it. -/
def nxR (W : List Int) : List Jb → List Jb → Option Jb × List Jb × List Jb
  | [], S => (none, [], S)
  | x :: L, S => if x.h ∈ W then nxR W L (S ++ [x]) else (some x, L, S)
theorem nxR_wait {W : List Int} {x : Jb} (L S : List Jb) (h : x.h ∈ W) : nxR W (x :: L) S = nxR W L (S ++ [x]) := if_pos h
theorem nxR_free {W : List Int} {x : Jb} (L S : List Jb) (h : ¬ x.h ∈ W) : nxR W (x :: L) S = (some x, L, S) := if_neg h
section
variable {ops : Array Oper} {rest : List Oper} {o : Oper} {a : Act} {Q : Exit → Act → World → Prop} {W : World}
/-- What is behind a row's first. -/
theorem slc_event (hgd : o.guard = none) {N : Tmp} (hd : o.dst = some N) (ho : o.op = .slice 36 (.tmp 25) (some (.const (.int .i64 1))) none none) (gl m c : Nat) (x : Jb) (L2 : List Jb) (hm : m = L2.length) (hx : a.eval (.tmp 25) = .slice (some ⟨gl, 0, none⟩) (m + 1) c) (hb : RBk W gl (x :: L2)) (hc : m + 1 ≤ c)
    (h : ∀ A' c', Reads W A' L2 → wpList Try.prog ops Q rest (a.put o.dst (.slice A' m c')) W) : wpList Try.prog ops Q (o :: rest) a W := by
  have hu := Try.underlying36
  have hu2 := Try.underlying29
  by_cases h1 : c = 1
  · have hm0 : m = 0 := by omega
    subst h1
    subst hm0
    refine Kd.event_run (v := .slice (some ⟨gl, 0, none⟩) 0 0) (w1 := W) hgd ?_ (h _ _ (fun h0 => by omega))
    clear h
    have hk : a.eval (.const (.int .i64 1)) = .int .i64 1 := rfl
    generalize a.eval = ev at hx hk ⊢
    unfold execOp
    simp only [ho, hx, hk]
    clear hx ho hm hb
    first | (go_simp; done) | (go_simp; rfl)
  · refine Kd.event_run (v := .slice (some ⟨gl, 4, none⟩) m (c - 1)) (w1 := W) hgd ?_ (h _ _ ?_)
    · clear h
      have c1 : (1 : Int) ≤ ((m : Int) + 1) := by omega
      have c2 : (1 : Int) ≤ (c : Int) := by omega
      have c3 : ¬ (1 = c) := fun e => h1 e.symm
      have c4 : (m + 1 : Nat) ≤ c := hc
      have c5 : (1 : Nat) ≤ c := by omega
      have c6 : ((m : Int) + 1) ≤ (c : Int) := by omega
      have hk : a.eval (.const (.int .i64 1)) = .int .i64 1 := rfl
      generalize a.eval = ev at hx hk ⊢
      unfold execOp
      simp only [ho, hx, hk]
      clear hx ho hb hm
      first | (go_simp; done) | (go_simp; rfl)
    · intro h0
      obtain ⟨cur, hg, _, hcc⟩ := hb
      refine ⟨_, rfl, fun j v hj => ?_⟩
      have e : (⟨gl, 4, none⟩ : Addr).add j = ⟨gl, 4 + j, none⟩ := by unfold Addr.add; split <;> simp_all
      rw [e]
      refine (blk_cell hg _).trans (hcc _ _ ?_)
      rw [flat_cons, show 4 + j = j + 4 from Nat.add_comm 4 j]
      exact hj
end
section
variable {ops : Array Oper} {S : World → Prop} {fuel : Nat} {listed : Array Bool} {a : Act} {W : World} {Q : Exit → Act → World → Prop} {rs : List Nat}
/-- A load of a row's field and a row of one job that are both ready: whichever comes first, one state. -/
theorem next_ld_bs (i j : Nat) (N1 p N2 s : Tmp) (g : Nat) (vL v : Value) (x : Jb) (hr : Region.ready .any ops listed = [i, j]) (hr1 : Region.ready .any ops (listed.setIfInBounds i true) = [j]) (hr2 : Region.ready .any ops (listed.setIfInBounds j true) = [i]) (hij : i ≠ j) (hN : N1 ≠ N2)
    (hi : (ops[i]?).map (fun o => (o.guard.isNone, o.dst, o.op)) = some (true, some N1, .load 36 (.tmp p)))
    (hp : a.eval (.tmp p) = .pointer (some ⟨g, 1, none⟩)) (hp2 : ∀ c, (a.put (some N2) c).eval (.tmp p) = .pointer (some ⟨g, 1, none⟩))
    (hj : (ops[j]?).map (fun o => (o.guard.isNone, o.dst, o.op)) = some (true, some N2, .buildSlice 36 1 #[(0, .tmp s)]))
    (hx : a.eval (.tmp s) = .agg #[.int .i64 x.h, .slice x.A x.n x.c, .int .i64 x.sz, .string x.ft]) (hx2 : ∀ c, (a.put (some N1) c).eval (.tmp s) = .agg #[.int .i64 x.h, .slice x.A x.n x.c, .int .i64 x.sz, .string x.ft])
    (hg : W.heap[g]? = some (.cells #[vL, v] 46 (0, 0)))
    (hS : ∀ W1, Below W.heap.size W W1 → S W1)
    (h : ∀ b w1, b = W.heap.size → w1.heap[b]? = some (.cells #[.int .i64 x.h, .slice x.A x.n x.c, .int .i64 x.sz, .string x.ft] 29 (0, 0)) → Below W.heap.size W w1 → w1.heap.size = b + 1 → wpAnyH Try.prog .any ops Q S fuel ((listed.setIfInBounds i true).setIfInBounds j true) ((a.put (some N1) v).put (some N2) (.slice (some ⟨b, 0, none⟩) 1 1)) w1) :
    wpAnyH Try.prog .any ops Q S (fuel + 1 + 1) listed a W := by
  have hrun : ∀ (ev : Operand → Value) (o : Oper) (W1 : World), Below W.heap.size W W1 → ev (.tmp p) = .pointer (some ⟨g, 1, none⟩) → o.op = .load 36 (.tmp p) → (execOp ev o).run Try.prog W1 = .ok (.value v) W1 := fun ev o W1 hb hp ho => by
    have hu := Try.underlying36
    have k1 : W1.cell? ⟨g, 1, none⟩ = some v := (blk_cell (old_blk hg hb) 1).trans rfl
    unfold execOp
    simp only [ho, hp]
    clear hg hb hp ho
    first | (go_simp; done) | (go_simp; rfl)
  refine next_two hr ?_
  refine cons_val i v W hi (fun o ho => hrun _ o W (Below.refl _ _) hp ho) ⟨hS W (Below.refl _ _), ?_⟩ ?_
  · refine next_one hr1 ?_
    exact cons_bs j N2 s x hj (hx2 _) (fun b w1 h1 h2 h3 h4 => ⟨hS w1 h3, h b w1 h1 h2 h3 h4⟩) AllReadyH.nil
  · refine cons_bs j N2 s x hj hx (fun b w1 h1 h2 h3 h4 => ⟨hS w1 h3, ?_⟩) AllReadyH.nil
    refine next_one hr2 ?_
    refine cons_val i v w1 hi (fun o ho => hrun _ o w1 h3 (hp2 _) ho) ⟨hS w1 h3, ?_⟩ AllReadyH.nil
    rw [put_comm a hN, Array.setIfInBounds_comm true true (fun e => hij e.symm)]
    exact h b w1 h1 h2 h3 h4
theorem cons_st (i : Nat) (p s : Tmp) (g : Nat) (vL v0 : Value) (A : Option Addr) (n c : Nat) (hi : (ops[i]?).map (fun o => (o.guard.isNone, o.dst, o.op)) = some (true, none, .store 36 (.tmp p) (.tmp s)))
    (hp : a.eval (.tmp p) = .pointer (some ⟨g, 1, none⟩)) (hv : a.eval (.tmp s) = .slice A n c) (hg : W.heap[g]? = some (.cells #[vL, v0] 46 (0, 0)))
    (h : ∀ w1, w1 = W.setCell ⟨g, 1, none⟩ (.slice A n c) → S w1 ∧ wpAnyH Try.prog .any ops Q S fuel (listed.setIfInBounds i true) a w1)
    (hs : AllReadyH Try.prog .any ops Q S fuel listed a W rs) : AllReadyH Try.prog .any ops Q S fuel listed a W (i :: rs) := by
  obtain ⟨o, ho, hgd, hd, hop⟩ := oper_of hi
  refine AllReadyH.cons ho (fun K hK => ?_) hs
  have hw : Region.wanted o (yielded ops a.tmps) = true := by simp [Region.wanted, hgd]
  rw [if_pos hw]
  have h9 := h _ rfl
  have hrun : (execOp a.eval o).run Try.prog W = .ok .skip (W.setCell ⟨g, 1, none⟩ (.slice A n c)) := by
    have hu := Try.underlying36
    have k1 : W.cell? ⟨g, 1, none⟩ = some v0 := (blk_cell hg 1).trans rfl
    have z1 : W.frozen? ⟨g, 1, none⟩ = false := blk_frozen hg 1
    unfold execOp
    simp only [hop, hp, hv]
    clear h9 h hs hi hK hg
    first | (go_simp; done) | (go_simp; rfl)
  unfold Oper.wp
  rw [hrun]
  show K (a.put o.dst undef) _
  rw [hd]
  exact hK.out _ _ h9.1 (fun _ => h9.2)
end
/-- How many things a document's line has, in a world. -/
def mzR (g : Nat) (W : World) : Nat := match W.cell? ⟨g, 0, none⟩ with
  | some (.slice _ n _) => n
  | _ => 0
theorem mzR_of {W : World} {base g : Nat} {L S : List Jb} {vL vA : Value} (h : RLn W base g L S vL vA) : mzR g W = L.length := by
  obtain ⟨A, c, hv, _⟩ := h.oL.form
  unfold mzR
  rw [h.cells.1, hv]
def RelN (w1 : World) (base g : Nat) (F0 : Nat → Prop) (l0 : List Int) (L S : List Jb) (g4 : Nat) (wr : World) : Prop :=
  ∃ L1 S1 vL vA, RLn wr base g L1 S1 vL vA ∧ nxR l0 L1 S1 = nxR l0 L S ∧ FrL w1 wr base F0 (rfoot g vL vA) ∧ wr.heap[g4]? = some (.cells #[.int .i64 0, .slice none 0 0, .int .i64 0, .string (⟨#[]⟩ : ByteArray)] 29 (0, 0)) ∧ S1.length + L1.length ≤ 1000000
def free (h : Int) (l : List Int) : Bool := l.all fun y => !decide (y = h)
def RelFr (w6 : World) (l0 : List Int) (h : Int) (v7 v8 : Value) (wr : World) : Prop := ∃ i : Nat, v8 = .int .i64 i ∧ i ≤ l0.length ∧ v7 = .bool (free h (l0.take i)) ∧ Below w6.heap.size w6 wr
theorem free_end (l0 : List Int) (h : Int) : free h l0 = !decide (h ∈ l0) := by
  unfold free
  induction l0 with
  | nil => rfl
  | cons y l ih =>
    rw [List.all_cons, ih]
    by_cases e : y = h
    · subst e; simp
    · have e2 : ¬ h = y := fun e3 => e e3.symm
      by_cases e3 : h ∈ l
      · simp [e, e3]
      · simp [e, e2, e3]
theorem free_next (l0 : List Int) (h : Int) (i : Nat) (hi : i < l0.length) : free h (l0.take (i + 1)) = (free h (l0.take i) && !decide (l0.getD i 0 = h)) := by
  have e : l0.take (i + 1) = l0.take i ++ [l0.getD i 0] := by rw [List.take_add_one, List.getD_eq_getElem?_getD, List.getElem?_eq_getElem hi]; rfl
  unfold free
  rw [e, List.all_append]
  simp
theorem C_cell' {w : World} {A : Option Addr} {n : Nat} {l : List Int} (h : Kd.C (Kd.int .i64) w A n l) (i : Nat) (hi : i < l.length) : ∃ ad, A = some ad ∧ w.cell? (ad.add i) = some (.int .i64 (l.getD i 0)) := by
  obtain ⟨hn, hm, hc⟩ := h
  obtain ⟨ad, e, hc⟩ := hc (by omega)
  obtain ⟨c, hs, hr, hcell⟩ := hc i _ (List.getElem?_eq_getElem hi)
  have hr' : c = [.int .i64 (l[i]'hi)] := hr
  subst hr'
  refine ⟨ad, e, ?_⟩
  have := hcell 0 _ rfl
  rw [show i * (Kd.int .i64).sz + 0 = i from by show i * 1 + 0 = i; omega] at this
  rw [this, List.getD_eq_getElem?_getD, List.getElem?_eq_getElem hi]
  rfl
set_option maxHeartbeats 40000000 in
set_option maxRecDepth 100000 in
theorem rnext_calls (base g : Nat) (L S : List Jb) (F : Nat → Prop) (A0 : Option Addr) (c0 nw : Nat) (l0 : List Int) (hnw : nw = l0.length) (w : World) (h : RL w base g L S F) (hl0 : nw ≤ 2000000)
    (hw : ∀ W : World, (∀ k, k < w.heap.size → ¬ F k → W.heap[k]? = w.heap[k]?) → Kd.C (Kd.int .i64) W A0 nw l0) (hb : S.length + L.length ≤ 1000000) :
    Calls Try.prog 17 #[.pointer (some ⟨g, 0, none⟩), .slice A0 nw c0] w fun e w' => e = .returned (.tuple #[.agg #[.int .i64 ((nxR l0 L S).1.getD Jb.z).h, .slice ((nxR l0 L S).1.getD Jb.z).A ((nxR l0 L S).1.getD Jb.z).n ((nxR l0 L S).1.getD Jb.z).c, .int .i64 ((nxR l0 L S).1.getD Jb.z).sz, .string ((nxR l0 L S).1.getD Jb.z).ft], .bool (nxR l0 L S).1.isSome]) ∧ ∃ F', RL w' base g (nxR l0 L S).2.1 (nxR l0 L S).2.2 F' ∧ FrL w w' base F F' := by
  have hu := Try.underlying29
  obtain ⟨vL, vA, hla, hF⟩ := h
  subst hF
  have LA := Aside0.mk hla
  have HBD := Aside0.mk hb
  have HX := Aside0.mk hw
  have HNW := Aside0.mk hnw
  have HL0 := Aside0.mk hl0
  have hbase := hla.base_le
  have GLT := Aside0.mk (blk_lt hla.blk)
  clear hla hb hw hnw hl0
  go_enter Try.func17, Try.ntmps17
  go_wp2_with (first | ((with_reducible refine gate_dst (N := 4) rfl ?_); refine box_event ?hg (N := 4) ?hd (cs := #[.int .i64 0, .slice none 0 0, .int .i64 0, .string (⟨#[]⟩ : ByteArray)]) (t := 29) ?hr ?_; (case hd => rfl); (case hg => rfl); (case hr => first | (go_simp; done) | (go_simp; rfl)); intro g4 hg_ w1 hbox hb; have G4 := Aside0.mk hg_; have BW1 := Aside0.mk hb; have B4 := Aside0.mk hbox; clear hbox hb hg_))
  have L1 := Aside0.mk (LA.out.below BW1.out)
  go_loopw [] (fun wr => RelN w1 base g (rfoot g vL vA) l0 L S g4 wr) (fun wr => mzR g wr)
  case atStart => exact ⟨L, S, vL, vA, L1.out, rfl, FrL.refl _ _ _, B4.out, HBD.out⟩
  case round =>
    obtain ⟨La, Sa, va, vb, hla, hnx, hfr, hb4, hbd⟩ := hrel
    have HR := Aside0.mk hla
    have HNX := Aside0.mk hnx
    have HFR := Aside0.mk hfr
    have B4R := Aside0.mk hb4
    have HBD1 := Aside0.mk hbd
    have NF4 := Aside0.mk (show ¬ rfoot g va vb g4 from fun hf => by
      rcases hfr.new g4 hf with h1 | h1
      · have := (LA.out.foot_lt g4 h1).2; have := G4.out; omega
      · have := blk_lt B4.out; omega)
    have FR1 := Aside0.mk ((FrL.of_below (rfoot g vL vA) BW1.out hbase).trans hfr)
    clear hla hnx hfr hb4 hbd
    obtain ⟨AL, c, hva, hrL⟩ := HR.out.oL.form
    obtain ⟨n, hn⟩ : ∃ n, n = La.length := ⟨_, rfl⟩
    rw [← hn] at hva
    subst hva
    obtain ⟨k0, k1, z0, z1⟩ := HR.out.cells
    cases La with
    | nil =>
      have hn0 : n = 0 := hn
      subst hn0
      clear hn hrL
      obtain ⟨y0, y1, y2, y3, t0, t1, t2, t3⟩ := cells4 B4R.out
      go_wp2_with (first | ((with_reducible refine gate_store (t := 29) (p := 4) rfl ?_); refine store_event2 (w1 := ((((wr.setCell ⟨g4, 0, none⟩ (.int .i64 0)).setCell ⟨g4, 1, none⟩ (.slice none 0 0)).setCell ⟨g4, 2, none⟩ (.int .i64 0)).setCell ⟨g4, 3, none⟩ (.string (⟨#[]⟩ : ByteArray)))) ?hg ?hn ?hr ?_; (case hg => rfl); (case hn => rfl); (case hr => first | (go_simp; done) | (go_simp; rfl)); intro w7 hW_; have HW7 := Aside0.mk hW_; clear hW_; clear y0 y1 y2 y3 t0 t1 t2 t3))
      have B47 := Aside0.mk (show w7.heap[g4]? = some (.cells #[.int .i64 0, .slice none 0 0, .int .i64 0, .string (⟨#[]⟩ : ByteArray)] 29 (0, 0)) from by rw [HW7.out]; exact put4 B4R.out _ _ _ _)
      refine bodyPost_ret (results_ct rfl _ _ g4 29 #[.int .i64 0, .slice none 0 0, .int .i64 0, .string (⟨#[]⟩ : ByteArray)] (0, 0) _ rfl B47.out Try.underlying29 rfl (by kernel_rfl)) rfl ?_
      have hW : w7 = p4 wr g4 Jb.z := HW7.out
      have hnx : nxR l0 L S = (none, [], Sa) := HNX.out.symm
      rw [hnx, hW]
      exact ⟨rfl, _, ⟨_, _, HR.out.kept fun j hj => p4_other (fun e => NF4.out (by rw [← e]; exact hj)) _, rfl⟩, FR1.out.p4 (Nat.le_of_eq G4.out.symm) hbase _⟩
    | cons x L2 =>
      obtain ⟨m, hm⟩ : ∃ m, m = L2.length := ⟨_, rfl⟩
      have hnm : n = m + 1 := by rw [hn, hm]; rfl
      subst hnm
      have HML := Aside0.mk hm
      have HMB := Aside0.mk (show m ≤ 2097152 from by have := HBD1.out; simp only [List.length_cons] at this; omega)
      obtain ⟨ad, hAd, _⟩ := hrL (by simp)
      subst hAd
      obtain ⟨gl, hgl⟩ := own_zero_adr HR.out.oL
      subst hgl
      have HCP := Aside0.mk (show m + 1 ≤ c from by have h := own_cap HR.out.oL; rw [List.length_cons, ← hm] at h; exact h)
      obtain ⟨x0', x1', x2', x3'⟩ := (RBk.of_own HR.out.oL).1.at 0 (by simp)
      have x0 : wr.cell? ⟨gl, 0, none⟩ = some (.int .i64 x.h) := x0'
      have x1 : wr.cell? ⟨gl, 1, none⟩ = some (.slice x.A x.n x.c) := x1'
      have x2 : wr.cell? ⟨gl, 2, none⟩ = some (.int .i64 x.sz) := x2'
      have x3 : wr.cell? ⟨gl, 3, none⟩ = some (.string x.ft) := x3'
      obtain ⟨Lr, hLr⟩ : ∃ Lr, Lr = nxR l0 L S := ⟨_, rfl⟩
      rw [← hLr] at HNX
      have i1 : (0 : Int) < (m : Int) + 1 := by omega
      have i2 : decide ((0 : Int) < (m : Int) + 1) = true := decide_eq_true i1
      have i3 : decide ((m : Int) + 1 > 0) = true := decide_eq_true i1
      have i4 := eq_true i1
      obtain ⟨xh, xA, xn, xc, xs, xf⟩ := x
      dsimp only at x0 x1 x2 x3
      clear x0' x1' x2' x3' hrL hm hn
      go_wp2_with (first | ((with_reducible refine gate_dst (N := 6) rfl ?_); refine box_event ?hg (N := 6) ?hd (cs := #[.int .i64 0, .slice none 0 0, .int .i64 0, .string (⟨#[]⟩ : ByteArray)]) (t := 29) ?hr ?_; (case hd => rfl); (case hg => rfl); (case hr => first | (go_simp; done) | (go_simp; rfl)); intro g6 hg_ w3 hbox hb; have G6 := Aside0.mk hg_; have BW3 := Aside0.mk hb; have B6 := Aside0.mk hbox; clear hbox hb hg_ x0 x1 x2 x3 k0 k1 z0 z1; obtain ⟨u0, u1, u2, u3, v0, v1, v2, v3⟩ := cells4 B6.out) | ((with_reducible refine gate_store (t := 29) (p := 6) rfl ?_); refine store_event2 (w1 := ((((w3.setCell ⟨g6, 0, none⟩ (.int .i64 xh)).setCell ⟨g6, 1, none⟩ (.slice xA xn xc)).setCell ⟨g6, 2, none⟩ (.int .i64 xs)).setCell ⟨g6, 3, none⟩ (.string xf))) ?hg ?hn ?hr ?_; (case hg => rfl); (case hn => rfl); (case hr => first | (go_simp; done) | (go_simp; rfl)); intro w4 hW_; have HW4 := Aside0.mk hW_; clear hW_; have BW := Aside0.mk (show Below wr.heap.size wr w4 from by rw [HW4.out]; exact below_set (below_set (below_set (below_set BW3.out (Nat.le_of_eq G6.out.symm)) (Nat.le_of_eq G6.out.symm)) (Nat.le_of_eq G6.out.symm)) (Nat.le_of_eq G6.out.symm)); have BX := Aside0.mk (show w4.heap[g6]? = some (.cells #[.int .i64 xh, .slice xA xn xc, .int .i64 xs, .string xf] 29 (0, 0)) from by rw [HW4.out]; exact put4 B6.out _ _ _ _); clear u0 u1 u2 u3 v0 v1 v2 v3 BW3 B6 HW4; have R4 := Aside0.mk (HR.out.below BW.out); obtain ⟨k0, k1, z0, z1⟩ := R4.out.cells) | ((with_reducible refine gate_dst (N := 26) rfl ?_); refine slc_event ?hg (N := 26) ?hd ?ho gl m c ⟨xh, xA, xn, xc, xs, xf⟩ L2 HML.out ?hx (RBk.of_own R4.out.oL).1 HCP.out ?_; (case hd => rfl); (case hg => rfl); (case ho => rfl); (case hx => rfl); intro A2 c2 hr2; have RD2 := Aside0.mk hr2; clear hr2) | ((with_reducible refine gate_dst (N := 27) rfl ?_); refine appJ_event ?hg (N := 27) ?hd (.const (.slice none 0 0)) (.tmp 26) ?ho w4.heap.size (.slice none 0 0) [] L2 A2 c2 m m HML.out ?hns ?hs ?hx (own_nil _ _ _ _) RD2.out HMB.out (Nat.le_refl _) ?_; (case hd => rfl); (case hg => rfl); (case ho => rfl); (case hs => rfl); (case hx => rfl); (case hns => rw [List.length_nil, Nat.zero_add]; exact HML.out); intro A5 c5 w5 h5 hg5 ha5; have Q5 := Aside0.mk (show OwnJ w5 w4.heap.size (.slice A5 m c5) L2 from h5); have B5 := Aside0.mk (show Below w4.heap.size w4 w5 from pw_below_grown (Below.refl _ _) _ (Nat.le_refl _) hg5 (fun j e => by cases e)); clear h5 hg5 ha5 k0 k1 z0 z1; have R5 := Aside0.mk (R4.out.below B5.out); obtain ⟨k0, k1, z0, z1⟩ := R5.out.cells) | ((with_reducible refine gate_store (t := 36) (p := 29) rfl ?_); refine store_event2 (w1 := w5.setCell ⟨g, 0, none⟩ (.slice A5 m c5)) ?hg ?hn ?hr ?_; (case hg => rfl); (case hn => rfl); (case hr => first | (go_simp; done) | (go_simp; rfl)); intro w6 hW_; have HW6 := Aside0.mk hW_; clear hW_ k0 k1 z0 z1))
      clear i1 i2 i3 i4
      have s4 := BW.out.size
      have s5 := B5.out.size
      have hgg := HR.out.hg
      have hgr := blk_lt HR.out.blk
      have o6 : ∀ j, j ≠ g → w6.heap[j]? = w5.heap[j]? := fun j hj => by rw [HW6.out, heap_other hj]
      have Z6 := Aside0.mk (show w6.heap[g]? = some (.cells #[.slice A5 m c5, vb] 46 (0, 0)) from by rw [HW6.out]; exact blk_put R5.out.blk 0 _ rfl)
      have R6 := Aside0.mk (show RLn w6 base g L2 Sa (.slice A5 m c5) vb from ⟨hgg, Z6.out, (Q5.out.kept fun j e => o6 j (by have := own_base Q5.out j e; omega)).mono (by have := HR.out.base_le; omega), R5.out.oA.kept fun j e => o6 j (R5.out.rows.2 j e), fun j e e2 => by have := own_base Q5.out j e; have := (World.ownsRow.lt HR.out.oA j e2).2; omega⟩)
      have F6 := Aside0.mk (show FrL wr w6 base (rfoot g (.slice (some ⟨gl, 0, none⟩) (m + 1) c) vb) (rfoot g (.slice A5 m c5) vb) from by
        rw [HW6.out]
        refine ((FrL.of_below _ (below_tr BW.out B5.out) HR.out.base_le).setg (.inl rfl) hgg _).anew (fun j hj => ?_)
        rcases hj with e | e | e
        · exact .inl (.inl e)
        · exact .inr (by have := own_base Q5.out j e; omega)
        · exact .inl (.inr (.inr e)))
      have X6 := Aside0.mk (show w6.heap[g6]? = some (.cells #[.int .i64 xh, .slice xA xn xc, .int .i64 xs, .string xf] 29 (0, 0)) from (o6 g6 (by have := G6.out; omega)).trans (old_blk BX.out B5.out))
      have NF46 := Aside0.mk (show ¬ rfoot g (.slice A5 m c5) vb g4 from fun hf => by
        rcases F6.out.new g4 hf with h1 | h1
        · exact NF4.out h1
        · have := blk_lt B4R.out; omega)
      have N46 := Aside0.mk (show g4 ≠ g6 from by have := blk_lt B4R.out; have := G6.out; omega)
      have B46 := Aside0.mk (show w6.heap[g4]? = some (.cells #[.int .i64 0, .slice none 0 0, .int .i64 0, .string (⟨#[]⟩ : ByteArray)] 29 (0, 0)) from (F6.out.keep g4 (blk_lt B4R.out) NF4.out).trans B4R.out)
      have FR6 := Aside0.mk (FR1.out.trans F6.out)
      have HF6 := Aside0.mk (HFR.out.trans F6.out)
      have HC6 := Aside0.mk (fun (W : World) (hb : Below w6.heap.size w6 W) => HX.out W (fun j hj hne => (hb.block j (Nat.lt_of_lt_of_le hj FR6.out.size)).trans (FR6.out.keep j hj hne)))
      clear s4 s5 hgr o6 hgg
      go_loopw [7, 8] (fun v7 v8 w_ => RelFr w6 l0 xh v7 v8 w_) (fun _ v8 _ => nw - (intOf v8).toNat)
      case atStart => exact ⟨0, rfl, Nat.zero_le _, rfl, Below.refl _ _⟩
      case round =>
        obtain ⟨i, rfl, hi, rfl, hbw⟩ := hrel
        have HBW := Aside0.mk hbw
        clear hbw
        by_cases hlt : i < nw
        · have HLT := Aside0.mk hlt
          have hil : i < l0.length := by have := HNW.out; omega
          have HIL := Aside0.mk hil
          have e1 : ((i : Int) < (nw : Int)) := by omega
          have e2 : (0 : Int) ≤ (i : Int) := Int.natCast_nonneg _
          have e3 := eq_true e1
          have e4 := eq_true e2
          have e5 := d_i i (by have := HL0.out; omega)
          have e6 := d_w i (by have := HL0.out; omega)
          obtain ⟨ad, hAd, hcl⟩ := C_cell' (HC6.out _ HBW.out) i hil
          subst hAd
          have FN := Aside0.mk (free_next l0 xh i hil)
          obtain ⟨y, hy⟩ : ∃ y, y = l0.getD i 0 := ⟨_, rfl⟩
          rw [← hy] at hcl FN
          have X7 := Aside0.mk (old_blk X6.out HBW.out)
          obtain ⟨q0, q1, q2, q3, -, -, -, -⟩ := cells4 X7.out
          obtain ⟨b, hb⟩ : ∃ b, b = free xh (l0.take i) := ⟨_, rfl⟩
          rw [← hb] at FN ⊢
          clear hy hb hil hlt
          cases b with
          | false =>
            go_wp2_with fail
            go_quiet (fail)
            have BQ := Aside0.mk (pw_below_drewN HBW.out nq)
            go_wp2_with fail
            go_roundw
            case rel => exact ⟨i + 1, by simp, HIL.out, by rw [FN.out]; rfl, BQ.out⟩
            case measure => have := HLT.out; simp [intOf] <;> omega
          | true =>
            by_cases hyx : y = xh
            · have d1 : (y != xh) = false := by simp [hyx]
              have d2 : decide (y ≠ xh) = false := decide_eq_false (fun hn => hn hyx)
              have d3 : decide (y = xh) = true := decide_eq_true hyx
              have d4 : (y == xh) = true := by simp [hyx]
              have HYX := Aside0.mk d3
              clear hyx
              go_wp2_with fail
              go_quiet (fail)
              have BQ := Aside0.mk (pw_below_drewN HBW.out nq)
              go_wp2_with fail
              go_roundw
              case rel => exact ⟨i + 1, by simp, HIL.out, by rw [FN.out, HYX.out]; rfl, BQ.out⟩
              case measure => have := HLT.out; simp [intOf] <;> omega
            · have d1 : (y != xh) = true := by simp [hyx]
              have d2 : decide (y ≠ xh) = true := decide_eq_true hyx
              have d3 : decide (y = xh) = false := decide_eq_false hyx
              have d4 : (y == xh) = false := by simp [hyx]
              have HYX := Aside0.mk d3
              clear hyx
              go_wp2_with fail
              go_quiet (fail)
              have BQ := Aside0.mk (pw_below_drewN HBW.out nq)
              go_wp2_with fail
              go_roundw
              case rel => exact ⟨i + 1, by simp, HIL.out, by rw [FN.out, HYX.out]; rfl, BQ.out⟩
              case measure => have := HLT.out; simp [intOf] <;> omega
        · have e1 : ¬ ((i : Int) < (nw : Int)) := by omega
          have e3 := eq_false e1
          have hie : l0.take i = l0 := List.take_of_length_le (by have := HNW.out; omega)
          rw [hie, free_end]
          have R7 := Aside0.mk (R6.out.below HBW.out)
          have X7 := Aside0.mk (old_blk X6.out HBW.out)
          have B47 := Aside0.mk (old_blk B46.out HBW.out)
          clear hie hlt hi e1
          by_cases hx : xh ∈ l0
          · have HNX2 := Aside0.mk ((nxR_wait L2 Sa (x := ⟨xh, xA, xn, xc, xs, xf⟩) hx).symm.trans HNX.out)
            rw [decide_eq_true hx]
            clear hx
            go_wp2_with fail
            refine region_drew (fun W_ => W_.heap[g6]? = some (.cells #[.int .i64 xh, .slice xA xn xc, .int .i64 xs, .string xf] 29 (0, 0))) (by kernel_rfl) (fun d1 hd1 he1 => ?_)
            have R8 := Aside0.mk (R7.out.below hd1)
            have X8 := Aside0.mk (old_blk X7.out hd1)
            have B48 := Aside0.mk (old_blk B47.out hd1)
            refine ⟨X8.out, fun hHeld => ?_⟩
            refine wpAnyH_take (i := 0) (v := .pointer (some ⟨g, 0, none⟩)) rfl (by kernel_rfl) (by kernel_rfl) (by kernel_rfl) (fun _ _ _ h => h) (Or.inl ⟨by rfl, ?_⟩) (by assumption) ?_
            · intro W_ hSw
              obtain ⟨u0, u1, u2, u3, _, _, _, _⟩ := cells4 hSw
              clear hSw
              first | (go_simp; done) | (go_simp; with_reducible rfl) | (go_simp; rfl)
            try simp only [Act.put, List.getElem_toArray, List.getElem_cons_succ, List.getElem_cons_zero, List.setIfInBounds_toArray, List.set_cons_zero, List.set_cons_succ]
            refine wpAnyH_take (i := 1) (v := .pointer (some ⟨g, 0, none⟩)) rfl (by kernel_rfl) (by kernel_rfl) (by kernel_rfl) (fun _ _ _ h => h) (Or.inl ⟨by rfl, ?_⟩) (by assumption) ?_
            · intro W_ hSw
              obtain ⟨u0, u1, u2, u3, _, _, _, _⟩ := cells4 hSw
              clear hSw
              first | (go_simp; done) | (go_simp; with_reducible rfl) | (go_simp; rfl)
            try simp only [Act.put, List.getElem_toArray, List.getElem_cons_succ, List.getElem_cons_zero, List.setIfInBounds_toArray, List.set_cons_zero, List.set_cons_succ]
            refine wpAnyH_take (i := 2) (v := .pointer (some ⟨g, 0, none⟩)) rfl (by kernel_rfl) (by kernel_rfl) (by kernel_rfl) (fun _ _ _ h => h) (Or.inl ⟨by rfl, ?_⟩) (by assumption) ?_
            · intro W_ hSw
              obtain ⟨u0, u1, u2, u3, _, _, _, _⟩ := cells4 hSw
              clear hSw
              first | (go_simp; done) | (go_simp; with_reducible rfl) | (go_simp; rfl)
            try simp only [Act.put, List.getElem_toArray, List.getElem_cons_succ, List.getElem_cons_zero, List.setIfInBounds_toArray, List.set_cons_zero, List.set_cons_succ]
            refine wpAnyH_take (i := 3) (v := .pointer (some ⟨g, 1, none⟩)) rfl (by kernel_rfl) (by kernel_rfl) (by kernel_rfl) (fun _ _ _ h => h) (Or.inl ⟨by rfl, ?_⟩) (by assumption) ?_
            · intro W_ hSw
              obtain ⟨u0, u1, u2, u3, _, _, _, _⟩ := cells4 hSw
              clear hSw
              first | (go_simp; done) | (go_simp; with_reducible rfl) | (go_simp; rfl)
            try simp only [Act.put, List.getElem_toArray, List.getElem_cons_succ, List.getElem_cons_zero, List.setIfInBounds_toArray, List.set_cons_zero, List.set_cons_succ]
            refine wpAnyH_take (i := 5) (v := .agg #[.int .i64 xh, .slice xA xn xc, .int .i64 xs, .string xf]) rfl (by kernel_rfl) (by kernel_rfl) (by kernel_rfl) (fun _ _ _ h => h) (Or.inl ⟨by rfl, ?_⟩) (by assumption) ?_
            · intro W_ hSw
              obtain ⟨u0, u1, u2, u3, _, _, _, _⟩ := cells4 hSw
              clear hSw
              first | (go_simp; done) | (go_simp; with_reducible rfl) | (go_simp; rfl)
            try simp only [Act.put, List.getElem_toArray, List.getElem_cons_succ, List.getElem_cons_zero, List.setIfInBounds_toArray, List.set_cons_zero, List.set_cons_succ]
            clear hHeld
            refine next_ld_bs 4 6 52 51 54 53 g (.slice A5 m c5) vb ⟨xh, xA, xn, xc, xs, xf⟩ (by kernel_rfl) (by kernel_rfl) (by kernel_rfl) (by decide) (by decide) (by kernel_rfl) (by kernel_rfl) (fun c => by kernel_rfl) (by kernel_rfl) (by kernel_rfl) (fun c => by kernel_rfl) R8.out.blk (fun W1 hb1 => old_blk X8.out hb1) (fun b wb hbs hbb hbl hsz => ?_)
            refine next_one (i := 7) (by kernel_rfl) ?_
            refine cons_app 7 55 52 54 base 0 b vb Sa ⟨xh, xA, xn, xc, xs, xf⟩ (by kernel_rfl) (by kernel_rfl) (by kernel_rfl) (OwnJ.below R8.out.oA hbl) hbb (by have := HBD1.out; omega) (R8.out.below hbl).base_le (fun gg cap wc hown hgrow hat => ?_) AllReadyH.nil
            have R9 := Aside0.mk (R8.out.below hbl)
            have NB6 := Aside0.mk (fun (e : some g6 = vb.ownBlock) => (show False from by have := (World.ownsRow.lt HR.out.oA g6 e.symm).2; have := G6.out; omega))
            have X9 := Aside0.mk ((hgrow.block g6 (blk_lt (old_blk X8.out hbl)) (fun e => NB6.out e)).trans (old_blk X8.out hbl))
            have Z9 := Aside0.mk ((hgrow.block g (blk_lt R9.out.blk) (fun e => R9.out.rows.2 g e.symm rfl)).trans R9.out.blk)
            have B49 := Aside0.mk ((hgrow.block g4 (blk_lt (old_blk B48.out hbl)) (fun e => NF46.out (.inr (.inr e.symm)))).trans (old_blk B48.out hbl))
            have N6G := Aside0.mk (show g6 ≠ g from by have := blk_lt HR.out.blk; have := G6.out; omega)
            refine ⟨X9.out, ?_⟩
            have HOW := Aside0.mk hown
            have HGR := Aside0.mk hgrow
            have HAT := Aside0.mk hat
            have HBLS := Aside0.mk hbl
            have HD1 := Aside0.mk hd1
            clear hown hgrow hat hbl hd1
            have hHeld := X9.out
            try simp only [Act.put, List.getElem_toArray, List.getElem_cons_succ, List.getElem_cons_zero, List.setIfInBounds_toArray, List.set_cons_zero, List.set_cons_succ]
            refine wpAnyH_take (i := 8) (v := .pointer (some ⟨g, 0, none⟩)) rfl (by kernel_rfl) (by kernel_rfl) (by kernel_rfl) (fun _ _ _ h => h) (Or.inl ⟨by rfl, ?_⟩) (by assumption) ?_
            · intro W_ hSw
              obtain ⟨u0, u1, u2, u3, _, _, _, _⟩ := cells4 hSw
              clear hSw
              first | (go_simp; done) | (go_simp; with_reducible rfl) | (go_simp; rfl)
            try simp only [Act.put, List.getElem_toArray, List.getElem_cons_succ, List.getElem_cons_zero, List.setIfInBounds_toArray, List.set_cons_zero, List.set_cons_succ]
            refine wpAnyH_take (i := 9) (v := .pointer (some ⟨g, 1, none⟩)) rfl (by kernel_rfl) (by kernel_rfl) (by kernel_rfl) (fun _ _ _ h => h) (Or.inl ⟨by rfl, ?_⟩) (by assumption) ?_
            · intro W_ hSw
              obtain ⟨u0, u1, u2, u3, _, _, _, _⟩ := cells4 hSw
              clear hSw
              first | (go_simp; done) | (go_simp; with_reducible rfl) | (go_simp; rfl)
            try simp only [Act.put, List.getElem_toArray, List.getElem_cons_succ, List.getElem_cons_zero, List.setIfInBounds_toArray, List.set_cons_zero, List.set_cons_succ]
            clear hHeld
            refine next_one (i := 10) (by kernel_rfl) ?_
            refine cons_st 10 57 55 g (.slice A5 m c5) vb (some ⟨gg, 0, none⟩) (Sa.length + 1) cap (by kernel_rfl) (by kernel_rfl) (by kernel_rfl) Z9.out (fun wd hwd => ?_) AllReadyH.nil
            have HWD := Aside0.mk hwd
            clear hwd
            refine ⟨by rw [HWD.out]; exact (heap_other N6G.out _).trans X9.out, ?_⟩
            refine wpAnyH_done (by kernel_rfl) ?_ _
            have oD : ∀ j, j ≠ g → wd.heap[j]? = wc.heap[j]? := fun j hj => by rw [HWD.out, heap_other hj]
            have hgA : ∀ j, vb.ownBlock = some j → rfoot g vL vA j ∨ w1.heap.size ≤ j := fun j e => HF6.out.new j (.inr (.inr e))
            have hggk : gg ≠ g := by
              rcases HAT.out with e | e
              · exact R9.out.rows.2 gg e
              · have := blk_lt R9.out.blk; omega
            have hgnew : rfoot g vL vA gg ∨ w1.heap.size ≤ gg := by
              rcases HAT.out with e | e
              · exact hgA gg e
              · have h1 := HF6.out.size; have h2 := HBW.out.size; have h3 := HD1.out.size; have h4 := HBLS.out.size; right; omega
            have RZ := Aside0.mk (show RLn wd base g L2 (Sa ++ [⟨xh, xA, xn, xc, xs, xf⟩]) (.slice A5 m c5) (.slice (some ⟨gg, 0, none⟩) (Sa.length + 1) cap) from
              ⟨HR.out.hg, by rw [HWD.out]; exact blk_put Z9.out 1 _ rfl, (R9.out.oL.grown HGR.out (fun j e e2 => R9.out.ap j e e2)).kept (fun j e => oD j (R9.out.rows.1 j e)), HOW.out.kept (fun j e => oD j (by injection e with e; rw [← e]; exact hggk)), fun j e e2 => by
                have e3 : gg = j := by injection e2
                subst e3
                rcases HAT.out with e4 | e4
                · exact R9.out.ap _ e e4
                · have := (World.ownsRow.lt R8.out.oL _ e).2; have := HBLS.out.size; omega⟩)
            have FZ := Aside0.mk (show FrL w1 wd base (rfoot g vL vA) (rfoot g (.slice A5 m c5) (.slice (some ⟨gg, 0, none⟩) (Sa.length + 1) cap)) from by
              rw [HWD.out]
              have b1 : base ≤ w1.heap.size := L1.out.base_le
              refine (((((HF6.out.more HBW.out b1).more HD1.out b1).more HBLS.out b1).grown HGR.out (fun j e => ⟨(R9.out.foot_lt j (.inr (.inr e))).1, hgA j e⟩) b1).setg (.inl rfl) HR.out.hg _).anew (fun j hj => ?_)
              rcases hj with e | e | e
              · exact .inl (.inl e)
              · exact HF6.out.new j (.inr (.inl e))
              · have e3 : gg = j := by injection e
                rw [← e3]; exact hgnew)
            have BZ := Aside0.mk (show wd.heap[g4]? = some (.cells #[.int .i64 0, .slice none 0 0, .int .i64 0, .string (⟨#[]⟩ : ByteArray)] 29 (0, 0)) from (oD g4 (fun e => NF46.out (.inl e))).trans B49.out)
            clear oD hgA hggk hgnew
            go_wp2_with fail
            go_roundw
            case rel => exact ⟨L2, Sa ++ [⟨xh, xA, xn, xc, xs, xf⟩], _, _, RZ.out, HNX2.out.trans hLr, FZ.out, BZ.out, by have := HBD1.out; simp only [List.length_append, List.length_cons, List.length_nil] at this ⊢; omega⟩
            case measure =>
              show mzR g _ < mzR g _
              rw [mzR_of RZ.out, mzR_of HR.out]
              simp
          · have HNX2 := Aside0.mk ((nxR_free L2 Sa (x := ⟨xh, xA, xn, xc, xs, xf⟩) hx).symm.trans HNX.out)
            rw [decide_eq_false hx]
            clear hx
            obtain ⟨q0, q1, q2, q3, -, -, -, -⟩ := cells4 X7.out
            obtain ⟨y0, y1, y2, y3, t0, t1, t2, t3⟩ := cells4 B47.out
            go_wp2_with (first | ((with_reducible refine gate_store (t := 29) (p := 4) rfl ?_); refine store_event2 (w1 := ((((wr.setCell ⟨g4, 0, none⟩ (.int .i64 xh)).setCell ⟨g4, 1, none⟩ (.slice xA xn xc)).setCell ⟨g4, 2, none⟩ (.int .i64 xs)).setCell ⟨g4, 3, none⟩ (.string xf))) ?hg ?hn ?hr ?_; (case hg => rfl); (case hn => rfl); (case hr => first | (go_simp; done) | (go_simp; rfl)); intro w8 hW_; have HW8 := Aside0.mk hW_; clear hW_; clear y0 y1 y2 y3 t0 t1 t2 t3))
            have B48 := Aside0.mk (show w8.heap[g4]? = some (.cells #[.int .i64 xh, .slice xA xn xc, .int .i64 xs, .string xf] 29 (0, 0)) from by rw [HW8.out]; exact put4 B47.out _ _ _ _)
            refine bodyPost_ret (results_ct rfl _ _ g4 29 #[.int .i64 xh, .slice xA xn xc, .int .i64 xs, .string xf] (0, 0) _ rfl B48.out Try.underlying29 rfl (by kernel_rfl)) rfl ?_
            have hW : w8 = p4 wr g4 ⟨xh, xA, xn, xc, xs, xf⟩ := HW8.out
            rw [← hLr, ← HNX2.out, hW]
            exact ⟨rfl, _, ⟨_, _, R7.out.kept fun j hj => p4_other (fun e => NF46.out (by rw [← e]; exact hj)) _, rfl⟩, (FR6.out.more HBW.out hbase).p4 (Nat.le_of_eq G4.out.symm) hbase _⟩
end Go.Proofs.Ytnegagkjhnpgmaa.Sc

namespace Go.Proofs.Ytnegagkjhnpgmaa.Sc
open Go.RowKit Go.Proofs.YtnegagkjhnpgmaaW.PrintWords Go.Proofs.YtnegagkjhnpgmaaW.PrintMore Go.Proofs.YtnegagkjhnpgmaaW.PrintLast Go.Proofs.Ytnegagkjhnpgmaa.Dq Go.Proofs.Ytnegagkjhnpgmaa.X
set_option linter.unusedVariables false
set_option linter.unusedSimpArgs false
/-! ### plainly -/
def Rel (S : Int → List Jb) (A : List Jb) : Prop := ∀ h, S h = own h A
theorem pl_app (h : Int) (a b : List Jb) : own h (a ++ b) = own h a ++ own h b := List.filter_append ..
theorem Rel_put {S : Int → List Jb} {A : List Jb} (h : Rel S A) (x : Jb) : Rel (put S x) (A ++ [x]) := fun k => by
  rw [pl_app, ← h k]
  unfold put own
  by_cases e : k = x.h
  · subst e; simp
  · have e2 : ¬ x.h = k := fun e3 => e e3.symm
    simp [e, e2]
theorem nx_rel (W : List Int) : ∀ (q : List Jb) (S : Int → List Jb) (A : List Jb), Rel S A → (nx W q S).1 = (nxR W q A).1 ∧ (nx W q S).2.1 = (nxR W q A).2.1 ∧ Rel (nx W q S).2.2 (nxR W q A).2.2
  | [], S, A, h => ⟨rfl, rfl, h⟩
  | x :: q, S, A, h => by
    by_cases e : x.h ∈ W
    · rw [nx_wait q S e, nxR_wait q A e]
      exact nx_rel W q (put S x) (A ++ [x]) (Rel_put h x)
    · rw [nx_free q S e, nxR_free q A e]
      exact ⟨rfl, rfl, h⟩
theorem pl_own_oth {k h : Int} (l : List Jb) (e : h ≠ k) : own h (oth k l) = own h l := by
  unfold own oth
  rw [List.filter_filter]
  refine List.filter_congr fun x hx => ?_
  by_cases e2 : x.h = h
  · simp [e2, e]
  · simp [e2]
theorem pl_own_self (k : Int) (l : List Jb) : own k (oth k l) = [] := by
  unfold own oth
  rw [List.filter_filter, List.filter_eq_nil_iff]
  intro x hx
  by_cases e : x.h = k <;> simp [e]
theorem Rel_cut {S : Int → List Jb} {A : List Jb} (h : Rel S A) (k : Int) : Rel (cut S k) (oth k A) := fun j => by
  unfold Sc.cut
  by_cases e : j = k
  · rw [if_pos e, e, pl_own_self]
  · rw [if_neg e, pl_own_oth A e, h j]
theorem Rel_back {S : Int → List Jb} {A : List Jb} (h : Rel S A) (k : Int) (q : List Jb) : bk k q S = (if own k A = [] then q else oth k q ++ own k A ++ own k q) ∧ Rel (cut S k) (if own k A = [] then A else oth k A) := by
  unfold bk
  rw [h k]
  by_cases e : own k A = []
  · rw [if_pos e, if_pos e, if_pos e]
    refine ⟨rfl, ?_⟩
    have hc : cut S k = S := by
      funext j
      unfold Sc.cut
      by_cases e2 : j = k
      · rw [if_pos e2, e2, h k, e]
      · rw [if_neg e2]
    rw [hc]
    exact h
  · rw [if_neg e, if_neg e, if_neg e]
    exact ⟨by rw [List.append_assoc], Rel_cut h k⟩
theorem JIn_own {w : World} {q : List Jb} (h : JIn w q) (k : Int) : JIn w (own k q) := fun j hj => h j (List.mem_filter.1 hj).1
theorem JIn_oth {w : World} {q : List Jb} (h : JIn w q) (k : Int) : JIn w (oth k q) := fun j hj => h j (List.mem_filter.1 hj).1
theorem nxR_in {w : World} (W : List Int) : ∀ (q A : List Jb), JIn w q → JIn w A → (∃ x, JOf w x ((nxR W q A).1.getD Jb.z) ∧ x.f1.length ≤ 20) ∧ JIn w (nxR W q A).2.1 ∧ JIn w (nxR W q A).2.2 ∧ (nxR W q A).2.1.length + (nxR W q A).2.2.length ≤ q.length + A.length
  | [], A, h1, h2 => ⟨⟨⟨0, [], 0, ⟨#[]⟩⟩, ⟨rfl, rfl, ⟨rfl, Nat.zero_le _, fun h => absurd h (Nat.lt_irrefl 0)⟩, Nat.le_refl 0, rfl, rfl⟩, Nat.zero_le _⟩, h1, h2, Nat.le_refl _⟩
  | x :: q, A, h1, h2 => by
    have h3 : JIn w q := fun j hj => h1 j (List.mem_cons_of_mem _ hj)
    by_cases e : x.h ∈ W
    · rw [nxR_wait q A e]
      obtain ⟨a, b, c, d⟩ := nxR_in W q (A ++ [x]) h3 (h2.app (fun j hj => by rw [List.mem_singleton.1 hj]; exact h1 x (List.mem_cons_self)))
      refine ⟨a, b, c, Nat.le_trans d ?_⟩
      simp only [List.length_append, List.length_cons, List.length_nil]
      omega
    · rw [nxR_free q A e]
      exact ⟨h1 x List.mem_cons_self, h3, h2, by simp only [List.length_cons]; omega⟩
theorem bk_len {k : Int} (q A : List Jb) : (if own k A = [] then q else oth k q ++ own k A ++ own k q).length + (if own k A = [] then A else oth k A).length ≤ q.length + A.length := by
  have h1 := own_oth k q
  have h2 := own_oth k A
  by_cases e : own k A = []
  · rw [if_pos e, if_pos e]
    exact Nat.le_refl _
  · rw [if_neg e, if_neg e]
    simp only [List.length_append]
    omega
theorem bk_in {w : World} {k : Int} {q A : List Jb} (h1 : JIn w q) (h2 : JIn w A) : JIn w (if own k A = [] then q else Sc.oth k q ++ Sc.own k A ++ Sc.own k q) ∧ JIn w (if own k A = [] then A else Sc.oth k A) := by
  by_cases e : Sc.own k A = []
  · rw [if_pos e, if_pos e]; exact ⟨h1, h2⟩
  · rw [if_neg e, if_neg e]; exact ⟨((JIn_oth h1 k).app (JIn_own h2 k)).app (JIn_own h1 k), JIn_oth h2 k⟩
/-! ### far -/
theorem far_l0 (l : List S40) (hl : l.length ≤ 1600000000000) : ∀ (m i : Nat), i + m = l.length → ∃ b, mewslaw44_far.l0 (m + 1) l l (l.length : Int) (i : Int) = some b ∧ (b = false → l.length ≤ 200 ∧ ∀ j, i ≤ j → (h : j < l.length) → (l[j]'h).f1.f1.length ≤ 20 ∧ (l[j]'h).f2.length ≤ 20)
  | 0, i, h => by
    refine ⟨_, by unfold mewslaw44_far.l0; rw [if_neg (by omega)], fun hb => ⟨?_, fun j h1 h2 => by omega⟩⟩
    have := of_decide_eq_false hb
    omega
  | m + 1, i, h => by
    unfold mewslaw44_far.l0
    have hi : i < l.length := by omega
    have hrd : rd_T40 l (i : Int) = l[i]'hi := by
      unfold rd_T40
      rw [Int.toNat_natCast, List.getD_eq_getElem?_getD, List.getElem?_eq_getElem hi]
      rfl
    rw [if_pos (by omega), if_pos (by omega), if_pos (by omega), hrd]
    by_cases c1 : (((l[i]'hi).f1.f1).length : Int) > 20
    · rw [if_pos c1]; exact ⟨true, rfl, fun e => by cases e⟩
    · rw [if_neg c1]
      by_cases c2 : (((l[i]'hi).f2).length : Int) > 20
      · rw [if_pos c2]; exact ⟨true, rfl, fun e => by cases e⟩
      · rw [if_neg c2, show wrap64 ((i : Int) + 1) = ((i + 1 : Nat) : Int) from by unfold wrap64; omega]
        obtain ⟨b, h1, h2⟩ := far_l0 l hl m (i + 1) (by omega)
        refine ⟨b, h1, fun e => ⟨(h2 e).1, fun j h3 h4 => ?_⟩⟩
        by_cases e2 : j = i
        · subst e2; omega
        · exact (h2 e).2 j (by omega) h4
theorem fars_calls (l : List S40) (hl : l.length ≤ 1600000000000) (A : Option Addr) (c : Nat) (hc : l.length ≤ c) (w : World) (hC : Kd.C k40 w A l.length l) :
    Calls Try.prog 14 #[.slice A l.length c] w fun e w' => ∃ b : Bool, e = .returned (.bool b) ∧ (b = false → l.length ≤ 200 ∧ ∀ x ∈ l, x.f1.f1.length ≤ 20 ∧ x.f2.length ≤ 20) ∧ Below w.heap.size w w' := by
  obtain ⟨b, h1, h2⟩ := far_l0 l hl l.length 0 (by omega)
  refine (mewslaw44_far.calls (l.length + 1) A c l b w hC hc h1).mono fun e w' he => ⟨b, he.1, fun e => ⟨(h2 e).1, fun x hx => by
    obtain ⟨j, hj, rfl⟩ := List.mem_iff_getElem.1 hx
    exact (h2 e).2 j (Nat.zero_le _) hj⟩, he.2⟩
/-! ### the two states -/
theorem LSt.next2 {w0 W : World} {g : Nat} {q : List Jb} {S : Int → List Jb} {P : Nat → Prop} (h : LSt w0 g q S P W) {A0 : Option Addr} {c0 n0 : Nat} {l0 : List Int} (hn : n0 = l0.length) (hc0 : n0 ≤ c0) (hl0 : n0 ≤ 1000000) (hw : Kd.C (Kd.int .i64) w0 A0 n0 l0) (hb : ∀ k, (S k).length + q.length ≤ 1000000) :
    Calls Try.prog 11 #[.pointer (some ⟨g, 0, none⟩), .slice A0 n0 c0] W fun e w' => e = .returned (.tuple #[.agg #[.int .i64 ((nx l0 q S).1.getD Jb.z).h, .slice ((nx l0 q S).1.getD Jb.z).A ((nx l0 q S).1.getD Jb.z).n ((nx l0 q S).1.getD Jb.z).c, .int .i64 ((nx l0 q S).1.getD Jb.z).sz, .string ((nx l0 q S).1.getD Jb.z).ft], .bool (nx l0 q S).1.isSome]) ∧ LSt w0 g (nx l0 q S).2.1 (nx l0 q S).2.2 P w' ∧ ∀ k, P k → w'.heap[k]? = W.heap[k]? := by
  subst hn
  obtain ⟨F, hl, hF⟩ := h.ln
  refine (lnnext_calls w0.heap.size g q S F A0 c0 l0 W hl hc0 (by omega) (fun W1 hk => ?_) hb).mono fun e w' he => ?_
  · refine ⟨hw.1, hw.2.1, fun hn => ?_⟩
    obtain ⟨ad, e, hc⟩ := hw.2.2 hn
    refine ⟨ad, e, fun j p hj => ?_⟩
    obtain ⟨c, hs, hr, hcell⟩ := hc j p hj
    refine ⟨c, hs, hr, fun i u hu => ?_⟩
    have h1 := hcell i u hu
    have hlt := World.block_lt_of_cell? w0 _ h1
    exact (World.cell?_of_block ((hk _ (Nat.lt_of_lt_of_le hlt h.base_le) (fun hf => by have := (hl.lt _ hf).1; omega)).trans (h.out.block _ hlt))).trans h1
  · obtain ⟨he, F', h1, h2⟩ := he
    exact ⟨he, LSt.does h.out h.lt hF h1 h2⟩
theorem LSt.drop {w0 W : World} {g : Nat} {q : List Jb} {S : Int → List Jb} {P : Nat → Prop} (h : LSt w0 g q S P W) (k : Int) (hb : (S k).length + q.length < 1048576) :
    Calls Try.prog 20 #[.pointer (some ⟨g, 0, none⟩), .int .i64 k] W fun e w' => e = .returned (.int .i64 (((S k).length : Int) + ((own k q).length : Int))) ∧ LSt w0 g (oth k q) (cut S k) P w' ∧ ∀ k, P k → w'.heap[k]? = W.heap[k]? := by
  obtain ⟨F, hl, hF⟩ := h.ln
  refine (lndrop_calls w0.heap.size g q S F k W hl hb).mono fun e w' he => ?_
  obtain ⟨he, F', h1, h2⟩ := he
  exact ⟨he, LSt.does h.out h.lt hF h1 h2⟩
/-- A line, the document's line, and the doing's own block. -/
structure PS (w W : World) (g gr g6 : Nat) (q : List Jb) (S : Int → List Jb) (L A : List Jb) (vL vA : Value) (cs : Array Value) : Prop where
  ls : LSt w g q S (fun k => rfoot gr vL vA k ∨ k = g6) W
  rl : RLn W w.heap.size gr L A vL vA
  op : W.heap[g6]? = some (.cells cs 40 (0, 0))
  ne : ¬ rfoot gr vL vA g6
section
variable {w W W1 : World} {g gr g6 : Nat} {q q' L A L' A' : List Jb} {S S' : Int → List Jb} {vL vA : Value} {cs : Array Value}
theorem PS.below (h : PS w W g gr g6 q S L A vL vA cs) (hb : Below W.heap.size W W1) : PS w W1 g gr g6 q S L A vL vA cs := ⟨h.ls.below hb, h.rl.below hb, old_blk h.op hb, h.ne⟩
theorem PS.s (h : PS w W g gr g6 q S L A vL vA cs) (hl : LSt w g q' S' (fun k => rfoot gr vL vA k ∨ k = g6) W1) (hk : ∀ k, (rfoot gr vL vA k ∨ k = g6) → W1.heap[k]? = W.heap[k]?) : PS w W1 g gr g6 q' S' L A vL vA cs :=
  ⟨hl, h.rl.kept fun k hf => hk k (.inl hf), (hk g6 (.inr rfl)).trans h.op, h.ne⟩
theorem PS.d (h : PS w W g gr g6 q S L A vL vA cs) {F' : Nat → Prop} (hr : RL W1 w.heap.size gr L' A' F') (hf : FrL W W1 w.heap.size (rfoot gr vL vA) F') : ∃ vL' vA', PS w W1 g gr g6 q S L' A' vL' vA' cs ∧ (∀ k, k < W.heap.size → ¬ rfoot gr vL vA k → W1.heap[k]? = W.heap[k]?) := by
  obtain ⟨vL', vA', hr, rfl⟩ := hr
  have hlt := blk_lt h.op
  refine ⟨vL', vA', ⟨h.ls.step (hf.below w rfl h.ls.out) (fun k hk hP => hf.keep k hk (fun hF => hP (.inl hF))) (fun k hk => ?_), hr, (hf.keep g6 hlt h.ne).trans h.op, fun hF => ?_⟩, hf.keep⟩
  · rcases hk with hk | rfl
    · refine ⟨(hr.foot_lt k hk).2, ?_⟩
      rcases hf.new k hk with h1 | h1
      · exact .inl (.inl h1)
      · exact .inr h1
    · exact ⟨Nat.lt_of_lt_of_le hlt hf.size, .inl (.inr rfl)⟩
  · rcases hf.new g6 hF with h1 | h1
    · exact h.ne h1
    · omega
theorem PS.rnx (h : PS w W g gr g6 q S L A vL vA cs) {A0 : Option Addr} {c0 n0 : Nat} {l0 : List Int} (hn : n0 = l0.length) (hl0 : n0 ≤ 1000000) (hw : Kd.C (Kd.int .i64) w A0 n0 l0) (hb : A.length + L.length ≤ 1000000) :
    Calls Try.prog 17 #[.pointer (some ⟨gr, 0, none⟩), .slice A0 n0 c0] W fun e w' => e = .returned (.tuple #[.agg #[.int .i64 ((nxR l0 L A).1.getD Jb.z).h, .slice ((nxR l0 L A).1.getD Jb.z).A ((nxR l0 L A).1.getD Jb.z).n ((nxR l0 L A).1.getD Jb.z).c, .int .i64 ((nxR l0 L A).1.getD Jb.z).sz, .string ((nxR l0 L A).1.getD Jb.z).ft], .bool (nxR l0 L A).1.isSome]) ∧ ∃ vL' vA', PS w w' g gr g6 q S (nxR l0 L A).2.1 (nxR l0 L A).2.2 vL' vA' cs ∧ (∀ k, k < W.heap.size → ¬ rfoot gr vL vA k → w'.heap[k]? = W.heap[k]?) := by
  refine (rnext_calls w.heap.size gr L A _ A0 c0 n0 l0 hn W ⟨vL, vA, h.rl, rfl⟩ (by omega) (fun W1 hk => ?_) hb).mono fun e w' he => ?_
  · refine ⟨hw.1, hw.2.1, fun hn => ?_⟩
    obtain ⟨ad, e, hc⟩ := hw.2.2 hn
    refine ⟨ad, e, fun j p hj => ?_⟩
    obtain ⟨c, hs, hr, hcell⟩ := hc j p hj
    refine ⟨c, hs, hr, fun i u hu => ?_⟩
    have h1 := hcell i u hu
    have hlt := World.block_lt_of_cell? w _ h1
    exact (World.cell?_of_block ((hk _ (Nat.lt_of_lt_of_le hlt h.ls.base_le) (fun hf => by have := (h.rl.foot_lt _ hf).1; omega)).trans (h.ls.out.block _ hlt))).trans h1
  · obtain ⟨he, F', h1, h2⟩ := he
    exact ⟨he, h.d h1 h2⟩
theorem PS.rbk (h : PS w W g gr g6 q S L A vL vA cs) (k : Int) (h1 : L.length ≤ 1000000) (h2 : A.length ≤ 1000000) :
    Calls Try.prog 19 #[.pointer (some ⟨gr, 0, none⟩), .int .i64 k] W fun e w' => e = .returned (.int .i64 (own k A).length) ∧ ∃ vL' vA', PS w w' g gr g6 q S (if own k A = [] then L else oth k L ++ own k A ++ own k L) (if own k A = [] then A else oth k A) vL' vA' cs ∧ (∀ k, k < W.heap.size → ¬ rfoot gr vL vA k → w'.heap[k]? = W.heap[k]?) :=
  (rback_calls w.heap.size gr L A _ k W ⟨vL, vA, h.rl, rfl⟩ h1 h2).mono fun e w' ⟨he, F', h3, h4⟩ => ⟨he, h.d h3 h4⟩
theorem PS.rdp (h : PS w W g gr g6 q S L A vL vA cs) (k : Int) (h1 : L.length ≤ 1000000) (h2 : A.length ≤ 1000000) :
    Calls Try.prog 21 #[.pointer (some ⟨gr, 0, none⟩), .int .i64 k] W fun e w' => e = .returned (.int .i64 (((own k L).length : Int) + ((own k A).length : Int))) ∧ ∃ vL' vA', PS w w' g gr g6 q S (oth k L) (oth k A) vL' vA' cs ∧ (∀ k, k < W.heap.size → ¬ rfoot gr vL vA k → w'.heap[k]? = W.heap[k]?) :=
  (rdrop_calls w.heap.size gr L A _ k W ⟨vL, vA, h.rl, rfl⟩ h1 h2).mono fun e w' ⟨he, F', h3, h4⟩ => ⟨he, h.d h3 h4⟩
end
end Go.Proofs.Ytnegagkjhnpgmaa.Sc
