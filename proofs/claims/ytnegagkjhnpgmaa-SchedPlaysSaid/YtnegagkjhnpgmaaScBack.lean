/- The line's Back. -/
import Derived.Test.YtnegagkjhnpgmaaScBk
namespace Go.Proofs.Ytnegagkjhnpgmaa.Sc
open Go.RowKit Go.Proofs.YtnegagkjhnpgmaaW.PrintWords Go.Proofs.YtnegagkjhnpgmaaW.PrintMore Go.Proofs.YtnegagkjhnpgmaaW.PrintLast Go.Proofs.Ytnegagkjhnpgmaa.Dq
set_option linter.unusedVariables false
set_option linter.unusedSimpArgs false
attribute [local go_sem ↓] Go.wp_at_zero Go.wp_at_succ
theorem OwnJ.adr {w : World} {base n c : Nat} {A : Option Addr} {L : List Jb} (h : OwnJ w base (.slice A n c) L) {ad : Addr} (e : A = some ad) : base ≤ ad.block ∧ ad.block < w.heap.size := by
  subst e
  rcases h.2 with ⟨hn, _⟩ | ⟨g, cap, cur, hv, hb, hg, _⟩
  · cases hn
  · injection hv with hv _ _
    injection hv with hv
    subst hv
    exact ⟨hb, blk_lt hg⟩
theorem FrL.anew {w W : World} {base : Nat} {F F' F2 : Nat → Prop} (h : FrL w W base F F') (hn : ∀ k, F2 k → F k ∨ w.heap.size ≤ k) : FrL w W base F F2 := ⟨h.size, h.keep, h.below, hn⟩
theorem del_frl {w w2 : World} {base g d r : Nat} {A : Option Addr} {M M' : List (Int × Value)} {q : List Jb} {S : Int → List Jb} {o1 : Obj} (h : LnA w base g d r A M q S) (hw : w2 = oset w r o1) (hs : ∀ j, foot g d r A M' j → foot g d r A M j) : FrL w w2 base (foot g d r A M) (foot g d r A M') := by
  subst hw
  exact ⟨by rw [oset_size]; exact Nat.le_refl _, fun k hk hF => oset_other (fun e => hF (.inr (.inr (.inl e)))) o1, fun w0 e hb => oset_below hb (by rw [e]; exact h.hr) o1, fun k hk => .inl (hs k hk)⟩
theorem cut_same {S : Int → List Jb} {k : Int} (h : S k = []) : cut S k = S := by
  funext j
  unfold cut
  by_cases e : j = k
  · rw [if_pos e, e, h]
  · rw [if_neg e]
/-- The loop of Back: the jobs of the handle, and the others, of the first i. -/
structure RB (w5 : World) (base g d r : Nat) (A A27 : Option Addr) (M : List (Int × Value)) (q : List Jb) (S : Int → List Jb) (F0 : Nat → Prop) (k : Int) (Sk : List Jb) (i : Nat) (v6 v7 : Value) (wr : World) : Prop where
  ln : LnA wr base g d r A M q S
  o6 : OwnJ wr base v6 (Sk ++ own k (q.take i))
  o7 : OwnJ wr w5.heap.size v7 (oth k (q.take i))
  rd : Reads wr A27 q
  fr : FrL w5 wr base F0 (foot g d r A M)
  a6 : ∀ j, v6.ownBlock = some j → (F0 j ∨ w5.heap.size ≤ j) ∧ ¬ foot g d r A M j ∧ v7.ownBlock ≠ some j
def RelB (w5 : World) (base g d r : Nat) (A A27 : Option Addr) (M : List (Int × Value)) (q : List Jb) (S : Int → List Jb) (F0 : Nat → Prop) (k : Int) (Sk : List Jb) (v6 v7 v29 : Value) (wr : World) : Prop :=
  ∃ i : Nat, v29 = .int .i64 i ∧ i ≤ q.length ∧ RB w5 base g d r A A27 M q S F0 k Sk i v6 v7 wr
section
variable {w5 wr w6 w7 : World} {base g d r gg cap i : Nat} {A A27 : Option Addr} {M : List (Int × Value)} {q : List Jb} {S : Int → List Jb} {F0 : Nat → Prop} {k : Int} {Sk : List Jb} {v6 v7 : Value}
theorem RB.six (h : RB w5 base g d r A A27 M q S F0 k Sk i v6 v7 wr) (hF0 : ∀ j, F0 j → base ≤ j ∧ j < w5.heap.size) (hM : ∀ j, foot g d r A M j → j < w5.heap.size) (had : ∀ ad, A27 = some ad → ¬ F0 ad.block ∧ ad.block < w5.heap.size) (hbase : base ≤ w5.heap.size) (hi : i < q.length) (hk : (q[i]'hi).h = k) (hb : Below wr.heap.size wr w6)
    (ho : OwnJ w7 base (.slice (some ⟨gg, 0, none⟩) ((Sk ++ own k (q.take i)).length + 1) cap) ((Sk ++ own k (q.take i)) ++ [q[i]'hi])) (hg : w6.grownBy w7 v6.ownBlock) (hat : v6.ownBlock = some gg ∨ gg = w6.heap.size) :
    RB w5 base g d r A A27 M q S F0 k Sk (i + 1) (.slice (some ⟨gg, 0, none⟩) ((Sk ++ own k (q.take i)).length + 1) cap) v7 w7 := by
  have h6 : ∀ j, v6.ownBlock = some j → base ≤ j ∧ (F0 j ∨ w5.heap.size ≤ j) := fun j e => ⟨own_base h.o6 j e, (h.a6 j e).1⟩
  have hsz := h.fr.size
  have hbs := hb.size
  have hgs := hg.size
  refine ⟨(h.ln.below hb).kept (fun j hj => hg.block j (Nat.lt_of_lt_of_le (h.ln.foot_lt j hj).2 hbs) (fun e => (h.a6 j e.symm).2.1 hj)), ?_, ?_, (h.rd.below hb).kept (fun ad e => hg.block _ (by have := (had ad e).2; omega) (fun e2 => ?_)), (h.fr.more hb hbase).grown hg h6 hbase, fun j e => ?_⟩
  · rw [own_take k q i hi, if_pos hk, ← List.append_assoc]
    exact ho
  · rw [oth_take k q i hi, if_pos hk]
    exact (h.o7.below hb).grown hg (fun j e e2 => (h.a6 j e2).2.2 e)
  · rcases (h.a6 _ e2.symm).1 with h1 | h1
    · exact (had ad e).1 h1
    · have := (had ad e).2; omega
  · have e' : gg = j := by injection e
    subst e'
    rcases hat with e3 | e3
    · exact h.a6 _ e3
    · refine ⟨.inr (by omega), fun hf => ?_, fun e4 => ?_⟩
      · have := hM _ hf; omega
      · have := (World.ownsRow.lt h.o7 _ e4).2; omega
theorem RB.seven (h : RB w5 base g d r A A27 M q S F0 k Sk i v6 v7 wr) (hF0 : ∀ j, F0 j → base ≤ j ∧ j < w5.heap.size) (hM : ∀ j, foot g d r A M j → j < w5.heap.size) (had : ∀ ad, A27 = some ad → ¬ F0 ad.block ∧ ad.block < w5.heap.size) (hbase : base ≤ w5.heap.size) (hi : i < q.length) (hk : ¬ (q[i]'hi).h = k) (hb : Below wr.heap.size wr w6)
    (ho : OwnJ w7 w5.heap.size (.slice (some ⟨gg, 0, none⟩) ((oth k (q.take i)).length + 1) cap) (oth k (q.take i) ++ [q[i]'hi])) (hg : w6.grownBy w7 v7.ownBlock) (hat : v7.ownBlock = some gg ∨ gg = w6.heap.size) :
    RB w5 base g d r A A27 M q S F0 k Sk (i + 1) v6 (.slice (some ⟨gg, 0, none⟩) ((oth k (q.take i)).length + 1) cap) w7 := by
  have h7 : ∀ j, v7.ownBlock = some j → w5.heap.size ≤ j := fun j e => own_base h.o7 j e
  have hsz := h.fr.size
  have hbs := hb.size
  refine ⟨(h.ln.below hb).kept (fun j hj => hg.block j (Nat.lt_of_lt_of_le (h.ln.foot_lt j hj).2 hbs) (fun e => by have := h7 j e.symm; have := hM j hj; omega)), ?_, ?_, (h.rd.below hb).kept (fun ad e => hg.block _ (by have := (had ad e).2; omega) (fun e2 => ?_)), (h.fr.more hb hbase).grown hg (fun j e => ⟨by have := h7 j e; omega, .inr (h7 j e)⟩) hbase, fun j e => ?_⟩
  · rw [own_take k q i hi, if_neg hk]
    exact (h.o6.below hb).grown hg (fun j e e2 => (h.a6 j e).2.2 e2)
  · rw [oth_take k q i hi, if_neg hk]
    exact ho
  · have := h7 _ e2.symm
    have := (had ad e).2
    omega
  · refine ⟨(h.a6 j e).1, (h.a6 j e).2.1, fun e2 => ?_⟩
    have e' : gg = j := by injection e2
    subst e'
    rcases hat with e3 | e3
    · exact (h.a6 _ e).2.2 e3
    · have := (World.ownsRow.lt h.o6 _ e).2; omega
end
set_option maxHeartbeats 40000000 in
set_option maxRecDepth 100000 in
theorem lnback_calls (base g : Nat) (q : List Jb) (S : Int → List Jb) (F : Nat → Prop) (k : Int) (w : World) (h : Ln w base g q S F) (hbd : (S k).length + q.length < 1048576) :
    Calls Try.prog 10 #[.pointer (some ⟨g, 0, none⟩), .int .i64 k] w fun e w' => e = .returned (.int .i64 (S k).length) ∧ ∃ F', Ln w' base g (if S k = [] then q else oth k q ++ (S k ++ own k q)) (cut S k) F' ∧ FrL w w' base F F' := by
  have hu := Try.underlying29
  obtain ⟨d, r, A, M, hla, hF⟩ := h
  subst hF
  have LA := Aside0.mk hla
  have MP := Aside0.mk hla.map
  have HAS := Aside0.mk (aside_calls base g q S _ k w ⟨d, r, A, M, hla, rfl⟩)
  obtain ⟨v, hv, hvo, hlk⟩ := hla.look k
  have RL := run_look hla.map k
  rw [hv] at RL
  have HVO := Aside0.mk hvo
  have HLK := Aside0.mk hlk
  obtain ⟨k0, k1, z0, z1⟩ := hla.cells
  have HBD := Aside0.mk hbd
  obtain ⟨m, hm⟩ : ∃ m, m = q.length := ⟨_, rfl⟩
  have HMQ := Aside0.mk hm
  obtain ⟨n, hn⟩ : ∃ n, n = (S k).length := ⟨_, rfl⟩
  rw [← hn] at HAS
  have HN := Aside0.mk hn
  clear hla hvo hlk hbd hv hm
  obtain ⟨Q1, hQ1⟩ : ∃ Q1, Q1 = (if S k = [] then q else oth k q ++ (S k ++ own k q)) := ⟨_, rfl⟩
  rw [← hQ1]
  have HQ1 := Aside0.mk hQ1
  clear hQ1
  go_enter Try.func10, Try.ntmps10
  by_cases h0 : S k = []
  · rw [h0] at hn
    have hn0 : n = 0 := hn
    subst hn0
    clear hn HVO HLK RL
    have H0 := Aside0.mk h0
    clear h0
    go_wp2_with (first | (go_at_call 13; (with_reducible refine HAS.out.mono ?_); rintro e w_ ⟨rfl, rfl⟩))
    go_ret
    rw [HQ1.out, if_pos H0.out, cut_same H0.out]
    try rw [← HN.out]
    exact ⟨rfl, _, ⟨d, r, A, M, LA.out, rfl⟩, FrL.refl _ _ _⟩
  · have hn0 : ¬ n = 0 := fun e => h0 (List.eq_nil_of_length_eq_zero (hn.symm.trans e))
    have i1 : ¬ ((n : Int) = 0) := by omega
    have i2 : decide ((n : Int) = 0) = false := decide_eq_false i1
    have H0 := Aside0.mk h0
    have HP := Aside0.mk hn0
    clear hn h0 hn0
    go_wp2_with (first | (go_at_call 13; (with_reducible refine HAS.out.mono ?_); rintro e w_ ⟨rfl, rfl⟩) | ((with_reducible refine del_event rfl rfl (.tmp 24) (.tmp 25) rfl r k M ?hm ?hk MP.out ?_); (case hm => rfl); (case hk => rfl); intro o1 w2 hw2 hm2; have HW2 := Aside0.mk hw2; have HM2 := Aside0.mk hm2; clear hw2 hm2; have D2 := Aside0.mk (LA.out.del HVO.out HLK.out (wz := w2) (fun j hj => by rw [HW2.out]; exact oset_other hj o1) HM2.out (by rw [HW2.out, oset_size]; exact Nat.le_refl _)); have FR2 := Aside0.mk (del_frl LA.out HW2.out D2.out.2.2.2); have HALL := Aside0.mk (lnall_calls base g q (cut S k) _ w2 ⟨d, r, A, delM M k, D2.out.1, rfl⟩)) | (go_at_call 24; (with_reducible refine HALL.out.mono ?_); rintro e w5 ⟨u, rfl, hO, hB⟩; obtain ⟨A27, c27, hu27, hrd⟩ := hO.form; rw [← HMQ.out] at hu27; subst hu27; have AD := Aside0.mk (fun ad (e : A27 = some ad) => OwnJ.adr hO e); have RD := Aside0.mk hrd; have BA := Aside0.mk hB; clear hO hB hrd HALL k0 k1 z0 z1))
    clear RL i1 i2
    have hsz := BA.out.size
    have L5 := Aside0.mk (D2.out.1.below BA.out)
    have O5 := Aside0.mk (D2.out.2.1.below BA.out)
    have SZ0 := Aside0.mk (show w.heap.size ≤ w2.heap.size from FR2.out.size)
    have HF0 := Aside0.mk (fun j (hj : foot g d r A M j) => (show base ≤ j ∧ j < w5.heap.size from ⟨(LA.out.foot_lt j hj).1, by have := (LA.out.foot_lt j hj).2; have := SZ0.out; omega⟩))
    have HFM := Aside0.mk (fun j (hj : foot g d r A (delM M k) j) => (HF0.out j (D2.out.2.2.2 j hj)).2)
    have HAD := Aside0.mk (fun ad (e : A27 = some ad) => (show ¬ foot g d r A M ad.block ∧ ad.block < w5.heap.size from ⟨fun hf => by have := (LA.out.foot_lt _ hf).2; have := (AD.out ad e).1; have := SZ0.out; omega, (AD.out ad e).2⟩))
    have HB5 := Aside0.mk (show base ≤ w5.heap.size from L5.out.base_le)
    have BA5 := Aside0.mk hsz
    clear hsz
    go_loopw [6, 7, 29] (fun v6 v7 v29 wr => RelB w5 base g d r A A27 (delM M k) q (cut S k) (foot g d r A M) k (S k) v6 v7 v29 wr) (fun _ _ v29 _ => m - (intOf v29).toNat)
    case atStart => exact ⟨0, rfl, Nat.zero_le _, ⟨L5.out, by rw [List.take_zero]; show OwnJ w5 base v (S k ++ []); rw [List.append_nil]; exact O5.out, by rw [List.take_zero]; exact own_nil _ _ _ _, RD.out, (FrL.refl _ _ _).anew (fun j hj => .inl (D2.out.2.2.2 j hj)), fun j e => ⟨.inl (D2.out.2.2.1 j e).1, (D2.out.2.2.1 j e).2, by simp [Value.ownBlock]⟩⟩⟩
    case round =>
      obtain ⟨i, rfl, hi, hrb⟩ := hrel
      have RBX := Aside0.mk hrb
      clear hrb
      by_cases hlt : i < m
      · have hlr : i < q.length := by rw [← HMQ.out]; exact hlt
        have HLR := Aside0.mk hlr
        have e1 : ((i : Int) < (m : Int)) := by omega
        have e2 : (0 : Int) ≤ (i : Int) := Int.natCast_nonneg _
        have e3 := eq_true e1
        have e4 := eq_true e2
        have HLT := Aside0.mk hlt
        obtain ⟨ad, hAd, hc⟩ := RBX.out.rd (by omega)
        subst hAd
        obtain ⟨f0, f1, f2, f3⟩ := flat_get q i HLR.out
        obtain ⟨x, hx⟩ : ∃ x, x = q[i]'HLR.out := ⟨_, rfl⟩
        have HXQ := Aside0.mk hx
        rw [← hx] at f0 f1 f2 f3
        obtain ⟨xh, xA, xn, xc, xs, xf⟩ := x
        have x0 : wr.cell? (ad.add (i * 4)) = some (.int .i64 xh) := hc _ _ f0
        have x1' := hc _ _ f1
        have x2' := hc _ _ f2
        have x3' := hc _ _ f3
        rw [← Addr.add_add] at x1' x2' x3'
        have x1 : wr.cell? ⟨(ad.add (i * 4)).block, (ad.add (i * 4)).off + 1, none⟩ = some (.slice xA xn xc) := by rw [← add_field _ _ 1 (by omega)]; exact hc _ _ f1
        have x2 : wr.cell? ⟨(ad.add (i * 4)).block, (ad.add (i * 4)).off + 2, none⟩ = some (.int .i64 xs) := by rw [← add_field _ _ 2 (by omega)]; exact hc _ _ f2
        have x3 : wr.cell? ⟨(ad.add (i * 4)).block, (ad.add (i * 4)).off + 3, none⟩ = some (.string xf) := by rw [← add_field _ _ 3 (by omega)]; exact hc _ _ f3
        have e5 : IntKind.i64.wrap ((i : Int) + 1) = ((i : Int) + 1) := by have := HBD.out; have := HMQ.out; rw [IntKind.wrap_i64]; omega
        have LE6 := Aside0.mk (show (S k ++ own k (q.take i)).length ≤ 2097152 from by have := HBD.out; have := own_le k (q.take i); have := List.length_take_le i q; rw [List.length_append]; omega)
        have LE7 := Aside0.mk (show (oth k (q.take i)).length ≤ 2097152 from by have := HBD.out; have := oth_le k (q.take i); have := List.length_take_le i q; omega)
        have O6 := Aside0.mk RBX.out.o6
        have O7 := Aside0.mk RBX.out.o7
        have BS0 := Aside0.mk RBX.out.ln.base_le
        have BS5 := Aside0.mk RBX.out.fr.size
        clear hx f0 f1 f2 f3 hc hlr hlt
        by_cases hk : xh = k
        · have hkd : decide (xh = k) = true := decide_eq_true hk
          have hkb : (xh == k) = true := by simp [hk]
          have HK := Aside0.mk hk
          clear hk
          go_wp2_with (first | ((with_reducible refine gate_dst (N := 9) rfl ?_); refine box_event ?hg (N := 9) ?hd (cs := #[.int .i64 0, .slice none 0 0, .int .i64 0, .string (⟨#[]⟩ : ByteArray)]) (t := 29) ?hr ?_; (case hd => rfl); (case hg => rfl); (case hr => first | (go_simp; done) | (go_simp; rfl)); intro g9 hg_ w3 hbox hb; have G9 := Aside0.mk hg_; have BW3 := Aside0.mk hb; have B9 := Aside0.mk hbox; clear hbox hb hg_; clear x0 x1 x2 x3 x1' x2' x3'; obtain ⟨u0, u1, u2, u3, v0, v1, v2, v3⟩ := cells4 B9.out) | ((with_reducible refine gate_store (t := 29) (p := 9) rfl ?_); refine store_event2 (w1 := ((((w3.setCell ⟨g9, 0, none⟩ (.int .i64 xh)).setCell ⟨g9, 1, none⟩ (.slice xA xn xc)).setCell ⟨g9, 2, none⟩ (.int .i64 xs)).setCell ⟨g9, 3, none⟩ (.string xf))) ?hg ?hn ?hr ?_; (case hg => rfl); (case hn => rfl); (case hr => first | (go_simp; done) | (go_simp; rfl)); intro w4 hW_; have HW4 := Aside0.mk hW_; clear hW_; have BW := Aside0.mk (show Below wr.heap.size wr w4 from by rw [HW4.out]; exact below_set (below_set (below_set (below_set BW3.out (Nat.le_of_eq G9.out.symm)) (Nat.le_of_eq G9.out.symm)) (Nat.le_of_eq G9.out.symm)) (Nat.le_of_eq G9.out.symm)); have BX := Aside0.mk (show w4.heap[g9]? = some (.cells #[.int .i64 xh, .slice xA xn xc, .int .i64 xs, .string xf] 29 (0, 0)) from by rw [HW4.out]; exact put4 B9.out _ _ _ _); clear u0 u1 u2 u3 v0 v1 v2 v3 BW3 B9 HW4; obtain ⟨u0, u1, u2, u3, v0, v1, v2, v3⟩ := cells4 BX.out) | ((with_reducible refine gate_dst (N := 39) rfl ?_); refine bs_event ?hg (N := 39) ?hd 38 ⟨xh, xA, xn, xc, xs, xf⟩ ?ho ?hx ?_; (case hd => rfl); (case hg => rfl); (case ho => rfl); (case hx => rfl); intro b w6 hbs hbb hbl; have BB := Aside0.mk hbb; have BW6 := Aside0.mk (below_tr BW.out hbl); clear hbs hbb hbl u0 u1 u2 u3 v0 v1 v2 v3) | ((with_reducible refine gate_dst (N := 40) rfl ?_); refine app_event ?hg (N := 40) ?hd 37 39 ?ho base b u6 (S k ++ own k (q.take i)) ⟨xh, xA, xn, xc, xs, xf⟩ ?hs ?hx (OwnJ.below O6.out BW6.out) BB.out LE6.out (Nat.le_trans BS0.out BW6.out.size) ?_; (case hd => rfl); (case hg => rfl); (case ho => rfl); (case hs => rfl); (case hx => rfl); intro gg cap w7 hown hgrow hat; have HOW := Aside0.mk hown; have HGR := Aside0.mk hgrow; have HAT := Aside0.mk hat; clear hown hgrow hat))
          go_roundw
          case rel =>
            have hx := HXQ.out
            have R6 := RBX.out.six HF0.out HFM.out HAD.out HB5.out HLR.out (by rw [← hx]; exact HK.out) BW6.out (by rw [← hx]; exact HOW.out) HGR.out HAT.out
            rw [List.length_append] at R6
            exact ⟨i + 1, by simp, HLR.out, R6⟩
          case measure => have := HLT.out; simp [intOf] <;> omega
        · have hkd : decide (xh = k) = false := decide_eq_false hk
          have hkb : (xh == k) = false := by simp [hk]
          have HK := Aside0.mk hk
          clear hk
          go_wp2_with (first | ((with_reducible refine gate_dst (N := 9) rfl ?_); refine box_event ?hg (N := 9) ?hd (cs := #[.int .i64 0, .slice none 0 0, .int .i64 0, .string (⟨#[]⟩ : ByteArray)]) (t := 29) ?hr ?_; (case hd => rfl); (case hg => rfl); (case hr => first | (go_simp; done) | (go_simp; rfl)); intro g9 hg_ w3 hbox hb; have G9 := Aside0.mk hg_; have BW3 := Aside0.mk hb; have B9 := Aside0.mk hbox; clear hbox hb hg_; clear x0 x1 x2 x3 x1' x2' x3'; obtain ⟨u0, u1, u2, u3, v0, v1, v2, v3⟩ := cells4 B9.out) | ((with_reducible refine gate_store (t := 29) (p := 9) rfl ?_); refine store_event2 (w1 := ((((w3.setCell ⟨g9, 0, none⟩ (.int .i64 xh)).setCell ⟨g9, 1, none⟩ (.slice xA xn xc)).setCell ⟨g9, 2, none⟩ (.int .i64 xs)).setCell ⟨g9, 3, none⟩ (.string xf))) ?hg ?hn ?hr ?_; (case hg => rfl); (case hn => rfl); (case hr => first | (go_simp; done) | (go_simp; rfl)); intro w4 hW_; have HW4 := Aside0.mk hW_; clear hW_; have BW := Aside0.mk (show Below wr.heap.size wr w4 from by rw [HW4.out]; exact below_set (below_set (below_set (below_set BW3.out (Nat.le_of_eq G9.out.symm)) (Nat.le_of_eq G9.out.symm)) (Nat.le_of_eq G9.out.symm)) (Nat.le_of_eq G9.out.symm)); have BX := Aside0.mk (show w4.heap[g9]? = some (.cells #[.int .i64 xh, .slice xA xn xc, .int .i64 xs, .string xf] 29 (0, 0)) from by rw [HW4.out]; exact put4 B9.out _ _ _ _); clear u0 u1 u2 u3 v0 v1 v2 v3 BW3 B9 HW4; obtain ⟨u0, u1, u2, u3, v0, v1, v2, v3⟩ := cells4 BX.out) | ((with_reducible refine gate_dst (N := 43) rfl ?_); refine bs_event ?hg (N := 43) ?hd 42 ⟨xh, xA, xn, xc, xs, xf⟩ ?ho ?hx ?_; (case hd => rfl); (case hg => rfl); (case ho => rfl); (case hx => rfl); intro b w6 hbs hbb hbl; have BB := Aside0.mk hbb; have BW6 := Aside0.mk (below_tr BW.out hbl); clear hbs hbb hbl u0 u1 u2 u3 v0 v1 v2 v3) | ((with_reducible refine gate_dst (N := 44) rfl ?_); refine app_event ?hg (N := 44) ?hd 41 43 ?ho w5.heap.size b u7 (oth k (q.take i)) ⟨xh, xA, xn, xc, xs, xf⟩ ?hs ?hx (OwnJ.below O7.out BW6.out) BB.out LE7.out (Nat.le_trans BS5.out BW6.out.size) ?_; (case hd => rfl); (case hg => rfl); (case ho => rfl); (case hs => rfl); (case hx => rfl); intro gg cap w7 hown hgrow hat; have HOW := Aside0.mk hown; have HGR := Aside0.mk hgrow; have HAT := Aside0.mk hat; clear hown hgrow hat))
          go_roundw
          case rel =>
            have hx := HXQ.out
            refine ⟨i + 1, by simp, HLR.out, RBX.out.seven HF0.out HFM.out HAD.out HB5.out HLR.out (by rw [← hx]; exact HK.out) BW6.out ?_ HGR.out HAT.out⟩
            rw [← hx]
            exact HOW.out
          case measure => have := HLT.out; simp [intOf] <;> omega
      · have hie : q.take i = q := List.take_of_length_le (by have := HMQ.out; omega)
        have e1 : ¬ ((i : Int) < (m : Int)) := by omega
        have e3 := eq_false e1
        have O6 := RBX.out.o6
        have O7 := RBX.out.o7
        rw [hie] at O6 O7
        obtain ⟨J, hJ⟩ : ∃ J, J = S k ++ own k q := ⟨_, rfl⟩
        have HJ := Aside0.mk hJ
        have HJL := Aside0.mk (show J.length = (S k).length + (own k q).length from by rw [hJ, List.length_append])
        rw [← hJ] at O6
        clear hJ
        obtain ⟨A6, c6, hu6, hr6⟩ := O6.form
        subst hu6
        have OV7 := Aside0.mk O7
        have RD6 := Aside0.mk hr6
        have LR := Aside0.mk RBX.out.ln
        have NF7 := Aside0.mk (fun j (e : u7.ownBlock = some j) (hj : foot g d r A (delM M k) j) => (show False from by have := own_base OV7.out j e; have := HFM.out j hj; omega))
        have SZ5 := Aside0.mk (show w5.heap.size ≤ wr.heap.size from RBX.out.fr.size)
        have FRR := Aside0.mk RBX.out.fr
        have BLEN := Aside0.mk (own_oth k q)
        have POS := Aside0.mk (show 0 < J.length from by have := HN.out; have := HP.out; have := HJL.out; omega)
        have BND2 := Aside0.mk (show (oth k q).length + J.length ≤ 2097152 from by have := HBD.out; have := BLEN.out; have := HJL.out; omega)
        have BND3 := Aside0.mk (show (oth k q ++ J).length < 1048576 from by have := HBD.out; have := BLEN.out; have := HJL.out; rw [List.length_append]; omega)
        have HI2 := Aside0.mk hi
        clear O6 O7 hr6 hie RBX hlt hi
        go_wp2_with (first | ((with_reducible refine gate_dst (N := 49) rfl ?_); refine app2_event ?hg (N := 49) ?hd 47 48 ?ho w5.heap.size u7 (oth k q) A6 c6 J ?hs ?hx OV7.out RD6.out POS.out BND2.out SZ5.out ?_; (case hd => rfl); (case hg => rfl); (case ho => rfl); (case hs => rfl); (case hx => rfl); intro A8 cap w8 hrd hgr; have RD8 := Aside0.mk hrd; have GR8 := Aside0.mk hgr; clear hrd hgr; have L8 := Aside0.mk (LR.out.kept (w1 := w8) (fun j hj => GR8.out.block j (LR.out.foot_lt j hj).2 (fun e => NF7.out j e.symm hj))); have HNEW := Aside0.mk (new_calls (oth k q ++ J) A8 cap ((oth k q).length + J.length) List.length_append.symm w8 RD8.out BND3.out)) | (go_at_call 25; (with_reducible refine HNEW.out.mono ?_); rintro e w9 ⟨d2, A2, rfl, hd, hb⟩; have HD := Aside0.mk hd; have HB9 := Aside0.mk hb; clear hd hb; obtain ⟨k0, k1, z0, z1⟩ := (L8.out.below HB9.out).cells) | ((with_reducible refine gate_store (t := 51) (p := 52) rfl ?_); refine store_event2 (w1 := w9.setCell ⟨g, 0, none⟩ (.pointer (some ⟨d2, 0, none⟩))) ?hg ?hn ?hr ?_; (case hg => rfl); (case hn => rfl); (case hr => first | (go_simp; done) | (go_simp; rfl)); intro wz hW_; have HWZ := Aside0.mk hW_; clear hW_ k0 k1 z0 z1))
        go_ret
        rw [HQ1.out, if_neg H0.out, ← HJ.out]
        try rw [← HN.out]
        have NQ := L8.out.newq HB9.out HD.out HWZ.out
        refine ⟨rfl, _, ⟨d2, r, A2, delM M k, NQ.1, rfl⟩, ?_⟩
        exact (((FR2.out.trans (FrL.of_below _ BA.out D2.out.1.base_le)).anew (F2 := foot g d r A M) (fun j hj => .inl hj)).trans (FRR.out.grown GR8.out (fun j e => ⟨by have := own_base OV7.out j e; have := HB5.out; omega, .inr (own_base OV7.out j e)⟩) HB5.out)).trans NQ.2
end Go.Proofs.Ytnegagkjhnpgmaa.Sc
