/- Whatever jobs come, are done, and go: the document's answers. -/
import Derived.Test.YtnegagkjhnpgmaaScRefs
namespace Go.Proofs.Ytnegagkjhnpgmaa.X
open Go.RowKit Go.Proofs.YtnegagkjhnpgmaaW.PrintWords Go.Proofs.YtnegagkjhnpgmaaW.PrintMore Go.Proofs.YtnegagkjhnpgmaaW.PrintLast
set_option linter.unusedVariables false
noncomputable def mewslaw44_SchedPlays.f (_k : Nat) (l0 : List S40) : Option Bool := if l0.length ≤ 1600000000000 then some true else none
end Go.Proofs.Ytnegagkjhnpgmaa.X
namespace Go.Proofs.Ytnegagkjhnpgmaa.Sc
open Go.RowKit Go.Proofs.YtnegagkjhnpgmaaW.PrintWords Go.Proofs.YtnegagkjhnpgmaaW.PrintMore Go.Proofs.YtnegagkjhnpgmaaW.PrintLast Go.Proofs.Ytnegagkjhnpgmaa.Dq Go.Proofs.Ytnegagkjhnpgmaa.X
set_option linter.unusedVariables false
set_option linter.unusedSimpArgs false
attribute [local go_sem ↓] Go.wp_at_zero Go.wp_at_succ
theorem cells6 {W : World} {g : Nat} {t : TypeId} {c0 c1 c2 c3 c4 c5 : Value} (h : W.heap[g]? = some (.cells #[c0, c1, c2, c3, c4, c5] t (0, 0))) :
    W.cell? ⟨g, 0, none⟩ = some c0 ∧ W.cell? ⟨g, 1, none⟩ = some c1 ∧ W.cell? ⟨g, 2, none⟩ = some c2 ∧ W.cell? ⟨g, 3, none⟩ = some c3 ∧ W.cell? ⟨g, 4, none⟩ = some c4 ∧ W.cell? ⟨g, 5, none⟩ = some c5 ∧ W.frozen? ⟨g, 0, none⟩ = false ∧ W.frozen? ⟨g, 1, none⟩ = false ∧ W.frozen? ⟨g, 2, none⟩ = false ∧ W.frozen? ⟨g, 3, none⟩ = false ∧ W.frozen? ⟨g, 4, none⟩ = false ∧ W.frozen? ⟨g, 5, none⟩ = false :=
  ⟨(blk_cell h 0).trans rfl, (blk_cell h 1).trans rfl, (blk_cell h 2).trans rfl, (blk_cell h 3).trans rfl, (blk_cell h 4).trans rfl, (blk_cell h 5).trans rfl, blk_frozen h 0, blk_frozen h 1, blk_frozen h 2, blk_frozen h 3, blk_frozen h 4, blk_frozen h 5⟩
theorem put6 {w : World} {g : Nat} {t : TypeId} {c0 c1 c2 c3 c4 c5 : Value} (h : w.heap[g]? = some (.cells #[c0, c1, c2, c3, c4, c5] t (0, 0))) (v0 v1 v2 v3 v4 v5 : Value) :
    ((((((w.setCell ⟨g, 0, none⟩ v0).setCell ⟨g, 1, none⟩ v1).setCell ⟨g, 2, none⟩ v2).setCell ⟨g, 3, none⟩ v3).setCell ⟨g, 4, none⟩ v4).setCell ⟨g, 5, none⟩ v5).heap[g]? = some (.cells #[v0, v1, v2, v3, v4, v5] t (0, 0)) := blk_put (blk_put (blk_put (blk_put (blk_put (blk_put h 0 v0 rfl) 1 v1 rfl) 2 v2 rfl) 3 v3 rfl) 4 v4 rfl) 5 v5 rfl
theorem op_at {w : World} {A : Option Addr} {l : List S40} (h : Kd.C k40 w A l.length l) (i : Nat) (hi : i < l.length) : ∃ ad A2 c2 A5 c5, A = some ad ∧ w.cell? (ad.add (i * 6)) = some (.int .i64 (l[i]'hi).f0) ∧ w.cell? ⟨(ad.add (i * 6)).block, (ad.add (i * 6)).off + 1, none⟩ = some (.int .i64 (l[i]'hi).f1.f0) ∧ w.cell? ⟨(ad.add (i * 6)).block, (ad.add (i * 6)).off + 2, none⟩ = some (.slice A2 (l[i]'hi).f1.f1.length c2) ∧ w.cell? ⟨(ad.add (i * 6)).block, (ad.add (i * 6)).off + 3, none⟩ = some (.int .i64 (l[i]'hi).f1.f2) ∧ w.cell? ⟨(ad.add (i * 6)).block, (ad.add (i * 6)).off + 4, none⟩ = some (.string (l[i]'hi).f1.f3) ∧ w.cell? ⟨(ad.add (i * 6)).block, (ad.add (i * 6)).off + 5, none⟩ = some (.slice A5 (l[i]'hi).f2.length c5) ∧ (l[i]'hi).f1.f1.length ≤ c2 ∧ Kd.string.C w A2 (l[i]'hi).f1.f1.length (l[i]'hi).f1.f1 ∧ (l[i]'hi).f2.length ≤ c5 ∧ (Kd.int .i64).C w A5 (l[i]'hi).f2.length (l[i]'hi).f2 := by
  obtain ⟨ad, A2, c2, A5, c5, h1⟩ := at_T40 h (i : Int) (by omega) (by omega)
  have e : rd_T40 l (i : Int) = l[i]'hi := by
    unfold rd_T40
    rw [Int.toNat_natCast, List.getD_eq_getElem?_getD, List.getElem?_eq_getElem hi]
    rfl
  rw [e, Int.toNat_natCast] at h1
  exact ⟨ad, A2, c2, A5, c5, h1⟩
theorem sj_calls {w W : World} (hb : Below w.heap.size w W) (xh : Int) (xA : Option Addr) (xn xc : Nat) (xs : Int) (xf : ByteArray) (hx : ∃ y, JOf w y ⟨xh, xA, xn, xc, xs, xf⟩ ∧ y.f1.length ≤ 20) :
    Calls Try.prog 18 #[.agg #[.int .i64 xh, .slice xA xn xc, .int .i64 xs, .string xf], .agg #[.int .i64 xh, .slice xA xn xc, .int .i64 xs, .string xf]] W fun e w' => e = .returned (.bool true) ∧ Below W.heap.size W w' := by
  obtain ⟨⟨yh, yt, ys, yf⟩, ⟨e0, e1, e2, e3, e4, e5⟩, hl⟩ := hx
  dsimp only at e0 e1 e2 e3 e4 e5 hl
  subst e0
  subst e1
  subst e4
  subst e5
  exact mewsref44_SameJob.calls 1001 xh xA xc yt xs xf xh xA xc yt xs xf true W (Kd.C_below e2 hb) e3 (Kd.C_below e2 hb) e3 (sj_ev ⟨xh, yt, xs, xf⟩ (by show yt.length ≤ 1000; omega) 1001 (by decide))
theorem ps_new {w wr w5 : World} {g gr g6 : Nat} {q A : List Jb} {S : Int → List Jb} {vL vA : Value} {cs : Array Value} (h : LSt w g q S (rfoot gr vL vA) wr) (hr : RLn wr w.heap.size gr q A vL vA) (hb : Below wr.heap.size wr w5) (hx : w5.heap[g6]? = some (.cells cs 40 (0, 0))) (hg : wr.heap.size ≤ g6) : PS w w5 g gr g6 q S q A vL vA cs :=
  ⟨h.more hb (fun k hk => by
    rcases hk with hk | rfl
    · exact .inl hk
    · exact .inr ⟨hg, blk_lt hx⟩), hr.below hb, hx, fun hf => by have := (hr.foot_lt _ hf).2; omega⟩
theorem ref_app {w6 w7 w8 : World} {base gr gg cap : Nat} {q A : List Jb} {vL vA : Value} {x : Jb} (h : RLn w6 base gr q A vL vA) (hb : Below w6.heap.size w6 w7) (ho : OwnJ w8 base (.slice (some ⟨gg, 0, none⟩) (q.length + 1) cap) (q ++ [x])) (hg : w7.grownBy w8 vL.ownBlock) (hat : vL.ownBlock = some gg ∨ gg = w7.heap.size) :
    w8.heap[gr]? = some (.cells #[vL, vA] 46 (0, 0)) ∧ ∀ w9, w9 = w8.setCell ⟨gr, 0, none⟩ (.slice (some ⟨gg, 0, none⟩) (q.length + 1) cap) → RLn w9 base gr (q ++ [x]) A (.slice (some ⟨gg, 0, none⟩) (q.length + 1) cap) vA ∧ FrL w6 w9 base (rfoot gr vL vA) (rfoot gr (.slice (some ⟨gg, 0, none⟩) (q.length + 1) cap) vA) := by
  have h7 := h.below hb
  have Z8 : w8.heap[gr]? = some (.cells #[vL, vA] 46 (0, 0)) := (hg.block gr (blk_lt h7.blk) (fun e => h7.rows.1 gr e.symm rfl)).trans h7.blk
  refine ⟨Z8, fun w9 hw => ?_⟩
  have o9 : ∀ j, j ≠ gr → w9.heap[j]? = w8.heap[j]? := fun j hj => by rw [hw, heap_other hj]
  have hgg : gg ≠ gr := by
    rcases hat with e | e
    · exact h7.rows.1 gg e
    · have := blk_lt h7.blk; omega
  refine ⟨⟨h.hg, by rw [hw]; exact blk_put Z8 0 _ rfl, ho.kept (fun j e => o9 j (by injection e with e; rw [← e]; exact hgg)), (h7.oA.grown hg (fun j e e2 => h7.ap j e2 e)).kept (fun j e => o9 j (h7.rows.2 j e)), fun j e e2 => ?_⟩, ?_⟩
  · have e3 : gg = j := by injection e
    subst e3
    rcases hat with e4 | e4
    · exact h7.ap _ e4 e2
    · have := (World.ownsRow.lt h7.oA _ e2).2; omega
  · rw [hw]
    refine ((((FrL.refl w6 base (rfoot gr vL vA)).more hb h.base_le).grown hg (fun j e => ⟨(h.foot_lt j (.inr (.inl e))).1, .inl (.inr (.inl e))⟩) h.base_le).setg (.inl rfl) h.hg _).anew (fun j hj => ?_)
    rcases hj with e | e | e
    · exact .inl (.inl e)
    · have e3 : gg = j := by injection e
      subst e3
      rcases hat with e4 | e4
      · exact .inl (.inr (.inl e4))
      · have := hb.size; right; omega
    · exact .inl (.inr (.inr e))
def RelPl (w : World) (g gr : Nat) (n : Nat) (v : Value) (wr : World) : Prop :=
  ∃ (i : Nat) (q : List Jb) (S : Int → List Jb) (A : List Jb) (vL vA : Value), v = .int .i64 i ∧ i ≤ n ∧ LSt w g q S (rfoot gr vL vA) wr ∧ RLn wr w.heap.size gr q A vL vA ∧ Rel S A ∧ JIn w q ∧ JIn w A ∧ q.length + A.length ≤ i
theorem pl_e (n : Nat) (h : n ≤ 200) : IntKind.i64.wrap ((n : Int) + 1) = (n : Int) + 1 := d_i n (by omega)
theorem pl_f (n : Nat) (h : n ≤ 200) : wrap64 ((n : Int) + 1) = (n : Int) + 1 := d_w n (by omega)
set_option maxHeartbeats 80000000 in
set_option maxRecDepth 100000 in
theorem plays_calls (A0 : Option Addr) (c0 n : Nat) (l0 : List S40) (w : World) (hn : n = l0.length) (hC : Kd.C k40 w A0 l0.length l0) (hc : l0.length ≤ c0) (hl : l0.length ≤ 1600000000000) :
    Calls Try.prog 5 #[.slice A0 n c0] w fun e w' => e = .returned (.bool true) ∧ Below w.heap.size w w' := by
  have hu := Try.underlying29
  have hu2 := Try.underlying40
  have HN := Aside0.mk hn
  have HC := Aside0.mk hC
  have HFAR0 := fars_calls l0 hl A0 c0 hc w hC
  rw [← hn] at HFAR0
  have HFAR := Aside0.mk HFAR0
  clear hC hc hl hn HFAR0
  go_enter Try.func5, Try.ntmps5
  go_wp2_with fail
  go_at_call 14
  with_reducible refine HFAR.out.mono ?_
  rintro e wf ⟨b, rfl, hfb, hbf⟩
  have BF := Aside0.mk hbf
  have HFB := Aside0.mk hfb
  clear hbf hfb HFAR
  cases b with
  | true =>
    go_wp2_with (first | (go_at_call 7; (with_reducible refine (alive_calls _).mono ?_); rintro e wZ ⟨rfl, hB⟩; have HZ := Aside0.mk (below_tr BF.out hB); clear hB))
    go_ret
    exact ⟨rfl, HZ.out⟩
  | false =>
    have HSM := Aside0.mk (HFB.out rfl)
    go_wp2_with (first | (go_at_call 8; (with_reducible refine (LSt.new (w0 := w) BF.out (fun _ => False) (fun _ h => h.elim)).mono ?_); rintro e w1 ⟨g, rfl, h1, hb1⟩; have H1 := Aside0.mk h1; clear h1 hb1) | ((with_reducible refine gate_dst (N := 4) rfl ?_); refine box_event ?hg (N := 4) ?hd (cs := #[.slice none 0 0, .slice none 0 0]) (t := 46) ?hr ?_; (case hd => rfl); (case hg => rfl); (case hr => first | (go_simp; done) | (go_simp; rfl)); intro gr hg_ w2 hbox hb; have GR := Aside0.mk hg_; have BR := Aside0.mk hbox; have BW2 := Aside0.mk hb; clear hbox hb hg_))
    have LS0 := Aside0.mk (H1.out.more (P' := rfoot gr (.slice none 0 0) (.slice none 0 0)) BW2.out (fun k hk => by
      rcases hk with e | e | e
      · exact .inr ⟨by rw [e]; exact Nat.le_of_eq GR.out.symm, by rw [e]; exact blk_lt BR.out⟩
      · cases e
      · cases e))
    have RL0 := Aside0.mk (show RLn w2 w.heap.size gr [] [] (.slice none 0 0) (.slice none 0 0) from ⟨by have := H1.out.out.size; have := GR.out; omega, BR.out, own_nil _ _ _ _, own_nil _ _ _ _, by simp [Value.ownBlock]⟩)
    go_loopw [20] (fun v20 wr => RelPl w g gr n v20 wr) (fun v20 _ => n - (intOf v20).toNat)
    case atStart => exact ⟨0, [], fun _ => [], [], _, _, rfl, Nat.zero_le _, LS0.out, RL0.out, fun _ => rfl, JIn.nil _, JIn.nil _, Nat.le_refl _⟩
    case round =>
      clear LS0 RL0
      obtain ⟨i, q, S, A, vL, vA, rfl, hi, hls, hrl, hrel', hjq, hja, hlen⟩ := hrel
      have LS := Aside0.mk hls
      have RLX := Aside0.mk hrl
      have HREL0 := Aside0.mk hrel'
      have HJQ0 := Aside0.mk hjq
      have HJA0 := Aside0.mk hja
      have HLEN0 := Aside0.mk hlen
      clear hls hrl hrel' hjq hja hlen
      by_cases hlt : i < n
      · have HLT := Aside0.mk hlt
        have hil : i < l0.length := by have := HN.out; omega
        have HI200 := Aside0.mk (show i ≤ 200 from by have := HSM.out.1; omega)
        have e1 : ((i : Int) < (n : Int)) := by omega
        have e3 := eq_true e1
        have e4 := eq_true (show (0 : Int) ≤ (i : Int) from Int.natCast_nonneg _)
        have e5 := pl_e i HI200.out
        have e6 := pl_f i HI200.out
        obtain ⟨ad, A2, c2, A5, c5, hAd, o0, o1, o2, o3, o4, o5, hc2, hC2, hc5, hC5⟩ := op_at HC.out i hil
        subst hAd
        have hsm := HSM.out.2 (l0[i]'hil) (List.getElem_mem _)
        obtain ⟨x, hx⟩ : ∃ x, x = l0[i]'hil := ⟨_, rfl⟩
        rw [← hx] at o0 o1 o2 o3 o4 o5 hc2 hC2 hc5 hC5 hsm
        clear hx hil hlt
        obtain ⟨k0, ⟨jh, jt, js, jf⟩, ws⟩ := x
        dsimp only at o0 o1 o2 o3 o4 o5 hc2 hC2 hc5 hC5 hsm
        obtain ⟨n2, hn2⟩ : ∃ n2, n2 = jt.length := ⟨_, rfl⟩
        obtain ⟨n5, hn5⟩ : ∃ n5, n5 = ws.length := ⟨_, rfl⟩
        rw [← hn2] at o2 hc2 hC2
        rw [← hn5] at o5 hc5 hC5
        have HJ := Aside0.mk (show JIn w [⟨jh, A2, n2, c2, js, jf⟩] from fun j hj => ⟨⟨jh, jt, js, jf⟩, by rw [List.mem_singleton.1 hj]; exact ⟨rfl, hn2, hC2, hc2, rfl, rfl⟩, hsm.1⟩)
        have HC5 := Aside0.mk hC5
        have HCC5 := Aside0.mk hc5
        have HN5 := Aside0.mk hn5
        have HW20 := Aside0.mk (show n5 ≤ 20 from by rw [hn5]; exact hsm.2)
        have ho := LS.out.out
        have x0 := cell_below o0 ho
        have x1 := cell_below o1 ho
        have x2 := cell_below o2 ho
        have x3 := cell_below o3 ho
        have x4 := cell_below o4 ho
        have x5 := cell_below o5 ho
        clear o0 o1 o2 o3 o4 o5 ho hc2 hC2 hc5 hC5 hsm hn2 hn5
        have x1' := x1
        have x2' := x2
        have x3' := x3
        have x4' := x4
        have x5' := x5
        have HMEAS := Aside0.mk (show n - i ≤ n from Nat.sub_le _ _)
        by_cases hk0 : k0 = 0
        · subst hk0
          go_wp2_with (first | ((with_reducible refine gate_dst (N := 6) rfl ?_); refine box_event ?hg (N := 6) ?hd (cs := #[.int .i64 0, .int .i64 0, .slice none 0 0, .int .i64 0, .string (⟨#[]⟩ : ByteArray), .slice none 0 0]) (t := 40) ?hr ?_; (case hd => rfl); (case hg => rfl); (case hr => first | (go_simp; done) | (go_simp; rfl)); intro g6 hg_ w4 hbox hb; have G6 := Aside0.mk hg_; have BW4 := Aside0.mk hb; have B6 := Aside0.mk hbox; clear hbox hb hg_ x0 x1 x2 x3 x4 x5 x1' x2' x3' x4' x5'; obtain ⟨y0, y1, y2, y3, y4, y5, z0, z1, z2, z3, z4, z5⟩ := cells6 B6.out) | ((with_reducible refine gate_store (t := 40) (p := 6) rfl ?_); refine store_event2 (w1 := ((((((w4.setCell ⟨g6, 0, none⟩ (.int .i64 0)).setCell ⟨g6, 1, none⟩ (.int .i64 jh)).setCell ⟨g6, 2, none⟩ (.slice A2 n2 c2)).setCell ⟨g6, 3, none⟩ (.int .i64 js)).setCell ⟨g6, 4, none⟩ (.string jf)).setCell ⟨g6, 5, none⟩ (.slice A5 n5 c5))) ?hg ?hn ?hr ?_; (case hg => rfl); (case hn => rfl); (case hr => first | (go_simp; done) | (go_simp; rfl)); intro w5 hW_; have HW5 := Aside0.mk hW_; clear hW_ y0 y1 y2 y3 y4 y5 z0 z1 z2 z3 z4 z5; have BW5 := Aside0.mk (show Below wr.heap.size wr w5 from by rw [HW5.out]; exact below_set (below_set (below_set (below_set (below_set (below_set BW4.out (Nat.le_of_eq G6.out.symm)) (Nat.le_of_eq G6.out.symm)) (Nat.le_of_eq G6.out.symm)) (Nat.le_of_eq G6.out.symm)) (Nat.le_of_eq G6.out.symm)) (Nat.le_of_eq G6.out.symm)); have X6 := Aside0.mk (show w5.heap[g6]? = some (.cells #[.int .i64 0, .int .i64 jh, .slice A2 n2 c2, .int .i64 js, .string jf, .slice A5 n5 c5] 40 (0, 0)) from by rw [HW5.out]; exact put6 B6.out _ _ _ _ _ _); obtain ⟨y0, y1, y2, y3, y4, y5, -, -, -, -, -, -⟩ := cells6 X6.out; have PS5 := Aside0.mk (ps_new LS.out RLX.out BW5.out X6.out (Nat.le_of_eq G6.out.symm))))
          go_at_call 9
          have hP : Calls Try.prog 9 #[.pointer (some ⟨g, 0, none⟩), .slice (some ⟨w5.heap.size, 0, none⟩) 1 1] (w5.alloc (.cells #[.int .i64 jh, .slice A2 n2 c2, .int .i64 js, .string jf] 29 (0, 0))) _ :=
            LSt.push (w0 := w) (P := fun k => (rfoot gr vL vA k ∨ k = g6) ∨ k = w5.heap.size) (R := [⟨jh, A2, n2, c2, js, jf⟩]) (n := 1) (c := 1) (PS5.out.ls.more (below_alloc (Below.refl _ _) _) (fun k hk => by rcases hk with hk | hk; exact .inl hk; exact .inr ⟨Nat.le_of_eq hk.symm, by rw [hk]; simp⟩)) rfl (reads_block (blk_new w5 _) rfl) (fun ad e => .inl (.inr (by injection e with e; rw [← e]))) (by have := HLEN0.out; have := HI200.out; simp only [List.length_singleton]; omega)
          with_reducible refine Calls.mono hP ?_
          clear hP y0 y1 y2 y3 y4 y5
          rintro e w6 ⟨rfl, h2, hk2⟩
          have P6 := Aside0.mk ((PS5.out.below (below_alloc (Below.refl _ _) (.cells #[.int .i64 jh, .slice A2 n2 c2, .int .i64 js, .string jf] 29 (0, 0)))).s (h2.weak (P' := fun k => rfoot gr vL vA k ∨ k = g6) (fun k hk => .inl hk)) (fun k hk => hk2 k (.inl hk)))
          clear h2 hk2
          obtain ⟨k0', k1', z0', z1'⟩ := P6.out.rl.cells
          obtain ⟨y0, y1, y2, y3, y4, y5, -, -, -, -, -, -⟩ := cells6 P6.out.op
          have OL := Aside0.mk P6.out.rl.oL
          have LQ := Aside0.mk (show q.length ≤ 2097152 from by have := HLEN0.out; have := HI200.out; omega)
          have BSZ := Aside0.mk P6.out.ls.out.size
          go_wp2_with (first | ((with_reducible refine gate_dst (N := 45) rfl ?_); refine bs_event ?hg (N := 45) ?hd 44 ⟨jh, A2, n2, c2, js, jf⟩ ?ho ?hx ?_; (case hd => rfl); (case hg => rfl); (case ho => rfl); (case hx => rfl); intro b w7 hbs hbb hbl; have BB := Aside0.mk hbb; have BW7 := Aside0.mk hbl; clear hbs hbb hbl y0 y1 y2 y3 y4 y5 k0' k1' z0' z1') | ((with_reducible refine gate_dst (N := 46) rfl ?_); refine app_event ?hg (N := 46) ?hd 42 45 ?ho w.heap.size b vL q ⟨jh, A2, n2, c2, js, jf⟩ ?hs ?hx (OwnJ.below OL.out BW7.out) BB.out LQ.out (Nat.le_trans BSZ.out BW7.out.size) ?_; (case hd => rfl); (case hg => rfl); (case ho => rfl); (case hs => rfl); (case hx => rfl); intro gg cap w8 hown hgrow hat; have AR := Aside0.mk (ref_app P6.out.rl BW7.out hown hgrow hat); have Z8 := Aside0.mk AR.out.1; clear hown hgrow hat; have k0' := (blk_cell Z8.out 0).trans rfl; have k1' := (blk_cell Z8.out 1).trans rfl; have z0' := blk_frozen Z8.out 0; have z1' := blk_frozen Z8.out 1) | ((with_reducible refine gate_store (t := 36) (p := 47) rfl ?_); refine store_event2 (w1 := w8.setCell ⟨gr, 0, none⟩ (.slice (some ⟨gg, 0, none⟩) (q.length + 1) cap)) ?hg ?hn ?hr ?_; (case hg => rfl); (case hn => rfl); (case hr => first | (go_simp; done) | (go_simp; rfl)); intro w9 hW_; have HW9 := Aside0.mk hW_; clear hW_ k0' k1' z0' z1'; have PR9 := Aside0.mk (AR.out.2 w9 HW9.out).1; have PF9 := Aside0.mk (AR.out.2 w9 HW9.out).2))
          have DD := Aside0.mk (P6.out.d (W1 := w9) (L' := q ++ [⟨jh, A2, n2, c2, js, jf⟩]) (A' := A) ⟨_, _, PR9.out, rfl⟩ PF9.out)
          obtain ⟨vL2, vA2, pz, _⟩ := DD.out
          have PZ := Aside0.mk pz
          clear pz DD
          obtain ⟨q2, hq2⟩ : ∃ q2, q2 = q ++ [⟨jh, A2, n2, c2, js, jf⟩] := ⟨_, rfl⟩
          obtain ⟨A3, hA3⟩ : ∃ A3, A3 = A := ⟨_, rfl⟩
          obtain ⟨S2, hS2⟩ : ∃ S2, S2 = S := ⟨_, rfl⟩
          rw [← hq2, ← hA3, ← hS2] at PZ
          have HREL := Aside0.mk (show Rel S2 A3 from by rw [hS2, hA3]; exact HREL0.out)
          have HJQ := Aside0.mk (show JIn w q2 from by rw [hq2]; exact HJQ0.out.app HJ.out)
          have HJA := Aside0.mk (show JIn w A3 from by rw [hA3]; exact HJA0.out)
          have HLEN := Aside0.mk (show q2.length + A3.length ≤ i + 1 from by rw [hq2, hA3, List.length_append, List.length_singleton]; have := HLEN0.out; omega)
          clear hq2 hA3 hS2
          as_aux_lemma =>
            obtain ⟨AL, cL, hvL, hrdL⟩ := PZ.out.rl.oL.form
            have HCAPL := Aside0.mk (own_cap (by have h := PZ.out.rl.oL; rw [hvL] at h; exact h))
            obtain ⟨nq, hnq⟩ : ∃ nq, nq = q2.length := ⟨_, rfl⟩
            rw [← hnq] at hvL
            subst hvL
            have HRDL := Aside0.mk hrdL
            have HNQ := Aside0.mk hnq
            clear hrdL hnq
            refine region_drew (fun W_ => W_.heap[gr]? = some (.cells #[.slice AL nq cL, vA2] 46 (0, 0))) (by kernel_rfl) (fun d1 hd1 he1 => ?_)
            have PD := Aside0.mk (PZ.out.below hd1)
            have HRD2 := Aside0.mk (Reads.below HRDL.out hd1)
            clear hd1 he1
            refine ⟨PD.out.rl.blk, fun hHeld => ?_⟩
            refine wpAnyH_take (i := 0) (v := .int .i64 0) rfl (by kernel_rfl) (by kernel_rfl) (by kernel_rfl) (fun _ _ _ h => h) (Or.inl ⟨by kernel_rfl, ?_⟩) (by assumption) ?_
            · intro W_ hSw
              have s0 := (blk_cell hSw 0).trans rfl
              have s1 := (blk_cell hSw 1).trans rfl
              clear hSw
              first | (go_simp; done) | (go_simp; with_reducible rfl) | (go_simp; rfl)
            try simp only [Act.put, List.getElem_toArray, List.getElem_cons_succ, List.getElem_cons_zero, List.setIfInBounds_toArray, List.set_cons_zero, List.set_cons_succ]
            refine wpAnyH_take (i := 1) (v := .int .i64 0) rfl (by kernel_rfl) (by kernel_rfl) (by kernel_rfl) (fun _ _ _ h => h) (Or.inl ⟨by kernel_rfl, ?_⟩) (by assumption) ?_
            · intro W_ hSw
              have s0 := (blk_cell hSw 0).trans rfl
              have s1 := (blk_cell hSw 1).trans rfl
              clear hSw
              first | (go_simp; done) | (go_simp; with_reducible rfl) | (go_simp; rfl)
            try simp only [Act.put, List.getElem_toArray, List.getElem_cons_succ, List.getElem_cons_zero, List.setIfInBounds_toArray, List.set_cons_zero, List.set_cons_succ]
            refine wpAnyH_take (i := 2) (v := .bool false) rfl (by kernel_rfl) (by kernel_rfl) (by kernel_rfl) (fun _ _ _ h => h) (Or.inl ⟨by kernel_rfl, ?_⟩) (by assumption) ?_
            · intro W_ hSw
              have s0 := (blk_cell hSw 0).trans rfl
              have s1 := (blk_cell hSw 1).trans rfl
              clear hSw
              first | (go_simp; done) | (go_simp; with_reducible rfl) | (go_simp; rfl)
            try simp only [Act.put, List.getElem_toArray, List.getElem_cons_succ, List.getElem_cons_zero, List.setIfInBounds_toArray, List.set_cons_zero, List.set_cons_succ]
            refine wpAnyH_take (i := 3) (v := .bool false) rfl (by kernel_rfl) (by kernel_rfl) (by kernel_rfl) (fun _ _ _ h => h) (Or.inl ⟨by kernel_rfl, ?_⟩) (by assumption) ?_
            · intro W_ hSw
              have s0 := (blk_cell hSw 0).trans rfl
              have s1 := (blk_cell hSw 1).trans rfl
              clear hSw
              first | (go_simp; done) | (go_simp; with_reducible rfl) | (go_simp; rfl)
            try simp only [Act.put, List.getElem_toArray, List.getElem_cons_succ, List.getElem_cons_zero, List.setIfInBounds_toArray, List.set_cons_zero, List.set_cons_succ]
            refine wpAnyH_take (i := 4) (v := .pointer (some ⟨g, 0, none⟩)) rfl (by kernel_rfl) (by kernel_rfl) (by kernel_rfl) (fun _ _ _ h => h) (Or.inl ⟨by kernel_rfl, ?_⟩) (by assumption) ?_
            · intro W_ hSw
              have s0 := (blk_cell hSw 0).trans rfl
              have s1 := (blk_cell hSw 1).trans rfl
              clear hSw
              first | (go_simp; done) | (go_simp; with_reducible rfl) | (go_simp; rfl)
            try simp only [Act.put, List.getElem_toArray, List.getElem_cons_succ, List.getElem_cons_zero, List.setIfInBounds_toArray, List.set_cons_zero, List.set_cons_succ]
            refine wpAnyH_take (i := 6) (v := .pointer (some ⟨gr, 0, none⟩)) rfl (by kernel_rfl) (by kernel_rfl) (by kernel_rfl) (fun _ _ _ h => h) (Or.inl ⟨by kernel_rfl, ?_⟩) (by assumption) ?_
            · intro W_ hSw
              have s0 := (blk_cell hSw 0).trans rfl
              have s1 := (blk_cell hSw 1).trans rfl
              clear hSw
              first | (go_simp; done) | (go_simp; with_reducible rfl) | (go_simp; rfl)
            try simp only [Act.put, List.getElem_toArray, List.getElem_cons_succ, List.getElem_cons_zero, List.setIfInBounds_toArray, List.set_cons_zero, List.set_cons_succ]
            refine wpAnyH_take (i := 7) (v := .slice AL nq cL) rfl (by kernel_rfl) (by kernel_rfl) (by kernel_rfl) (fun _ _ _ h => h) (Or.inl ⟨by kernel_rfl, ?_⟩) (by assumption) ?_
            · intro W_ hSw
              have s0 := (blk_cell hSw 0).trans rfl
              have s1 := (blk_cell hSw 1).trans rfl
              clear hSw
              first | (go_simp; done) | (go_simp; with_reducible rfl) | (go_simp; rfl)
            try simp only [Act.put, List.getElem_toArray, List.getElem_cons_succ, List.getElem_cons_zero, List.setIfInBounds_toArray, List.set_cons_zero, List.set_cons_succ]
            refine wpAnyH_take (i := 8) (v := .int .i64 nq) rfl (by kernel_rfl) (by kernel_rfl) (by kernel_rfl) (fun _ _ _ h => h) (Or.inl ⟨by kernel_rfl, ?_⟩) (by assumption) ?_
            · intro W_ hSw
              have s0 := (blk_cell hSw 0).trans rfl
              have s1 := (blk_cell hSw 1).trans rfl
              clear hSw
              first | (go_simp; done) | (go_simp; with_reducible rfl) | (go_simp; rfl)
            try simp only [Act.put, List.getElem_toArray, List.getElem_cons_succ, List.getElem_cons_zero, List.setIfInBounds_toArray, List.set_cons_zero, List.set_cons_succ]
            clear hHeld
            refine next_le (i := 5) (rs := []) (by kernel_rfl) ?_
            refine cons_callG 5 (N := 84) (xs := #[.tmp 83]) (ts := #[24]) (by kernel_rfl) Try.func12 (by kernel_rfl) rfl #[.pointer (some ⟨g, 0, none⟩)] (by kernel_rfl) ?_ AllReadyH.nil
            refine (PD.out.ls.len).mono ?_
            rintro e w_ ⟨rfl, rfl⟩
            refine ⟨_, rfl, PD.out.rl.blk, ?_⟩
            rw [← HNQ.out]
            have hHeld := PD.out.rl.blk
            try simp only [Act.put, List.getElem_toArray, List.getElem_cons_succ, List.getElem_cons_zero, List.setIfInBounds_toArray, List.set_cons_zero, List.set_cons_succ]
            refine wpAnyH_take (i := 9) (v := .bool false) rfl (by kernel_rfl) (by kernel_rfl) (by kernel_rfl) (fun _ _ _ h => h) (Or.inl ⟨by kernel_rfl, ?_⟩) (by assumption) ?_
            · intro W_ hSw
              have s0 := (blk_cell hSw 0).trans rfl
              have s1 := (blk_cell hSw 1).trans rfl
              clear hSw
              first | (go_simp; done) | (go_simp; with_reducible rfl) | (go_simp; rfl)
            try simp only [Act.put, List.getElem_toArray, List.getElem_cons_succ, List.getElem_cons_zero, List.setIfInBounds_toArray, List.set_cons_zero, List.set_cons_succ]
            refine wpAnyH_take (i := 10) (v := .bool false) rfl (by kernel_rfl) (by kernel_rfl) (by kernel_rfl) (fun _ _ _ h => h) (Or.inl ⟨by kernel_rfl, ?_⟩) (by assumption) ?_
            · intro W_ hSw
              have s0 := (blk_cell hSw 0).trans rfl
              have s1 := (blk_cell hSw 1).trans rfl
              clear hSw
              first | (go_simp; done) | (go_simp; with_reducible rfl) | (go_simp; rfl)
            try simp only [Act.put, List.getElem_toArray, List.getElem_cons_succ, List.getElem_cons_zero, List.setIfInBounds_toArray, List.set_cons_zero, List.set_cons_succ]
            refine wpAnyH_take (i := 11) (v := .bool false) rfl (by kernel_rfl) (by kernel_rfl) (by kernel_rfl) (fun _ _ _ h => h) (Or.inl ⟨by kernel_rfl, ?_⟩) (by assumption) ?_
            · intro W_ hSw
              have s0 := (blk_cell hSw 0).trans rfl
              have s1 := (blk_cell hSw 1).trans rfl
              clear hSw
              first | (go_simp; done) | (go_simp; with_reducible rfl) | (go_simp; rfl)
            try simp only [Act.put, List.getElem_toArray, List.getElem_cons_succ, List.getElem_cons_zero, List.setIfInBounds_toArray, List.set_cons_zero, List.set_cons_succ]
            refine wpAnyH_take (i := 12) (v := .pointer (some ⟨g, 0, none⟩)) rfl (by kernel_rfl) (by kernel_rfl) (by kernel_rfl) (fun _ _ _ h => h) (Or.inl ⟨by kernel_rfl, ?_⟩) (by assumption) ?_
            · intro W_ hSw
              have s0 := (blk_cell hSw 0).trans rfl
              have s1 := (blk_cell hSw 1).trans rfl
              clear hSw
              first | (go_simp; done) | (go_simp; with_reducible rfl) | (go_simp; rfl)
            try simp only [Act.put, List.getElem_toArray, List.getElem_cons_succ, List.getElem_cons_zero, List.setIfInBounds_toArray, List.set_cons_zero, List.set_cons_succ]
            refine wpAnyH_take (i := 13) (v := .int .i64 jh) rfl (by kernel_rfl) (by kernel_rfl) (by kernel_rfl) (fun _ _ _ h => h) (Or.inl ⟨by kernel_rfl, ?_⟩) (by assumption) ?_
            · intro W_ hSw
              have s0 := (blk_cell hSw 0).trans rfl
              have s1 := (blk_cell hSw 1).trans rfl
              clear hSw
              first | (go_simp; done) | (go_simp; with_reducible rfl) | (go_simp; rfl)
            try simp only [Act.put, List.getElem_toArray, List.getElem_cons_succ, List.getElem_cons_zero, List.setIfInBounds_toArray, List.set_cons_zero, List.set_cons_succ]
            refine wpAnyH_take (i := 15) (v := .int .i64 jh) rfl (by kernel_rfl) (by kernel_rfl) (by kernel_rfl) (fun _ _ _ h => h) (Or.inl ⟨by kernel_rfl, ?_⟩) (by assumption) ?_
            · intro W_ hSw
              have s0 := (blk_cell hSw 0).trans rfl
              have s1 := (blk_cell hSw 1).trans rfl
              clear hSw
              first | (go_simp; done) | (go_simp; with_reducible rfl) | (go_simp; rfl)
            try simp only [Act.put, List.getElem_toArray, List.getElem_cons_succ, List.getElem_cons_zero, List.setIfInBounds_toArray, List.set_cons_zero, List.set_cons_succ]
            clear hHeld
            refine next_le (i := 14) (rs := []) (by kernel_rfl) ?_
            refine cons_callG 14 (N := 93) (xs := #[.tmp 91, .tmp 92]) (ts := #[24, 3]) (by kernel_rfl) Try.func13 (by kernel_rfl) rfl #[.pointer (some ⟨g, 0, none⟩), .int .i64 jh] (by kernel_rfl) ?_ AllReadyH.nil
            refine (PD.out.ls.held jh).mono ?_
            rintro e w_ ⟨rfl, rfl⟩
            refine ⟨_, rfl, PD.out.rl.blk, ?_⟩
            rw [HREL.out jh]
            try simp only [Act.put, List.getElem_toArray, List.getElem_cons_succ, List.getElem_cons_zero, List.setIfInBounds_toArray, List.set_cons_zero, List.set_cons_succ]
            refine next_le (i := 16) (rs := []) (by kernel_rfl) ?_
            refine cons_callG 16 (N := 95) (xs := #[.tmp 4, .tmp 94]) (ts := #[46, 3]) (by kernel_rfl) Try.func22 (by kernel_rfl) rfl #[.pointer (some ⟨gr, 0, none⟩), .int .i64 jh] (by kernel_rfl) ?_ AllReadyH.nil
            refine (rheld_calls w.heap.size gr q2 A3 _ jh _ ⟨_, _, PD.out.rl, rfl⟩ (by have := HLEN.out; have := HI200.out; omega)).mono ?_
            rintro e wH ⟨rfl, hb1⟩
            refine ⟨_, rfl, (PD.out.below hb1).rl.blk, ?_⟩
            have PE := Aside0.mk (PD.out.below hb1)
            have HRD3 := Aside0.mk (Reads.below HRD2.out hb1)
            clear hb1
            have hHeld := PE.out.rl.blk
            try simp only [Act.put, List.getElem_toArray, List.getElem_cons_succ, List.getElem_cons_zero, List.setIfInBounds_toArray, List.set_cons_zero, List.set_cons_succ]
            refine wpAnyH_take (i := 17) (v := .bool false) rfl (by kernel_rfl) (by kernel_rfl) (by kernel_rfl) (fun _ _ _ h => h) (Or.inl ⟨by kernel_rfl, ?_⟩) (by assumption) ?_
            · intro W_ hSw
              have s0 := (blk_cell hSw 0).trans rfl
              have s1 := (blk_cell hSw 1).trans rfl
              clear hSw
              first | (go_simp; done) | (go_simp; with_reducible rfl) | (go_simp; rfl)
            try simp only [Act.put, List.getElem_toArray, List.getElem_cons_succ, List.getElem_cons_zero, List.setIfInBounds_toArray, List.set_cons_zero, List.set_cons_succ]
            refine wpAnyH_take (i := 18) (v := .bool false) rfl (by kernel_rfl) (by kernel_rfl) (by kernel_rfl) (fun _ _ _ h => h) (Or.inl ⟨by kernel_rfl, ?_⟩) (by assumption) ?_
            · intro W_ hSw
              have s0 := (blk_cell hSw 0).trans rfl
              have s1 := (blk_cell hSw 1).trans rfl
              clear hSw
              first | (go_simp; done) | (go_simp; with_reducible rfl) | (go_simp; rfl)
            try simp only [Act.put, List.getElem_toArray, List.getElem_cons_succ, List.getElem_cons_zero, List.setIfInBounds_toArray, List.set_cons_zero, List.set_cons_succ]
            refine wpAnyH_take (i := 19) (v := .bool false) rfl (by kernel_rfl) (by kernel_rfl) (by kernel_rfl) (fun _ _ _ h => h) (Or.inl ⟨by kernel_rfl, ?_⟩) (by assumption) ?_
            · intro W_ hSw
              have s0 := (blk_cell hSw 0).trans rfl
              have s1 := (blk_cell hSw 1).trans rfl
              clear hSw
              first | (go_simp; done) | (go_simp; with_reducible rfl) | (go_simp; rfl)
            try simp only [Act.put, List.getElem_toArray, List.getElem_cons_succ, List.getElem_cons_zero, List.setIfInBounds_toArray, List.set_cons_zero, List.set_cons_succ]
            refine wpAnyH_take (i := 20) (v := .pointer (some ⟨g, 0, none⟩)) rfl (by kernel_rfl) (by kernel_rfl) (by kernel_rfl) (fun _ _ _ h => h) (Or.inl ⟨by kernel_rfl, ?_⟩) (by assumption) ?_
            · intro W_ hSw
              have s0 := (blk_cell hSw 0).trans rfl
              have s1 := (blk_cell hSw 1).trans rfl
              clear hSw
              first | (go_simp; done) | (go_simp; with_reducible rfl) | (go_simp; rfl)
            try simp only [Act.put, List.getElem_toArray, List.getElem_cons_succ, List.getElem_cons_zero, List.setIfInBounds_toArray, List.set_cons_zero, List.set_cons_succ]
            refine wpAnyH_take (i := 22) (v := .pointer (some ⟨gr, 0, none⟩)) rfl (by kernel_rfl) (by kernel_rfl) (by kernel_rfl) (fun _ _ _ h => h) (Or.inl ⟨by kernel_rfl, ?_⟩) (by assumption) ?_
            · intro W_ hSw
              have s0 := (blk_cell hSw 0).trans rfl
              have s1 := (blk_cell hSw 1).trans rfl
              clear hSw
              first | (go_simp; done) | (go_simp; with_reducible rfl) | (go_simp; rfl)
            try simp only [Act.put, List.getElem_toArray, List.getElem_cons_succ, List.getElem_cons_zero, List.setIfInBounds_toArray, List.set_cons_zero, List.set_cons_succ]
            refine wpAnyH_take (i := 23) (v := .slice AL nq cL) rfl (by kernel_rfl) (by kernel_rfl) (by kernel_rfl) (fun _ _ _ h => h) (Or.inl ⟨by kernel_rfl, ?_⟩) (by assumption) ?_
            · intro W_ hSw
              have s0 := (blk_cell hSw 0).trans rfl
              have s1 := (blk_cell hSw 1).trans rfl
              clear hSw
              first | (go_simp; done) | (go_simp; with_reducible rfl) | (go_simp; rfl)
            try simp only [Act.put, List.getElem_toArray, List.getElem_cons_succ, List.getElem_cons_zero, List.setIfInBounds_toArray, List.set_cons_zero, List.set_cons_succ]
            clear hHeld
            refine next_le (i := 21) (rs := []) (by kernel_rfl) ?_
            refine cons_callG 21 (N := 100) (xs := #[.tmp 99]) (ts := #[24]) (by kernel_rfl) Try.func24 (by kernel_rfl) rfl #[.pointer (some ⟨g, 0, none⟩)] (by kernel_rfl) ?_ AllReadyH.nil
            refine PE.out.ls.all.mono ?_
            rintro e wA ⟨v, rfl, hO, hB⟩
            have PF := Aside0.mk (PE.out.below hB)
            have HRD4 := Aside0.mk (Reads.below HRD3.out hB)
            obtain ⟨Av, cv, hv, hrd⟩ := hO.form
            have hcap := own_cap (by have h := hO; rw [hv] at h; exact h)
            rw [← HNQ.out] at hv
            subst hv
            refine ⟨_, rfl, PF.out.rl.blk, ?_⟩
            try simp only [Act.put, List.getElem_toArray, List.getElem_cons_succ, List.getElem_cons_zero, List.setIfInBounds_toArray, List.set_cons_zero, List.set_cons_succ]
            refine next_le (i := 24) (rs := []) (by kernel_rfl) ?_
            refine cons_callG 24 (N := 103) (xs := #[.tmp 100, .tmp 102]) (ts := #[36, 36]) (by kernel_rfl) Try.func23 (by kernel_rfl) rfl #[.slice Av nq cv, .slice AL nq cL] (by kernel_rfl) ?_ AllReadyH.nil
            refine (same_calls (w := w) PF.out.ls.out HJQ.out (by have := HLEN.out; have := HI200.out; omega) HNQ.out HNQ.out hrd HRD4.out hcap HCAPL.out).mono ?_
            clear hrd hcap hO hB
            rintro e wD ⟨rfl, hB⟩
            have PH := Aside0.mk (PF.out.below hB)
            clear hB
            refine ⟨_, rfl, PH.out.rl.blk, ?_⟩
            have hHeld := PH.out.rl.blk
            try simp only [Act.put, List.getElem_toArray, List.getElem_cons_succ, List.getElem_cons_zero, List.setIfInBounds_toArray, List.set_cons_zero, List.set_cons_succ]
            refine wpAnyH_take (i := 25) (v := .bool false) rfl (by kernel_rfl) (by kernel_rfl) (by kernel_rfl) (fun _ _ _ h => h) (Or.inl ⟨by kernel_rfl, ?_⟩) (by assumption) ?_
            · intro W_ hSw
              have s0 := (blk_cell hSw 0).trans rfl
              have s1 := (blk_cell hSw 1).trans rfl
              clear hSw
              first | (go_simp; done) | (go_simp; with_reducible rfl) | (go_simp; rfl)
            try simp only [Act.put, List.getElem_toArray, List.getElem_cons_succ, List.getElem_cons_zero, List.setIfInBounds_toArray, List.set_cons_zero, List.set_cons_succ]
            refine wpAnyH_take (i := 26) (v := .bool false) rfl (by kernel_rfl) (by kernel_rfl) (by kernel_rfl) (fun _ _ _ h => h) (Or.inl ⟨by kernel_rfl, ?_⟩) (by assumption) ?_
            · intro W_ hSw
              have s0 := (blk_cell hSw 0).trans rfl
              have s1 := (blk_cell hSw 1).trans rfl
              clear hSw
              first | (go_simp; done) | (go_simp; with_reducible rfl) | (go_simp; rfl)
            try simp only [Act.put, List.getElem_toArray, List.getElem_cons_succ, List.getElem_cons_zero, List.setIfInBounds_toArray, List.set_cons_zero, List.set_cons_succ]
            clear hHeld
            refine wpAnyH_done (by kernel_rfl) ?_ _
            go_wp2_with fail
            go_roundw
            case rel => exact ⟨i + 1, q2, S2, A3, _, vA2, by simp, HLT.out, PH.out.ls.weak (fun k hk => .inl hk), PH.out.rl, HREL.out, HJQ.out, HJA.out, HLEN.out⟩
            case measure => have := HLT.out; have := HN.out; simp [intOf] <;> omega
        · have kf0 : decide (k0 = 0) = false := decide_eq_false hk0
          have kf1 : (k0 == 0) = false := by simp [hk0]
          by_cases hk1 : k0 = 1
          · subst hk1
            clear hk0 kf0 kf1
            have NR0 := nx_rel ws q S A HREL0.out
            have NI0 := nxR_in ws q A HJQ0.out HJA0.out
            obtain ⟨ox, hox⟩ : ∃ ox, ox = (nxR ws q A).1 := ⟨_, rfl⟩
            obtain ⟨q2, hq2⟩ : ∃ q2, q2 = (nxR ws q A).2.1 := ⟨_, rfl⟩
            obtain ⟨A3, hA3⟩ : ∃ A3, A3 = (nxR ws q A).2.2 := ⟨_, rfl⟩
            obtain ⟨S2, hS2⟩ : ∃ S2, S2 = (nx ws q S).2.2 := ⟨_, rfl⟩
            obtain ⟨xx, hxx⟩ : ∃ xx, xx = ox.getD Jb.z := ⟨_, rfl⟩
            obtain ⟨bo, hbo⟩ : ∃ bo, bo = ox.isSome := ⟨_, rfl⟩
            rw [← hox, ← hq2, ← hA3, ← hxx] at NI0
            rw [← hox, ← hq2, ← hA3, ← hS2] at NR0
            have HREL := Aside0.mk NR0.2.2
            have HJQ := Aside0.mk NI0.2.1
            have HJA := Aside0.mk NI0.2.2.1
            have HLEN := Aside0.mk (show q2.length + A3.length ≤ i + 1 from by have := HLEN0.out; have := NI0.2.2.2; omega)
            have NI1 := Aside0.mk NI0.1
            have hb1 : (bo != bo) = false := by simp
            have hb2 : (bo == bo) = true := by simp
            have hb3 : decide (bo = bo) = true := decide_eq_true rfl
            obtain ⟨xh, xA, xn, xc, xs, xf⟩ := xx
            have NR := Aside0.mk NR0
            have HOX := Aside0.mk hox
            have HQ2 := Aside0.mk hq2
            have HA3 := Aside0.mk hA3
            have HS2 := Aside0.mk hS2
            have HXX := Aside0.mk hxx
            have HBO := Aside0.mk hbo
            clear NR0 NI0 hox hq2 hA3 hS2 hxx hbo
            go_wp2_with (first | ((with_reducible refine gate_dst (N := 6) rfl ?_); refine box_event ?hg (N := 6) ?hd (cs := #[.int .i64 0, .int .i64 0, .slice none 0 0, .int .i64 0, .string (⟨#[]⟩ : ByteArray), .slice none 0 0]) (t := 40) ?hr ?_; (case hd => rfl); (case hg => rfl); (case hr => first | (go_simp; done) | (go_simp; rfl)); intro g6 hg_ w4 hbox hb; have G6 := Aside0.mk hg_; have BW4 := Aside0.mk hb; have B6 := Aside0.mk hbox; clear hbox hb hg_ x0 x1 x2 x3 x4 x5 x1' x2' x3' x4' x5'; obtain ⟨y0, y1, y2, y3, y4, y5, z0, z1, z2, z3, z4, z5⟩ := cells6 B6.out) | ((with_reducible refine gate_store (t := 40) (p := 6) rfl ?_); refine store_event2 (w1 := ((((((w4.setCell ⟨g6, 0, none⟩ (.int .i64 1)).setCell ⟨g6, 1, none⟩ (.int .i64 jh)).setCell ⟨g6, 2, none⟩ (.slice A2 n2 c2)).setCell ⟨g6, 3, none⟩ (.int .i64 js)).setCell ⟨g6, 4, none⟩ (.string jf)).setCell ⟨g6, 5, none⟩ (.slice A5 n5 c5))) ?hg ?hn ?hr ?_; (case hg => rfl); (case hn => rfl); (case hr => first | (go_simp; done) | (go_simp; rfl)); intro w5 hW_; have HW5 := Aside0.mk hW_; clear hW_ y0 y1 y2 y3 y4 y5 z0 z1 z2 z3 z4 z5; have BW5 := Aside0.mk (show Below wr.heap.size wr w5 from by rw [HW5.out]; exact below_set (below_set (below_set (below_set (below_set (below_set BW4.out (Nat.le_of_eq G6.out.symm)) (Nat.le_of_eq G6.out.symm)) (Nat.le_of_eq G6.out.symm)) (Nat.le_of_eq G6.out.symm)) (Nat.le_of_eq G6.out.symm)) (Nat.le_of_eq G6.out.symm)); have X6 := Aside0.mk (show w5.heap[g6]? = some (.cells #[.int .i64 1, .int .i64 jh, .slice A2 n2 c2, .int .i64 js, .string jf, .slice A5 n5 c5] 40 (0, 0)) from by rw [HW5.out]; exact put6 B6.out _ _ _ _ _ _); obtain ⟨y0, y1, y2, y3, y4, y5, -, -, -, -, -, -⟩ := cells6 X6.out; have PS5 := Aside0.mk (ps_new LS.out RLX.out BW5.out X6.out (Nat.le_of_eq G6.out.symm)); have hN1 := PS5.out.ls.next2 (A0 := A5) (c0 := c5) HN5.out HCC5.out (by have := HW20.out; omega) HC5.out (fun k => by rw [HREL0.out k]; have := own_le k A; have := HLEN0.out; have := HI200.out; omega); rw [NR.out.1, NR.out.2.1, ← HS2.out, ← HXX.out, ← HBO.out] at hN1; have NX1 := Aside0.mk hN1; clear hN1) | (go_at_call 11; (with_reducible refine NX1.out.mono ?_); rintro e w6 ⟨rfl, h2, hk2⟩; have P6 := Aside0.mk (PS5.out.s h2 hk2); clear h2 hk2 y0 y1 y2 y3 y4 y5 NX1) | ((with_reducible refine gate_dst (N := 10) rfl ?_); refine box_event ?hg (N := 10) ?hd (cs := #[.int .i64 0, .slice none 0 0, .int .i64 0, .string (⟨#[]⟩ : ByteArray)]) (t := 29) ?hr ?_; (case hd => rfl); (case hg => rfl); (case hr => first | (go_simp; done) | (go_simp; rfl)); intro g10 hg_ w7 hbox hb; have G10 := Aside0.mk hg_; have BW7 := Aside0.mk hb; have B10 := Aside0.mk hbox; clear hbox hb hg_; obtain ⟨u0, u1, u2, u3, v0, v1, v2, v3⟩ := cells4 B10.out) | ((with_reducible refine gate_store (t := 29) (p := 10) rfl ?_); refine store_event2 (w1 := ((((w7.setCell ⟨g10, 0, none⟩ (.int .i64 xh)).setCell ⟨g10, 1, none⟩ (.slice xA xn xc)).setCell ⟨g10, 2, none⟩ (.int .i64 xs)).setCell ⟨g10, 3, none⟩ (.string xf))) ?hg ?hn ?hr ?_; (case hg => rfl); (case hn => rfl); (case hr => first | (go_simp; done) | (go_simp; rfl)); intro w8 hW_; have HW_ := Aside0.mk hW_; clear hW_ u0 u1 u2 u3 v0 v1 v2 v3; have BWW := Aside0.mk (show Below w6.heap.size w6 w8 from by rw [HW_.out]; exact below_set (below_set (below_set (below_set BW7.out (Nat.le_of_eq G10.out.symm)) (Nat.le_of_eq G10.out.symm)) (Nat.le_of_eq G10.out.symm)) (Nat.le_of_eq G10.out.symm)); have X10 := Aside0.mk (show w8.heap[g10]? = some (.cells #[.int .i64 xh, .slice xA xn xc, .int .i64 xs, .string xf] 29 (0, 0)) from by rw [HW_.out]; exact put4 B10.out _ _ _ _); clear HW_; have P8 := Aside0.mk (P6.out.below BWW.out); clear BWW; obtain ⟨y0, y1, y2, y3, y4, y5, -, -, -, -, -, -⟩ := cells6 P8.out.op; have hN2 := P8.out.rnx (A0 := A5) (c0 := c5) HN5.out (by have := HW20.out; omega) HC5.out (by have := HLEN0.out; have := HI200.out; omega); rw [← HOX.out, ← HQ2.out, ← HA3.out, ← HXX.out, ← HBO.out] at hN2; have NX2 := Aside0.mk hN2; clear hN2) | (go_at_call 17; (with_reducible refine NX2.out.mono ?_); rintro e w9 ⟨rfl, vL2, vA2, hp, hkeep⟩; have P9 := Aside0.mk hp; have X10' := Aside0.mk ((hkeep g10 (blk_lt X10.out) (fun hf => by have := (P6.out.rl.foot_lt _ hf).2; have := G10.out; omega)).trans X10.out); clear hp hkeep y0 y1 y2 y3 y4 y5 NX2) | ((with_reducible refine gate_dst (N := 12) rfl ?_); refine box_event ?hg (N := 12) ?hd (cs := #[.int .i64 0, .slice none 0 0, .int .i64 0, .string (⟨#[]⟩ : ByteArray)]) (t := 29) ?hr ?_; (case hd => rfl); (case hg => rfl); (case hr => first | (go_simp; done) | (go_simp; rfl)); intro g12 hg_ w10 hbox hb; have G12 := Aside0.mk hg_; have BW10 := Aside0.mk hb; have B12 := Aside0.mk hbox; clear hbox hb hg_; obtain ⟨u0, u1, u2, u3, v0, v1, v2, v3⟩ := cells4 B12.out) | ((with_reducible refine gate_store (t := 29) (p := 12) rfl ?_); refine store_event2 (w1 := ((((w10.setCell ⟨g12, 0, none⟩ (.int .i64 xh)).setCell ⟨g12, 1, none⟩ (.slice xA xn xc)).setCell ⟨g12, 2, none⟩ (.int .i64 xs)).setCell ⟨g12, 3, none⟩ (.string xf))) ?hg ?hn ?hr ?_; (case hg => rfl); (case hn => rfl); (case hr => first | (go_simp; done) | (go_simp; rfl)); intro w11 hW_; have HW_ := Aside0.mk hW_; clear hW_ u0 u1 u2 u3 v0 v1 v2 v3; have BWW := Aside0.mk (show Below w9.heap.size w9 w11 from by rw [HW_.out]; exact below_set (below_set (below_set (below_set BW10.out (Nat.le_of_eq G12.out.symm)) (Nat.le_of_eq G12.out.symm)) (Nat.le_of_eq G12.out.symm)) (Nat.le_of_eq G12.out.symm)); have X12 := Aside0.mk (show w11.heap[g12]? = some (.cells #[.int .i64 xh, .slice xA xn xc, .int .i64 xs, .string xf] 29 (0, 0)) from by rw [HW_.out]; exact put4 B12.out _ _ _ _); clear HW_; have P11 := Aside0.mk (P9.out.below BWW.out); have X10'' := Aside0.mk (old_blk X10'.out BWW.out); clear BWW; obtain ⟨a0, a1, a2, a3, -, -, -, -⟩ := cells4 X10''.out; obtain ⟨b0, b1, b2, b3, -, -, -, -⟩ := cells4 X12.out) | (go_at_call 18; (with_reducible refine (sj_calls P11.out.ls.out xh xA xn xc xs xf NI1.out).mono ?_); rintro e w12 ⟨rfl, hb⟩; have P12 := Aside0.mk (P11.out.below hb); clear hb a0 a1 a2 a3 b0 b1 b2 b3))
            have PZ := Aside0.mk P12.out
            as_aux_lemma =>
              obtain ⟨AL, cL, hvL, hrdL⟩ := PZ.out.rl.oL.form
              have HCAPL := Aside0.mk (own_cap (by have h := PZ.out.rl.oL; rw [hvL] at h; exact h))
              obtain ⟨nq, hnq⟩ : ∃ nq, nq = q2.length := ⟨_, rfl⟩
              rw [← hnq] at hvL
              subst hvL
              have HRDL := Aside0.mk hrdL
              have HNQ := Aside0.mk hnq
              clear hrdL hnq
              refine region_drew (fun W_ => W_.heap[gr]? = some (.cells #[.slice AL nq cL, vA2] 46 (0, 0))) (by kernel_rfl) (fun d1 hd1 he1 => ?_)
              have PD := Aside0.mk (PZ.out.below hd1)
              have HRD2 := Aside0.mk (Reads.below HRDL.out hd1)
              clear hd1 he1
              refine ⟨PD.out.rl.blk, fun hHeld => ?_⟩
              refine wpAnyH_take (i := 0) (v := .int .i64 0) rfl (by kernel_rfl) (by kernel_rfl) (by kernel_rfl) (fun _ _ _ h => h) (Or.inl ⟨by kernel_rfl, ?_⟩) (by assumption) ?_
              · intro W_ hSw
                have s0 := (blk_cell hSw 0).trans rfl
                have s1 := (blk_cell hSw 1).trans rfl
                clear hSw
                first | (go_simp; done) | (go_simp; with_reducible rfl) | (go_simp; rfl)
              try simp only [Act.put, List.getElem_toArray, List.getElem_cons_succ, List.getElem_cons_zero, List.setIfInBounds_toArray, List.set_cons_zero, List.set_cons_succ]
              refine wpAnyH_take (i := 1) (v := .int .i64 0) rfl (by kernel_rfl) (by kernel_rfl) (by kernel_rfl) (fun _ _ _ h => h) (Or.inl ⟨by kernel_rfl, ?_⟩) (by assumption) ?_
              · intro W_ hSw
                have s0 := (blk_cell hSw 0).trans rfl
                have s1 := (blk_cell hSw 1).trans rfl
                clear hSw
                first | (go_simp; done) | (go_simp; with_reducible rfl) | (go_simp; rfl)
              try simp only [Act.put, List.getElem_toArray, List.getElem_cons_succ, List.getElem_cons_zero, List.setIfInBounds_toArray, List.set_cons_zero, List.set_cons_succ]
              refine wpAnyH_take (i := 2) (v := .bool false) rfl (by kernel_rfl) (by kernel_rfl) (by kernel_rfl) (fun _ _ _ h => h) (Or.inl ⟨by kernel_rfl, ?_⟩) (by assumption) ?_
              · intro W_ hSw
                have s0 := (blk_cell hSw 0).trans rfl
                have s1 := (blk_cell hSw 1).trans rfl
                clear hSw
                first | (go_simp; done) | (go_simp; with_reducible rfl) | (go_simp; rfl)
              try simp only [Act.put, List.getElem_toArray, List.getElem_cons_succ, List.getElem_cons_zero, List.setIfInBounds_toArray, List.set_cons_zero, List.set_cons_succ]
              refine wpAnyH_take (i := 3) (v := .bool false) rfl (by kernel_rfl) (by kernel_rfl) (by kernel_rfl) (fun _ _ _ h => h) (Or.inl ⟨by kernel_rfl, ?_⟩) (by assumption) ?_
              · intro W_ hSw
                have s0 := (blk_cell hSw 0).trans rfl
                have s1 := (blk_cell hSw 1).trans rfl
                clear hSw
                first | (go_simp; done) | (go_simp; with_reducible rfl) | (go_simp; rfl)
              try simp only [Act.put, List.getElem_toArray, List.getElem_cons_succ, List.getElem_cons_zero, List.setIfInBounds_toArray, List.set_cons_zero, List.set_cons_succ]
              refine wpAnyH_take (i := 4) (v := .pointer (some ⟨g, 0, none⟩)) rfl (by kernel_rfl) (by kernel_rfl) (by kernel_rfl) (fun _ _ _ h => h) (Or.inl ⟨by kernel_rfl, ?_⟩) (by assumption) ?_
              · intro W_ hSw
                have s0 := (blk_cell hSw 0).trans rfl
                have s1 := (blk_cell hSw 1).trans rfl
                clear hSw
                first | (go_simp; done) | (go_simp; with_reducible rfl) | (go_simp; rfl)
              try simp only [Act.put, List.getElem_toArray, List.getElem_cons_succ, List.getElem_cons_zero, List.setIfInBounds_toArray, List.set_cons_zero, List.set_cons_succ]
              refine wpAnyH_take (i := 6) (v := .pointer (some ⟨gr, 0, none⟩)) rfl (by kernel_rfl) (by kernel_rfl) (by kernel_rfl) (fun _ _ _ h => h) (Or.inl ⟨by kernel_rfl, ?_⟩) (by assumption) ?_
              · intro W_ hSw
                have s0 := (blk_cell hSw 0).trans rfl
                have s1 := (blk_cell hSw 1).trans rfl
                clear hSw
                first | (go_simp; done) | (go_simp; with_reducible rfl) | (go_simp; rfl)
              try simp only [Act.put, List.getElem_toArray, List.getElem_cons_succ, List.getElem_cons_zero, List.setIfInBounds_toArray, List.set_cons_zero, List.set_cons_succ]
              refine wpAnyH_take (i := 7) (v := .slice AL nq cL) rfl (by kernel_rfl) (by kernel_rfl) (by kernel_rfl) (fun _ _ _ h => h) (Or.inl ⟨by kernel_rfl, ?_⟩) (by assumption) ?_
              · intro W_ hSw
                have s0 := (blk_cell hSw 0).trans rfl
                have s1 := (blk_cell hSw 1).trans rfl
                clear hSw
                first | (go_simp; done) | (go_simp; with_reducible rfl) | (go_simp; rfl)
              try simp only [Act.put, List.getElem_toArray, List.getElem_cons_succ, List.getElem_cons_zero, List.setIfInBounds_toArray, List.set_cons_zero, List.set_cons_succ]
              refine wpAnyH_take (i := 8) (v := .int .i64 nq) rfl (by kernel_rfl) (by kernel_rfl) (by kernel_rfl) (fun _ _ _ h => h) (Or.inl ⟨by kernel_rfl, ?_⟩) (by assumption) ?_
              · intro W_ hSw
                have s0 := (blk_cell hSw 0).trans rfl
                have s1 := (blk_cell hSw 1).trans rfl
                clear hSw
                first | (go_simp; done) | (go_simp; with_reducible rfl) | (go_simp; rfl)
              try simp only [Act.put, List.getElem_toArray, List.getElem_cons_succ, List.getElem_cons_zero, List.setIfInBounds_toArray, List.set_cons_zero, List.set_cons_succ]
              clear hHeld
              refine next_le (i := 5) (rs := []) (by kernel_rfl) ?_
              refine cons_callG 5 (N := 84) (xs := #[.tmp 83]) (ts := #[24]) (by kernel_rfl) Try.func12 (by kernel_rfl) rfl #[.pointer (some ⟨g, 0, none⟩)] (by kernel_rfl) ?_ AllReadyH.nil
              refine (PD.out.ls.len).mono ?_
              rintro e w_ ⟨rfl, rfl⟩
              refine ⟨_, rfl, PD.out.rl.blk, ?_⟩
              rw [← HNQ.out]
              have hHeld := PD.out.rl.blk
              try simp only [Act.put, List.getElem_toArray, List.getElem_cons_succ, List.getElem_cons_zero, List.setIfInBounds_toArray, List.set_cons_zero, List.set_cons_succ]
              refine wpAnyH_take (i := 9) (v := .bool false) rfl (by kernel_rfl) (by kernel_rfl) (by kernel_rfl) (fun _ _ _ h => h) (Or.inl ⟨by kernel_rfl, ?_⟩) (by assumption) ?_
              · intro W_ hSw
                have s0 := (blk_cell hSw 0).trans rfl
                have s1 := (blk_cell hSw 1).trans rfl
                clear hSw
                first | (go_simp; done) | (go_simp; with_reducible rfl) | (go_simp; rfl)
              try simp only [Act.put, List.getElem_toArray, List.getElem_cons_succ, List.getElem_cons_zero, List.setIfInBounds_toArray, List.set_cons_zero, List.set_cons_succ]
              refine wpAnyH_take (i := 10) (v := .bool false) rfl (by kernel_rfl) (by kernel_rfl) (by kernel_rfl) (fun _ _ _ h => h) (Or.inl ⟨by kernel_rfl, ?_⟩) (by assumption) ?_
              · intro W_ hSw
                have s0 := (blk_cell hSw 0).trans rfl
                have s1 := (blk_cell hSw 1).trans rfl
                clear hSw
                first | (go_simp; done) | (go_simp; with_reducible rfl) | (go_simp; rfl)
              try simp only [Act.put, List.getElem_toArray, List.getElem_cons_succ, List.getElem_cons_zero, List.setIfInBounds_toArray, List.set_cons_zero, List.set_cons_succ]
              refine wpAnyH_take (i := 11) (v := .bool false) rfl (by kernel_rfl) (by kernel_rfl) (by kernel_rfl) (fun _ _ _ h => h) (Or.inl ⟨by kernel_rfl, ?_⟩) (by assumption) ?_
              · intro W_ hSw
                have s0 := (blk_cell hSw 0).trans rfl
                have s1 := (blk_cell hSw 1).trans rfl
                clear hSw
                first | (go_simp; done) | (go_simp; with_reducible rfl) | (go_simp; rfl)
              try simp only [Act.put, List.getElem_toArray, List.getElem_cons_succ, List.getElem_cons_zero, List.setIfInBounds_toArray, List.set_cons_zero, List.set_cons_succ]
              refine wpAnyH_take (i := 12) (v := .pointer (some ⟨g, 0, none⟩)) rfl (by kernel_rfl) (by kernel_rfl) (by kernel_rfl) (fun _ _ _ h => h) (Or.inl ⟨by kernel_rfl, ?_⟩) (by assumption) ?_
              · intro W_ hSw
                have s0 := (blk_cell hSw 0).trans rfl
                have s1 := (blk_cell hSw 1).trans rfl
                clear hSw
                first | (go_simp; done) | (go_simp; with_reducible rfl) | (go_simp; rfl)
              try simp only [Act.put, List.getElem_toArray, List.getElem_cons_succ, List.getElem_cons_zero, List.setIfInBounds_toArray, List.set_cons_zero, List.set_cons_succ]
              refine wpAnyH_take (i := 13) (v := .int .i64 jh) rfl (by kernel_rfl) (by kernel_rfl) (by kernel_rfl) (fun _ _ _ h => h) (Or.inl ⟨by kernel_rfl, ?_⟩) (by assumption) ?_
              · intro W_ hSw
                have s0 := (blk_cell hSw 0).trans rfl
                have s1 := (blk_cell hSw 1).trans rfl
                clear hSw
                first | (go_simp; done) | (go_simp; with_reducible rfl) | (go_simp; rfl)
              try simp only [Act.put, List.getElem_toArray, List.getElem_cons_succ, List.getElem_cons_zero, List.setIfInBounds_toArray, List.set_cons_zero, List.set_cons_succ]
              refine wpAnyH_take (i := 15) (v := .int .i64 jh) rfl (by kernel_rfl) (by kernel_rfl) (by kernel_rfl) (fun _ _ _ h => h) (Or.inl ⟨by kernel_rfl, ?_⟩) (by assumption) ?_
              · intro W_ hSw
                have s0 := (blk_cell hSw 0).trans rfl
                have s1 := (blk_cell hSw 1).trans rfl
                clear hSw
                first | (go_simp; done) | (go_simp; with_reducible rfl) | (go_simp; rfl)
              try simp only [Act.put, List.getElem_toArray, List.getElem_cons_succ, List.getElem_cons_zero, List.setIfInBounds_toArray, List.set_cons_zero, List.set_cons_succ]
              clear hHeld
              refine next_le (i := 14) (rs := []) (by kernel_rfl) ?_
              refine cons_callG 14 (N := 93) (xs := #[.tmp 91, .tmp 92]) (ts := #[24, 3]) (by kernel_rfl) Try.func13 (by kernel_rfl) rfl #[.pointer (some ⟨g, 0, none⟩), .int .i64 jh] (by kernel_rfl) ?_ AllReadyH.nil
              refine (PD.out.ls.held jh).mono ?_
              rintro e w_ ⟨rfl, rfl⟩
              refine ⟨_, rfl, PD.out.rl.blk, ?_⟩
              rw [HREL.out jh]
              try simp only [Act.put, List.getElem_toArray, List.getElem_cons_succ, List.getElem_cons_zero, List.setIfInBounds_toArray, List.set_cons_zero, List.set_cons_succ]
              refine next_le (i := 16) (rs := []) (by kernel_rfl) ?_
              refine cons_callG 16 (N := 95) (xs := #[.tmp 4, .tmp 94]) (ts := #[46, 3]) (by kernel_rfl) Try.func22 (by kernel_rfl) rfl #[.pointer (some ⟨gr, 0, none⟩), .int .i64 jh] (by kernel_rfl) ?_ AllReadyH.nil
              refine (rheld_calls w.heap.size gr q2 A3 _ jh _ ⟨_, _, PD.out.rl, rfl⟩ (by have := HLEN.out; have := HI200.out; omega)).mono ?_
              rintro e wH ⟨rfl, hb1⟩
              refine ⟨_, rfl, (PD.out.below hb1).rl.blk, ?_⟩
              have PE := Aside0.mk (PD.out.below hb1)
              have HRD3 := Aside0.mk (Reads.below HRD2.out hb1)
              clear hb1
              have hHeld := PE.out.rl.blk
              try simp only [Act.put, List.getElem_toArray, List.getElem_cons_succ, List.getElem_cons_zero, List.setIfInBounds_toArray, List.set_cons_zero, List.set_cons_succ]
              refine wpAnyH_take (i := 17) (v := .bool false) rfl (by kernel_rfl) (by kernel_rfl) (by kernel_rfl) (fun _ _ _ h => h) (Or.inl ⟨by kernel_rfl, ?_⟩) (by assumption) ?_
              · intro W_ hSw
                have s0 := (blk_cell hSw 0).trans rfl
                have s1 := (blk_cell hSw 1).trans rfl
                clear hSw
                first | (go_simp; done) | (go_simp; with_reducible rfl) | (go_simp; rfl)
              try simp only [Act.put, List.getElem_toArray, List.getElem_cons_succ, List.getElem_cons_zero, List.setIfInBounds_toArray, List.set_cons_zero, List.set_cons_succ]
              refine wpAnyH_take (i := 18) (v := .bool false) rfl (by kernel_rfl) (by kernel_rfl) (by kernel_rfl) (fun _ _ _ h => h) (Or.inl ⟨by kernel_rfl, ?_⟩) (by assumption) ?_
              · intro W_ hSw
                have s0 := (blk_cell hSw 0).trans rfl
                have s1 := (blk_cell hSw 1).trans rfl
                clear hSw
                first | (go_simp; done) | (go_simp; with_reducible rfl) | (go_simp; rfl)
              try simp only [Act.put, List.getElem_toArray, List.getElem_cons_succ, List.getElem_cons_zero, List.setIfInBounds_toArray, List.set_cons_zero, List.set_cons_succ]
              refine wpAnyH_take (i := 19) (v := .bool false) rfl (by kernel_rfl) (by kernel_rfl) (by kernel_rfl) (fun _ _ _ h => h) (Or.inl ⟨by kernel_rfl, ?_⟩) (by assumption) ?_
              · intro W_ hSw
                have s0 := (blk_cell hSw 0).trans rfl
                have s1 := (blk_cell hSw 1).trans rfl
                clear hSw
                first | (go_simp; done) | (go_simp; with_reducible rfl) | (go_simp; rfl)
              try simp only [Act.put, List.getElem_toArray, List.getElem_cons_succ, List.getElem_cons_zero, List.setIfInBounds_toArray, List.set_cons_zero, List.set_cons_succ]
              refine wpAnyH_take (i := 20) (v := .pointer (some ⟨g, 0, none⟩)) rfl (by kernel_rfl) (by kernel_rfl) (by kernel_rfl) (fun _ _ _ h => h) (Or.inl ⟨by kernel_rfl, ?_⟩) (by assumption) ?_
              · intro W_ hSw
                have s0 := (blk_cell hSw 0).trans rfl
                have s1 := (blk_cell hSw 1).trans rfl
                clear hSw
                first | (go_simp; done) | (go_simp; with_reducible rfl) | (go_simp; rfl)
              try simp only [Act.put, List.getElem_toArray, List.getElem_cons_succ, List.getElem_cons_zero, List.setIfInBounds_toArray, List.set_cons_zero, List.set_cons_succ]
              refine wpAnyH_take (i := 22) (v := .pointer (some ⟨gr, 0, none⟩)) rfl (by kernel_rfl) (by kernel_rfl) (by kernel_rfl) (fun _ _ _ h => h) (Or.inl ⟨by kernel_rfl, ?_⟩) (by assumption) ?_
              · intro W_ hSw
                have s0 := (blk_cell hSw 0).trans rfl
                have s1 := (blk_cell hSw 1).trans rfl
                clear hSw
                first | (go_simp; done) | (go_simp; with_reducible rfl) | (go_simp; rfl)
              try simp only [Act.put, List.getElem_toArray, List.getElem_cons_succ, List.getElem_cons_zero, List.setIfInBounds_toArray, List.set_cons_zero, List.set_cons_succ]
              refine wpAnyH_take (i := 23) (v := .slice AL nq cL) rfl (by kernel_rfl) (by kernel_rfl) (by kernel_rfl) (fun _ _ _ h => h) (Or.inl ⟨by kernel_rfl, ?_⟩) (by assumption) ?_
              · intro W_ hSw
                have s0 := (blk_cell hSw 0).trans rfl
                have s1 := (blk_cell hSw 1).trans rfl
                clear hSw
                first | (go_simp; done) | (go_simp; with_reducible rfl) | (go_simp; rfl)
              try simp only [Act.put, List.getElem_toArray, List.getElem_cons_succ, List.getElem_cons_zero, List.setIfInBounds_toArray, List.set_cons_zero, List.set_cons_succ]
              clear hHeld
              refine next_le (i := 21) (rs := []) (by kernel_rfl) ?_
              refine cons_callG 21 (N := 100) (xs := #[.tmp 99]) (ts := #[24]) (by kernel_rfl) Try.func24 (by kernel_rfl) rfl #[.pointer (some ⟨g, 0, none⟩)] (by kernel_rfl) ?_ AllReadyH.nil
              refine PE.out.ls.all.mono ?_
              rintro e wA ⟨v, rfl, hO, hB⟩
              have PF := Aside0.mk (PE.out.below hB)
              have HRD4 := Aside0.mk (Reads.below HRD3.out hB)
              obtain ⟨Av, cv, hv, hrd⟩ := hO.form
              have hcap := own_cap (by have h := hO; rw [hv] at h; exact h)
              rw [← HNQ.out] at hv
              subst hv
              refine ⟨_, rfl, PF.out.rl.blk, ?_⟩
              try simp only [Act.put, List.getElem_toArray, List.getElem_cons_succ, List.getElem_cons_zero, List.setIfInBounds_toArray, List.set_cons_zero, List.set_cons_succ]
              refine next_le (i := 24) (rs := []) (by kernel_rfl) ?_
              refine cons_callG 24 (N := 103) (xs := #[.tmp 100, .tmp 102]) (ts := #[36, 36]) (by kernel_rfl) Try.func23 (by kernel_rfl) rfl #[.slice Av nq cv, .slice AL nq cL] (by kernel_rfl) ?_ AllReadyH.nil
              refine (same_calls (w := w) PF.out.ls.out HJQ.out (by have := HLEN.out; have := HI200.out; omega) HNQ.out HNQ.out hrd HRD4.out hcap HCAPL.out).mono ?_
              clear hrd hcap hO hB
              rintro e wD ⟨rfl, hB⟩
              have PH := Aside0.mk (PF.out.below hB)
              clear hB
              refine ⟨_, rfl, PH.out.rl.blk, ?_⟩
              have hHeld := PH.out.rl.blk
              try simp only [Act.put, List.getElem_toArray, List.getElem_cons_succ, List.getElem_cons_zero, List.setIfInBounds_toArray, List.set_cons_zero, List.set_cons_succ]
              refine wpAnyH_take (i := 25) (v := .bool false) rfl (by kernel_rfl) (by kernel_rfl) (by kernel_rfl) (fun _ _ _ h => h) (Or.inl ⟨by kernel_rfl, ?_⟩) (by assumption) ?_
              · intro W_ hSw
                have s0 := (blk_cell hSw 0).trans rfl
                have s1 := (blk_cell hSw 1).trans rfl
                clear hSw
                first | (go_simp; done) | (go_simp; with_reducible rfl) | (go_simp; rfl)
              try simp only [Act.put, List.getElem_toArray, List.getElem_cons_succ, List.getElem_cons_zero, List.setIfInBounds_toArray, List.set_cons_zero, List.set_cons_succ]
              refine wpAnyH_take (i := 26) (v := .bool false) rfl (by kernel_rfl) (by kernel_rfl) (by kernel_rfl) (fun _ _ _ h => h) (Or.inl ⟨by kernel_rfl, ?_⟩) (by assumption) ?_
              · intro W_ hSw
                have s0 := (blk_cell hSw 0).trans rfl
                have s1 := (blk_cell hSw 1).trans rfl
                clear hSw
                first | (go_simp; done) | (go_simp; with_reducible rfl) | (go_simp; rfl)
              try simp only [Act.put, List.getElem_toArray, List.getElem_cons_succ, List.getElem_cons_zero, List.setIfInBounds_toArray, List.set_cons_zero, List.set_cons_succ]
              clear hHeld
              refine wpAnyH_done (by kernel_rfl) ?_ _
              go_wp2_with fail
              go_roundw
              case rel => exact ⟨i + 1, q2, S2, A3, _, vA2, by simp, HLT.out, PH.out.ls.weak (fun k hk => .inl hk), PH.out.rl, HREL.out, HJQ.out, HJA.out, HLEN.out⟩
              case measure => have := HLT.out; have := HN.out; simp [intOf] <;> omega
          · have kg0 : decide (k0 = 1) = false := decide_eq_false hk1
            have kg1 : (k0 == 1) = false := by simp [hk1]
            by_cases hk2 : k0 = 2
            · subst hk2
              clear hk0 kf0 kf1 hk1 kg0 kg1
              have RB := Rel_back HREL0.out jh q
              have BL := bk_len (k := jh) q A
              have BI := bk_in (k := jh) HJQ0.out HJA0.out
              obtain ⟨q2, hq2⟩ : ∃ q2, q2 = (if own jh A = [] then q else oth jh q ++ own jh A ++ own jh q) := ⟨_, rfl⟩
              obtain ⟨A3, hA3⟩ : ∃ A3, A3 = (if own jh A = [] then A else oth jh A) := ⟨_, rfl⟩
              obtain ⟨S2, hS2⟩ : ∃ S2, S2 = cut S jh := ⟨_, rfl⟩
              obtain ⟨nn, hnn⟩ : ∃ nn, nn = (own jh A).length := ⟨_, rfl⟩
              rw [← hq2, ← hA3, ← hS2] at RB
              rw [← hq2, ← hA3] at BL BI
              have RBX := Aside0.mk RB.1
              have HREL := Aside0.mk RB.2
              have HJQ := Aside0.mk BI.1
              have HJA := Aside0.mk BI.2
              have HLEN := Aside0.mk (show q2.length + A3.length ≤ i + 1 from by have := HLEN0.out; omega)
              have HQ2 := Aside0.mk hq2
              have HA3 := Aside0.mk hA3
              have HS2 := Aside0.mk hS2
              have HNN := Aside0.mk hnn
              clear RB BL BI hq2 hA3 hS2 hnn
              go_wp2_with (first | ((with_reducible refine gate_dst (N := 6) rfl ?_); refine box_event ?hg (N := 6) ?hd (cs := #[.int .i64 0, .int .i64 0, .slice none 0 0, .int .i64 0, .string (⟨#[]⟩ : ByteArray), .slice none 0 0]) (t := 40) ?hr ?_; (case hd => rfl); (case hg => rfl); (case hr => first | (go_simp; done) | (go_simp; rfl)); intro g6 hg_ w4 hbox hb; have G6 := Aside0.mk hg_; have BW4 := Aside0.mk hb; have B6 := Aside0.mk hbox; clear hbox hb hg_ x0 x1 x2 x3 x4 x5 x1' x2' x3' x4' x5'; obtain ⟨y0, y1, y2, y3, y4, y5, z0, z1, z2, z3, z4, z5⟩ := cells6 B6.out) | ((with_reducible refine gate_store (t := 40) (p := 6) rfl ?_); refine store_event2 (w1 := ((((((w4.setCell ⟨g6, 0, none⟩ (.int .i64 2)).setCell ⟨g6, 1, none⟩ (.int .i64 jh)).setCell ⟨g6, 2, none⟩ (.slice A2 n2 c2)).setCell ⟨g6, 3, none⟩ (.int .i64 js)).setCell ⟨g6, 4, none⟩ (.string jf)).setCell ⟨g6, 5, none⟩ (.slice A5 n5 c5))) ?hg ?hn ?hr ?_; (case hg => rfl); (case hn => rfl); (case hr => first | (go_simp; done) | (go_simp; rfl)); intro w5 hW_; have HW5 := Aside0.mk hW_; clear hW_ y0 y1 y2 y3 y4 y5 z0 z1 z2 z3 z4 z5; have BW5 := Aside0.mk (show Below wr.heap.size wr w5 from by rw [HW5.out]; exact below_set (below_set (below_set (below_set (below_set (below_set BW4.out (Nat.le_of_eq G6.out.symm)) (Nat.le_of_eq G6.out.symm)) (Nat.le_of_eq G6.out.symm)) (Nat.le_of_eq G6.out.symm)) (Nat.le_of_eq G6.out.symm)) (Nat.le_of_eq G6.out.symm)); have X6 := Aside0.mk (show w5.heap[g6]? = some (.cells #[.int .i64 2, .int .i64 jh, .slice A2 n2 c2, .int .i64 js, .string jf, .slice A5 n5 c5] 40 (0, 0)) from by rw [HW5.out]; exact put6 B6.out _ _ _ _ _ _); obtain ⟨y0, y1, y2, y3, y4, y5, -, -, -, -, -, -⟩ := cells6 X6.out; have PS5 := Aside0.mk (ps_new LS.out RLX.out BW5.out X6.out (Nat.le_of_eq G6.out.symm)); have hN1 := PS5.out.ls.back jh (by rw [HREL0.out jh]; have := own_le jh A; have := HLEN0.out; have := HI200.out; omega); rw [HREL0.out jh, RBX.out, ← HS2.out, ← HNN.out] at hN1; have NX1 := Aside0.mk hN1; clear hN1) | (go_at_call 10; (with_reducible refine NX1.out.mono ?_); rintro e w6 ⟨rfl, h2, hk2⟩; have P6 := Aside0.mk (PS5.out.s h2 hk2); clear h2 hk2 y0 y1 y2 y3 y4 y5 NX1; have hN2 := P6.out.rbk jh (by have := HLEN0.out; have := HI200.out; omega) (by have := HLEN0.out; have := HI200.out; omega); rw [← HQ2.out, ← HA3.out, ← HNN.out] at hN2; have NX2 := Aside0.mk hN2; clear hN2) | (go_at_call 19; (with_reducible refine NX2.out.mono ?_); rintro e w12 ⟨rfl, vL2, vA2, hp, hkeep⟩; have P12 := Aside0.mk hp; clear hp hkeep NX2))
              have PZ := Aside0.mk P12.out
              as_aux_lemma =>
                obtain ⟨AL, cL, hvL, hrdL⟩ := PZ.out.rl.oL.form
                have HCAPL := Aside0.mk (own_cap (by have h := PZ.out.rl.oL; rw [hvL] at h; exact h))
                obtain ⟨nq, hnq⟩ : ∃ nq, nq = q2.length := ⟨_, rfl⟩
                rw [← hnq] at hvL
                subst hvL
                have HRDL := Aside0.mk hrdL
                have HNQ := Aside0.mk hnq
                clear hrdL hnq
                refine region_drew (fun W_ => W_.heap[gr]? = some (.cells #[.slice AL nq cL, vA2] 46 (0, 0))) (by kernel_rfl) (fun d1 hd1 he1 => ?_)
                have PD := Aside0.mk (PZ.out.below hd1)
                have HRD2 := Aside0.mk (Reads.below HRDL.out hd1)
                clear hd1 he1
                refine ⟨PD.out.rl.blk, fun hHeld => ?_⟩
                refine wpAnyH_take (i := 0) (v := .int .i64 nn) rfl (by kernel_rfl) (by kernel_rfl) (by kernel_rfl) (fun _ _ _ h => h) (Or.inl ⟨by kernel_rfl, ?_⟩) (by assumption) ?_
                · intro W_ hSw
                  have s0 := (blk_cell hSw 0).trans rfl
                  have s1 := (blk_cell hSw 1).trans rfl
                  clear hSw
                  first | (go_simp; done) | (go_simp; with_reducible rfl) | (go_simp; rfl)
                try simp only [Act.put, List.getElem_toArray, List.getElem_cons_succ, List.getElem_cons_zero, List.setIfInBounds_toArray, List.set_cons_zero, List.set_cons_succ]
                refine wpAnyH_take (i := 1) (v := .int .i64 nn) rfl (by kernel_rfl) (by kernel_rfl) (by kernel_rfl) (fun _ _ _ h => h) (Or.inl ⟨by kernel_rfl, ?_⟩) (by assumption) ?_
                · intro W_ hSw
                  have s0 := (blk_cell hSw 0).trans rfl
                  have s1 := (blk_cell hSw 1).trans rfl
                  clear hSw
                  first | (go_simp; done) | (go_simp; with_reducible rfl) | (go_simp; rfl)
                try simp only [Act.put, List.getElem_toArray, List.getElem_cons_succ, List.getElem_cons_zero, List.setIfInBounds_toArray, List.set_cons_zero, List.set_cons_succ]
                refine wpAnyH_take (i := 2) (v := .bool false) rfl (by kernel_rfl) (by kernel_rfl) (by kernel_rfl) (fun _ _ _ h => h) (Or.inl ⟨by kernel_rfl, ?_⟩) (by assumption) ?_
                · intro W_ hSw
                  have s0 := (blk_cell hSw 0).trans rfl
                  have s1 := (blk_cell hSw 1).trans rfl
                  clear hSw
                  first | (go_simp; done) | (go_simp; with_reducible rfl) | (go_simp; rfl)
                try simp only [Act.put, List.getElem_toArray, List.getElem_cons_succ, List.getElem_cons_zero, List.setIfInBounds_toArray, List.set_cons_zero, List.set_cons_succ]
                refine wpAnyH_take (i := 3) (v := .bool false) rfl (by kernel_rfl) (by kernel_rfl) (by kernel_rfl) (fun _ _ _ h => h) (Or.inl ⟨by kernel_rfl, ?_⟩) (by assumption) ?_
                · intro W_ hSw
                  have s0 := (blk_cell hSw 0).trans rfl
                  have s1 := (blk_cell hSw 1).trans rfl
                  clear hSw
                  first | (go_simp; done) | (go_simp; with_reducible rfl) | (go_simp; rfl)
                try simp only [Act.put, List.getElem_toArray, List.getElem_cons_succ, List.getElem_cons_zero, List.setIfInBounds_toArray, List.set_cons_zero, List.set_cons_succ]
                refine wpAnyH_take (i := 4) (v := .pointer (some ⟨g, 0, none⟩)) rfl (by kernel_rfl) (by kernel_rfl) (by kernel_rfl) (fun _ _ _ h => h) (Or.inl ⟨by kernel_rfl, ?_⟩) (by assumption) ?_
                · intro W_ hSw
                  have s0 := (blk_cell hSw 0).trans rfl
                  have s1 := (blk_cell hSw 1).trans rfl
                  clear hSw
                  first | (go_simp; done) | (go_simp; with_reducible rfl) | (go_simp; rfl)
                try simp only [Act.put, List.getElem_toArray, List.getElem_cons_succ, List.getElem_cons_zero, List.setIfInBounds_toArray, List.set_cons_zero, List.set_cons_succ]
                refine wpAnyH_take (i := 6) (v := .pointer (some ⟨gr, 0, none⟩)) rfl (by kernel_rfl) (by kernel_rfl) (by kernel_rfl) (fun _ _ _ h => h) (Or.inl ⟨by kernel_rfl, ?_⟩) (by assumption) ?_
                · intro W_ hSw
                  have s0 := (blk_cell hSw 0).trans rfl
                  have s1 := (blk_cell hSw 1).trans rfl
                  clear hSw
                  first | (go_simp; done) | (go_simp; with_reducible rfl) | (go_simp; rfl)
                try simp only [Act.put, List.getElem_toArray, List.getElem_cons_succ, List.getElem_cons_zero, List.setIfInBounds_toArray, List.set_cons_zero, List.set_cons_succ]
                refine wpAnyH_take (i := 7) (v := .slice AL nq cL) rfl (by kernel_rfl) (by kernel_rfl) (by kernel_rfl) (fun _ _ _ h => h) (Or.inl ⟨by kernel_rfl, ?_⟩) (by assumption) ?_
                · intro W_ hSw
                  have s0 := (blk_cell hSw 0).trans rfl
                  have s1 := (blk_cell hSw 1).trans rfl
                  clear hSw
                  first | (go_simp; done) | (go_simp; with_reducible rfl) | (go_simp; rfl)
                try simp only [Act.put, List.getElem_toArray, List.getElem_cons_succ, List.getElem_cons_zero, List.setIfInBounds_toArray, List.set_cons_zero, List.set_cons_succ]
                refine wpAnyH_take (i := 8) (v := .int .i64 nq) rfl (by kernel_rfl) (by kernel_rfl) (by kernel_rfl) (fun _ _ _ h => h) (Or.inl ⟨by kernel_rfl, ?_⟩) (by assumption) ?_
                · intro W_ hSw
                  have s0 := (blk_cell hSw 0).trans rfl
                  have s1 := (blk_cell hSw 1).trans rfl
                  clear hSw
                  first | (go_simp; done) | (go_simp; with_reducible rfl) | (go_simp; rfl)
                try simp only [Act.put, List.getElem_toArray, List.getElem_cons_succ, List.getElem_cons_zero, List.setIfInBounds_toArray, List.set_cons_zero, List.set_cons_succ]
                clear hHeld
                refine next_le (i := 5) (rs := []) (by kernel_rfl) ?_
                refine cons_callG 5 (N := 84) (xs := #[.tmp 83]) (ts := #[24]) (by kernel_rfl) Try.func12 (by kernel_rfl) rfl #[.pointer (some ⟨g, 0, none⟩)] (by kernel_rfl) ?_ AllReadyH.nil
                refine (PD.out.ls.len).mono ?_
                rintro e w_ ⟨rfl, rfl⟩
                refine ⟨_, rfl, PD.out.rl.blk, ?_⟩
                rw [← HNQ.out]
                have hHeld := PD.out.rl.blk
                try simp only [Act.put, List.getElem_toArray, List.getElem_cons_succ, List.getElem_cons_zero, List.setIfInBounds_toArray, List.set_cons_zero, List.set_cons_succ]
                refine wpAnyH_take (i := 9) (v := .bool false) rfl (by kernel_rfl) (by kernel_rfl) (by kernel_rfl) (fun _ _ _ h => h) (Or.inl ⟨by kernel_rfl, ?_⟩) (by assumption) ?_
                · intro W_ hSw
                  have s0 := (blk_cell hSw 0).trans rfl
                  have s1 := (blk_cell hSw 1).trans rfl
                  clear hSw
                  first | (go_simp; done) | (go_simp; with_reducible rfl) | (go_simp; rfl)
                try simp only [Act.put, List.getElem_toArray, List.getElem_cons_succ, List.getElem_cons_zero, List.setIfInBounds_toArray, List.set_cons_zero, List.set_cons_succ]
                refine wpAnyH_take (i := 10) (v := .bool false) rfl (by kernel_rfl) (by kernel_rfl) (by kernel_rfl) (fun _ _ _ h => h) (Or.inl ⟨by kernel_rfl, ?_⟩) (by assumption) ?_
                · intro W_ hSw
                  have s0 := (blk_cell hSw 0).trans rfl
                  have s1 := (blk_cell hSw 1).trans rfl
                  clear hSw
                  first | (go_simp; done) | (go_simp; with_reducible rfl) | (go_simp; rfl)
                try simp only [Act.put, List.getElem_toArray, List.getElem_cons_succ, List.getElem_cons_zero, List.setIfInBounds_toArray, List.set_cons_zero, List.set_cons_succ]
                refine wpAnyH_take (i := 11) (v := .bool false) rfl (by kernel_rfl) (by kernel_rfl) (by kernel_rfl) (fun _ _ _ h => h) (Or.inl ⟨by kernel_rfl, ?_⟩) (by assumption) ?_
                · intro W_ hSw
                  have s0 := (blk_cell hSw 0).trans rfl
                  have s1 := (blk_cell hSw 1).trans rfl
                  clear hSw
                  first | (go_simp; done) | (go_simp; with_reducible rfl) | (go_simp; rfl)
                try simp only [Act.put, List.getElem_toArray, List.getElem_cons_succ, List.getElem_cons_zero, List.setIfInBounds_toArray, List.set_cons_zero, List.set_cons_succ]
                refine wpAnyH_take (i := 12) (v := .pointer (some ⟨g, 0, none⟩)) rfl (by kernel_rfl) (by kernel_rfl) (by kernel_rfl) (fun _ _ _ h => h) (Or.inl ⟨by kernel_rfl, ?_⟩) (by assumption) ?_
                · intro W_ hSw
                  have s0 := (blk_cell hSw 0).trans rfl
                  have s1 := (blk_cell hSw 1).trans rfl
                  clear hSw
                  first | (go_simp; done) | (go_simp; with_reducible rfl) | (go_simp; rfl)
                try simp only [Act.put, List.getElem_toArray, List.getElem_cons_succ, List.getElem_cons_zero, List.setIfInBounds_toArray, List.set_cons_zero, List.set_cons_succ]
                refine wpAnyH_take (i := 13) (v := .int .i64 jh) rfl (by kernel_rfl) (by kernel_rfl) (by kernel_rfl) (fun _ _ _ h => h) (Or.inl ⟨by kernel_rfl, ?_⟩) (by assumption) ?_
                · intro W_ hSw
                  have s0 := (blk_cell hSw 0).trans rfl
                  have s1 := (blk_cell hSw 1).trans rfl
                  clear hSw
                  first | (go_simp; done) | (go_simp; with_reducible rfl) | (go_simp; rfl)
                try simp only [Act.put, List.getElem_toArray, List.getElem_cons_succ, List.getElem_cons_zero, List.setIfInBounds_toArray, List.set_cons_zero, List.set_cons_succ]
                refine wpAnyH_take (i := 15) (v := .int .i64 jh) rfl (by kernel_rfl) (by kernel_rfl) (by kernel_rfl) (fun _ _ _ h => h) (Or.inl ⟨by kernel_rfl, ?_⟩) (by assumption) ?_
                · intro W_ hSw
                  have s0 := (blk_cell hSw 0).trans rfl
                  have s1 := (blk_cell hSw 1).trans rfl
                  clear hSw
                  first | (go_simp; done) | (go_simp; with_reducible rfl) | (go_simp; rfl)
                try simp only [Act.put, List.getElem_toArray, List.getElem_cons_succ, List.getElem_cons_zero, List.setIfInBounds_toArray, List.set_cons_zero, List.set_cons_succ]
                clear hHeld
                refine next_le (i := 14) (rs := []) (by kernel_rfl) ?_
                refine cons_callG 14 (N := 93) (xs := #[.tmp 91, .tmp 92]) (ts := #[24, 3]) (by kernel_rfl) Try.func13 (by kernel_rfl) rfl #[.pointer (some ⟨g, 0, none⟩), .int .i64 jh] (by kernel_rfl) ?_ AllReadyH.nil
                refine (PD.out.ls.held jh).mono ?_
                rintro e w_ ⟨rfl, rfl⟩
                refine ⟨_, rfl, PD.out.rl.blk, ?_⟩
                rw [HREL.out jh]
                try simp only [Act.put, List.getElem_toArray, List.getElem_cons_succ, List.getElem_cons_zero, List.setIfInBounds_toArray, List.set_cons_zero, List.set_cons_succ]
                refine next_le (i := 16) (rs := []) (by kernel_rfl) ?_
                refine cons_callG 16 (N := 95) (xs := #[.tmp 4, .tmp 94]) (ts := #[46, 3]) (by kernel_rfl) Try.func22 (by kernel_rfl) rfl #[.pointer (some ⟨gr, 0, none⟩), .int .i64 jh] (by kernel_rfl) ?_ AllReadyH.nil
                refine (rheld_calls w.heap.size gr q2 A3 _ jh _ ⟨_, _, PD.out.rl, rfl⟩ (by have := HLEN.out; have := HI200.out; omega)).mono ?_
                rintro e wH ⟨rfl, hb1⟩
                refine ⟨_, rfl, (PD.out.below hb1).rl.blk, ?_⟩
                have PE := Aside0.mk (PD.out.below hb1)
                have HRD3 := Aside0.mk (Reads.below HRD2.out hb1)
                clear hb1
                have hHeld := PE.out.rl.blk
                try simp only [Act.put, List.getElem_toArray, List.getElem_cons_succ, List.getElem_cons_zero, List.setIfInBounds_toArray, List.set_cons_zero, List.set_cons_succ]
                refine wpAnyH_take (i := 17) (v := .bool false) rfl (by kernel_rfl) (by kernel_rfl) (by kernel_rfl) (fun _ _ _ h => h) (Or.inl ⟨by kernel_rfl, ?_⟩) (by assumption) ?_
                · intro W_ hSw
                  have s0 := (blk_cell hSw 0).trans rfl
                  have s1 := (blk_cell hSw 1).trans rfl
                  clear hSw
                  first | (go_simp; done) | (go_simp; with_reducible rfl) | (go_simp; rfl)
                try simp only [Act.put, List.getElem_toArray, List.getElem_cons_succ, List.getElem_cons_zero, List.setIfInBounds_toArray, List.set_cons_zero, List.set_cons_succ]
                refine wpAnyH_take (i := 18) (v := .bool false) rfl (by kernel_rfl) (by kernel_rfl) (by kernel_rfl) (fun _ _ _ h => h) (Or.inl ⟨by kernel_rfl, ?_⟩) (by assumption) ?_
                · intro W_ hSw
                  have s0 := (blk_cell hSw 0).trans rfl
                  have s1 := (blk_cell hSw 1).trans rfl
                  clear hSw
                  first | (go_simp; done) | (go_simp; with_reducible rfl) | (go_simp; rfl)
                try simp only [Act.put, List.getElem_toArray, List.getElem_cons_succ, List.getElem_cons_zero, List.setIfInBounds_toArray, List.set_cons_zero, List.set_cons_succ]
                refine wpAnyH_take (i := 19) (v := .bool false) rfl (by kernel_rfl) (by kernel_rfl) (by kernel_rfl) (fun _ _ _ h => h) (Or.inl ⟨by kernel_rfl, ?_⟩) (by assumption) ?_
                · intro W_ hSw
                  have s0 := (blk_cell hSw 0).trans rfl
                  have s1 := (blk_cell hSw 1).trans rfl
                  clear hSw
                  first | (go_simp; done) | (go_simp; with_reducible rfl) | (go_simp; rfl)
                try simp only [Act.put, List.getElem_toArray, List.getElem_cons_succ, List.getElem_cons_zero, List.setIfInBounds_toArray, List.set_cons_zero, List.set_cons_succ]
                refine wpAnyH_take (i := 20) (v := .pointer (some ⟨g, 0, none⟩)) rfl (by kernel_rfl) (by kernel_rfl) (by kernel_rfl) (fun _ _ _ h => h) (Or.inl ⟨by kernel_rfl, ?_⟩) (by assumption) ?_
                · intro W_ hSw
                  have s0 := (blk_cell hSw 0).trans rfl
                  have s1 := (blk_cell hSw 1).trans rfl
                  clear hSw
                  first | (go_simp; done) | (go_simp; with_reducible rfl) | (go_simp; rfl)
                try simp only [Act.put, List.getElem_toArray, List.getElem_cons_succ, List.getElem_cons_zero, List.setIfInBounds_toArray, List.set_cons_zero, List.set_cons_succ]
                refine wpAnyH_take (i := 22) (v := .pointer (some ⟨gr, 0, none⟩)) rfl (by kernel_rfl) (by kernel_rfl) (by kernel_rfl) (fun _ _ _ h => h) (Or.inl ⟨by kernel_rfl, ?_⟩) (by assumption) ?_
                · intro W_ hSw
                  have s0 := (blk_cell hSw 0).trans rfl
                  have s1 := (blk_cell hSw 1).trans rfl
                  clear hSw
                  first | (go_simp; done) | (go_simp; with_reducible rfl) | (go_simp; rfl)
                try simp only [Act.put, List.getElem_toArray, List.getElem_cons_succ, List.getElem_cons_zero, List.setIfInBounds_toArray, List.set_cons_zero, List.set_cons_succ]
                refine wpAnyH_take (i := 23) (v := .slice AL nq cL) rfl (by kernel_rfl) (by kernel_rfl) (by kernel_rfl) (fun _ _ _ h => h) (Or.inl ⟨by kernel_rfl, ?_⟩) (by assumption) ?_
                · intro W_ hSw
                  have s0 := (blk_cell hSw 0).trans rfl
                  have s1 := (blk_cell hSw 1).trans rfl
                  clear hSw
                  first | (go_simp; done) | (go_simp; with_reducible rfl) | (go_simp; rfl)
                try simp only [Act.put, List.getElem_toArray, List.getElem_cons_succ, List.getElem_cons_zero, List.setIfInBounds_toArray, List.set_cons_zero, List.set_cons_succ]
                clear hHeld
                refine next_le (i := 21) (rs := []) (by kernel_rfl) ?_
                refine cons_callG 21 (N := 100) (xs := #[.tmp 99]) (ts := #[24]) (by kernel_rfl) Try.func24 (by kernel_rfl) rfl #[.pointer (some ⟨g, 0, none⟩)] (by kernel_rfl) ?_ AllReadyH.nil
                refine PE.out.ls.all.mono ?_
                rintro e wA ⟨v, rfl, hO, hB⟩
                have PF := Aside0.mk (PE.out.below hB)
                have HRD4 := Aside0.mk (Reads.below HRD3.out hB)
                obtain ⟨Av, cv, hv, hrd⟩ := hO.form
                have hcap := own_cap (by have h := hO; rw [hv] at h; exact h)
                rw [← HNQ.out] at hv
                subst hv
                refine ⟨_, rfl, PF.out.rl.blk, ?_⟩
                try simp only [Act.put, List.getElem_toArray, List.getElem_cons_succ, List.getElem_cons_zero, List.setIfInBounds_toArray, List.set_cons_zero, List.set_cons_succ]
                refine next_le (i := 24) (rs := []) (by kernel_rfl) ?_
                refine cons_callG 24 (N := 103) (xs := #[.tmp 100, .tmp 102]) (ts := #[36, 36]) (by kernel_rfl) Try.func23 (by kernel_rfl) rfl #[.slice Av nq cv, .slice AL nq cL] (by kernel_rfl) ?_ AllReadyH.nil
                refine (same_calls (w := w) PF.out.ls.out HJQ.out (by have := HLEN.out; have := HI200.out; omega) HNQ.out HNQ.out hrd HRD4.out hcap HCAPL.out).mono ?_
                clear hrd hcap hO hB
                rintro e wD ⟨rfl, hB⟩
                have PH := Aside0.mk (PF.out.below hB)
                clear hB
                refine ⟨_, rfl, PH.out.rl.blk, ?_⟩
                have hHeld := PH.out.rl.blk
                try simp only [Act.put, List.getElem_toArray, List.getElem_cons_succ, List.getElem_cons_zero, List.setIfInBounds_toArray, List.set_cons_zero, List.set_cons_succ]
                refine wpAnyH_take (i := 25) (v := .bool false) rfl (by kernel_rfl) (by kernel_rfl) (by kernel_rfl) (fun _ _ _ h => h) (Or.inl ⟨by kernel_rfl, ?_⟩) (by assumption) ?_
                · intro W_ hSw
                  have s0 := (blk_cell hSw 0).trans rfl
                  have s1 := (blk_cell hSw 1).trans rfl
                  clear hSw
                  first | (go_simp; done) | (go_simp; with_reducible rfl) | (go_simp; rfl)
                try simp only [Act.put, List.getElem_toArray, List.getElem_cons_succ, List.getElem_cons_zero, List.setIfInBounds_toArray, List.set_cons_zero, List.set_cons_succ]
                refine wpAnyH_take (i := 26) (v := .bool false) rfl (by kernel_rfl) (by kernel_rfl) (by kernel_rfl) (fun _ _ _ h => h) (Or.inl ⟨by kernel_rfl, ?_⟩) (by assumption) ?_
                · intro W_ hSw
                  have s0 := (blk_cell hSw 0).trans rfl
                  have s1 := (blk_cell hSw 1).trans rfl
                  clear hSw
                  first | (go_simp; done) | (go_simp; with_reducible rfl) | (go_simp; rfl)
                try simp only [Act.put, List.getElem_toArray, List.getElem_cons_succ, List.getElem_cons_zero, List.setIfInBounds_toArray, List.set_cons_zero, List.set_cons_succ]
                clear hHeld
                refine wpAnyH_done (by kernel_rfl) ?_ _
                go_wp2_with fail
                go_roundw
                case rel => exact ⟨i + 1, q2, S2, A3, _, vA2, by simp, HLT.out, PH.out.ls.weak (fun k hk => .inl hk), PH.out.rl, HREL.out, HJQ.out, HJA.out, HLEN.out⟩
                case measure => have := HLT.out; have := HN.out; simp [intOf] <;> omega
            · have kh0 : decide (k0 = 2) = false := decide_eq_false hk2
              have kh1 : (k0 == 2) = false := by simp [hk2]
              clear hk0 hk1 hk2
              have DL1 := own_oth jh q
              have DL2 := own_oth jh A
              obtain ⟨q2, hq2⟩ : ∃ q2, q2 = oth jh q := ⟨_, rfl⟩
              obtain ⟨A3, hA3⟩ : ∃ A3, A3 = oth jh A := ⟨_, rfl⟩
              obtain ⟨S2, hS2⟩ : ∃ S2, S2 = cut S jh := ⟨_, rfl⟩
              obtain ⟨zz, hzz⟩ : ∃ zz : Int, zz = ((own jh q).length : Int) + ((own jh A).length : Int) := ⟨_, rfl⟩
              have HREL := Aside0.mk (show Rel S2 A3 from by rw [hS2, hA3]; exact Rel_cut HREL0.out jh)
              have HJQ := Aside0.mk (show JIn w q2 from by rw [hq2]; exact JIn_oth HJQ0.out jh)
              have HJA := Aside0.mk (show JIn w A3 from by rw [hA3]; exact JIn_oth HJA0.out jh)
              have HLEN := Aside0.mk (show q2.length + A3.length ≤ i + 1 from by rw [hq2, hA3]; have := HLEN0.out; omega)
              have HQ2 := Aside0.mk hq2
              have HA3 := Aside0.mk hA3
              have HS2 := Aside0.mk hS2
              have HZZ := Aside0.mk hzz
              clear DL1 DL2 hq2 hA3 hS2 hzz
              go_wp2_with (first | ((with_reducible refine gate_dst (N := 6) rfl ?_); refine box_event ?hg (N := 6) ?hd (cs := #[.int .i64 0, .int .i64 0, .slice none 0 0, .int .i64 0, .string (⟨#[]⟩ : ByteArray), .slice none 0 0]) (t := 40) ?hr ?_; (case hd => rfl); (case hg => rfl); (case hr => first | (go_simp; done) | (go_simp; rfl)); intro g6 hg_ w4 hbox hb; have G6 := Aside0.mk hg_; have BW4 := Aside0.mk hb; have B6 := Aside0.mk hbox; clear hbox hb hg_ x0 x1 x2 x3 x4 x5 x1' x2' x3' x4' x5'; obtain ⟨y0, y1, y2, y3, y4, y5, z0, z1, z2, z3, z4, z5⟩ := cells6 B6.out) | ((with_reducible refine gate_store (t := 40) (p := 6) rfl ?_); refine store_event2 (w1 := ((((((w4.setCell ⟨g6, 0, none⟩ (.int .i64 k0)).setCell ⟨g6, 1, none⟩ (.int .i64 jh)).setCell ⟨g6, 2, none⟩ (.slice A2 n2 c2)).setCell ⟨g6, 3, none⟩ (.int .i64 js)).setCell ⟨g6, 4, none⟩ (.string jf)).setCell ⟨g6, 5, none⟩ (.slice A5 n5 c5))) ?hg ?hn ?hr ?_; (case hg => rfl); (case hn => rfl); (case hr => first | (go_simp; done) | (go_simp; rfl)); intro w5 hW_; have HW5 := Aside0.mk hW_; clear hW_ y0 y1 y2 y3 y4 y5 z0 z1 z2 z3 z4 z5; have BW5 := Aside0.mk (show Below wr.heap.size wr w5 from by rw [HW5.out]; exact below_set (below_set (below_set (below_set (below_set (below_set BW4.out (Nat.le_of_eq G6.out.symm)) (Nat.le_of_eq G6.out.symm)) (Nat.le_of_eq G6.out.symm)) (Nat.le_of_eq G6.out.symm)) (Nat.le_of_eq G6.out.symm)) (Nat.le_of_eq G6.out.symm)); have X6 := Aside0.mk (show w5.heap[g6]? = some (.cells #[.int .i64 k0, .int .i64 jh, .slice A2 n2 c2, .int .i64 js, .string jf, .slice A5 n5 c5] 40 (0, 0)) from by rw [HW5.out]; exact put6 B6.out _ _ _ _ _ _); obtain ⟨y0, y1, y2, y3, y4, y5, -, -, -, -, -, -⟩ := cells6 X6.out; have PS5 := Aside0.mk (ps_new LS.out RLX.out BW5.out X6.out (Nat.le_of_eq G6.out.symm)); have hN1 := PS5.out.ls.drop jh (by rw [HREL0.out jh]; have := own_le jh A; have := HLEN0.out; have := HI200.out; omega); rw [HREL0.out jh, Int.add_comm, ← HZZ.out, ← HQ2.out, ← HS2.out] at hN1; have NX1 := Aside0.mk hN1; clear hN1) | (go_at_call 20; (with_reducible refine NX1.out.mono ?_); rintro e w6 ⟨rfl, h2, hk2⟩; have P6 := Aside0.mk (PS5.out.s h2 hk2); clear h2 hk2 y0 y1 y2 y3 y4 y5 NX1; have hN2 := P6.out.rdp jh (by have := HLEN0.out; have := HI200.out; omega) (by have := HLEN0.out; have := HI200.out; omega); rw [← HZZ.out, ← HQ2.out, ← HA3.out] at hN2; have NX2 := Aside0.mk hN2; clear hN2) | (go_at_call 21; (with_reducible refine NX2.out.mono ?_); rintro e w12 ⟨rfl, vL2, vA2, hp, hkeep⟩; have P12 := Aside0.mk hp; clear hp hkeep NX2))
              have PZ := Aside0.mk P12.out
              as_aux_lemma =>
                obtain ⟨AL, cL, hvL, hrdL⟩ := PZ.out.rl.oL.form
                have HCAPL := Aside0.mk (own_cap (by have h := PZ.out.rl.oL; rw [hvL] at h; exact h))
                obtain ⟨nq, hnq⟩ : ∃ nq, nq = q2.length := ⟨_, rfl⟩
                rw [← hnq] at hvL
                subst hvL
                have HRDL := Aside0.mk hrdL
                have HNQ := Aside0.mk hnq
                clear hrdL hnq
                refine region_drew (fun W_ => W_.heap[gr]? = some (.cells #[.slice AL nq cL, vA2] 46 (0, 0))) (by kernel_rfl) (fun d1 hd1 he1 => ?_)
                have PD := Aside0.mk (PZ.out.below hd1)
                have HRD2 := Aside0.mk (Reads.below HRDL.out hd1)
                clear hd1 he1
                refine ⟨PD.out.rl.blk, fun hHeld => ?_⟩
                refine wpAnyH_take (i := 0) (v := .int .i64 zz) rfl (by kernel_rfl) (by kernel_rfl) (by kernel_rfl) (fun _ _ _ h => h) (Or.inl ⟨by kernel_rfl, ?_⟩) (by assumption) ?_
                · intro W_ hSw
                  have s0 := (blk_cell hSw 0).trans rfl
                  have s1 := (blk_cell hSw 1).trans rfl
                  clear hSw
                  first | (go_simp; done) | (go_simp; with_reducible rfl) | (go_simp; rfl)
                try simp only [Act.put, List.getElem_toArray, List.getElem_cons_succ, List.getElem_cons_zero, List.setIfInBounds_toArray, List.set_cons_zero, List.set_cons_succ]
                refine wpAnyH_take (i := 1) (v := .int .i64 zz) rfl (by kernel_rfl) (by kernel_rfl) (by kernel_rfl) (fun _ _ _ h => h) (Or.inl ⟨by kernel_rfl, ?_⟩) (by assumption) ?_
                · intro W_ hSw
                  have s0 := (blk_cell hSw 0).trans rfl
                  have s1 := (blk_cell hSw 1).trans rfl
                  clear hSw
                  first | (go_simp; done) | (go_simp; with_reducible rfl) | (go_simp; rfl)
                try simp only [Act.put, List.getElem_toArray, List.getElem_cons_succ, List.getElem_cons_zero, List.setIfInBounds_toArray, List.set_cons_zero, List.set_cons_succ]
                refine wpAnyH_take (i := 2) (v := .bool false) rfl (by kernel_rfl) (by kernel_rfl) (by kernel_rfl) (fun _ _ _ h => h) (Or.inl ⟨by kernel_rfl, ?_⟩) (by assumption) ?_
                · intro W_ hSw
                  have s0 := (blk_cell hSw 0).trans rfl
                  have s1 := (blk_cell hSw 1).trans rfl
                  clear hSw
                  first | (go_simp; done) | (go_simp; with_reducible rfl) | (go_simp; rfl)
                try simp only [Act.put, List.getElem_toArray, List.getElem_cons_succ, List.getElem_cons_zero, List.setIfInBounds_toArray, List.set_cons_zero, List.set_cons_succ]
                refine wpAnyH_take (i := 3) (v := .bool false) rfl (by kernel_rfl) (by kernel_rfl) (by kernel_rfl) (fun _ _ _ h => h) (Or.inl ⟨by kernel_rfl, ?_⟩) (by assumption) ?_
                · intro W_ hSw
                  have s0 := (blk_cell hSw 0).trans rfl
                  have s1 := (blk_cell hSw 1).trans rfl
                  clear hSw
                  first | (go_simp; done) | (go_simp; with_reducible rfl) | (go_simp; rfl)
                try simp only [Act.put, List.getElem_toArray, List.getElem_cons_succ, List.getElem_cons_zero, List.setIfInBounds_toArray, List.set_cons_zero, List.set_cons_succ]
                refine wpAnyH_take (i := 4) (v := .pointer (some ⟨g, 0, none⟩)) rfl (by kernel_rfl) (by kernel_rfl) (by kernel_rfl) (fun _ _ _ h => h) (Or.inl ⟨by kernel_rfl, ?_⟩) (by assumption) ?_
                · intro W_ hSw
                  have s0 := (blk_cell hSw 0).trans rfl
                  have s1 := (blk_cell hSw 1).trans rfl
                  clear hSw
                  first | (go_simp; done) | (go_simp; with_reducible rfl) | (go_simp; rfl)
                try simp only [Act.put, List.getElem_toArray, List.getElem_cons_succ, List.getElem_cons_zero, List.setIfInBounds_toArray, List.set_cons_zero, List.set_cons_succ]
                refine wpAnyH_take (i := 6) (v := .pointer (some ⟨gr, 0, none⟩)) rfl (by kernel_rfl) (by kernel_rfl) (by kernel_rfl) (fun _ _ _ h => h) (Or.inl ⟨by kernel_rfl, ?_⟩) (by assumption) ?_
                · intro W_ hSw
                  have s0 := (blk_cell hSw 0).trans rfl
                  have s1 := (blk_cell hSw 1).trans rfl
                  clear hSw
                  first | (go_simp; done) | (go_simp; with_reducible rfl) | (go_simp; rfl)
                try simp only [Act.put, List.getElem_toArray, List.getElem_cons_succ, List.getElem_cons_zero, List.setIfInBounds_toArray, List.set_cons_zero, List.set_cons_succ]
                refine wpAnyH_take (i := 7) (v := .slice AL nq cL) rfl (by kernel_rfl) (by kernel_rfl) (by kernel_rfl) (fun _ _ _ h => h) (Or.inl ⟨by kernel_rfl, ?_⟩) (by assumption) ?_
                · intro W_ hSw
                  have s0 := (blk_cell hSw 0).trans rfl
                  have s1 := (blk_cell hSw 1).trans rfl
                  clear hSw
                  first | (go_simp; done) | (go_simp; with_reducible rfl) | (go_simp; rfl)
                try simp only [Act.put, List.getElem_toArray, List.getElem_cons_succ, List.getElem_cons_zero, List.setIfInBounds_toArray, List.set_cons_zero, List.set_cons_succ]
                refine wpAnyH_take (i := 8) (v := .int .i64 nq) rfl (by kernel_rfl) (by kernel_rfl) (by kernel_rfl) (fun _ _ _ h => h) (Or.inl ⟨by kernel_rfl, ?_⟩) (by assumption) ?_
                · intro W_ hSw
                  have s0 := (blk_cell hSw 0).trans rfl
                  have s1 := (blk_cell hSw 1).trans rfl
                  clear hSw
                  first | (go_simp; done) | (go_simp; with_reducible rfl) | (go_simp; rfl)
                try simp only [Act.put, List.getElem_toArray, List.getElem_cons_succ, List.getElem_cons_zero, List.setIfInBounds_toArray, List.set_cons_zero, List.set_cons_succ]
                clear hHeld
                refine next_le (i := 5) (rs := []) (by kernel_rfl) ?_
                refine cons_callG 5 (N := 84) (xs := #[.tmp 83]) (ts := #[24]) (by kernel_rfl) Try.func12 (by kernel_rfl) rfl #[.pointer (some ⟨g, 0, none⟩)] (by kernel_rfl) ?_ AllReadyH.nil
                refine (PD.out.ls.len).mono ?_
                rintro e w_ ⟨rfl, rfl⟩
                refine ⟨_, rfl, PD.out.rl.blk, ?_⟩
                rw [← HNQ.out]
                have hHeld := PD.out.rl.blk
                try simp only [Act.put, List.getElem_toArray, List.getElem_cons_succ, List.getElem_cons_zero, List.setIfInBounds_toArray, List.set_cons_zero, List.set_cons_succ]
                refine wpAnyH_take (i := 9) (v := .bool false) rfl (by kernel_rfl) (by kernel_rfl) (by kernel_rfl) (fun _ _ _ h => h) (Or.inl ⟨by kernel_rfl, ?_⟩) (by assumption) ?_
                · intro W_ hSw
                  have s0 := (blk_cell hSw 0).trans rfl
                  have s1 := (blk_cell hSw 1).trans rfl
                  clear hSw
                  first | (go_simp; done) | (go_simp; with_reducible rfl) | (go_simp; rfl)
                try simp only [Act.put, List.getElem_toArray, List.getElem_cons_succ, List.getElem_cons_zero, List.setIfInBounds_toArray, List.set_cons_zero, List.set_cons_succ]
                refine wpAnyH_take (i := 10) (v := .bool false) rfl (by kernel_rfl) (by kernel_rfl) (by kernel_rfl) (fun _ _ _ h => h) (Or.inl ⟨by kernel_rfl, ?_⟩) (by assumption) ?_
                · intro W_ hSw
                  have s0 := (blk_cell hSw 0).trans rfl
                  have s1 := (blk_cell hSw 1).trans rfl
                  clear hSw
                  first | (go_simp; done) | (go_simp; with_reducible rfl) | (go_simp; rfl)
                try simp only [Act.put, List.getElem_toArray, List.getElem_cons_succ, List.getElem_cons_zero, List.setIfInBounds_toArray, List.set_cons_zero, List.set_cons_succ]
                refine wpAnyH_take (i := 11) (v := .bool false) rfl (by kernel_rfl) (by kernel_rfl) (by kernel_rfl) (fun _ _ _ h => h) (Or.inl ⟨by kernel_rfl, ?_⟩) (by assumption) ?_
                · intro W_ hSw
                  have s0 := (blk_cell hSw 0).trans rfl
                  have s1 := (blk_cell hSw 1).trans rfl
                  clear hSw
                  first | (go_simp; done) | (go_simp; with_reducible rfl) | (go_simp; rfl)
                try simp only [Act.put, List.getElem_toArray, List.getElem_cons_succ, List.getElem_cons_zero, List.setIfInBounds_toArray, List.set_cons_zero, List.set_cons_succ]
                refine wpAnyH_take (i := 12) (v := .pointer (some ⟨g, 0, none⟩)) rfl (by kernel_rfl) (by kernel_rfl) (by kernel_rfl) (fun _ _ _ h => h) (Or.inl ⟨by kernel_rfl, ?_⟩) (by assumption) ?_
                · intro W_ hSw
                  have s0 := (blk_cell hSw 0).trans rfl
                  have s1 := (blk_cell hSw 1).trans rfl
                  clear hSw
                  first | (go_simp; done) | (go_simp; with_reducible rfl) | (go_simp; rfl)
                try simp only [Act.put, List.getElem_toArray, List.getElem_cons_succ, List.getElem_cons_zero, List.setIfInBounds_toArray, List.set_cons_zero, List.set_cons_succ]
                refine wpAnyH_take (i := 13) (v := .int .i64 jh) rfl (by kernel_rfl) (by kernel_rfl) (by kernel_rfl) (fun _ _ _ h => h) (Or.inl ⟨by kernel_rfl, ?_⟩) (by assumption) ?_
                · intro W_ hSw
                  have s0 := (blk_cell hSw 0).trans rfl
                  have s1 := (blk_cell hSw 1).trans rfl
                  clear hSw
                  first | (go_simp; done) | (go_simp; with_reducible rfl) | (go_simp; rfl)
                try simp only [Act.put, List.getElem_toArray, List.getElem_cons_succ, List.getElem_cons_zero, List.setIfInBounds_toArray, List.set_cons_zero, List.set_cons_succ]
                refine wpAnyH_take (i := 15) (v := .int .i64 jh) rfl (by kernel_rfl) (by kernel_rfl) (by kernel_rfl) (fun _ _ _ h => h) (Or.inl ⟨by kernel_rfl, ?_⟩) (by assumption) ?_
                · intro W_ hSw
                  have s0 := (blk_cell hSw 0).trans rfl
                  have s1 := (blk_cell hSw 1).trans rfl
                  clear hSw
                  first | (go_simp; done) | (go_simp; with_reducible rfl) | (go_simp; rfl)
                try simp only [Act.put, List.getElem_toArray, List.getElem_cons_succ, List.getElem_cons_zero, List.setIfInBounds_toArray, List.set_cons_zero, List.set_cons_succ]
                clear hHeld
                refine next_le (i := 14) (rs := []) (by kernel_rfl) ?_
                refine cons_callG 14 (N := 93) (xs := #[.tmp 91, .tmp 92]) (ts := #[24, 3]) (by kernel_rfl) Try.func13 (by kernel_rfl) rfl #[.pointer (some ⟨g, 0, none⟩), .int .i64 jh] (by kernel_rfl) ?_ AllReadyH.nil
                refine (PD.out.ls.held jh).mono ?_
                rintro e w_ ⟨rfl, rfl⟩
                refine ⟨_, rfl, PD.out.rl.blk, ?_⟩
                rw [HREL.out jh]
                try simp only [Act.put, List.getElem_toArray, List.getElem_cons_succ, List.getElem_cons_zero, List.setIfInBounds_toArray, List.set_cons_zero, List.set_cons_succ]
                refine next_le (i := 16) (rs := []) (by kernel_rfl) ?_
                refine cons_callG 16 (N := 95) (xs := #[.tmp 4, .tmp 94]) (ts := #[46, 3]) (by kernel_rfl) Try.func22 (by kernel_rfl) rfl #[.pointer (some ⟨gr, 0, none⟩), .int .i64 jh] (by kernel_rfl) ?_ AllReadyH.nil
                refine (rheld_calls w.heap.size gr q2 A3 _ jh _ ⟨_, _, PD.out.rl, rfl⟩ (by have := HLEN.out; have := HI200.out; omega)).mono ?_
                rintro e wH ⟨rfl, hb1⟩
                refine ⟨_, rfl, (PD.out.below hb1).rl.blk, ?_⟩
                have PE := Aside0.mk (PD.out.below hb1)
                have HRD3 := Aside0.mk (Reads.below HRD2.out hb1)
                clear hb1
                have hHeld := PE.out.rl.blk
                try simp only [Act.put, List.getElem_toArray, List.getElem_cons_succ, List.getElem_cons_zero, List.setIfInBounds_toArray, List.set_cons_zero, List.set_cons_succ]
                refine wpAnyH_take (i := 17) (v := .bool false) rfl (by kernel_rfl) (by kernel_rfl) (by kernel_rfl) (fun _ _ _ h => h) (Or.inl ⟨by kernel_rfl, ?_⟩) (by assumption) ?_
                · intro W_ hSw
                  have s0 := (blk_cell hSw 0).trans rfl
                  have s1 := (blk_cell hSw 1).trans rfl
                  clear hSw
                  first | (go_simp; done) | (go_simp; with_reducible rfl) | (go_simp; rfl)
                try simp only [Act.put, List.getElem_toArray, List.getElem_cons_succ, List.getElem_cons_zero, List.setIfInBounds_toArray, List.set_cons_zero, List.set_cons_succ]
                refine wpAnyH_take (i := 18) (v := .bool false) rfl (by kernel_rfl) (by kernel_rfl) (by kernel_rfl) (fun _ _ _ h => h) (Or.inl ⟨by kernel_rfl, ?_⟩) (by assumption) ?_
                · intro W_ hSw
                  have s0 := (blk_cell hSw 0).trans rfl
                  have s1 := (blk_cell hSw 1).trans rfl
                  clear hSw
                  first | (go_simp; done) | (go_simp; with_reducible rfl) | (go_simp; rfl)
                try simp only [Act.put, List.getElem_toArray, List.getElem_cons_succ, List.getElem_cons_zero, List.setIfInBounds_toArray, List.set_cons_zero, List.set_cons_succ]
                refine wpAnyH_take (i := 19) (v := .bool false) rfl (by kernel_rfl) (by kernel_rfl) (by kernel_rfl) (fun _ _ _ h => h) (Or.inl ⟨by kernel_rfl, ?_⟩) (by assumption) ?_
                · intro W_ hSw
                  have s0 := (blk_cell hSw 0).trans rfl
                  have s1 := (blk_cell hSw 1).trans rfl
                  clear hSw
                  first | (go_simp; done) | (go_simp; with_reducible rfl) | (go_simp; rfl)
                try simp only [Act.put, List.getElem_toArray, List.getElem_cons_succ, List.getElem_cons_zero, List.setIfInBounds_toArray, List.set_cons_zero, List.set_cons_succ]
                refine wpAnyH_take (i := 20) (v := .pointer (some ⟨g, 0, none⟩)) rfl (by kernel_rfl) (by kernel_rfl) (by kernel_rfl) (fun _ _ _ h => h) (Or.inl ⟨by kernel_rfl, ?_⟩) (by assumption) ?_
                · intro W_ hSw
                  have s0 := (blk_cell hSw 0).trans rfl
                  have s1 := (blk_cell hSw 1).trans rfl
                  clear hSw
                  first | (go_simp; done) | (go_simp; with_reducible rfl) | (go_simp; rfl)
                try simp only [Act.put, List.getElem_toArray, List.getElem_cons_succ, List.getElem_cons_zero, List.setIfInBounds_toArray, List.set_cons_zero, List.set_cons_succ]
                refine wpAnyH_take (i := 22) (v := .pointer (some ⟨gr, 0, none⟩)) rfl (by kernel_rfl) (by kernel_rfl) (by kernel_rfl) (fun _ _ _ h => h) (Or.inl ⟨by kernel_rfl, ?_⟩) (by assumption) ?_
                · intro W_ hSw
                  have s0 := (blk_cell hSw 0).trans rfl
                  have s1 := (blk_cell hSw 1).trans rfl
                  clear hSw
                  first | (go_simp; done) | (go_simp; with_reducible rfl) | (go_simp; rfl)
                try simp only [Act.put, List.getElem_toArray, List.getElem_cons_succ, List.getElem_cons_zero, List.setIfInBounds_toArray, List.set_cons_zero, List.set_cons_succ]
                refine wpAnyH_take (i := 23) (v := .slice AL nq cL) rfl (by kernel_rfl) (by kernel_rfl) (by kernel_rfl) (fun _ _ _ h => h) (Or.inl ⟨by kernel_rfl, ?_⟩) (by assumption) ?_
                · intro W_ hSw
                  have s0 := (blk_cell hSw 0).trans rfl
                  have s1 := (blk_cell hSw 1).trans rfl
                  clear hSw
                  first | (go_simp; done) | (go_simp; with_reducible rfl) | (go_simp; rfl)
                try simp only [Act.put, List.getElem_toArray, List.getElem_cons_succ, List.getElem_cons_zero, List.setIfInBounds_toArray, List.set_cons_zero, List.set_cons_succ]
                clear hHeld
                refine next_le (i := 21) (rs := []) (by kernel_rfl) ?_
                refine cons_callG 21 (N := 100) (xs := #[.tmp 99]) (ts := #[24]) (by kernel_rfl) Try.func24 (by kernel_rfl) rfl #[.pointer (some ⟨g, 0, none⟩)] (by kernel_rfl) ?_ AllReadyH.nil
                refine PE.out.ls.all.mono ?_
                rintro e wA ⟨v, rfl, hO, hB⟩
                have PF := Aside0.mk (PE.out.below hB)
                have HRD4 := Aside0.mk (Reads.below HRD3.out hB)
                obtain ⟨Av, cv, hv, hrd⟩ := hO.form
                have hcap := own_cap (by have h := hO; rw [hv] at h; exact h)
                rw [← HNQ.out] at hv
                subst hv
                refine ⟨_, rfl, PF.out.rl.blk, ?_⟩
                try simp only [Act.put, List.getElem_toArray, List.getElem_cons_succ, List.getElem_cons_zero, List.setIfInBounds_toArray, List.set_cons_zero, List.set_cons_succ]
                refine next_le (i := 24) (rs := []) (by kernel_rfl) ?_
                refine cons_callG 24 (N := 103) (xs := #[.tmp 100, .tmp 102]) (ts := #[36, 36]) (by kernel_rfl) Try.func23 (by kernel_rfl) rfl #[.slice Av nq cv, .slice AL nq cL] (by kernel_rfl) ?_ AllReadyH.nil
                refine (same_calls (w := w) PF.out.ls.out HJQ.out (by have := HLEN.out; have := HI200.out; omega) HNQ.out HNQ.out hrd HRD4.out hcap HCAPL.out).mono ?_
                clear hrd hcap hO hB
                rintro e wD ⟨rfl, hB⟩
                have PH := Aside0.mk (PF.out.below hB)
                clear hB
                refine ⟨_, rfl, PH.out.rl.blk, ?_⟩
                have hHeld := PH.out.rl.blk
                try simp only [Act.put, List.getElem_toArray, List.getElem_cons_succ, List.getElem_cons_zero, List.setIfInBounds_toArray, List.set_cons_zero, List.set_cons_succ]
                refine wpAnyH_take (i := 25) (v := .bool false) rfl (by kernel_rfl) (by kernel_rfl) (by kernel_rfl) (fun _ _ _ h => h) (Or.inl ⟨by kernel_rfl, ?_⟩) (by assumption) ?_
                · intro W_ hSw
                  have s0 := (blk_cell hSw 0).trans rfl
                  have s1 := (blk_cell hSw 1).trans rfl
                  clear hSw
                  first | (go_simp; done) | (go_simp; with_reducible rfl) | (go_simp; rfl)
                try simp only [Act.put, List.getElem_toArray, List.getElem_cons_succ, List.getElem_cons_zero, List.setIfInBounds_toArray, List.set_cons_zero, List.set_cons_succ]
                refine wpAnyH_take (i := 26) (v := .bool false) rfl (by kernel_rfl) (by kernel_rfl) (by kernel_rfl) (fun _ _ _ h => h) (Or.inl ⟨by kernel_rfl, ?_⟩) (by assumption) ?_
                · intro W_ hSw
                  have s0 := (blk_cell hSw 0).trans rfl
                  have s1 := (blk_cell hSw 1).trans rfl
                  clear hSw
                  first | (go_simp; done) | (go_simp; with_reducible rfl) | (go_simp; rfl)
                try simp only [Act.put, List.getElem_toArray, List.getElem_cons_succ, List.getElem_cons_zero, List.setIfInBounds_toArray, List.set_cons_zero, List.set_cons_succ]
                clear hHeld
                refine wpAnyH_done (by kernel_rfl) ?_ _
                go_wp2_with fail
                go_roundw
                case rel => exact ⟨i + 1, q2, S2, A3, _, vA2, by simp, HLT.out, PH.out.ls.weak (fun k hk => .inl hk), PH.out.rl, HREL.out, HJQ.out, HJA.out, HLEN.out⟩
                case measure => have := HLT.out; have := HN.out; simp [intOf] <;> omega
      · have e1 : ¬ ((i : Int) < (n : Int)) := by omega
        have e3 := eq_false e1
        have BF := Aside0.mk LS.out.out
        clear hlt hi e1
        go_wp2_with (first | (go_at_call 7; (with_reducible refine (alive_calls _).mono ?_); rintro e wZ ⟨rfl, hB⟩; have HZ := Aside0.mk (below_tr BF.out hB); clear hB))
        go_ret
        exact ⟨rfl, HZ.out⟩
end Go.Proofs.Ytnegagkjhnpgmaa.Sc
namespace Go.Proofs.Ytnegagkjhnpgmaa.X
set_option linter.unusedVariables false
open Go.RowKit Go.Proofs.YtnegagkjhnpgmaaW.PrintWords Go.Proofs.YtnegagkjhnpgmaaW.PrintMore Go.Proofs.YtnegagkjhnpgmaaW.PrintLast Go.Proofs.Ytnegagkjhnpgmaa.Sc
theorem mewslaw44_SchedPlays.calls (k : Nat) (A0 : Option Addr) (c0 : Nat) (l0 : List S40) (r : Bool) (w : World) (hr0 : Kd.C k40 w A0 l0.length l0) (hc0 : l0.length ≤ c0) (hr_ : Aside0 (r = true)) (h : mewslaw44_SchedPlays.f k l0 = some r) :
    Calls Try.prog 5 #[.slice A0 l0.length c0] w fun e w' => e = .returned (.bool r) ∧ Below w.heap.size w w' := by
  have hbd : l0.length ≤ 1600000000000 := by
    unfold mewslaw44_SchedPlays.f at h
    by_cases b : l0.length ≤ 1600000000000
    · exact b
    · rw [if_neg b] at h; cases h
  rw [hr_.out]
  exact plays_calls A0 c0 l0.length l0 w rfl hr0 hc0 hbd
end Go.Proofs.Ytnegagkjhnpgmaa.X
