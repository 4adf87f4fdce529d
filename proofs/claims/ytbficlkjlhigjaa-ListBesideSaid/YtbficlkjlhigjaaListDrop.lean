/- The contract of list.Drop, walked by hand: two boxes that a closure captures, a loop over a deque. -/
import Derived.Test.YtbficlkjlhigjaaListMath
import Derived.Test.YtbficlkjlhigjaaDqSt
import Derived.Test.YtbficlkjlhigjaaY
import Derived.Test.YtbficlkjlhigjaaX1
import Derived.Deep.LoopGhost
namespace Go.Proofs.Ytbficlkjlhigjaa.Dq
open Go.RowKit Go.Proofs.YtbficlkjlhigjaaW.PrintWords Go.Proofs.YtbficlkjlhigjaaW.PrintMore Go.Proofs.YtbficlkjlhigjaaW.PrintLast Go.Proofs.Ytbficlkjlhigjaa.X
set_option linter.unusedVariables false
set_option linter.unusedSimpArgs false
attribute [local go_sem ↓] Go.wp_at_zero Go.wp_at_succ
theorem cell1 {w : World} {g : Nat} {t : TypeId} {a : Value} (h : w.heap[g]? = some (.cells #[a] t (0, 0))) : w.cell? ⟨g, 0, none⟩ = some a := (blk_cell h 0).trans rfl
theorem size_calls (c : Int) (w : World) (hc : -9223372036854775808 ≤ c ∧ c ≤ 9223372036854775807) :
    Calls Try.prog 26 #[.int .i64 c] w fun e w' => e = .returned (.int .u64 (c.natAbs : Nat)) ∧ Drawn0 w w' := by
  refine list_size.calls c _ w ?_
  unfold list_size.f
  by_cases h : c < 0
  · rw [if_pos h, IntKind.wrap_u64, IntKind.wrap_u64]
    congr 1
    omega
  · rw [if_neg h, IntKind.wrap_u64]
    congr 1
    omega
/-- The closure: a place, told from the end that is meant. -/
theorem place_clo (g n i bc bd : Nat) (c : Int) (w : World) (h2 : w.cell? ⟨g, 2, none⟩ = some (.int .i64 n)) (kc : w.cell? ⟨bc, 0, none⟩ = some (.int .i64 c)) (kd : w.cell? ⟨bd, 0, none⟩ = some (.pointer (some ⟨g, 0, none⟩))) (hn : n ≤ 2097152) (hi : i < n) :
    Calls Try.prog 25 #[.int .i64 (i : Int), .pointer (some ⟨bc, 0, none⟩), .pointer (some ⟨bd, 0, none⟩)] w fun e w' => e = .returned (.int .i64 ((tidx (decide (c < 0)) n i : Nat) : Int)) ∧ w = w' := by
  have HL := Aside0.mk (len_calls g n w h2)
  by_cases h : c < 0
  · have c1 : decide (c < 0) = true := decide_eq_true h
    have e : ((tidx (decide (c < 0)) n i : Nat) : Int) = (n : Int) - 1 - i := by rw [c1]; simp [tidx]; omega
    rw [e]
    have i1 : (i : Int) < (n : Int) := by omega
    have i2 : (n : Int) ≤ 2097152 := by omega
    clear e h hn hi h2
    go_enter Try.func25, Try.ntmps25
    go_wp2_with (first | (go_at_call 17; (with_reducible refine Calls.mono HL.out ?_); rintro e w' ⟨rfl, rfl⟩))
    go_ret
    exact ⟨rfl, rfl⟩
  · have c1 : decide (c < 0) = false := decide_eq_false h
    have e : ((tidx (decide (c < 0)) n i : Nat) : Int) = (i : Int) := by rw [c1]; rfl
    rw [e]
    clear e h hn hi h2
    go_enter Try.func25, Try.ntmps25
    go_wp2_with (first | (go_at_call 17; (with_reducible refine Calls.mono HL.out ?_); rintro e w' ⟨rfl, rfl⟩))
    go_ret
    exact ⟨rfl, rfl⟩
/-- How many may still go. -/
def limL (c : Int) (gone : Nat) : Option Nat := if c = 0 then none else some (c.natAbs - gone)
theorem limL_pred (c : Int) (gone : Nat) : (limL c gone).map (· - 1) = limL c (gone + 1) := by
  unfold limL
  split
  · rfl
  · simp only [Option.map_some]
    congr 1
def RelD (w : World) (B g bc bd : Nat) (l0 : List ByteArray) (c : Int) (s : ByteArray) (q : Nat) (v9 v10 : Value) (wr : World) : Prop :=
  ∃ (gone i : Nat) (l pre post : List ByteArray), v9 = .int .i64 (gone : Int) ∧ v10 = .int .i64 (i : Int) ∧ q = post.length ∧ St w B g l wr ∧ l.length ≤ 2097152 ∧
    tl (decide (c < 0)) l = pre ++ post ∧ pre.length = i ∧ gone + l.length = l0.length ∧
    dropF s (limL c 0) (tl (decide (c < 0)) l0) = (pre ++ (dropF s (limL c gone) post).1, gone + (dropF s (limL c gone) post).2) ∧
    wr.heap[bc]? = some (.cells #[.int .i64 c] 2 (0, 0)) ∧ wr.heap[bd]? = some (.cells #[.pointer (some ⟨g, 0, none⟩)] 25 (0, 0))
set_option maxHeartbeats 8000000 in
set_option maxRecDepth 100000 in
theorem drop_calls (w0 : World) (B g : Nat) (l0 : List ByteArray) (c : Int) (s : ByteArray) (w : World) (h : St w0 B g l0 w) (hc : -9223372036854775808 ≤ c ∧ c ≤ 9223372036854775807) (hl : l0.length ≤ 1000000) :
    Calls Try.prog 11 #[.pointer (some ⟨g, 0, none⟩), .int .i64 c, .string s] w fun e w' => e = .returned (.int .i64 ((dropL l0 c s).2 : Nat)) ∧ St w0 B g (dropL l0 c s).1 w' := by
  have hmf : ∀ (fn : Fn) (first cap : Array Value) (w : World), (Instr.makeFunc fn first cap).run Try.prog w = .ok (.func fn first cap) w := fun _ _ _ _ => rfl
  have HC := Aside0.mk hc
  have HS := Aside0.mk h
  have HL := Aside0.mk hl
  have HZ := Aside0.mk (fun (W : World) => size_calls c W hc)
  clear h hc hl
  go_enter Try.func11, Try.ntmps11
  go_wp2_with fail
  obtain ⟨bd, hbd⟩ : ∃ bd, bd = w.heap.size := ⟨_, rfl⟩
  obtain ⟨W, hW⟩ : ∃ W, W = (w.alloc (.cells #[.pointer (some ⟨g, 0, none⟩)] 25)).alloc (.cells #[.int .i64 c] 2) := ⟨_, rfl⟩
  have hb1 : W.heap[bd + 1]? = some (.cells #[.int .i64 c] 2 (0, 0)) := by
    have := blk_new (w.alloc (.cells #[.pointer (some ⟨g, 0, none⟩)] 25)) (.cells #[.int .i64 c] 2)
    rw [hW, hbd]
    simpa using this
  have hb2 : W.heap[bd]? = some (.cells #[.pointer (some ⟨g, 0, none⟩)] 25 (0, 0)) := by
    rw [hW, hbd]
    exact ((below_alloc (Below.refl _ (w.alloc _)) _).block _ (by simp)).trans (blk_new w _)
  have hs : St w0 B g l0 W := by rw [hW]; exact (HS.out.below (below_alloc (Below.refl _ _) _)).below (below_alloc (Below.refl _ _) _)
  obtain ⟨bc, hbc⟩ : ∃ bc, bc = bd + 1 := ⟨_, rfl⟩
  rw [← hbc] at hb1
  rw [← hW, ← hbd, ← hbc]
  have kc := cell1 hb1
  have kd := cell1 hb2
  have HB1 := Aside0.mk hb1
  have HB2 := Aside0.mk hb2
  have HSW := Aside0.mk hs
  have hM9 : (c.natAbs : Int) ≤ 9223372036854775808 := by have := HC.out; omega
  obtain ⟨M, hM⟩ : ∃ M, M = c.natAbs := ⟨_, rfl⟩
  rw [← hM] at HZ
  have HM := Aside0.mk hM
  clear hbd hW hb1 hb2 hs hbc hM9 hM
  go_at_call 26
  with_reducible refine Calls.mono (HZ.out _) ?_
  rintro e w' ⟨rfl, ⟨nd, rfl⟩⟩
  go_wp2_with fail
  go_loopg [9, 10] l0.length (fun q v9 v10 wr => RelD w0 B g bc bd l0 c s q v9 v10 wr)
  case atStart =>
    refine ⟨0, 0, l0, [], tl (decide (c < 0)) l0, rfl, rfl, (tl_len _ _).symm, HSW.out.below (pw_below_drewN (Below.refl _ _) nd), by have := HL.out; omega, rfl, rfl, by omega, ?_, HB1.out, HB2.out⟩
    simp
  case round =>
    obtain ⟨gone, i, l, pre, post, rfl, rfl, hq, hs, hl9, htl, hpi, hgl, hdf, hbc1, hbd1⟩ := hrel
    have hlpp : l.length = pre.length + post.length := by rw [← tl_len (decide (c < 0)) l, htl, List.length_append]
    clear kc kd
    cases post with
    | nil =>
      have hfin : dropL l0 c s = (l, gone) := by
        have e1 : (if c = 0 then none else some c.natAbs) = limL c 0 := by unfold limL; simp
        unfold dropL
        rw [e1, hdf]
        show (tl (decide (c < 0)) (pre ++ []), gone + 0) = (l, gone)
        rw [← htl, tl_tl]
        rfl
      have c1 : decide ((i : Int) < (l.length : Int)) = false := decide_eq_false (by simp at hlpp; omega)
      have c2 : decide (i < l.length) = false := decide_eq_false (by simp at hlpp; omega)
      have HLEN := Aside0.mk hs.len
      have HFIN := Aside0.mk hfin
      have HSW2 := Aside0.mk hs
      have kd := cell1 hbd1
      clear hfin hdf hs hq hl9 htl hpi hgl hbc1 hbd1 hlpp
      go_wp2_with (first | (go_at_call 17; (with_reducible refine Calls.mono HLEN.out ?_); rintro e w' ⟨rfl, rfl⟩))
      go_ret
      rw [HFIN.out]
      exact ⟨rfl, HSW2.out⟩
    | cons x xs =>
      have hlt : i < l.length := by simp at hlpp; omega
      have c1 : decide ((i : Int) < (l.length : Int)) = true := decide_eq_true (by omega)
      have c2 : decide (i < l.length) = true := decide_eq_true hlt
      clear hlpp
      by_cases hc0 : c = 0
      · have d1 : (c == 0) = true := beq_iff_eq.mpr hc0
        have hNZ : limL c gone ≠ some 0 := by unfold limL; rw [if_pos hc0]; simp
        have HNZ := Aside0.mk hNZ
        have HC0 := Aside0.mk hc0
        clear hNZ hc0
        · skip
          obtain ⟨n, hn⟩ : ∃ n, n = l.length := ⟨_, rfl⟩
          have htx := tidx_lt (decide (c < 0)) l.length i hlt
          have hget := tl_get (decide (c < 0)) l i hlt
          have hrem := tl_remove (decide (c < 0)) l i hlt
          rw [htl, ← hpi, List.getElem?_append_right (Nat.le_refl _), Nat.sub_self] at hget
          rw [htl, ← hpi] at hrem
          have hpre : (pre ++ x :: xs).take pre.length = pre := List.take_left
          have hpost : (pre ++ x :: xs).drop (pre.length + 1) = xs := by
            rw [List.drop_append]
            simp
          rw [hpre, hpost] at hrem
          rw [hpi] at hget hrem
          obtain ⟨t, ht⟩ : ∃ t, t = tidx (decide (c < 0)) l.length i := ⟨_, rfl⟩
          rw [← ht] at htx hget hrem
          have hx : l.getD t ByteArray.empty = x := by
            rw [List.getD_eq_getElem?_getD, ← hget]
            rfl
          have p1 : placeI l.length (t : Int) = (t : Int) := by unfold placeI; rw [if_neg (by omega)]
          have o1 : okI l.length (t : Int) = true := by unfold okI; rw [p1]; simp; exact htx
          have hcA := fun W (h : St w0 B g l W) => h.at_ (t : Int) ⟨by omega, by omega⟩
          have hcR := fun W (h : St w0 B g l W) => h.remove (t : Int) ⟨by omega, by omega⟩
          simp only [o1, if_true, p1, Int.toNat_natCast, hx] at hcA
          simp only [o1, if_true, p1, Int.toNat_natCast] at hcR
          have HCA := Aside0.mk hcA
          have HCR := Aside0.mk hcR
          have hclo := fun (W : World) (h : St w0 B g l W) (h1 : W.cell? ⟨bc, 0, none⟩ = some (.int .i64 c)) (h2 : W.cell? ⟨bd, 0, none⟩ = some (.pointer (some ⟨g, 0, none⟩))) => place_clo g l.length i bc bd c W (by obtain ⟨row, hd, _⟩ := h; exact hd.len.1) h1 h2 hl9 hlt
          rw [← ht] at hclo
          have HCL := Aside0.mk hclo
          have HREM := Aside0.mk hrem
          have HTL := Aside0.mk htl
          have HPI := Aside0.mk hpi
          have HGL := Aside0.mk hgl
          have HDF := Aside0.mk hdf
          have HQ := Aside0.mk hq
          have HLT := Aside0.mk hlt
          have HL9 := Aside0.mk hl9
          have HTX := Aside0.mk htx
          have hlen := hs.len
          have HLEN := Aside0.mk hlen
          have HSW := Aside0.mk hs
          have HBC := Aside0.mk hbc1
          have HBD := Aside0.mk hbd1
          have HL0 := HL.out
          have kc := cell1 HBC.out
          have kd := cell1 HBD.out
          have hi9 : (i : Int) ≤ 2097152 := by omega
          have hg9 : (gone : Int) ≤ 2097152 := by omega
          clear htx hget hrem hpre hpost ht hx p1 o1 hcA hcR hclo htl hpi hgl hdf hq hlt hl9 hlen hs hbc1 hbd1 hn HL0
          go_wp2_with (first | (go_at_call 17; (with_reducible refine Calls.mono HLEN.out ?_); rintro e w' ⟨rfl, rfl⟩))
          go_region_held3 (fun w' => w'.cell? ⟨bd, 0, none⟩ = some (.pointer (some ⟨g, 0, none⟩))) (go_keep) (first | (go_at_call 25; (with_reducible refine Calls.mono (HCL.out _ (HSW.out.below (below_drew (Below.refl _ _))) ?_ ?_) ?_); (exact kc); (exact kd); rintro e w' ⟨rfl, rfl⟩) | (go_at_call 27; (with_reducible refine Calls.mono (HCA.out _ (HSW.out.below (below_drew (Below.refl _ _)))) ?_); rintro e wa ⟨rfl, hba⟩; have HSa := Aside0.mk ((HSW.out.below (below_drew (Below.refl _ _))).below hba); have HBCa := Aside0.mk (KeepT.of_below hba _ _ _ HBC.out (by decide) (by decide)); have HBDa := Aside0.mk (KeepT.of_below hba _ _ _ HBD.out (by decide) (by decide)); have kca := cell1 HBCa.out; have kda := cell1 HBDa.out; clear hba))
          by_cases hxs : x = s
          · have f1 : (x.toList == s.toList) = true := by rw [hxs]; exact beq_iff_eq.mpr rfl
            have HX := Aside0.mk hxs
            clear hxs
            go_wp2_with fail
            go_region_held3 (fun w' => w'.cell? ⟨bd, 0, none⟩ = some (.pointer (some ⟨g, 0, none⟩))) (go_keep) (first | (go_at_call 25; (with_reducible refine Calls.mono (HCL.out _ (HSa.out.below (below_drew (Below.refl _ _))) ?_ ?_) ?_); (exact kca); (exact kda); rintro e w' ⟨rfl, rfl⟩) | (go_at_call 28; (with_reducible refine Calls.mono (HCR.out _ (HSa.out.below (below_drew (Below.refl _ _)))) ?_); rintro e wb ⟨rfl, hsb, hkb⟩; have HSb := Aside0.mk hsb; have HBCb := Aside0.mk (hkb _ _ _ HBCa.out (by decide) (by decide)); have HBDb := Aside0.mk (hkb _ _ _ HBDa.out (by decide) (by decide)); have kcb := cell1 HBCb.out; have kdb := cell1 HBDb.out; clear hsb hkb))
            go_wp2
            go_roundg xs.length
            case measure => have := HQ.out; simp only [List.length_cons] at this; omega
            case rel =>
              refine ⟨gone + 1, i, _, pre, xs, by simp, rfl, rfl, HSb.out, ?_, HREM.out, HPI.out, ?_, ?_, HBCb.out, HBDb.out⟩
              · have := HL9.out; have := HTX.out; simp; omega
              · have := HGL.out; have := HTX.out; simp; omega
              · rw [HDF.out, HX.out, dropF_hit s _ xs (by exact HNZ.out), limL_pred]
                congr 1
                omega
          · have f1 : (x.toList == s.toList) = false := beq_eq_false_iff_ne.mpr (fun h => hxs (Go.Proofs.Ytbficlkjlhigjaa.Y.ba_eq h))
            have HX := Aside0.mk hxs
            clear hxs
            go_wp2_with fail
            go_quiet (fail)
            go_wp2
            go_roundg xs.length
            case measure => have := HQ.out; simp only [List.length_cons] at this; omega
            case rel =>
              refine ⟨gone, i + 1, l, pre ++ [x], xs, rfl, by simp, rfl, HSa.out.below (pw_below_drewN (Below.refl _ _) _), HL9.out, ?_, ?_, HGL.out, ?_, HBCa.out, HBDa.out⟩
              · rw [HTL.out]; simp
              · rw [List.length_append, HPI.out]; rfl
              · rw [HDF.out, dropF_miss s x _ xs HX.out]
                simp
      · have d1 : (c == 0) = false := beq_eq_false_iff_ne.mpr hc0
        by_cases hg : gone < M
        · have d2 : decide ((gone : Int) < (M : Int)) = true := decide_eq_true (by omega)
          have d3 : decide (gone < M) = true := decide_eq_true hg
          have hNZ : limL c gone ≠ some 0 := by unfold limL; rw [if_neg hc0, ← HM.out]; simp; omega
          have HNZ := Aside0.mk hNZ
          have HC0 := Aside0.mk hc0
          clear hNZ hc0 hg
          obtain ⟨n, hn⟩ : ∃ n, n = l.length := ⟨_, rfl⟩
          have htx := tidx_lt (decide (c < 0)) l.length i hlt
          have hget := tl_get (decide (c < 0)) l i hlt
          have hrem := tl_remove (decide (c < 0)) l i hlt
          rw [htl, ← hpi, List.getElem?_append_right (Nat.le_refl _), Nat.sub_self] at hget
          rw [htl, ← hpi] at hrem
          have hpre : (pre ++ x :: xs).take pre.length = pre := List.take_left
          have hpost : (pre ++ x :: xs).drop (pre.length + 1) = xs := by
            rw [List.drop_append]
            simp
          rw [hpre, hpost] at hrem
          rw [hpi] at hget hrem
          obtain ⟨t, ht⟩ : ∃ t, t = tidx (decide (c < 0)) l.length i := ⟨_, rfl⟩
          rw [← ht] at htx hget hrem
          have hx : l.getD t ByteArray.empty = x := by
            rw [List.getD_eq_getElem?_getD, ← hget]
            rfl
          have p1 : placeI l.length (t : Int) = (t : Int) := by unfold placeI; rw [if_neg (by omega)]
          have o1 : okI l.length (t : Int) = true := by unfold okI; rw [p1]; simp; exact htx
          have hcA := fun W (h : St w0 B g l W) => h.at_ (t : Int) ⟨by omega, by omega⟩
          have hcR := fun W (h : St w0 B g l W) => h.remove (t : Int) ⟨by omega, by omega⟩
          simp only [o1, if_true, p1, Int.toNat_natCast, hx] at hcA
          simp only [o1, if_true, p1, Int.toNat_natCast] at hcR
          have HCA := Aside0.mk hcA
          have HCR := Aside0.mk hcR
          have hclo := fun (W : World) (h : St w0 B g l W) (h1 : W.cell? ⟨bc, 0, none⟩ = some (.int .i64 c)) (h2 : W.cell? ⟨bd, 0, none⟩ = some (.pointer (some ⟨g, 0, none⟩))) => place_clo g l.length i bc bd c W (by obtain ⟨row, hd, _⟩ := h; exact hd.len.1) h1 h2 hl9 hlt
          rw [← ht] at hclo
          have HCL := Aside0.mk hclo
          have HREM := Aside0.mk hrem
          have HTL := Aside0.mk htl
          have HPI := Aside0.mk hpi
          have HGL := Aside0.mk hgl
          have HDF := Aside0.mk hdf
          have HQ := Aside0.mk hq
          have HLT := Aside0.mk hlt
          have HL9 := Aside0.mk hl9
          have HTX := Aside0.mk htx
          have hlen := hs.len
          have HLEN := Aside0.mk hlen
          have HSW := Aside0.mk hs
          have HBC := Aside0.mk hbc1
          have HBD := Aside0.mk hbd1
          have HL0 := HL.out
          have kc := cell1 HBC.out
          have kd := cell1 HBD.out
          have hi9 : (i : Int) ≤ 2097152 := by omega
          have hg9 : (gone : Int) ≤ 2097152 := by omega
          clear htx hget hrem hpre hpost ht hx p1 o1 hcA hcR hclo htl hpi hgl hdf hq hlt hl9 hlen hs hbc1 hbd1 hn HL0
          go_wp2_with (first | (go_at_call 17; (with_reducible refine Calls.mono HLEN.out ?_); rintro e w' ⟨rfl, rfl⟩))
          go_region_held3 (fun w' => w'.cell? ⟨bd, 0, none⟩ = some (.pointer (some ⟨g, 0, none⟩))) (go_keep) (first | (go_at_call 25; (with_reducible refine Calls.mono (HCL.out _ (HSW.out.below (below_drew (Below.refl _ _))) ?_ ?_) ?_); (exact kc); (exact kd); rintro e w' ⟨rfl, rfl⟩) | (go_at_call 27; (with_reducible refine Calls.mono (HCA.out _ (HSW.out.below (below_drew (Below.refl _ _)))) ?_); rintro e wa ⟨rfl, hba⟩; have HSa := Aside0.mk ((HSW.out.below (below_drew (Below.refl _ _))).below hba); have HBCa := Aside0.mk (KeepT.of_below hba _ _ _ HBC.out (by decide) (by decide)); have HBDa := Aside0.mk (KeepT.of_below hba _ _ _ HBD.out (by decide) (by decide)); have kca := cell1 HBCa.out; have kda := cell1 HBDa.out; clear hba))
          by_cases hxs : x = s
          · have f1 : (x.toList == s.toList) = true := by rw [hxs]; exact beq_iff_eq.mpr rfl
            have HX := Aside0.mk hxs
            clear hxs
            go_wp2_with fail
            go_region_held3 (fun w' => w'.cell? ⟨bd, 0, none⟩ = some (.pointer (some ⟨g, 0, none⟩))) (go_keep) (first | (go_at_call 25; (with_reducible refine Calls.mono (HCL.out _ (HSa.out.below (below_drew (Below.refl _ _))) ?_ ?_) ?_); (exact kca); (exact kda); rintro e w' ⟨rfl, rfl⟩) | (go_at_call 28; (with_reducible refine Calls.mono (HCR.out _ (HSa.out.below (below_drew (Below.refl _ _)))) ?_); rintro e wb ⟨rfl, hsb, hkb⟩; have HSb := Aside0.mk hsb; have HBCb := Aside0.mk (hkb _ _ _ HBCa.out (by decide) (by decide)); have HBDb := Aside0.mk (hkb _ _ _ HBDa.out (by decide) (by decide)); have kcb := cell1 HBCb.out; have kdb := cell1 HBDb.out; clear hsb hkb))
            go_wp2
            go_roundg xs.length
            case measure => have := HQ.out; simp only [List.length_cons] at this; omega
            case rel =>
              refine ⟨gone + 1, i, _, pre, xs, by simp, rfl, rfl, HSb.out, ?_, HREM.out, HPI.out, ?_, ?_, HBCb.out, HBDb.out⟩
              · have := HL9.out; have := HTX.out; simp; omega
              · have := HGL.out; have := HTX.out; simp; omega
              · rw [HDF.out, HX.out, dropF_hit s _ xs (by exact HNZ.out), limL_pred]
                congr 1
                omega
          · have f1 : (x.toList == s.toList) = false := beq_eq_false_iff_ne.mpr (fun h => hxs (Go.Proofs.Ytbficlkjlhigjaa.Y.ba_eq h))
            have HX := Aside0.mk hxs
            clear hxs
            go_wp2_with fail
            go_quiet (fail)
            go_wp2
            go_roundg xs.length
            case measure => have := HQ.out; simp only [List.length_cons] at this; omega
            case rel =>
              refine ⟨gone, i + 1, l, pre ++ [x], xs, rfl, by simp, rfl, HSa.out.below (pw_below_drewN (Below.refl _ _) _), HL9.out, ?_, ?_, HGL.out, ?_, HBCa.out, HBDa.out⟩
              · rw [HTL.out]; simp
              · rw [List.length_append, HPI.out]; rfl
              · rw [HDF.out, dropF_miss s x _ xs HX.out]
                simp
        · have d2 : decide ((gone : Int) < (M : Int)) = false := decide_eq_false (by omega)
          have d3 : decide (gone < M) = false := decide_eq_false hg
          have hz : limL c gone = some 0 := by unfold limL; rw [if_neg hc0, ← HM.out]; congr 1; omega
          have hfin : dropL l0 c s = (l, gone) := by
            have e1 : (if c = 0 then none else some c.natAbs) = limL c 0 := by unfold limL; simp
            unfold dropL
            rw [e1, hdf, hz, dropF_zero]
            show (tl (decide (c < 0)) (pre ++ x :: xs), gone + 0) = (l, gone)
            rw [← htl, tl_tl]
            rfl
          have HLEN := Aside0.mk hs.len
          have HFIN := Aside0.mk hfin
          have HSW2 := Aside0.mk hs
          have kc := cell1 hbc1
          have kd := cell1 hbd1
          have hg9 : (gone : Int) ≤ 2097152 := by have := HL.out; omega
          clear hfin hz hdf hs hq hl9 htl hpi hgl hbc1 hbd1 hc0 hg hlt
          go_wp2_with (first | (go_at_call 17; (with_reducible refine Calls.mono HLEN.out ?_); rintro e w' ⟨rfl, rfl⟩))
          go_ret
          rw [HFIN.out]
          exact ⟨rfl, HSW2.out⟩
end Go.Proofs.Ytbficlkjlhigjaa.Dq
