/- The contract of the statement ListFinds, walked by hand. -/
import Derived.Test.YtbficlkjlhigjaaLaw21a
import Derived.Test.YtbficlkjlhigjaaListRef2
import Derived.Test.YtbficlkjlhigjaaX0
namespace Go.Proofs.Ytbficlkjlhigjaa.X
set_option linter.unusedVariables false
/-- The statement's own bounds. -/
def BdF (l : List ByteArray) (a b c : Int) : Prop := l.length ≤ 9223372036854775000 ∧ -9223372036854775808 ≤ a ∧ a ≤ 9223372036854775807
open Classical in
noncomputable def mewslaw21_ListFinds.f (_k : Nat) (l0 : List ByteArray) (s : ByteArray) (a b c : Int) : Option Bool := if BdF l0 a b c then some true else none
end Go.Proofs.Ytbficlkjlhigjaa.X
namespace Go.Proofs.Ytbficlkjlhigjaa.Dq
open Go.RowKit Go.Proofs.YtbficlkjlhigjaaW.PrintWords Go.Proofs.YtbficlkjlhigjaaW.PrintMore Go.Proofs.YtbficlkjlhigjaaW.PrintLast Go.Proofs.Ytbficlkjlhigjaa.X Go.Proofs.Ytbficlkjlhigjaa.Y
set_option linter.unusedVariables false
set_option linter.unusedSimpArgs false
attribute [local go_sem ↓] Go.wp_at_zero Go.wp_at_succ
theorem findL_mem (l : List ByteArray) (s : ByteArray) (rank cnt most : Int) (t : Int) (h : t ∈ findL l s rank cnt most) : ∃ j : Nat, t = j ∧ j < l.length ∧ l[j]? = some s := by
  unfold findL at h
  split at h
  · cases h
  · obtain ⟨i, hi, rfl⟩ := List.mem_map.1 h
    rcases findG_mem s _ cnt most _ _ _ _ i hi with h | ⟨_, h⟩
    · cases h
    · rw [Nat.sub_zero] at h
      have hlt := (List.getElem?_eq_some_iff.1 h).1
      rw [tl_len] at hlt
      rw [tl_get _ l i hlt] at h
      exact ⟨_, rfl, tidx_lt _ _ _ hlt, h⟩
theorem findL_len (l : List ByteArray) (s : ByteArray) (rank cnt most : Int) : (findL l s rank cnt most).length ≤ l.length := by
  unfold findL
  split
  · exact Nat.zero_le _
  · rw [List.length_map]
    have := findG_len s rank.natAbs cnt most (tl (decide (rank < 0)) l) 0 0 []
    rw [tl_len] at this
    simpa using this
theorem rfind_calls (v : Value) (l : List ByteArray) (s : ByteArray) (rank cnt most : Int) (w : World) (h : Rd w v l) (hl : l.length ≤ 1000000) (hr : -9223372036854775808 ≤ rank ∧ rank ≤ 9223372036854775807) :
    Calls Try.prog 16 #[v, .string s, .int .i64 rank, .int .i64 cnt, .int .i64 most] w fun e w' => ∃ A c, e = .returned (.slice A (findL l s rank cnt most).length c) ∧ Kd.C (Kd.int .i64) w' A (findL l s rank cnt most).length (findL l s rank cnt most) ∧ Below w.heap.size w w' := by
  obtain ⟨A, c, rfl, hc, hq⟩ := h
  obtain ⟨K, hK⟩ := findf_ev l s rank cnt most hl hr
  refine (mewsref21_Find.calls K A c l s rank cnt most _ w (C_of_readsOf hq) hc (hK K (Nat.le_refl _))).mono fun e w' he => ?_
  obtain ⟨v0, rfl, hR, hB⟩ := he
  obtain ⟨A', c', rfl⟩ := Kd.R_slice hR
  exact ⟨A', c', rfl, (Kd.R_reads' hR).2.2, hB⟩
theorem intC_reads {w : World} {A : Option Addr} {n : Nat} {l : List Int} (h : Kd.C (Kd.int .i64) w A n l) : ReadsOf (Value.int .i64) 0 w A n l := by
  obtain ⟨h1, h2, h3⟩ := h
  refine ⟨h1, h2, fun hn => ?_⟩
  obtain ⟨ad, e, hc⟩ := h3 hn
  refine ⟨ad, e, fun j hj => ?_⟩
  obtain ⟨x, hx⟩ : ∃ x, l[j]? = some x := ⟨_, List.getElem?_eq_getElem (by omega)⟩
  obtain ⟨c, hl, hR, hcell⟩ := hc j x hx
  have hR' : c = [Value.int .i64 x] := hR
  have := hcell 0 (Value.int .i64 x) (by rw [hR']; rfl)
  rw [List.getD_eq_getElem?_getD, hx]
  simpa [show (Kd.sz (Kd.int .i64)) = 1 from rfl] using this
theorem cells3f {w : World} {g : Nat} {t : TypeId} {a b c : Value} (h : w.heap[g]? = some (.cells #[a, b, c] t (0, 0))) : w.cell? ⟨g, 0, none⟩ = some a ∧ w.cell? ⟨g, 1, none⟩ = some b ∧ w.cell? ⟨g, 2, none⟩ = some c := ⟨(blk_cell h 0).trans rfl, (blk_cell h 1).trans rfl, (blk_cell h 2).trans rfl⟩
set_option maxHeartbeats 8000000 in
set_option maxRecDepth 100000 in
theorem finds_calls (A : Option Addr) (cp : Nat) (l : List ByteArray) (s : ByteArray) (c c2 c3 : Int) (w : World) (hr : ReadsOf Value.string ByteArray.empty w A l.length l) (hcp : l.length ≤ cp) (hl : l.length ≤ 9223372036854775000) (hc : -9223372036854775808 ≤ c ∧ c ≤ 9223372036854775807) :
    Calls Try.prog 4 #[.slice A l.length cp, .string s, .agg #[.int .i64 c, .int .i64 c2, .int .i64 c3]] w fun e w' => e = .returned (.bool true) ∧ Below w.heap.size w w' := by
  have HR := Aside0.mk (show Rd w (.slice A l.length cp) l from ⟨A, cp, rfl, hcp, hr⟩)
  have HC := Aside0.mk hc
  have HL := Aside0.mk hl
  obtain ⟨n, hn⟩ : ∃ n, n = l.length := ⟨_, rfl⟩
  rw [← hn] at HR ⊢
  have Hn := Aside0.mk hn
  obtain ⟨B, hB⟩ : ∃ B, B = w.heap.size := ⟨_, rfl⟩
  rw [← hB]
  have HB := Aside0.mk hB
  have HALL := Aside0.mk (fun (W : World) (p : Prop) (hp : Below B w W) (hs : B ≤ W.heap.size) => (⟨(alive_calls W).mono fun e w' he => ⟨he.1, hp.trans (he.2.mono hs)⟩, trivial⟩ : Calls Try.prog 9 #[] W (fun e w' => e = .returned (.bool true) ∧ Below B w w') ∧ True).1)
  clear hn hr hcp hc hl hB
  go_enter Try.func4, Try.ntmps4
  go_wp2_with fail
  obtain ⟨w1, hw1⟩ : ∃ W, W = w.alloc (.cells #[.int .i64 c, .int .i64 c2, .int .i64 c3] 33) := ⟨_, rfl⟩
  rw [← hw1, ← HB.out]
  have HX1 := Aside0.mk (show w1.heap[B]? = some (.cells #[.int .i64 c, .int .i64 c2, .int .i64 c3] 33 (0, 0)) by rw [hw1, HB.out]; exact blk_new _ _)
  have HD1 := Aside0.mk (show Below B w w1 by rw [hw1, HB.out]; exact below_alloc (Below.refl _ _) _)
  have HS1 := Aside0.mk (show B ≤ w1.heap.size from Nat.le_of_lt (blk_lt HX1.out))
  have HR1 := Aside0.mk (show Rd w1 (.slice A n cp) l from HR.out.below (by rw [← HB.out]; exact HD1.out))
  clear hw1
  go_at_call 8
  with_reducible refine Calls.mono (far_calls _ l w1 HR1.out HL.out) ?_
  rintro e w2 ⟨b, rfl, hb, hd⟩
  have HX2 := Aside0.mk (show w2.heap[B]? = some (.cells #[.int .i64 c, .int .i64 c2, .int .i64 c3] 33 (0, 0)) from KeepT.of_below hd.below _ _ _ HX1.out (by decide) (by decide))
  have HD2 := Aside0.mk (HD1.out.trans (hd.below.mono HS1.out))
  have HS2 := Aside0.mk (show B ≤ w2.heap.size from Nat.le_trans HS1.out hd.below.size)
  clear hd
  cases b with
  | true =>
    clear hb
    go_wp2_with (first | (go_at_call 9; (with_reducible refine Calls.mono (HALL.out _ True HD2.out HS2.out) ?_); rintro e w2 ⟨rfl, hb2⟩; have HB2 := Aside0.mk hb2; clear hb2))
    go_ret
    exact ⟨rfl, HB2.out⟩
  | false =>
    have HLN := Aside0.mk (hb rfl)
    clear hb
    go_wp2_with fail
    go_at_call 8
    have hf : Calls Try.prog 8 #[.slice (some ⟨w2.heap.size, 0, none⟩) 1 1] (w2.alloc (.cells #[.string s] 9)) _ := far_calls _ [s] _ (rd_lit w2 [s] (by simp)) (by simp)
    with_reducible refine Calls.mono hf ?_
    clear hf
    rintro e w3 ⟨b, rfl, -, hd⟩
    have HDD := Aside0.mk (show Below w2.heap.size w2 w3 from (below_alloc (Below.refl _ _) _).trans (hd.below.mono (by simp)))
    have HX3 := Aside0.mk (show w3.heap[B]? = some (.cells #[.int .i64 c, .int .i64 c2, .int .i64 c3] 33 (0, 0)) from KeepT.of_below HDD.out _ _ _ HX2.out (by decide) (by decide))
    have HD3 := Aside0.mk (HD2.out.trans (HDD.out.mono HS2.out))
    have HS3 := Aside0.mk (show B ≤ w3.heap.size from Nat.le_trans HS2.out HDD.out.size)
    clear hd HDD
    cases b with
    | true =>
      go_wp2_with (first | (go_at_call 9; (with_reducible refine Calls.mono (HALL.out _ True HD3.out HS3.out) ?_); rintro e w2 ⟨rfl, hb2⟩; have HB2 := Aside0.mk hb2; clear hb2))
      go_ret
      exact ⟨rfl, HB2.out⟩
    | false =>
      have HNEW := Aside0.mk (show ∀ W, Below w3.heap.size w3 W → Calls Try.prog 10 #[.slice A n cp] W (fun e W' => ∃ g, e = .returned (.pointer (some ⟨g, 0, none⟩)) ∧ St w B g l W' ∧ KeepT W W') by
        intro W hW
        obtain ⟨A', c', e', hc', hr'⟩ := HR.out.below (w1 := W) (by rw [← HB.out]; exact HD3.out.trans (hW.mono HS3.out))
        injection e' with e1 e2 e3
        subst e1
        subst e3
        rw [Hn.out]
        refine (St.new (HD3.out.trans (hW.mono HS3.out)) (Nat.le_trans HS3.out hW.size) hr' (by have := HLN.out; omega)).mono fun e W' he => ?_
        obtain ⟨g, rfl, _, h3, hb3⟩ := he
        exact ⟨g, rfl, h3, KeepT.of_below hb3⟩)
      have HFND := Aside0.mk (show ∀ g W, St w B g l W → Calls Try.prog 15 #[.pointer (some ⟨g, 0, none⟩), .string s, .int .i64 c, .int .i64 c2, .int .i64 c3] W (fun e w' => ∃ v, e = .returned v ∧ w'.ownsRow W.heap.size 3 1 v (findL l s c c2 c3).length (nums .i64 (findL l s c c2 c3)) ∧ Below W.heap.size W w') from
        fun g W h => find_calls w B g l s c c2 c3 W h HC.out (by have := HLN.out; omega))
      obtain ⟨y0, y1, y2⟩ := cells3f HX3.out
      go_wp2_with fail
      go_region_held3 (fun w' => w'.cell? ⟨B, 0, none⟩ = some (.int .i64 c) ∧ w'.cell? ⟨B, 1, none⟩ = some (.int .i64 c2) ∧ w'.cell? ⟨B, 2, none⟩ = some (.int .i64 c3)) (go_keep) (first | (go_at_call 10; (with_reducible refine Calls.mono (HNEW.out _ (below_drew (Below.refl _ _))) ?_); rintro e w4 ⟨g, rfl, h4, hk4⟩; have H4 := Aside0.mk h4; have HX4 := Aside0.mk (hk4 _ _ _ (show _ from HX3.out) (by decide) (by decide)); obtain ⟨z0, z1, z2⟩ := cells3f HX4.out; clear h4 hk4) | (go_at_call 15; (with_reducible refine Calls.mono (HFND.out _ _ H4.out) ?_); rintro e w5 ⟨v5, rfl, hr5, hb5⟩; have HX5 := Aside0.mk (KeepT.of_below hb5 _ _ _ HX4.out (by decide) (by decide)); have H5 := Aside0.mk (H4.out.below hb5); obtain ⟨t0, t1, t2⟩ := cells3f HX5.out; have HR5 := Aside0.mk hr5; clear hr5 hb5))
      have HRL5 := Aside0.mk (show Rd w5 (.slice A n cp) l from HR.out.below (by rw [← HB.out]; exact H5.out.out))
      clear y0 y1 y2
      go_wp2_with fail
      go_at_call 16
      with_reducible refine Calls.mono (rfind_calls _ l s c c2 c3 w5 HRL5.out (by have := HLN.out; omega) HC.out) ?_
      rintro e w6 ⟨A6, c6, rfl, hr6, hb6⟩
      have H6 := Aside0.mk (H5.out.below hb6)
      obtain ⟨A5, c5, e5⟩ := own_slice HR5.out
      subst e5
      obtain ⟨A5', c5', e5, hq5⟩ := own_reads_of (enc := Value.int .i64) (d := 0) (show w5.ownsRow w4.heap.size 3 1 _ (findL l s c c2 c3).length (encs (Value.int .i64) (findL l s c c2 c3)) from HR5.out)
      injection e5 with e1 e2 e3
      subst e1
      have HA := Aside0.mk (show ReadsOf (Value.int .i64) 0 w6 A5 _ _ from hq5.below hb6)
      have HQ := Aside0.mk (intC_reads hr6)
      have HMEM := Aside0.mk (findL_mem l s c c2 c3)
      have HFL := Aside0.mk (findL_len l s c c2 c3)
      obtain ⟨F, hF⟩ : ∃ F, F = findL l s c c2 c3 := ⟨_, rfl⟩
      rw [← hF] at HA HQ HMEM HFL ⊢
      obtain ⟨z, hz⟩ : ∃ z, z = F.length := ⟨_, rfl⟩
      rw [← hz] at HA HQ HFL ⊢
      have Hz := Aside0.mk hz
      have HRL6 := Aside0.mk (HRL5.out.below hb6)
      clear hr6 hb6 hF hz hq5 t0 t1 t2 e2 e3 HR5
      have d6 : (((z : Nat) : Int) == ((z : Nat) : Int)) = true := beq_self_eq_true _
      have d7 : (((z : Nat) : Int) != ((z : Nat) : Int)) = false := by simp
      go_wp2_with fail
      go_loopw [44] (fun v44 wr => ∃ k : Nat, k ≤ z ∧ v44 = .int .i64 k ∧ Below w6.heap.size w6 wr) (fun v44 _ => z - (intOf v44).toNat)
      case atStart => exact ⟨0, Nat.zero_le _, rfl, Below.refl _ _⟩
      case round =>
        obtain ⟨k, hkz, rfl, hbr⟩ := hrel
        have HSt := Aside0.mk (H6.out.below hbr)
        by_cases hlt : k < z
        · have e1 : decide ((k : Int) < (z : Int)) = true := decide_eq_true (by omega)
          have e2 : decide (k < z) = true := decide_eq_true hlt
          have hkF : k < F.length := by rw [← Hz.out]; exact hlt
          have hra := HA.out.below hbr
          have hrq := HQ.out.below hbr
          have hrl := HRL6.out.below hbr
          obtain ⟨ada, rfl, hca⟩ := hra.2.2 (by omega)
          obtain ⟨adq, rfl, hcq⟩ := hrq.2.2 (by omega)
          have xa := hca k hlt
          have xq := hcq k hlt
          have hget : F.getD k 0 = F[k] := by rw [List.getD_eq_getElem?_getD, List.getElem?_eq_getElem hkF]; rfl
          obtain ⟨j, hj, hjn, hjs⟩ := HMEM.out F[k] (List.getElem_mem hkF)
          rw [hget, hj] at xa xq
          obtain ⟨Al, cl, el, hcl, hrl⟩ := hrl
          injection el with el1 el2 el3
          subst el1
          obtain ⟨adl, rfl, hcl2⟩ := hrl.2.2 (by omega)
          have xl := hcl2 j hjn
          have hgs : l.getD j ByteArray.empty = s := by rw [List.getD_eq_getElem?_getD, hjs]; rfl
          rw [hgs] at xl
          have hjn' : (j : Int) < (n : Int) := by have := Hn.out; omega
          have hjn2 : j < n := by have := Hn.out; omega
          have n1 : decide ((j : Int) < 0) = false := decide_eq_false (by omega)
          have n2 : decide ((n : Int) ≤ (j : Int)) = false := decide_eq_false (by omega)
          have n3 : ((j : Int) != (j : Int)) = false := by simp
          have n4 : (s.toList != s.toList) = false := by simp
          have n5 : (s.toList == s.toList) = true := beq_self_eq_true _
          have n6 : decide (n ≤ j) = false := decide_eq_false (by omega)
          have hkz9 : (k : Int) ≤ 1000000 := by have := HLN.out; have := HFL.out; omega
          have i0 : (0 : Int) ≤ (k : Int) := Int.natCast_nonneg _
          have i1 : (k : Int) < (z : Int) := by omega
          have i2 := eq_true i1
          have i3 : (0 : Int) ≤ (j : Int) := Int.natCast_nonneg _
          have i4 := eq_true hjn'
          have HBR := Aside0.mk hbr
          have Hlt := Aside0.mk hlt
          clear hra hrq hrl hca hcq hcl hcl2 hget hj hjs hgs hbr hlt hkF el2 el3
          go_wp2_with fail
          go_quiet (fail)
          clear xa xq xl
          go_wp2
          go_roundw
          case rel => exact ⟨k + 1, by have := Hlt.out; omega, by simp, by first | exact HBR.out | exact HBR.out.trans (pw_below_drewN (Below.refl _ _) _) | exact pw_below_drewN HBR.out _⟩
          case measure => have := Hlt.out; simp [intOf]; omega
        · have e1 : decide ((k : Int) < (z : Int)) = false := decide_eq_false (by omega)
          have e2 : decide (k < z) = false := decide_eq_false hlt
          clear hlt hbr hkz
          go_wp2_with (first | (go_at_call 9; (with_reducible refine Calls.mono (HALL.out _ True HSt.out.out HSt.out.size) ?_); rintro e w8 ⟨rfl, hb8⟩; have HB8 := Aside0.mk hb8; clear hb8))
          go_ret
          exact ⟨rfl, HB8.out⟩
end Go.Proofs.Ytbficlkjlhigjaa.Dq
namespace Go.Proofs.Ytbficlkjlhigjaa.X
set_option linter.unusedVariables false
open Go.RowKit Go.Proofs.YtbficlkjlhigjaaW.PrintWords Go.Proofs.YtbficlkjlhigjaaW.PrintMore Go.Proofs.YtbficlkjlhigjaaW.PrintLast Go.Proofs.Ytbficlkjlhigjaa.Dq
theorem mewslaw21_ListFinds.calls (k : Nat) (A0 : Option Addr) (c0 : Nat) (l0 : List ByteArray) (a1 : ByteArray) (x y z : Int) (r : Bool) (w : World) (hr0 : Kd.C Kd.string w A0 l0.length l0) (hc0 : l0.length ≤ c0) (hr_ : Aside0 (r = true)) (h : mewslaw21_ListFinds.f k l0 a1 x y z = some r) :
    Calls Try.prog 4 #[.slice A0 l0.length c0, .string a1, .agg #[.int .i64 x, .int .i64 y, .int .i64 z]] w fun e w' => e = .returned (.bool r) ∧ Below w.heap.size w w' := by
  have hbd : BdF l0 x y z := by
    unfold mewslaw21_ListFinds.f at h
    by_cases q : BdF l0 x y z
    · exact q
    · rw [if_neg q] at h; cases h
  rw [hr_.out]
  exact finds_calls A0 c0 l0 a1 x y z w (readsOf_of_C hr0) hc0 hbd.1 hbd.2
end Go.Proofs.Ytbficlkjlhigjaa.X
