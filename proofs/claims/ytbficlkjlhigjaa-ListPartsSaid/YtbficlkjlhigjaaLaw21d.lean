/- The contract of the statement ListParts, walked by hand. -/
import Derived.Test.YtbficlkjlhigjaaLaw21b
namespace Go.Proofs.Ytbficlkjlhigjaa.X
set_option linter.unusedVariables false
open Classical in
noncomputable def mewslaw21_ListParts.f (_k : Nat) (l0 : List ByteArray) (c : Int) (s : ByteArray) : Option Bool := if BdL l0 c then some true else none
end Go.Proofs.Ytbficlkjlhigjaa.X
namespace Go.Proofs.Ytbficlkjlhigjaa.Dq
open Go.RowKit Go.Proofs.YtbficlkjlhigjaaW.PrintWords Go.Proofs.YtbficlkjlhigjaaW.PrintMore Go.Proofs.YtbficlkjlhigjaaW.PrintLast Go.Proofs.Ytbficlkjlhigjaa.X Go.Proofs.Ytbficlkjlhigjaa.Y
set_option linter.unusedVariables false
set_option linter.unusedSimpArgs false
attribute [local go_sem ↓] Go.wp_at_zero Go.wp_at_succ
/-- The texts of a list that are other ones; how many are that one. -/
def oth (s : ByteArray) : List ByteArray → List ByteArray
  | [] => []
  | x :: xs => if x = s then oth s xs else x :: oth s xs
def cntS (s : ByteArray) : List ByteArray → Nat
  | [] => 0
  | x :: xs => if x = s then cntS s xs + 1 else cntS s xs
theorem oth_append (s : ByteArray) (l m : List ByteArray) : oth s (l ++ m) = oth s l ++ oth s m := by
  induction l with
  | nil => rfl
  | cons x xs ih =>
    show (if x = s then oth s (xs ++ m) else x :: oth s (xs ++ m)) = _
    by_cases h : x = s
    · rw [if_pos h, ih]; show _ = (if x = s then oth s xs else x :: oth s xs) ++ oth s m; rw [if_pos h]
    · rw [if_neg h, ih]; show _ = (if x = s then oth s xs else x :: oth s xs) ++ oth s m; rw [if_neg h]; rfl
theorem cnt_append (s : ByteArray) (l m : List ByteArray) : cntS s (l ++ m) = cntS s l + cntS s m := by
  induction l with
  | nil => exact (Nat.zero_add _).symm
  | cons x xs ih =>
    show (if x = s then cntS s (xs ++ m) + 1 else cntS s (xs ++ m)) = (if x = s then cntS s xs + 1 else cntS s xs) + cntS s m
    split <;> omega
theorem oth_len (s : ByteArray) (l : List ByteArray) : (oth s l).length ≤ l.length := by
  induction l with
  | nil => exact Nat.le_refl _
  | cons x xs ih =>
    show (if x = s then oth s xs else x :: oth s xs).length ≤ xs.length + 1
    split
    · omega
    · simp; omega
theorem cnt_len (s : ByteArray) (l : List ByteArray) : cntS s l ≤ l.length := by
  induction l with
  | nil => exact Nat.le_refl _
  | cons x xs ih =>
    show (if x = s then cntS s xs + 1 else cntS s xs) ≤ xs.length + 1
    split <;> omega
theorem oth_rev (s : ByteArray) (l : List ByteArray) : oth s l.reverse = (oth s l).reverse := by
  induction l with
  | nil => rfl
  | cons x xs ih =>
    rw [List.reverse_cons, oth_append, ih]
    show (oth s xs).reverse ++ (if x = s then [] else [x]) = (if x = s then oth s xs else x :: oth s xs).reverse
    split <;> simp
theorem cnt_rev (s : ByteArray) (l : List ByteArray) : cntS s l.reverse = cntS s l := by
  induction l with
  | nil => rfl
  | cons x xs ih =>
    rw [List.reverse_cons, cnt_append, ih]
    show cntS s xs + (if x = s then 0 + 1 else 0) = (if x = s then cntS s xs + 1 else cntS s xs)
    split <;> omega
theorem dropF_oth (s : ByteArray) (lim : Option Nat) (l : List ByteArray) : oth s (dropF s lim l).1 = oth s l := by
  induction l generalizing lim with
  | nil => rfl
  | cons x xs ih =>
    unfold dropF
    split
    · rename_i h
      show oth s (dropF s (lim.map (· - 1)) xs).1 = (if x = s then oth s xs else x :: oth s xs)
      rw [if_pos h.1, ih]
    · show (if x = s then oth s (dropF s lim xs).1 else x :: oth s (dropF s lim xs).1) = (if x = s then oth s xs else x :: oth s xs)
      rw [ih]
theorem dropF_cnt_none (s : ByteArray) (l : List ByteArray) : (dropF s none l).2 = cntS s l := by
  induction l with
  | nil => rfl
  | cons x xs ih =>
    by_cases h : x = s
    · subst h
      rw [dropF_hit x none xs (by simp)]
      show (dropF x none xs).2 + 1 = (if x = x then cntS x xs + 1 else cntS x xs)
      rw [if_pos rfl, ih]
    · rw [dropF_miss s x none xs h]
      show (dropF s none xs).2 = (if x = s then cntS s xs + 1 else cntS s xs)
      rw [if_neg h, ih]
theorem dropF_cnt_some (s : ByteArray) (m : Nat) (l : List ByteArray) : (dropF s (some m) l).2 = min m (cntS s l) := by
  induction l generalizing m with
  | nil => simp [dropF, cntS]
  | cons x xs ih =>
    by_cases h : x = s
    · subst h
      show _ = min m (if x = x then cntS x xs + 1 else cntS x xs)
      rw [if_pos rfl]
      by_cases hm : m = 0
      · subst hm
        rw [dropF_zero]
        omega
      · rw [dropF_hit x _ xs (by simp; omega)]
        show (dropF x (some (m - 1)) xs).2 + 1 = _
        rw [ih]
        omega
    · rw [dropF_miss s x _ xs h]
      show (dropF s (some m) xs).2 = min m (if x = s then cntS s xs + 1 else cntS s xs)
      rw [if_neg h, ih]
theorem dropL_oth (l : List ByteArray) (c : Int) (s : ByteArray) : oth s (dropL l c s).1 = oth s l := by
  unfold dropL
  by_cases h : c < 0
  · rw [decide_eq_true h]
    show oth s (dropF s _ l.reverse).1.reverse = oth s l
    rw [oth_rev, dropF_oth, oth_rev, List.reverse_reverse]
  · rw [decide_eq_false h]
    exact dropF_oth s _ l
theorem dropL_cnt (l : List ByteArray) (c : Int) (s : ByteArray) : (dropL l c s).2 = if c = 0 then cntS s l else min c.natAbs (cntS s l) := by
  unfold dropL
  show (dropF s _ (tl _ l)).2 = _
  have e : cntS s (tl (decide (c < 0)) l) = cntS s l := by
    unfold tl
    split
    · exact cnt_rev s l
    · rfl
  by_cases h : c = 0
  · rw [if_pos h, if_pos h, dropF_cnt_none, e]
  · rw [if_neg h, if_neg h, dropF_cnt_some, e]
set_option maxHeartbeats 8000000 in
set_option maxRecDepth 100000 in
theorem parts_calls (A : Option Addr) (cp : Nat) (l : List ByteArray) (c : Int) (s : ByteArray) (w : World) (hr : ReadsOf Value.string ByteArray.empty w A l.length l) (hcp : l.length ≤ cp) (hl : l.length ≤ 9223372036854775000) (hc : -9223372036854775808 ≤ c ∧ c ≤ 9223372036854775807) :
    Calls Try.prog 5 #[.slice A l.length cp, .int .i64 c, .string s] w fun e w' => e = .returned (.bool true) ∧ Below w.heap.size w w' := by
  have HR := Aside0.mk (show Rd w (.slice A l.length cp) l from ⟨A, cp, rfl, hcp, hr⟩)
  have HFAR := Aside0.mk (far_calls _ l w HR.out hl)
  have HC := Aside0.mk hc
  have HL := Aside0.mk hl
  obtain ⟨n, hn⟩ : ∃ n, n = l.length := ⟨_, rfl⟩
  rw [← hn] at HR HFAR ⊢
  have Hn := Aside0.mk hn
  obtain ⟨B, hB⟩ : ∃ B, B = w.heap.size := ⟨_, rfl⟩
  rw [← hB]
  have HB := Aside0.mk hB
  have HALL := Aside0.mk (fun (W : World) (p : Prop) (hp : Below B w W) (hs : B ≤ W.heap.size) => (⟨(alive_calls W).mono fun e w' he => ⟨he.1, hp.trans (he.2.mono hs)⟩, trivial⟩ : Calls Try.prog 9 #[] W (fun e w' => e = .returned (.bool true) ∧ Below B w w') ∧ True).1)
  clear hn hr hcp hc hl hB
  go_enter Try.func5, Try.ntmps5
  go_wp2_with fail
  go_at_call 8
  with_reducible refine Calls.mono HFAR.out ?_
  rintro e w1 ⟨b, rfl, hb, hd⟩
  cases b with
  | true =>
    have HD := Aside0.mk (show Below B w w1 by rw [HB.out]; exact hd.below)
    have HS := Aside0.mk (show B ≤ w1.heap.size by rw [HB.out]; exact hd.below.size)
    clear hb hd
    go_wp2_with (first | (go_at_call 9; (with_reducible refine Calls.mono (HALL.out _ True HD.out HS.out) ?_); rintro e w2 ⟨rfl, hb2⟩; have HB2 := Aside0.mk hb2; clear hb2))
    go_ret
    exact ⟨rfl, HB2.out⟩
  | false =>
    have HLN := Aside0.mk (hb rfl)
    have HD := Aside0.mk (show Below B w w1 by rw [HB.out]; exact hd.below)
    have HS := Aside0.mk (show B ≤ w1.heap.size by rw [HB.out]; exact hd.below.size)
    clear hb hd
    go_wp2_with fail
    go_at_call 8
    have hf : Calls Try.prog 8 #[.slice (some ⟨w1.heap.size, 0, none⟩) 1 1] (w1.alloc (.cells #[.string s] 9)) _ := far_calls _ [s] _ (rd_lit w1 [s] (by simp)) (by simp)
    with_reducible refine Calls.mono hf ?_
    clear hf
    rintro e w2 ⟨b, rfl, -, hd⟩
    have HD2 := Aside0.mk (show Below B w w2 from (HD.out.trans ((below_alloc (Below.refl _ _) _).mono HS.out)).trans (hd.below.mono (by have := HS.out; simp; omega)))
    have HS2 := Aside0.mk (show B ≤ w2.heap.size by have h0 := HS.out; have := hd.below.size; simp at this; omega)
    have HRW := Aside0.mk (show Rd w2 (.slice A n cp) l from ((HR.out.below (by rw [← HB.out]; exact HD2.out))))
    clear hd
    cases b with
    | true =>
      go_wp2_with (first | (go_at_call 9; (with_reducible refine Calls.mono (HALL.out _ True HD2.out HS2.out) ?_); rintro e w2 ⟨rfl, hb2⟩; have HB2 := Aside0.mk hb2; clear hb2))
      go_ret
      exact ⟨rfl, HB2.out⟩
    | false =>
      go_wp2_with fail
      go_at_call 10
      have hnw : Calls Try.prog 10 #[.slice A n cp] w2 (fun e W' => ∃ g, e = .returned (.pointer (some ⟨g, 0, none⟩)) ∧ w2.heap.size ≤ g ∧ St w B g l W' ∧ Below w2.heap.size w2 W') := by
        obtain ⟨A', c', e', hc', hr'⟩ := HRW.out
        injection e' with e1 e2 e3
        subst e1
        subst e3
        rw [Hn.out]
        exact St.new HD2.out HS2.out hr' (by have := HLN.out; omega)
      with_reducible refine Calls.mono hnw ?_
      clear hnw
      rintro e w3 ⟨g, rfl, -, h3, hb3⟩
      have H3 := Aside0.mk h3
      have HR3 := Aside0.mk (HRW.out.below hb3)
      have H3S := Aside0.mk (show w2.heap.size ≤ w3.heap.size from hb3.size)
      clear h3 hb3
      go_wp2_with fail
      go_at_call 11
      with_reducible refine Calls.mono (drop_calls w B g l c s w3 H3.out HC.out (by have := HLN.out; have := Hn.out; omega)) ?_
      rintro e w4 ⟨rfl, h4⟩
      have H4 := Aside0.mk h4
      have HR4 := Aside0.mk (show Rd w4 (.slice A n cp) l from HR.out.below (by rw [← HB.out]; exact H4.out.out))
      have HN4 := Aside0.mk (show (dropL l c s).1.length + (dropL l c s).2 = n by rw [Hn.out]; exact dropL_len l c s)
      have HO4 := Aside0.mk (dropL_oth l c s)
      have HC4 := Aside0.mk (dropL_cnt l c s)
      clear h4
      obtain ⟨m, hm⟩ : ∃ m, m = (dropL l c s).2 := ⟨_, rfl⟩
      obtain ⟨L, hL⟩ : ∃ L, L = (dropL l c s).1 := ⟨_, rfl⟩
      rw [← hm] at HN4 HC4 ⊢
      rw [← hL] at HN4 HO4 H4
      clear hm hL
      have hn9 : (n : Int) ≤ 200 := by have := HLN.out; have := Hn.out; omega
      obtain ⟨C, hC⟩ : ∃ C, C = w4.heap.size := ⟨_, rfl⟩
      have HC9 := Aside0.mk hC
      clear hC
      go_wp2_with fail
      go_loopw [9, 11, 33] (fun v9 v11 v33 wr => ∃ k : Nat, k ≤ n ∧ v33 = .int .i64 k ∧ v11 = .int .i64 ((cntS s (l.take k) : Nat) : Int) ∧ wr.ownsRow C 9 1 v9 (oth s (l.take k)).length (encs Value.string (oth s (l.take k))) ∧ Below C w4 wr) (fun _ _ v33 _ => n - (intOf v33).toNat)
      case atStart => exact ⟨0, Nat.zero_le _, rfl, rfl, own_nil _ _ _ _, Below.refl _ _⟩
      case round =>
        obtain ⟨k, hkn, rfl, rfl, hown, hbr⟩ := hrel
        obtain ⟨Ao, co, e9⟩ := own_slice hown
        subst e9
        have hCs : C ≤ wr.heap.size := by rw [HC9.out] at hbr ⊢; exact hbr.size
        by_cases hlt : k < n
        · have e1 : decide ((k : Int) < (n : Int)) = true := decide_eq_true (by omega)
          have e2 : decide (k < n) = true := decide_eq_true hlt
          obtain ⟨Al, cl, el, hcl, hrl⟩ := HR4.out.below (w1 := wr) (by rw [← HC9.out]; exact hbr)
          injection el with el1 el2 el3
          subst el1
          have hkl : k < l.length := by rw [← Hn.out]; exact hlt
          obtain ⟨adl, rfl, hcl2⟩ := hrl.2.2 (by omega)
          have xl := hcl2 k hkl
          obtain ⟨x, hx⟩ : ∃ x, x = l.getD k ByteArray.empty := ⟨_, rfl⟩
          rw [← hx] at xl
          have htk : l.take (k + 1) = l.take k ++ [x] := by
            rw [List.take_add_one, List.getElem?_eq_getElem hkl]
            rw [hx, List.getD_eq_getElem?_getD, List.getElem?_eq_getElem hkl]
            rfl
          have ho := oth_append s (l.take k) [x]
          have hc := cnt_append s (l.take k) [x]
          rw [← htk] at ho hc
          have hcle := cnt_len s (l.take k)
          have hole := oth_len s (l.take k)
          rw [List.length_take] at hcle hole
          have hc9 : ((cntS s (l.take k) : Nat) : Int) ≤ 200 := by omega
          obtain ⟨q, hq⟩ : ∃ q, q = cntS s (l.take k) := ⟨_, rfl⟩
          obtain ⟨O, hO⟩ : ∃ O, O = oth s (l.take k) := ⟨_, rfl⟩
          rw [← hq] at hc hc9 ⊢
          rw [← hO] at ho hown hole ⊢
          have i0 : (0 : Int) ≤ (k : Int) := Int.natCast_nonneg _
          have i1 : (k : Int) < (n : Int) := by omega
          have i2 := eq_true i1
          have HOWN := Aside0.mk hown
          have HBR := Aside0.mk hbr
          have HCS := Aside0.mk hCs
          have Hlt := Aside0.mk hlt
          have HOC := Aside0.mk ho
          have HCC := Aside0.mk hc
          have HOL := Aside0.mk (show O.length ≤ 200 by omega)
          clear hown hbr hCs hlt ho hc hcl hrl hcl2 htk hkl hx hq hO hole hcle el2 el3
          by_cases hxs : x = s
          · have f1 : (x.toList == s.toList) = true := by rw [hxs]; exact beq_self_eq_true _
            have HX := Aside0.mk hxs
            clear hxs
            go_wp2
            go_roundw
            case rel =>
              refine ⟨k + 1, by have := Hlt.out; omega, by simp, ?_, ?_, HBR.out⟩
              · rw [HCC.out]
                show _ = Value.int .i64 ((q + (if x = s then 0 + 1 else 0) : Nat) : Int)
                rw [if_pos HX.out]
                simp
              · rw [HOC.out]
                show wr.ownsRow C 9 1 _ (O ++ (if x = s then [] else [x])).length (encs Value.string (O ++ (if x = s then [] else [x])))
                rw [if_pos HX.out, List.append_nil]
                exact HOWN.out
            case measure => have := Hlt.out; simp [intOf]; omega
          · have f1 : (x.toList == s.toList) = false := beq_eq_false_iff_ne.mpr (fun h => hxs (Go.Proofs.Ytbficlkjlhigjaa.Y.ba_eq h))
            have HX := Aside0.mk hxs
            clear hxs
            go_wp2_with (first | (at_builtin; refine wp_app rfl (.tmp 42) (.tmp 44) (by rfl) w4 C (.slice Ao O.length co) O [x] (some ⟨wr.heap.size, 0, none⟩) 1 1 (by rfl) (by rfl) (HOWN.out.alloc _) (reads_one wr x) (HBR.out.alloc HCS.out _) (by have := HCS.out; simp; omega) (by have := HOL.out; omega) ?_; intro va wa hOa hBa hsa; have HOa := Aside0.mk hOa; have HBa := Aside0.mk hBa; clear hOa hBa hsa))
            go_roundw
            case rel =>
              refine ⟨k + 1, by have := Hlt.out; omega, by simp, ?_, ?_, HBa.out⟩
              · rw [HCC.out]
                show _ = Value.int .i64 ((q + (if x = s then 0 + 1 else 0) : Nat) : Int)
                rw [if_neg HX.out]
                simp
              · rw [HOC.out]
                show wa.ownsRow C 9 1 _ (O ++ (if x = s then [] else [x])).length (encs Value.string (O ++ (if x = s then [] else [x])))
                rw [if_neg HX.out]
                exact HOa.out
            case measure => have := Hlt.out; simp [intOf]; omega
        · have e1 : decide ((k : Int) < (n : Int)) = false := decide_eq_false (by omega)
          have e2 : decide (k < n) = false := decide_eq_false hlt
          have htk : l.take k = l := by rw [List.take_of_length_le]; have := Hn.out; omega
          rw [htk] at hown ⊢
          have HA := Aside0.mk (rd_of_own hown)
          have HCNT := Aside0.mk (cnt_len s l)
          have HST := Aside0.mk (H4.out.below (by rw [← HC9.out]; exact hbr))
          have HOA := Aside0.mk (oth_len s l)
          obtain ⟨a, ha⟩ : ∃ a, a = cntS s l := ⟨_, rfl⟩
          rw [← ha] at HC4 HCNT ⊢
          have ha9 : (a : Int) ≤ 200 := by have := HCNT.out; have := Hn.out; omega
          clear hlt hown hbr htk hCs ha hkn
          go_wp2_with fail
          go_at_call 14
          with_reducible refine Calls.mono HST.out.all ?_
          rintro e w6 ⟨v6, rfl, hr6, hb6, -⟩
          have H6 := Aside0.mk (HST.out.below hb6)
          have HA6 := Aside0.mk (HA.out.below hb6)
          have HR6 := Aside0.mk hr6
          obtain ⟨A6, c6, e6, hcl6, hrl6⟩ := hr6
          subst e6
          obtain ⟨p, hp⟩ : ∃ p, p = L.length := ⟨_, rfl⟩
          rw [← hp] at HR6 HN4 ⊢
          have Hp := Aside0.mk hp
          have hp9 : (p : Int) ≤ 200 := by have := HN4.out; omega
          clear hb6 hcl6 hrl6 hp e1 e2
          go_wp2_with fail
          obtain ⟨wr1, hw1⟩ : ∃ W, W = wr := ⟨_, rfl⟩
          subst hw1
          go_loopw [10, 50] (fun v10 v50 wr => ∃ k2 : Nat, k2 ≤ p ∧ v50 = .int .i64 k2 ∧ wr.ownsRow w6.heap.size 9 1 v10 (oth s (L.take k2)).length (encs Value.string (oth s (L.take k2))) ∧ Below w6.heap.size w6 wr) (fun _ v50 _ => p - (intOf v50).toNat)
          case atStart => exact ⟨0, Nat.zero_le _, rfl, own_nil _ _ _ _, Below.refl _ _⟩
          case round =>
            obtain ⟨k2, hkn, rfl, hown, hbr⟩ := hrel
            obtain ⟨Ao, co, e9⟩ := own_slice hown
            subst e9
            have hCs := hbr.size
            by_cases hlt : k2 < p
            · have e1 : decide ((k2 : Int) < (p : Int)) = true := decide_eq_true (by omega)
              have e2 : decide (k2 < p) = true := decide_eq_true hlt
              obtain ⟨Al, cl, el, hcl, hrl⟩ := HR6.out.below hbr
              injection el with el1 el2 el3
              subst el1
              have hkl : k2 < L.length := by rw [← Hp.out]; exact hlt
              obtain ⟨adl, rfl, hcl2⟩ := hrl.2.2 (by omega)
              have xl := hcl2 k2 hkl
              obtain ⟨x, hx⟩ : ∃ x, x = L.getD k2 ByteArray.empty := ⟨_, rfl⟩
              rw [← hx] at xl
              have htk : L.take (k2 + 1) = L.take k2 ++ [x] := by
                rw [List.take_add_one, List.getElem?_eq_getElem hkl]
                rw [hx, List.getD_eq_getElem?_getD, List.getElem?_eq_getElem hkl]
                rfl
              have ho := oth_append s (L.take k2) [x]
              rw [← htk] at ho
              have hole := oth_len s (L.take k2)
              rw [List.length_take] at hole
              obtain ⟨O, hO⟩ : ∃ O, O = oth s (L.take k2) := ⟨_, rfl⟩
              rw [← hO] at ho hown hole ⊢
              have i0 : (0 : Int) ≤ (k2 : Int) := Int.natCast_nonneg _
              have i1 : (k2 : Int) < (p : Int) := by omega
              have i2 := eq_true i1
              have HOWN := Aside0.mk hown
              have HBR := Aside0.mk hbr
              have HCS := Aside0.mk hCs
              have Hlt := Aside0.mk hlt
              have HOC := Aside0.mk ho
              have HOL := Aside0.mk (show O.length ≤ 200 by omega)
              clear hown hbr hCs hlt ho hcl hrl hcl2 htk hkl hx hO hole el2 el3
              by_cases hxs : x = s
              · have f1 : (x.toList != s.toList) = false := by rw [hxs]; simp
                have f2 : (x.toList == s.toList) = true := by rw [hxs]; exact beq_self_eq_true _
                have HX := Aside0.mk hxs
                clear hxs
                go_wp2
                go_roundw
                case rel =>
                  refine ⟨k2 + 1, by have := Hlt.out; omega, by simp, ?_, HBR.out⟩
                  rw [HOC.out]
                  show wr.ownsRow w6.heap.size 9 1 _ (O ++ (if x = s then [] else [x])).length (encs Value.string (O ++ (if x = s then [] else [x])))
                  rw [if_pos HX.out, List.append_nil]
                  exact HOWN.out
                case measure => have := Hlt.out; simp [intOf]; omega
              · have f2 : (x.toList == s.toList) = false := beq_eq_false_iff_ne.mpr (fun h => hxs (Go.Proofs.Ytbficlkjlhigjaa.Y.ba_eq h))
                have f1 : (x.toList != s.toList) = true := by rw [bne, f2]; rfl
                have HX := Aside0.mk hxs
                clear hxs
                go_wp2_with (first | (at_builtin; refine wp_app rfl (.tmp 57) (.tmp 59) (by rfl) w6 w6.heap.size (.slice Ao O.length co) O [x] (some ⟨wr.heap.size, 0, none⟩) 1 1 (by rfl) (by rfl) (HOWN.out.alloc _) (reads_one wr x) (HBR.out.alloc HCS.out _) (by have := HCS.out; simp; omega) (by have := HOL.out; omega) ?_; intro va wa hOa hBa hsa; have HOa := Aside0.mk hOa; have HBa := Aside0.mk hBa; clear hOa hBa hsa))
                go_roundw
                case rel =>
                  refine ⟨k2 + 1, by have := Hlt.out; omega, by simp, ?_, HBa.out⟩
                  rw [HOC.out]
                  show wa.ownsRow w6.heap.size 9 1 _ (O ++ (if x = s then [] else [x])).length (encs Value.string (O ++ (if x = s then [] else [x])))
                  rw [if_neg HX.out]
                  exact HOa.out
                case measure => have := Hlt.out; simp [intOf]; omega
            · have e1 : decide ((k2 : Int) < (p : Int)) = false := decide_eq_false (by omega)
              have e2 : decide (k2 < p) = false := decide_eq_false hlt
              have htk : L.take k2 = L := by rw [List.take_of_length_le]; have := Hp.out; omega
              rw [htk, HO4.out] at hown ⊢
              have HQ := Aside0.mk (rd_of_own hown)
              have HA9 := Aside0.mk (HA6.out.below hbr)
              have HS9 := Aside0.mk (H6.out.below hbr)
              have HLEN := Aside0.mk HS9.out.len
              rw [← Hp.out] at HLEN
              have hCs := hbr.size
              have F : ((decide (0 < c) = true ∧ decide (c < (a : Int)) = true ∧ decide (c < 0) = false ∧ ((m : Int) == c) = true) ∨ (decide (0 < c) = true ∧ decide (c < (a : Int)) = false ∧ decide (c < 0) = false ∧ ((m : Int) == (a : Int)) = true)) ∨ (decide (0 < c) = false ∧ decide (c < 0) = false ∧ ((m : Int) == (a : Int)) = true) ∨ (decide (0 < c) = false ∧ decide (c < 0) = true ∧ decide (-(a : Int) < c) = true ∧ ((m : Int) == -c) = true ∧ IntKind.i64.wrap (-c) = -c) ∨ (decide (0 < c) = false ∧ decide (c < 0) = true ∧ decide (-(a : Int) < c) = false ∧ ((m : Int) == (a : Int)) = true) := by
                have h := HC4.out
                simp only [decide_eq_true_eq, decide_eq_false_iff_not, beq_iff_eq, IntKind.wrap_i64]
                split at h <;> omega
              have hwa : IntKind.i64.wrap (-(a : Int)) = -(a : Int) := by rw [IntKind.wrap_i64]; omega
              have hw9 : IntKind.i64.wrap ((n : Int) - (m : Int)) = (n : Int) - (m : Int) := by have := HN4.out; rw [IntKind.wrap_i64]; omega
              have heq : ((p : Int) == (n : Int) - (m : Int)) = true := beq_iff_eq.2 (by have := HN4.out; omega)
              clear hlt hown hbr htk hCs hkn
              have HALW := Aside0.mk (alive_calls)
              rcases F with (⟨f1, f2, f3, f4⟩ | ⟨f1, f2, f3, f4⟩) | ⟨f1, f2, f4⟩ | ⟨f1, f2, f3, f4, f5⟩ | ⟨f1, f2, f3, f4⟩
              all_goals
                go_wp2_with fail
                go_at_call 13
                with_reducible refine Calls.mono (rsame_calls _ _ (oth s l) _ HA9.out HQ.out (by have := HOA.out; have := Hn.out; omega)) ?_
                rintro e w8 ⟨rfl, hw8⟩
                have H8 := Aside0.mk (HS9.out.below hw8.below)
                have HLEN8 := Aside0.mk H8.out.len
                rw [← Hp.out] at HLEN8
                clear hw8
                go_wp2_with (first | (go_at_call 17; (with_reducible refine Calls.mono HLEN8.out ?_); rintro e w' ⟨rfl, rfl⟩) | (go_at_call 9; (with_reducible refine Calls.mono (HALL.out _ True H8.out.out H8.out.size) ?_); rintro e w8 ⟨rfl, hb8⟩; have HB8 := Aside0.mk hb8; clear hb8))
                go_ret
                exact ⟨rfl, HB8.out⟩
end Go.Proofs.Ytbficlkjlhigjaa.Dq
namespace Go.Proofs.Ytbficlkjlhigjaa.X
set_option linter.unusedVariables false
open Go.RowKit Go.Proofs.YtbficlkjlhigjaaW.PrintWords Go.Proofs.YtbficlkjlhigjaaW.PrintMore Go.Proofs.YtbficlkjlhigjaaW.PrintLast Go.Proofs.Ytbficlkjlhigjaa.Dq
theorem mewslaw21_ListParts.calls (k : Nat) (A0 : Option Addr) (c0 : Nat) (l0 : List ByteArray) (a1 : Int) (a2 : ByteArray) (r : Bool) (w : World) (hr0 : Kd.C Kd.string w A0 l0.length l0) (hc0 : l0.length ≤ c0) (hr_ : Aside0 (r = true)) (h : mewslaw21_ListParts.f k l0 a1 a2 = some r) :
    Calls Try.prog 5 #[.slice A0 l0.length c0, .int .i64 a1, .string a2] w fun e w' => e = .returned (.bool r) ∧ Below w.heap.size w w' := by
  have hbd : BdL l0 a1 := by
    unfold mewslaw21_ListParts.f at h
    by_cases q : BdL l0 a1
    · exact q
    · rw [if_neg q] at h; cases h
  rw [hr_.out]
  exact parts_calls A0 c0 l0 a1 a2 w (readsOf_of_C hr0) hc0 hbd.1 hbd.2
end Go.Proofs.Ytbficlkjlhigjaa.X
