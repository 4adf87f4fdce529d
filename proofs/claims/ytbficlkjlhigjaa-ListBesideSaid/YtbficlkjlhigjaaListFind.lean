/- The contract of list.Find, walked by hand. -/
import Derived.Test.YtbficlkjlhigjaaListDrop
namespace Go.Proofs.Ytbficlkjlhigjaa.Dq
open Go.RowKit Go.Proofs.YtbficlkjlhigjaaW.PrintWords Go.Proofs.YtbficlkjlhigjaaW.PrintMore Go.Proofs.YtbficlkjlhigjaaW.PrintLast Go.Proofs.Ytbficlkjlhigjaa.X Go.Proofs.Ytbficlkjlhigjaa.Y
set_option linter.unusedVariables false
set_option linter.unusedSimpArgs false
attribute [local go_sem ↓] Go.wp_at_zero Go.wp_at_succ
/-- Does the search end ahead of a place? -/
def stopF (cnt most : Int) (i m : Nat) : Bool := (decide (0 < most) && decide (most ≤ (i : Int))) || (decide (0 < cnt) && decide (cnt ≤ (m : Int)))
/-- Where texts are found, from a place on: the list is read from the end that is meant. -/
def findG (s : ByteArray) (R : Nat) (cnt most : Int) : List ByteArray → Nat → Nat → List Nat → List Nat
  | [], _, _, out => out
  | x :: xs, i, met, out => if stopF cnt most i out.length = true then out else if x = s then (if R ≤ met + 1 then findG s R cnt most xs (i + 1) (met + 1) (out ++ [i]) else findG s R cnt most xs (i + 1) (met + 1) out) else findG s R cnt most xs (i + 1) met out
def findL (l : List ByteArray) (s : ByteArray) (rank cnt most : Int) : List Int :=
  if rank = 0 ∨ cnt < 0 ∨ most < 0 then [] else (findG s rank.natAbs cnt most (tl (decide (rank < 0)) l) 0 0 []).map fun i => ((tidx (decide (rank < 0)) l.length i : Nat) : Int)
def atL (rank : Int) (n : Nat) (out : List Nat) : List Int := out.map fun i => ((tidx (decide (rank < 0)) n i : Nat) : Int)
theorem atL_len (rank : Int) (n : Nat) (out : List Nat) : (atL rank n out).length = out.length := by simp [atL]
theorem atL_snoc (rank : Int) (n : Nat) (out : List Nat) (i : Nat) : atL rank n (out ++ [i]) = atL rank n out ++ [((tidx (decide (rank < 0)) n i : Nat) : Int)] := by simp [atL]
def RelF (w : World) (l : List ByteArray) (s : ByteArray) (R : Nat) (rank cnt most : Int) (q : Nat) (v11 v12 v30 : Value) (wr : World) : Prop :=
  ∃ (i met : Nat) (out : List Nat) (pre xs : List ByteArray), v30 = .int .i64 (i : Int) ∧ v12 = .int .u64 (met : Int) ∧ q = xs.length ∧ tl (decide (rank < 0)) l = pre ++ xs ∧ pre.length = i ∧ met ≤ i ∧ out.length ≤ i ∧
    wr.ownsRow w.heap.size 3 1 v11 (atL rank l.length out).length (nums .i64 (atL rank l.length out)) ∧ Below w.heap.size w wr ∧
    findG s R cnt most (tl (decide (rank < 0)) l) 0 0 [] = findG s R cnt most xs i met out
theorem find_bad (g : Nat) (s : ByteArray) (rank cnt most : Int) (w : World) (h : rank = 0 ∨ cnt < 0 ∨ most < 0) :
    Calls Try.prog 15 #[.pointer (some ⟨g, 0, none⟩), .string s, .int .i64 rank, .int .i64 cnt, .int .i64 most] w fun e w' => e = .returned (.slice none 0 0) ∧ w = w' := by
  by_cases c1 : rank = 0
  · have d1 : (rank == 0) = true := beq_iff_eq.mpr c1
    clear c1 h
    go_enter Try.func15, Try.ntmps15
    go_wp2
    go_ret
    exact ⟨rfl, rfl⟩
  · have d1 : (rank == 0) = false := beq_eq_false_iff_ne.mpr c1
    by_cases c2 : cnt < 0
    · have d2 : decide (cnt < 0) = true := decide_eq_true c2
      clear c1 c2 h
      go_enter Try.func15, Try.ntmps15
      go_wp2
      go_ret
      exact ⟨rfl, rfl⟩
    · have d2 : decide (cnt < 0) = false := decide_eq_false c2
      have d3 : decide (most < 0) = true := decide_eq_true (by omega)
      clear c1 c2 h
      go_enter Try.func15, Try.ntmps15
      go_wp2
      go_ret
      exact ⟨rfl, rfl⟩
set_option maxHeartbeats 40000000 in
set_option maxRecDepth 100000 in
theorem find_good (w0 : World) (B g : Nat) (l : List ByteArray) (s : ByteArray) (rank cnt most : Int) (w : World) (h : St w0 B g l w) (hk : -9223372036854775808 ≤ rank ∧ rank ≤ 9223372036854775807) (h1 : ¬ rank = 0) (h2 : ¬ cnt < 0) (h3 : ¬ most < 0) (hl : l.length ≤ 1000000) :
    Calls Try.prog 15 #[.pointer (some ⟨g, 0, none⟩), .string s, .int .i64 rank, .int .i64 cnt, .int .i64 most] w fun e w' => ∃ v, e = .returned v ∧ w'.ownsRow w.heap.size 3 1 v (findL l s rank cnt most).length (nums .i64 (findL l s rank cnt most)) ∧ Below w.heap.size w w' := by
  have hfl : findL l s rank cnt most = atL rank l.length (findG s rank.natAbs cnt most (tl (decide (rank < 0)) l) 0 0 []) := by
    unfold findL atL
    rw [if_neg (by omega)]
  rw [hfl]
  have HZ := Aside0.mk (fun (W : World) => size_calls rank W hk)
  have HS := Aside0.mk h
  have HLEN := Aside0.mk h.len
  have d1 : (rank == 0) = false := beq_eq_false_iff_ne.mpr h1
  have d2 : decide (cnt < 0) = false := decide_eq_false h2
  have d3 : decide (most < 0) = false := decide_eq_false h3
  obtain ⟨R, hR⟩ : ∃ R, R = rank.natAbs := ⟨_, rfl⟩
  rw [← hR] at HZ ⊢
  obtain ⟨n, hn⟩ : ∃ n, n = l.length := ⟨_, rfl⟩
  rw [← hn] at HLEN
  have Hn := Aside0.mk hn
  have HL := Aside0.mk hl
  have hn9 : (n : Int) ≤ 1000000 := by omega
  clear h hfl h1 h2 h3 hR hn hl hk
  go_enter Try.func15, Try.ntmps15
  go_wp2_with (first | (go_at_call 17; (with_reducible refine Calls.mono HLEN.out ?_); rintro e w' ⟨rfl, rfl⟩))
  go_loopg [11, 12, 30] l.length (fun q v11 v12 v30 wr => RelF w l s R rank cnt most q v11 v12 v30 wr)
  case atStart => exact ⟨0, 0, [], [], tl (decide (rank < 0)) l, rfl, rfl, (tl_len _ _).symm, rfl, rfl, Nat.le_refl _, Nat.le_refl _, own_nil _ _ _ _, Below.refl _ _, rfl⟩
  case round =>
    obtain ⟨i, met, out, pre, xs, rfl, rfl, hq, htl, hpi, hmi, hoi, hown, hB, hfg⟩ := hrel
    have hlpp : l.length = pre.length + xs.length := by rw [← tl_len (decide (rank < 0)) l, htl, List.length_append]
    obtain ⟨Ao, co, e11⟩ := own_slice hown
    subst e11
    rw [atL_len] at hown ⊢
    have HST := HS.out.below hB
    cases xs with
    | nil =>
      have c1 : decide ((i : Int) < (n : Int)) = false := decide_eq_false (by have := Hn.out; simp at hlpp; omega)
      have c2 : decide (i < n) = false := decide_eq_false (by have := Hn.out; simp at hlpp; omega)
      have HO := Aside0.mk hown
      have HB := Aside0.mk hB
      have HF := Aside0.mk (show findG s R cnt most (tl (decide (rank < 0)) l) 0 0 [] = out from hfg)
      clear hown hB hfg htl hpi hq hlpp HST
      go_wp2
      go_ret
      rw [HF.out]
      exact ⟨_, rfl, by rw [atL_len]; exact HO.out, HB.out⟩
    | cons x xs =>
      have hlt : i < l.length := by simp at hlpp; omega
      have c1 : decide ((i : Int) < (n : Int)) = true := decide_eq_true (by have := Hn.out; omega)
      have c2 : decide (i < n) = true := decide_eq_true (by have := Hn.out; omega)
      by_cases hstop : stopF cnt most i out.length = true
      · have HF := Aside0.mk (show findG s R cnt most (tl (decide (rank < 0)) l) 0 0 [] = out by rw [hfg]; show (if stopF cnt most i out.length = true then out else _) = out; rw [if_pos hstop])
        have HO := Aside0.mk hown
        have HB := Aside0.mk hB
        have F : (decide (0 < most) = true ∧ decide (most ≤ (i : Int)) = true) ∨ (decide (0 < most) = false ∧ decide (0 < cnt) = true ∧ decide (cnt ≤ (out.length : Int)) = true) ∨ (decide (0 < most) = true ∧ decide (most ≤ (i : Int)) = false ∧ decide (0 < cnt) = true ∧ decide (cnt ≤ (out.length : Int)) = true) := by
          unfold stopF at hstop
          simp only [Bool.or_eq_true, Bool.and_eq_true, decide_eq_true_eq, decide_eq_false_iff_not] at hstop ⊢
          omega
        clear hown hB hfg htl hpi hq hlpp HST hstop hlt
        rcases F with ⟨f1, f2⟩ | ⟨f1, f3, f4⟩ | ⟨f1, f2, f3, f4⟩
        all_goals
          go_wp2
          go_ret
          rw [HF.out]
          exact ⟨_, rfl, by rw [atL_len]; exact HO.out, HB.out⟩
      · have hnx : findG s R cnt most (tl (decide (rank < 0)) l) 0 0 [] = (if x = s then (if R ≤ met + 1 then findG s R cnt most xs (i + 1) (met + 1) (out ++ [i]) else findG s R cnt most xs (i + 1) (met + 1) out) else findG s R cnt most xs (i + 1) met out) := by
          rw [hfg]
          show (if stopF cnt most i out.length = true then out else _) = _
          rw [if_neg hstop]
        have F1 : (decide (0 < most) = false) ∨ (decide (0 < most) = true ∧ decide (most ≤ (i : Int)) = false) := by
          unfold stopF at hstop
          simp only [Bool.or_eq_true, Bool.and_eq_true, decide_eq_true_eq, decide_eq_false_iff_not] at hstop ⊢
          omega
        have F2 : (decide (0 < cnt) = false) ∨ (decide (0 < cnt) = true ∧ decide (cnt ≤ (out.length : Int)) = false) := by
          unfold stopF at hstop
          simp only [Bool.or_eq_true, Bool.and_eq_true, decide_eq_true_eq, decide_eq_false_iff_not] at hstop ⊢
          omega
        have htx := tidx_lt (decide (rank < 0)) l.length i hlt
        have hget := tl_get (decide (rank < 0)) l i hlt
        rw [htl, ← hpi, List.getElem?_append_right (Nat.le_refl _), Nat.sub_self, hpi] at hget
        have hsn := atL_snoc rank l.length out i
        obtain ⟨t, ht⟩ : ∃ t, t = tidx (decide (rank < 0)) l.length i := ⟨_, rfl⟩
        rw [← ht] at htx hget hsn
        have hx : l.getD t ByteArray.empty = x := by
          rw [List.getD_eq_getElem?_getD, ← hget]
          rfl
        have p1 : placeI l.length (t : Int) = (t : Int) := by unfold placeI; rw [if_neg (by omega)]
        have o1 : okI l.length (t : Int) = true := by unfold okI; rw [p1]; simp; exact htx
        have hL9 := HL.out
        have hcA := fun W (h : St w0 B g l W) => h.at_ (t : Int) ⟨by omega, by omega⟩
        simp only [o1, if_true, p1, Int.toNat_natCast, hx] at hcA
        have hap : tl (decide (rank < 0)) l = (pre ++ [x]) ++ xs := by rw [htl]; simp
        have hpl : (pre ++ [x]).length = i + 1 := by rw [List.length_append, hpi]; rfl
        have hql : xs.length < gk := by rw [hq]; simp
        obtain ⟨T, hT⟩ : ∃ T : Int, T = (t : Int) := ⟨_, rfl⟩
        have hTn : T ≤ 1000000 ∧ 0 ≤ T := by have := HL.out; omega
        rw [← hT] at hcA hsn
        have hTe : T = if rank < 0 then (n : Int) - 1 - (i : Int) else (i : Int) := by
          rw [hT, ht, Hn.out]
          by_cases hr : rank < 0
          · rw [if_pos hr, decide_eq_true hr]; simp [tidx]; omega
          · rw [if_neg hr, decide_eq_false hr]; simp [tidx]
        have HO := Aside0.mk hown
        have HB := Aside0.mk hB
        have HCA := Aside0.mk hcA
        have HNX := Aside0.mk hnx
        have HSN := Aside0.mk hsn
        have HAP := Aside0.mk hap
        have HPL := Aside0.mk hpl
        have HQL := Aside0.mk hql
        have HSTW := Aside0.mk HST
        have HLW := Aside0.mk (HST.len)
        rw [← Hn.out] at HLW
        have HMI := Aside0.mk hmi
        have HOI := Aside0.mk hoi
        have HLT := Aside0.mk hlt
        have hi9 : (i : Int) ≤ 1000000 := by have := HL.out; omega
        have hi8 : (i : Int) < (n : Int) := by have := Hn.out; omega
        have hm9 : (met : Int) ≤ 1000000 := by omega
        have hwu : IntKind.u64.wrap ((met : Int) + 1) = (met : Int) + 1 := by rw [IntKind.wrap_u64]; omega
        have HTn := Aside0.mk hTn
        clear hL9 hown hB hfg htl hpi hq hlpp HST hstop hlt hget htx hsn hx p1 o1 hcA hap hpl hql hnx hT ht hmi hoi hTn
        by_cases hr : rank < 0
        · have g1 : decide (rank < 0) = true := decide_eq_true hr
          rw [if_pos hr] at hTe
          subst hTe
          clear hr
          by_cases hxs : x = s
          · subst hxs
            have HNX2 : Aside0 (findG x R cnt most (tl (decide (rank < 0)) l) 0 0 [] = (if R ≤ met + 1 then findG x R cnt most xs (i + 1) (met + 1) (out ++ [i]) else findG x R cnt most xs (i + 1) (met + 1) out)) := ⟨by have := HNX.out; rw [if_pos rfl] at this; exact this⟩
            by_cases hR : R ≤ met + 1
            · have f5 : decide ((R : Int) ≤ (met : Int) + 1) = true := decide_eq_true (by omega)
              have f6 : decide (R ≤ met + 1) = true := decide_eq_true hR
              have HNX3 := Aside0.mk (show findG x R cnt most (tl (decide (rank < 0)) l) 0 0 [] = findG x R cnt most xs (i + 1) (met + 1) (out ++ [i]) by have := HNX2.out; rw [if_pos hR] at this; exact this)
              clear hR
              rcases F1 with f1 | ⟨f1, f2⟩ <;> rcases F2 with f3 | ⟨f3, f4⟩
              all_goals
                go_wp2_with (first | (go_at_call 17; (with_reducible refine Calls.mono HLW.out ?_); rintro e w' ⟨rfl, rfl⟩) | (go_at_call 27; (with_reducible refine Calls.mono (HCA.out _ HSTW.out) ?_); rintro e w5 ⟨rfl, hb5⟩; have HO5 := Aside0.mk (pw_own_below HO.out hb5); have HB5 := Aside0.mk (HB.out.trans (hb5.mono HB.out.size)); have hs5 := HB5.out.size; clear hb5) | (go_at_call 26; (with_reducible refine Calls.mono (HZ.out _) ?_); rintro e w6 ⟨rfl, ⟨nd, rfl⟩⟩) | (at_builtin; refine print_append_num w.heap.size rfl (.tmp 73) (.tmp 75) 34 3 .i64 8 (by rfl) Try.underlying34 (by kernel_rfl) (by decide) (.slice Ao out.length co) (atL rank l.length out) _ (by rfl) (by rfl) (by rw [atL_len]; exact pw_own_below HO5.out (pw_below_drewN (Below.refl _ _) nd)) (pw_below_drewN HB5.out nd) hs5 (by rw [atL_len]; have := HOI.out; have := HL.out; omega) ?_; intro v7 w7 hO7 hB7 hg7 hat7; rw [← HSN.out] at hO7; have HO7 := Aside0.mk hO7; have HB7 := Aside0.mk hB7; clear hO7 hB7 hg7 hat7))
                go_roundg xs.length
                case measure => exact HQL.out
                case rel => exact ⟨i + 1, met + 1, out ++ [i], pre ++ [x], xs, by simp, by simp, rfl, HAP.out, HPL.out, by have := HMI.out; omega, by have := HOI.out; simp; omega, HO7.out, HB7.out, HNX3.out⟩
            · have f5 : decide ((R : Int) ≤ (met : Int) + 1) = false := decide_eq_false (by omega)
              have f6 : decide (R ≤ met + 1) = false := decide_eq_false hR
              have HNX3 := Aside0.mk (show findG x R cnt most (tl (decide (rank < 0)) l) 0 0 [] = findG x R cnt most xs (i + 1) (met + 1) out by have := HNX2.out; rw [if_neg hR] at this; exact this)
              clear hR
              rcases F1 with f1 | ⟨f1, f2⟩ <;> rcases F2 with f3 | ⟨f3, f4⟩
              all_goals
                go_wp2_with (first | (go_at_call 17; (with_reducible refine Calls.mono HLW.out ?_); rintro e w' ⟨rfl, rfl⟩) | (go_at_call 27; (with_reducible refine Calls.mono (HCA.out _ HSTW.out) ?_); rintro e w5 ⟨rfl, hb5⟩; have HO5 := Aside0.mk (pw_own_below HO.out hb5); have HB5 := Aside0.mk (HB.out.trans (hb5.mono HB.out.size)); clear hb5) | (go_at_call 26; (with_reducible refine Calls.mono (HZ.out _) ?_); rintro e w6 ⟨rfl, ⟨nd, rfl⟩⟩))
                go_roundg xs.length
                case measure => exact HQL.out
                case rel => exact ⟨i + 1, met + 1, out, pre ++ [x], xs, by simp, by simp, rfl, HAP.out, HPL.out, by have := HMI.out; omega, by have := HOI.out; omega, by rw [atL_len]; exact pw_own_below HO5.out (pw_below_drewN (Below.refl _ _) nd), pw_below_drewN HB5.out nd, HNX3.out⟩
          · have f7 : (x.toList == s.toList) = false := beq_eq_false_iff_ne.mpr (fun h => hxs (ba_eq h))
            have f8 : (x.toList != s.toList) = true := bne_iff_ne.mpr (fun h => hxs (ba_eq h))
            have HNX3 := Aside0.mk (show findG s R cnt most (tl (decide (rank < 0)) l) 0 0 [] = findG s R cnt most xs (i + 1) met out by have := HNX.out; rw [if_neg hxs] at this; exact this)
            clear hxs
            rcases F1 with f1 | ⟨f1, f2⟩ <;> rcases F2 with f3 | ⟨f3, f4⟩
            all_goals
              go_wp2_with (first | (go_at_call 17; (with_reducible refine Calls.mono HLW.out ?_); rintro e w' ⟨rfl, rfl⟩) | (go_at_call 27; (with_reducible refine Calls.mono (HCA.out _ HSTW.out) ?_); rintro e w5 ⟨rfl, hb5⟩; have HO5 := Aside0.mk (pw_own_below HO.out hb5); have HB5 := Aside0.mk (HB.out.trans (hb5.mono HB.out.size)); clear hb5))
              go_roundg xs.length
              case measure => exact HQL.out
              case rel => exact ⟨i + 1, met, out, pre ++ [x], xs, by simp, rfl, rfl, HAP.out, HPL.out, by have := HMI.out; omega, by have := HOI.out; omega, by rw [atL_len]; exact HO5.out, HB5.out, HNX3.out⟩
        · have g1 : decide (rank < 0) = false := decide_eq_false hr
          rw [if_neg hr] at hTe
          subst hTe
          clear hr
          by_cases hxs : x = s
          · subst hxs
            have HNX2 : Aside0 (findG x R cnt most (tl (decide (rank < 0)) l) 0 0 [] = (if R ≤ met + 1 then findG x R cnt most xs (i + 1) (met + 1) (out ++ [i]) else findG x R cnt most xs (i + 1) (met + 1) out)) := ⟨by have := HNX.out; rw [if_pos rfl] at this; exact this⟩
            by_cases hR : R ≤ met + 1
            · have f5 : decide ((R : Int) ≤ (met : Int) + 1) = true := decide_eq_true (by omega)
              have f6 : decide (R ≤ met + 1) = true := decide_eq_true hR
              have HNX3 := Aside0.mk (show findG x R cnt most (tl (decide (rank < 0)) l) 0 0 [] = findG x R cnt most xs (i + 1) (met + 1) (out ++ [i]) by have := HNX2.out; rw [if_pos hR] at this; exact this)
              clear hR
              rcases F1 with f1 | ⟨f1, f2⟩ <;> rcases F2 with f3 | ⟨f3, f4⟩
              all_goals
                go_wp2_with (first | (go_at_call 17; (with_reducible refine Calls.mono HLW.out ?_); rintro e w' ⟨rfl, rfl⟩) | (go_at_call 27; (with_reducible refine Calls.mono (HCA.out _ HSTW.out) ?_); rintro e w5 ⟨rfl, hb5⟩; have HO5 := Aside0.mk (pw_own_below HO.out hb5); have HB5 := Aside0.mk (HB.out.trans (hb5.mono HB.out.size)); have hs5 := HB5.out.size; clear hb5) | (go_at_call 26; (with_reducible refine Calls.mono (HZ.out _) ?_); rintro e w6 ⟨rfl, ⟨nd, rfl⟩⟩) | (at_builtin; refine print_append_num w.heap.size rfl (.tmp 73) (.tmp 75) 34 3 .i64 8 (by rfl) Try.underlying34 (by kernel_rfl) (by decide) (.slice Ao out.length co) (atL rank l.length out) _ (by rfl) (by rfl) (by rw [atL_len]; exact pw_own_below HO5.out (pw_below_drewN (Below.refl _ _) nd)) (pw_below_drewN HB5.out nd) hs5 (by rw [atL_len]; have := HOI.out; have := HL.out; omega) ?_; intro v7 w7 hO7 hB7 hg7 hat7; rw [← HSN.out] at hO7; have HO7 := Aside0.mk hO7; have HB7 := Aside0.mk hB7; clear hO7 hB7 hg7 hat7))
                go_roundg xs.length
                case measure => exact HQL.out
                case rel => exact ⟨i + 1, met + 1, out ++ [i], pre ++ [x], xs, by simp, by simp, rfl, HAP.out, HPL.out, by have := HMI.out; omega, by have := HOI.out; simp; omega, HO7.out, HB7.out, HNX3.out⟩
            · have f5 : decide ((R : Int) ≤ (met : Int) + 1) = false := decide_eq_false (by omega)
              have f6 : decide (R ≤ met + 1) = false := decide_eq_false hR
              have HNX3 := Aside0.mk (show findG x R cnt most (tl (decide (rank < 0)) l) 0 0 [] = findG x R cnt most xs (i + 1) (met + 1) out by have := HNX2.out; rw [if_neg hR] at this; exact this)
              clear hR
              rcases F1 with f1 | ⟨f1, f2⟩ <;> rcases F2 with f3 | ⟨f3, f4⟩
              all_goals
                go_wp2_with (first | (go_at_call 17; (with_reducible refine Calls.mono HLW.out ?_); rintro e w' ⟨rfl, rfl⟩) | (go_at_call 27; (with_reducible refine Calls.mono (HCA.out _ HSTW.out) ?_); rintro e w5 ⟨rfl, hb5⟩; have HO5 := Aside0.mk (pw_own_below HO.out hb5); have HB5 := Aside0.mk (HB.out.trans (hb5.mono HB.out.size)); clear hb5) | (go_at_call 26; (with_reducible refine Calls.mono (HZ.out _) ?_); rintro e w6 ⟨rfl, ⟨nd, rfl⟩⟩))
                go_roundg xs.length
                case measure => exact HQL.out
                case rel => exact ⟨i + 1, met + 1, out, pre ++ [x], xs, by simp, by simp, rfl, HAP.out, HPL.out, by have := HMI.out; omega, by have := HOI.out; omega, by rw [atL_len]; exact pw_own_below HO5.out (pw_below_drewN (Below.refl _ _) nd), pw_below_drewN HB5.out nd, HNX3.out⟩
          · have f7 : (x.toList == s.toList) = false := beq_eq_false_iff_ne.mpr (fun h => hxs (ba_eq h))
            have f8 : (x.toList != s.toList) = true := bne_iff_ne.mpr (fun h => hxs (ba_eq h))
            have HNX3 := Aside0.mk (show findG s R cnt most (tl (decide (rank < 0)) l) 0 0 [] = findG s R cnt most xs (i + 1) met out by have := HNX.out; rw [if_neg hxs] at this; exact this)
            clear hxs
            rcases F1 with f1 | ⟨f1, f2⟩ <;> rcases F2 with f3 | ⟨f3, f4⟩
            all_goals
              go_wp2_with (first | (go_at_call 17; (with_reducible refine Calls.mono HLW.out ?_); rintro e w' ⟨rfl, rfl⟩) | (go_at_call 27; (with_reducible refine Calls.mono (HCA.out _ HSTW.out) ?_); rintro e w5 ⟨rfl, hb5⟩; have HO5 := Aside0.mk (pw_own_below HO.out hb5); have HB5 := Aside0.mk (HB.out.trans (hb5.mono HB.out.size)); clear hb5))
              go_roundg xs.length
              case measure => exact HQL.out
              case rel => exact ⟨i + 1, met, out, pre ++ [x], xs, by simp, rfl, rfl, HAP.out, HPL.out, by have := HMI.out; omega, by have := HOI.out; omega, by rw [atL_len]; exact HO5.out, HB5.out, HNX3.out⟩
end Go.Proofs.Ytbficlkjlhigjaa.Dq
