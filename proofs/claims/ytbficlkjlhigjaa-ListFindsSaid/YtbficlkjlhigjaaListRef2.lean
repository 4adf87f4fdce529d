/- What the document's Find comes to: plain laws, then as a call. -/
import Derived.Test.YtbficlkjlhigjaaListRef
import Derived.Test.YtbficlkjlhigjaaListFind
import Derived.Test.YtbficlkjlhigjaaX4
namespace Go.Proofs.Ytbficlkjlhigjaa.Dq
open Go.RowKit Go.Proofs.YtbficlkjlhigjaaW.PrintWords Go.Proofs.YtbficlkjlhigjaaW.PrintMore Go.Proofs.YtbficlkjlhigjaaW.PrintLast Go.Proofs.Ytbficlkjlhigjaa.X Go.Proofs.Ytbficlkjlhigjaa.Y
set_option linter.unusedVariables false
set_option linter.unusedSimpArgs false
theorem findG_cnt (s : ByteArray) (R : Nat) (cnt most : Int) (xs : List ByteArray) (i met : Nat) (out : List Nat) (h : 0 < cnt ∧ cnt ≤ (out.length : Int)) : findG s R cnt most xs i met out = out := by
  cases xs with
  | nil => rfl
  | cons x xs =>
    show (if stopF cnt most i out.length = true then out else _) = out
    rw [if_pos (by unfold stopF; simp [h.1, h.2])]
theorem findG_mem (s : ByteArray) (R : Nat) (cnt most : Int) : ∀ (xs : List ByteArray) (i met : Nat) (out : List Nat) (j : Nat), j ∈ findG s R cnt most xs i met out → j ∈ out ∨ (i ≤ j ∧ xs[j - i]? = some s)
  | [], i, met, out, j, h => .inl h
  | x :: xs, i, met, out, j, h => by
    have up : (i + 1 ≤ j ∧ xs[j - (i + 1)]? = some s) → (i ≤ j ∧ (x :: xs)[j - i]? = some s) := by
      rintro ⟨h1, h2⟩
      refine ⟨by omega, ?_⟩
      rw [show j - i = (j - (i + 1)) + 1 by omega]
      exact h2
    unfold findG at h
    split at h
    · exact .inl h
    · split at h
      · rename_i hx
        split at h
        · rcases findG_mem s R cnt most xs _ _ _ j h with h | h
          · rcases List.mem_append.1 h with h | h
            · exact .inl h
            · obtain rfl : j = i := by simpa using h
              exact .inr ⟨Nat.le_refl _, by rw [Nat.sub_self]; exact congrArg some hx⟩
          · exact .inr (up h)
        · exact (findG_mem s R cnt most xs _ _ _ j h).imp id up
      · exact (findG_mem s R cnt most xs _ _ _ j h).imp id up
theorem findG_len (s : ByteArray) (R : Nat) (cnt most : Int) : ∀ (xs : List ByteArray) (i met : Nat) (out : List Nat), (findG s R cnt most xs i met out).length ≤ out.length + xs.length
  | [], i, met, out => Nat.le_refl _
  | x :: xs, i, met, out => by
    unfold findG
    split
    · omega
    · split
      · split
        · have := findG_len s R cnt most xs (i + 1) (met + 1) (out ++ [i])
          simp at this ⊢
          omega
        · have := findG_len s R cnt most xs (i + 1) (met + 1) out
          simp at this ⊢
          omega
      · have := findG_len s R cnt most xs (i + 1) met out
        simp at this ⊢
        omega
theorem findG_huge (s : ByteArray) (R : Nat) (cnt most : Int) : ∀ (xs : List ByteArray) (i met : Nat) (out : List Nat), met + xs.length < R → findG s R cnt most xs i met out = out
  | [], i, met, out, _ => rfl
  | x :: xs, i, met, out, h => by
    simp only [List.length_cons] at h
    unfold findG
    split
    · rfl
    · split
      · rw [if_neg (by omega)]
        exact findG_huge s R cnt most xs _ _ _ (by omega)
      · exact findG_huge s R cnt most xs _ _ _ (by omega)
def ints (l : List Nat) : List Int := l.map fun i : Nat => (i : Int)
theorem findl_ev (l : List ByteArray) (s : ByteArray) (rank cnt most : Int) (hl : l.length ≤ 1000000) (h1 : 0 < rank) (h2 : 0 ≤ cnt) (h3 : 0 ≤ most) : ∀ d i (met : Nat) (out : List Nat), i + d = l.length → out.length ≤ i → met ≤ i →
    Ev (fun q => mewsref21_Find.l1 q l s rank cnt most (ints out) (met : Int) (i : Int)) (ints (findG s rank.natAbs cnt most (l.drop i) i met out)) := by
  intro d
  induction d with
  | zero =>
    intro i met out hi ho hm
    obtain rfl : i = l.length := by omega
    rw [List.drop_length]
    refine ev_round ?_
    show Ev (fun q => if (l.length : Int) < (l.length : Int) then (if most = 0 then (mewsref21_Find.j3 q l s rank cnt most (ints out) (met : Int) (l.length : Int) true) else (mewsref21_Find.j3 q l s rank cnt most (ints out) (met : Int) (l.length : Int) (decide ((l.length : Int) < most)))) else (mewsref21_Find.j3 q l s rank cnt most (ints out) (met : Int) (l.length : Int) false)) _
    refine ev_neg (by omega) (ev_round ?_)
    show Ev (fun q => if false = true then (if 0 ≤ (l.length : Int) then (if (l.length : Int) < (l.length : Int) then (if (rdOf ByteArray.empty l (l.length : Int)).toList = s.toList then (if (wrap64 ((met : Int) + 1)) ≥ rank then (if cnt = 0 then (if (ints out).length < 17592186044416 then (mewsref21_Find.l1 q l s rank cnt most ((ints out) ++ [(l.length : Int)]) (wrap64 ((met : Int) + 1)) (wrap64 ((l.length : Int) + 1))) else (none)) else (if ((ints out).length : Int) < cnt then (if (ints out).length < 17592186044416 then (mewsref21_Find.l1 q l s rank cnt most ((ints out) ++ [(l.length : Int)]) (wrap64 ((met : Int) + 1)) (wrap64 ((l.length : Int) + 1))) else (none)) else (mewsref21_Find.l1 q l s rank cnt most (ints out) (wrap64 ((met : Int) + 1)) (wrap64 ((l.length : Int) + 1))))) else (mewsref21_Find.l1 q l s rank cnt most (ints out) (wrap64 ((met : Int) + 1)) (wrap64 ((l.length : Int) + 1)))) else (mewsref21_Find.l1 q l s rank cnt most (ints out) (met : Int) (wrap64 ((l.length : Int) + 1)))) else (none)) else (none)) else (some (ints out))) _
    exact ev_neg (by decide) (ev_some rfl)
  | succ d ih =>
    intro i met out hi ho hm
    obtain ⟨x, hx, hd⟩ := drop_cons (show i < l.length by omega)
    have e1 : wrap64 ((i : Int) + 1) = ((i + 1 : Nat) : Int) := by unfold wrap64; omega
    have e2 : wrap64 ((met : Int) + 1) = ((met + 1 : Nat) : Int) := by unfold wrap64; omega
    have e3 : ints out ++ [(i : Int)] = ints (out ++ [i]) := by simp [ints]
    have e4 : (ints out).length = out.length := by simp [ints]
    rw [hd]
    by_cases hmo : 0 < most ∧ most ≤ (i : Int)
    · have hR : findG s rank.natAbs cnt most (x :: l.drop (i + 1)) i met out = out := by
        show (if stopF cnt most i out.length = true then out else _) = out
        rw [if_pos (by unfold stopF; simp [hmo.1, hmo.2])]
      rw [hR]
      refine ev_round ?_
      show Ev (fun q => if (i : Int) < (l.length : Int) then (if most = 0 then (mewsref21_Find.j3 q l s rank cnt most (ints out) (met : Int) (i : Int) true) else (mewsref21_Find.j3 q l s rank cnt most (ints out) (met : Int) (i : Int) (decide ((i : Int) < most)))) else _) _
      refine ev_pos (by omega) (ev_neg (by omega) ?_)
      rw [decide_eq_false (by omega)]
      refine ev_round ?_
      show Ev (fun q => if false = true then (if 0 ≤ (i : Int) then (if (i : Int) < (l.length : Int) then (if (rdOf ByteArray.empty l (i : Int)).toList = s.toList then (if (wrap64 ((met : Int) + 1)) ≥ rank then (if cnt = 0 then (if (ints out).length < 17592186044416 then (mewsref21_Find.l1 q l s rank cnt most ((ints out) ++ [(i : Int)]) (wrap64 ((met : Int) + 1)) (wrap64 ((i : Int) + 1))) else (none)) else (if ((ints out).length : Int) < cnt then (if (ints out).length < 17592186044416 then (mewsref21_Find.l1 q l s rank cnt most ((ints out) ++ [(i : Int)]) (wrap64 ((met : Int) + 1)) (wrap64 ((i : Int) + 1))) else (none)) else (mewsref21_Find.l1 q l s rank cnt most (ints out) (wrap64 ((met : Int) + 1)) (wrap64 ((i : Int) + 1))))) else (mewsref21_Find.l1 q l s rank cnt most (ints out) (wrap64 ((met : Int) + 1)) (wrap64 ((i : Int) + 1)))) else (mewsref21_Find.l1 q l s rank cnt most (ints out) (met : Int) (wrap64 ((i : Int) + 1)))) else (none)) else (none)) else (some (ints out))) _
      exact ev_neg (by decide) (ev_some rfl)
    · have body : Ev (fun q => mewsref21_Find.j3 q l s rank cnt most (ints out) (met : Int) (i : Int) true) (ints (findG s rank.natAbs cnt most (x :: l.drop (i + 1)) i met out)) := by
        refine ev_round ?_
        show Ev (fun q => if true = true then (if 0 ≤ (i : Int) then (if (i : Int) < (l.length : Int) then (if (rdOf ByteArray.empty l (i : Int)).toList = s.toList then (if (wrap64 ((met : Int) + 1)) ≥ rank then (if cnt = 0 then (if (ints out).length < 17592186044416 then (mewsref21_Find.l1 q l s rank cnt most ((ints out) ++ [(i : Int)]) (wrap64 ((met : Int) + 1)) (wrap64 ((i : Int) + 1))) else (none)) else (if ((ints out).length : Int) < cnt then (if (ints out).length < 17592186044416 then (mewsref21_Find.l1 q l s rank cnt most ((ints out) ++ [(i : Int)]) (wrap64 ((met : Int) + 1)) (wrap64 ((i : Int) + 1))) else (none)) else (mewsref21_Find.l1 q l s rank cnt most (ints out) (wrap64 ((met : Int) + 1)) (wrap64 ((i : Int) + 1))))) else (mewsref21_Find.l1 q l s rank cnt most (ints out) (wrap64 ((met : Int) + 1)) (wrap64 ((i : Int) + 1)))) else (mewsref21_Find.l1 q l s rank cnt most (ints out) (met : Int) (wrap64 ((i : Int) + 1)))) else (none)) else (none)) else (some (ints out))) _
        rw [e1, e2, e3, e4, rdOf_getD l i x hx]
        refine ev_pos rfl (ev_pos (by omega) (ev_pos (by omega) ?_))
        by_cases hc : 0 < cnt ∧ cnt ≤ (out.length : Int)
        · rw [findG_cnt s _ cnt most _ i met out hc]
          have ih1 := ih (i + 1) met out (by omega) (by omega) (by omega)
          have ih2 := ih (i + 1) (met + 1) out (by omega) (by omega) (by omega)
          rw [findG_cnt s _ cnt most _ _ _ out hc] at ih1 ih2
          exact ev_ite (fun _ => ev_ite (fun _ => ev_neg (by omega) (ev_neg (by omega) ih2)) (fun _ => ih2)) (fun _ => ih1)
        · have hG : findG s rank.natAbs cnt most (x :: l.drop (i + 1)) i met out = (if x = s then (if rank.natAbs ≤ met + 1 then findG s rank.natAbs cnt most (l.drop (i + 1)) (i + 1) (met + 1) (out ++ [i]) else findG s rank.natAbs cnt most (l.drop (i + 1)) (i + 1) (met + 1) out) else findG s rank.natAbs cnt most (l.drop (i + 1)) (i + 1) met out) := by
            show (if stopF cnt most i out.length = true then out else _) = _
            rw [if_neg (by unfold stopF; simp only [Bool.or_eq_true, Bool.and_eq_true, decide_eq_true_eq]; omega)]
          rw [hG]
          by_cases hxs : x = s
          · rw [if_pos hxs]
            refine ev_pos (by rw [hxs]) ?_
            by_cases hR : rank.natAbs ≤ met + 1
            · rw [if_pos hR]
              refine ev_pos (by omega) ?_
              have ih2 := ih (i + 1) (met + 1) (out ++ [i]) (by omega) (by simp; omega) (by omega)
              exact ev_ite (fun _ => ev_pos (by omega) ih2) (fun _ => ev_pos (by omega) (ev_pos (by omega) ih2))
            · rw [if_neg hR]
              exact ev_neg (by omega) (ih (i + 1) (met + 1) out (by omega) (by omega) (by omega))
          · rw [if_neg hxs]
            exact ev_neg (fun h => hxs (ba_eq h)) (ih (i + 1) met out (by omega) (by omega) (by omega))
      refine ev_round ?_
      show Ev (fun q => if (i : Int) < (l.length : Int) then (if most = 0 then (mewsref21_Find.j3 q l s rank cnt most (ints out) (met : Int) (i : Int) true) else (mewsref21_Find.j3 q l s rank cnt most (ints out) (met : Int) (i : Int) (decide ((i : Int) < most)))) else _) _
      refine ev_pos (by omega) (ev_ite (fun _ => body) (fun _ => ?_))
      rw [decide_eq_true (by omega)]
      exact body
theorem backl_ev (l : List ByteArray) (back : List Nat) (hl : l.length ≤ 1000000) (hb : back.length ≤ 1000000) (hm : ∀ j ∈ back, j < l.length) : ∀ d i (out : List Int), i + d = back.length → out.length ≤ i →
    Ev (fun q => mewsref21_Find.l0 q l out (ints back) (i : Int)) (out ++ (back.drop i).map fun j => ((l.length - 1 - j : Nat) : Int)) := by
  intro d
  have e4 : (ints back).length = back.length := by simp [ints]
  induction d with
  | zero =>
    intro i out hi ho
    obtain rfl : i = back.length := by omega
    rw [List.drop_length]
    refine ev_round ?_
    show Ev (fun q => if (back.length : Int) < ((ints back).length : Int) then _ else (some out)) _
    exact ev_neg (by omega) (ev_some (by simp))
  | succ d ih =>
    intro i out hi ho
    have hlt : i < back.length := by omega
    have hd : back.drop i = back[i] :: back.drop (i + 1) := List.drop_eq_getElem_cons hlt
    have hj := hm back[i] (List.getElem_mem hlt)
    have e1 : wrap64 ((i : Int) + 1) = ((i + 1 : Nat) : Int) := by unfold wrap64; omega
    have e2 : rd (ints back) (i : Int) = ((back[i] : Nat) : Int) := by
      unfold rd
      rw [Int.toNat_natCast, List.getD_eq_getElem?_getD]
      simp [ints, hlt]
    obtain ⟨j, hj'⟩ : ∃ j, j = back[i] := ⟨_, rfl⟩
    rw [← hj'] at hd hj e2
    have e3 : wrap64 (wrap64 ((l.length : Int) - 1) - (j : Int)) = ((l.length - 1 - j : Nat) : Int) := by
      rw [show wrap64 ((l.length : Int) - 1) = (l.length : Int) - 1 by unfold wrap64; omega]
      unfold wrap64
      omega
    rw [hd]
    refine ev_round ?_
    show Ev (fun q => if (i : Int) < ((ints back).length : Int) then (if 0 ≤ (i : Int) then (if out.length < 17592186044416 then (mewsref21_Find.l0 q l (out ++ [wrap64 ((wrap64 ((l.length : Int) - 1)) - (rd (ints back) (i : Int)))]) (ints back) (wrap64 ((i : Int) + 1))) else (none)) else (none)) else (some out)) _
    rw [e1, e2, e3]
    refine ev_pos (by omega) (ev_pos (by omega) (ev_pos (by omega) ?_))
    have := ih (i + 1) (out ++ [((l.length - 1 - j : Nat) : Int)]) (by omega) (by simp; omega)
    simpa using this
theorem findf_ev (l : List ByteArray) (s : ByteArray) (rank cnt most : Int) (hl : l.length ≤ 1000000) (hr : -9223372036854775808 ≤ rank ∧ rank ≤ 9223372036854775807) :
    Ev (fun q => mewsref21_Find.f q l s rank cnt most) (findL l s rank cnt most) := by
  have bad : findL l s rank cnt most = [] → ∀ x3 : Int, Ev (fun q => mewsref21_Find.j0 q l s rank cnt most ([] : List Int) true) (findL l s rank cnt most) := by
    intro h _
    rw [h]
    refine ev_round ?_
    show Ev (fun q => if true = true then (some ([] : List Int)) else (if rank < 0 then (if rank = (-9223372036854775808) then (some ([] : List Int)) else ((mewsref21_Turned.f q l).bind fun t150 => ((mewsref21_Find.f q t150 s (wrap64 (-rank)) cnt most).bind fun t153 => (mewsref21_Find.l0 q l ([] : List Int) t153 0)))) else (mewsref21_Find.l1 q l s rank cnt most ([] : List Int) 0 0))) _
    exact ev_pos rfl (ev_some rfl)
  refine ev_round ?_
  show Ev (fun q => if rank = 0 then (mewsref21_Find.j0 q l s rank cnt most ([] : List Int) true) else (if cnt < 0 then (mewsref21_Find.j0 q l s rank cnt most ([] : List Int) true) else (mewsref21_Find.j0 q l s rank cnt most ([] : List Int) (decide (most < 0))))) _
  refine ev_ite (fun h => bad (by unfold findL; rw [if_pos (.inl h)]) 0) (fun h1 => ev_ite (fun h => bad (by unfold findL; rw [if_pos (.inr (.inl h))]) 0) (fun h2 => ?_))
  by_cases h3 : most < 0
  · rw [decide_eq_true h3]
    exact bad (by unfold findL; rw [if_pos (.inr (.inr h3))]) 0
  · rw [decide_eq_false h3]
    have hF : findL l s rank cnt most = (findG s rank.natAbs cnt most (tl (decide (rank < 0)) l) 0 0 []).map fun i => ((tidx (decide (rank < 0)) l.length i : Nat) : Int) := by
      unfold findL
      rw [if_neg (by omega)]
    rw [hF]
    refine ev_round ?_
    show Ev (fun q => if false = true then (some ([] : List Int)) else (if rank < 0 then (if rank = (-9223372036854775808) then (some ([] : List Int)) else ((mewsref21_Turned.f q l).bind fun t150 => ((mewsref21_Find.f q t150 s (wrap64 (-rank)) cnt most).bind fun t153 => (mewsref21_Find.l0 q l ([] : List Int) t153 0)))) else (mewsref21_Find.l1 q l s rank cnt most ([] : List Int) 0 0))) _
    refine ev_neg (by decide) ?_
    have forw : ∀ (l : List ByteArray) (rank : Int), l.length ≤ 1000000 → 0 < rank → Ev (fun q => mewsref21_Find.l1 q l s rank cnt most ([] : List Int) 0 0) (ints (findG s rank.natAbs cnt most l 0 0 [])) := by
      intro l rank hl h
      have := findl_ev l s rank cnt most hl h (by omega) (by omega) l.length 0 0 [] (by omega) (by simp) (Nat.le_refl _)
      exact this
    by_cases hn : rank < 0
    · rw [decide_eq_true hn]
      refine ev_pos hn ?_
      by_cases hm : rank = -9223372036854775808
      · refine ev_pos hm (ev_some ?_)
        rw [findG_huge s _ cnt most _ _ _ _ (by rw [tl_len]; omega)]
        rfl
      · have e : wrap64 (-rank) = -rank := by unfold wrap64; omega
        rw [e]
        have hlr : l.reverse.length ≤ 1000000 := by rw [List.length_reverse]; exact hl
        refine ev_neg hm (ev_bind (turned_ev l hl) (ev_bind (a := ints (findG s rank.natAbs cnt most l.reverse 0 0 [])) ?_ ?_))
        · refine ev_round ?_
          show Ev (fun q => if -rank = 0 then (mewsref21_Find.j0 q l.reverse s (-rank) cnt most ([] : List Int) true) else (if cnt < 0 then (mewsref21_Find.j0 q l.reverse s (-rank) cnt most ([] : List Int) true) else (mewsref21_Find.j0 q l.reverse s (-rank) cnt most ([] : List Int) (decide (most < 0))))) _
          refine ev_neg (by omega) (ev_neg h2 ?_)
          rw [decide_eq_false h3]
          refine ev_round ?_
          show Ev (fun q => if false = true then (some ([] : List Int)) else (if (-rank) < 0 then (if (-rank) = (-9223372036854775808) then (some ([] : List Int)) else ((mewsref21_Turned.f q l.reverse).bind fun t150 => ((mewsref21_Find.f q t150 s (wrap64 (-(-rank))) cnt most).bind fun t153 => (mewsref21_Find.l0 q l.reverse ([] : List Int) t153 0)))) else (mewsref21_Find.l1 q l.reverse s (-rank) cnt most ([] : List Int) 0 0))) _
          refine ev_neg (by decide) (ev_neg (by omega) ?_)
          have := forw l.reverse (-rank) hlr (by omega)
          rw [Int.natAbs_neg] at this
          exact this
        · have hlen := findG_len s rank.natAbs cnt most l.reverse 0 0 []
          have hmem : ∀ j ∈ findG s rank.natAbs cnt most l.reverse 0 0 [], j < l.length := by
            intro j hj
            rcases findG_mem s _ cnt most _ _ _ _ j hj with h | ⟨_, h⟩
            · cases h
            · have := (List.getElem?_eq_some_iff.1 h).1
              simpa using this
          have := backl_ev l (findG s rank.natAbs cnt most l.reverse 0 0 []) hl (by simp at hlen; omega) hmem _ 0 [] (Nat.zero_add _) (by simp)
          exact this
    · rw [decide_eq_false hn]
      refine ev_neg hn ?_
      exact forw l rank hl (by omega)
end Go.Proofs.Ytbficlkjlhigjaa.Dq
