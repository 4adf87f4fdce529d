/- What the document's answers on lists of texts come to: plain laws, then as calls. -/
import Derived.Test.YtbficlkjlhigjaaListMath
import Derived.Test.YtbficlkjlhigjaaDqRd
import Derived.Test.YtbficlkjlhigjaaY
import Derived.Test.YtbficlkjlhigjaaX1
import Derived.Test.YtbficlkjlhigjaaX2
import Derived.Test.YtbficlkjlhigjaaX3
namespace Go.Proofs.Ytbficlkjlhigjaa.Dq
open Go.RowKit Go.Proofs.YtbficlkjlhigjaaW.PrintWords Go.Proofs.YtbficlkjlhigjaaW.PrintMore Go.Proofs.YtbficlkjlhigjaaW.PrintLast Go.Proofs.Ytbficlkjlhigjaa.X Go.Proofs.Ytbficlkjlhigjaa.Y
set_option linter.unusedVariables false
set_option linter.unusedSimpArgs false
theorem rdOf_getD (l : List ByteArray) (i : Nat) (x : ByteArray) (h : l[i]? = some x) : rdOf ByteArray.empty l (i : Int) = x := by
  unfold rdOf
  rw [Int.toNat_natCast, List.getD_eq_getElem?_getD, h]
  rfl
theorem drop_cons {l : List ByteArray} {i : Nat} (h : i < l.length) : ∃ x, l[i]? = some x ∧ l.drop i = x :: l.drop (i + 1) := ⟨l[i], List.getElem?_eq_getElem h, List.drop_eq_getElem_cons h⟩
/-- far: what it tells, and what is known where it tells no. -/
theorem far_ev (l : List ByteArray) (hl : l.length ≤ 9223372036854775000) : ∃ b, Ev (fun q => mewslaw21_far.f q l) b ∧ (b = false → l.length ≤ 200) := by
  by_cases h : ∃ i, i < l.length ∧ 300 < (l.getD i ByteArray.empty).size
  · refine ⟨true, ?_, fun h => by cases h⟩
    obtain ⟨i0, hi0, hs⟩ := h
    have key : ∀ d i, i + d = i0 → Ev (fun q => mewslaw21_far.l0 q l l (l.length : Int) (i : Int)) true := by
      intro d
      induction d with
      | zero =>
        intro i hi
        obtain rfl : i = i0 := by omega
        refine ev_round ?_
        show Ev (fun q => if (i : Int) < (l.length : Int) then (if 0 ≤ (i : Int) then (if (i : Int) < (l.length : Int) then (if ((rdOf ByteArray.empty l (i : Int)).size : Int) > 300 then (some true) else _) else (none)) else (none)) else _) true
        refine ev_pos (by omega) (ev_pos (by omega) (ev_pos (by omega) (ev_pos ?_ (ev_some rfl))))
        unfold rdOf
        rw [Int.toNat_natCast]
        omega
      | succ d ih =>
        intro i hi
        have e1 : wrap64 ((i : Int) + 1) = ((i + 1 : Nat) : Int) := by unfold wrap64; omega
        refine ev_round ?_
        show Ev (fun q => if (i : Int) < (l.length : Int) then (if 0 ≤ (i : Int) then (if (i : Int) < (l.length : Int) then (if ((rdOf ByteArray.empty l (i : Int)).size : Int) > 300 then (some true) else (mewslaw21_far.l0 q l l (l.length : Int) (wrap64 ((i : Int) + 1)))) else (none)) else (none)) else _) true
        refine ev_pos (by omega) (ev_pos (by omega) (ev_pos (by omega) (ev_ite (fun _ => ev_some rfl) (fun _ => ?_))))
        rw [e1]
        exact ih (i + 1) (by omega)
    exact key i0 0 (by omega)
  · refine ⟨decide ((l.length : Int) > 200), ?_, fun h => by simp at h; omega⟩
    have key := ev_up (g := fun q i => mewslaw21_far.l0 q l l (l.length : Int) (i : Int)) (r := decide ((l.length : Int) > 200)) l.length ?_ ?_ 0 (Nat.zero_le _)
    · exact key
    · refine ev_round ?_
      show Ev (fun q => if (l.length : Int) < (l.length : Int) then _ else (some (decide ((l.length : Int) > 200)))) _
      exact ev_neg (by omega) (ev_some rfl)
    · intro i hi ih
      have e1 : wrap64 ((i : Int) + 1) = ((i + 1 : Nat) : Int) := by unfold wrap64; omega
      refine ev_round ?_
      show Ev (fun q => if (i : Int) < (l.length : Int) then (if 0 ≤ (i : Int) then (if (i : Int) < (l.length : Int) then (if ((rdOf ByteArray.empty l (i : Int)).size : Int) > 300 then (some true) else (mewslaw21_far.l0 q l l (l.length : Int) (wrap64 ((i : Int) + 1)))) else (none)) else (none)) else _) _
      refine ev_pos (by omega) (ev_pos (by omega) (ev_pos (by omega) (ev_neg (fun c => h ⟨i, hi, ?_⟩) ?_)))
      · unfold rdOf at c
        rw [Int.toNat_natCast] at c
        omega
      · rw [e1]
        exact ih
theorem turned_ev (l : List ByteArray) (hl : l.length ≤ 1000000) : Ev (fun q => mewsref21_Turned.f q l) l.reverse := by
  have key : ∀ k, k ≤ l.length → Ev (fun q => mewsref21_Turned.l0 q l (l.drop k).reverse ((k : Int) - 1)) l.reverse := by
    intro k
    induction k with
    | zero =>
      intro _
      refine ev_round ?_
      show Ev (fun q => if ((0 : Nat) : Int) - 1 ≥ 0 then _ else (some (l.drop 0).reverse)) l.reverse
      exact ev_neg (by omega) (ev_some (by simp))
    | succ k ih =>
      intro hk
      obtain ⟨x, hx, hd⟩ := drop_cons (show k < l.length by omega)
      have e1 : ((k + 1 : Nat) : Int) - 1 = (k : Int) := by omega
      have e2 : wrap64 ((k : Int) - 1) = (k : Int) - 1 := by unfold wrap64; omega
      rw [e1]
      refine ev_round ?_
      show Ev (fun q => if (k : Int) ≥ 0 then (if 0 ≤ (k : Int) then (if (k : Int) < (l.length : Int) then (if (l.drop (k + 1)).reverse.length < 8796093022208 then (mewsref21_Turned.l0 q l ((l.drop (k + 1)).reverse ++ [rdOf ByteArray.empty l (k : Int)]) (wrap64 ((k : Int) - 1))) else (none)) else (none)) else (none)) else _) l.reverse
      rw [e2, rdOf_getD l k x hx]
      refine ev_pos (by omega) (ev_pos (by omega) (ev_pos (by omega) (ev_pos (by simp; omega) ?_)))
      have := ih (by omega)
      rw [hd, List.reverse_cons] at this
      exact this
  have h := key l.length (Nat.le_refl _)
  rw [List.drop_length] at h
  have e : wrap64 ((l.length : Int) - 1) = (l.length : Int) - 1 := by unfold wrap64; omega
  show Ev (fun q => mewsref21_Turned.l0 q l ([] : List ByteArray) (wrap64 ((l.length : Int) - 1))) l.reverse
  rw [e]
  exact h
/-- How many may still go, of a number from 0 on. -/
def limN (c : Int) (n : Nat) : Option Nat := if c = 0 then none else some (c.toNat - n)
theorem limN_pred (c : Int) (n : Nat) : (limN c n).map (· - 1) = limN c (n + 1) := by
  unfold limN
  split
  · rfl
  · simp only [Option.map_some]
    congr 1
theorem dropl_ev (l : List ByteArray) (c : Int) (s : ByteArray) (hl : l.length ≤ 1000000) (hc : 0 ≤ c) (hc2 : c ≤ 9223372036854775807) : ∀ d i (out : List ByteArray) (n : Nat), i + d = l.length → out.length ≤ i → n ≤ i →
    Ev (fun q => mewsref21_Drop.l0 q l c s out (n : Int) (i : Int)) (out ++ (dropF s (limN c n) (l.drop i)).1, ((n + (dropF s (limN c n) (l.drop i)).2 : Nat) : Int)) := by
  intro d
  induction d with
  | zero =>
    intro i out n hi ho hn
    obtain rfl : i = l.length := by omega
    rw [List.drop_length]
    refine ev_round ?_
    show Ev (fun q => if (l.length : Int) < (l.length : Int) then _ else (some (out, (n : Int)))) _
    exact ev_neg (by omega) (ev_some (by simp [dropF]))
  | succ d ih =>
    intro i out n hi ho hn
    obtain ⟨x, hx, hd⟩ := drop_cons (show i < l.length by omega)
    have e1 : wrap64 ((i : Int) + 1) = ((i + 1 : Nat) : Int) := by unfold wrap64; omega
    have e2 : wrap64 ((n : Int) + 1) = ((n + 1 : Nat) : Int) := by unfold wrap64; omega
    rw [hd]
    refine ev_round ?_
    show Ev (fun q => if (i : Int) < (l.length : Int) then (if 0 ≤ (i : Int) then (if (rdOf ByteArray.empty l (i : Int)).toList = s.toList then (if c = 0 then (mewsref21_Drop.l0 q l c s out (wrap64 ((n : Int) + 1)) (wrap64 ((i : Int) + 1))) else (if (n : Int) < c then (mewsref21_Drop.l0 q l c s out (wrap64 ((n : Int) + 1)) (wrap64 ((i : Int) + 1))) else (if out.length < 8796093022208 then (mewsref21_Drop.l0 q l c s (out ++ [rdOf ByteArray.empty l (i : Int)]) (n : Int) (wrap64 ((i : Int) + 1))) else (none)))) else (if out.length < 8796093022208 then (mewsref21_Drop.l0 q l c s (out ++ [rdOf ByteArray.empty l (i : Int)]) (n : Int) (wrap64 ((i : Int) + 1))) else (none))) else (none)) else _) _
    rw [e1, e2, rdOf_getD l i x hx]
    refine ev_pos (by omega) (ev_pos (by omega) ?_)
    have hmiss : (dropF s (limN c n) (x :: l.drop (i + 1))) = (x :: (dropF s (limN c n) (l.drop (i + 1))).1, (dropF s (limN c n) (l.drop (i + 1))).2) → Ev (fun q => if out.length < 8796093022208 then (mewsref21_Drop.l0 q l c s (out ++ [x]) (n : Int) ((i + 1 : Nat) : Int)) else (none)) (out ++ (dropF s (limN c n) (x :: l.drop (i + 1))).1, ((n + (dropF s (limN c n) (x :: l.drop (i + 1))).2 : Nat) : Int)) := by
      intro h
      rw [h]
      refine ev_pos (by omega) ?_
      have := ih (i + 1) (out ++ [x]) n (by omega) (by simp; omega) (by omega)
      rw [List.append_assoc] at this
      exact this
    have hhit : limN c n ≠ some 0 → x = s → Ev (fun q => mewsref21_Drop.l0 q l c s out ((n + 1 : Nat) : Int) ((i + 1 : Nat) : Int)) (out ++ (dropF s (limN c n) (x :: l.drop (i + 1))).1, ((n + (dropF s (limN c n) (x :: l.drop (i + 1))).2 : Nat) : Int)) := by
      intro h e
      subst e
      rw [dropF_hit x _ _ h, limN_pred]
      have := ih (i + 1) out (n + 1) (by omega) (by omega) (by omega)
      rw [show n + 1 + (dropF x (limN c (n + 1)) (l.drop (i + 1))).2 = n + ((dropF x (limN c (n + 1)) (l.drop (i + 1))).2 + 1) by omega] at this
      exact this
    by_cases hxs : x = s
    · refine ev_pos (by rw [hxs]) ?_
      by_cases hc0 : c = 0
      · exact ev_pos hc0 (hhit (by unfold limN; rw [if_pos hc0]; simp) hxs)
      · refine ev_neg hc0 ?_
        by_cases hnc : (n : Int) < c
        · exact ev_pos hnc (hhit (by unfold limN; rw [if_neg hc0]; simp; omega) hxs)
        · have hz : limN c n = some 0 := by unfold limN; rw [if_neg hc0]; congr 1; omega
          exact ev_neg hnc (hmiss (by rw [hz, dropF_zero, dropF_zero]))
    · exact ev_neg (fun h => hxs (ba_eq h)) (hmiss (dropF_miss s x _ _ hxs))
theorem dropF_big (s : ByteArray) (l : List ByteArray) (m : Nat) (h : l.length ≤ m) : dropF s (some m) l = dropF s none l := by
  induction l generalizing m with
  | nil => rfl
  | cons x xs ih =>
    simp only [List.length_cons] at h
    by_cases hx : x = s
    · subst hx
      rw [dropF_hit x _ _ (by simp; omega), dropF_hit x _ _ (by simp)]
      show ((dropF x (some (m - 1)) xs).1, (dropF x (some (m - 1)) xs).2 + 1) = ((dropF x none xs).1, (dropF x none xs).2 + 1)
      rw [ih (m - 1) (by omega)]
    · rw [dropF_miss s x _ _ hx, dropF_miss s x _ _ hx, ih m (by omega)]
theorem dropf_ev0 (l : List ByteArray) (c : Int) (s : ByteArray) (hl : l.length ≤ 1000000) (hc : 0 ≤ c) (hc2 : c ≤ 9223372036854775807) :
    Ev (fun q => mewsref21_Drop.f q l c s) ((dropF s (limN c 0) l).1, (((dropF s (limN c 0) l).2 : Nat) : Int)) := by
  refine ev_round ?_
  show Ev (fun q => if c < 0 then _ else (mewsref21_Drop.l0 q l c s ([] : List ByteArray) 0 0)) _
  refine ev_neg (by omega) ?_
  have := dropl_ev l c s hl hc hc2 l.length 0 [] 0 (by omega) (by simp) (Nat.le_refl _)
  simpa using this
theorem dropf_ev (l : List ByteArray) (c : Int) (s : ByteArray) (hl : l.length ≤ 1000000) (hc : -9223372036854775808 ≤ c ∧ c ≤ 9223372036854775807) :
    Ev (fun q => mewsref21_Drop.f q l c s) ((dropL l c s).1, (((dropL l c s).2 : Nat) : Int)) := by
  by_cases h : c < 0
  · have hlr : l.reverse.length ≤ 1000000 := by rw [List.length_reverse]; exact hl
    have hL : dropL l c s = ((dropF s (some c.natAbs) l.reverse).1.reverse, (dropF s (some c.natAbs) l.reverse).2) := by
      unfold dropL
      rw [decide_eq_true h, if_neg (by omega)]
      rfl
    have hlen := dropF_len s (some c.natAbs) l.reverse
    rw [hL]
    refine ev_round ?_
    show Ev (fun q => if c < 0 then (if (wrap64 (-c)) < 0 then ((mewsref21_Turned.f q l).bind fun t116 => ((mewsref21_Drop.f q t116 0 s).bind fun bt119 => ((mewsref21_Turned.f q bt119.1).bind fun t123 => (some (t123, bt119.2))))) else ((mewsref21_Turned.f q l).bind fun t126 => ((mewsref21_Drop.f q t126 (wrap64 (-c)) s).bind fun bt129 => ((mewsref21_Turned.f q bt129.1).bind fun t133 => (some (t133, bt129.2)))))) else _) _
    refine ev_pos h ?_
    by_cases hm : c = -9223372036854775808
    · have e : wrap64 (-c) = -9223372036854775808 := by rw [hm]; unfold wrap64; omega
      rw [e]
      refine ev_pos (by decide) (ev_bind (turned_ev l hl) (ev_bind (dropf_ev0 l.reverse 0 s hlr (by decide) (by decide)) ?_))
      have hb : dropF s (limN 0 0) l.reverse = dropF s (some c.natAbs) l.reverse := by
        rw [dropF_big s l.reverse c.natAbs (by omega)]
        rfl
      rw [hb]
      exact ev_bind (turned_ev (dropF s (some c.natAbs) l.reverse).1 (by omega)) (ev_some rfl)
    · have e : wrap64 (-c) = -c := by unfold wrap64; omega
      rw [e]
      refine ev_neg (by omega) (ev_bind (turned_ev l hl) (ev_bind (dropf_ev0 l.reverse (-c) s hlr (by omega) (by omega)) ?_))
      have hb : limN (-c) 0 = some c.natAbs := by
        unfold limN
        rw [if_neg (by omega)]
        congr 1
        omega
      rw [hb]
      exact ev_bind (turned_ev (dropF s (some c.natAbs) l.reverse).1 (by omega)) (ev_some rfl)
  · have hL : dropL l c s = dropF s (limN c 0) l := by
      unfold dropL
      rw [decide_eq_false h]
      have e : (if c = 0 then none else some c.natAbs) = limN c 0 := by
        unfold limN
        by_cases z : c = 0
        · rw [if_pos z, if_pos z]
        · rw [if_neg z, if_neg z]
          congr 1
          omega
      rw [e]
      rfl
    rw [hL]
    exact dropf_ev0 l c s hl (by omega) hc.2
theorem rdrop_calls (v : Value) (l : List ByteArray) (c : Int) (s : ByteArray) (w : World) (h : Rd w v l) (hl : l.length ≤ 1000000) (hc : -9223372036854775808 ≤ c ∧ c ≤ 9223372036854775807) :
    Calls Try.prog 12 #[v, .int .i64 c, .string s] w fun e w' => ∃ v', e = .returned (.tuple #[v', .int .i64 ((dropL l c s).2 : Nat)]) ∧ Rd w' v' (dropL l c s).1 ∧ Below w.heap.size w w' ∧ Fresh w v v' := by
  obtain ⟨A, cp, rfl, hcp, hr⟩ := h
  obtain ⟨K, hK⟩ := dropf_ev l c s hl hc
  refine (mewsref21_Drop.calls K A cp l c s _ _ w (C_of_readsOf hr) hcp (hK K (Nat.le_refl _))).mono fun e w' he => ?_
  obtain ⟨v0, rfl, hR, hB⟩ := he
  exact ⟨v0, rfl, rd_of_R hR, hB, .inl (Kd.R_base hR)⟩
theorem same_ev (l : List ByteArray) (hl : l.length ≤ 1000000) : Ev (fun q => mewsref02_Same.f q l l) true := by
  have key := ev_up (g := fun q k => mewsref02_Same.l0 q l l (k : Int)) (r := true) l.length ?_ ?_ 0 (Nat.zero_le _)
  · show Ev (fun q => if (l.length : Int) = (l.length : Int) then (mewsref02_Same.l0 q l l 0) else (some false)) true
    exact ev_pos rfl key
  · refine ev_round ?_
    show Ev (fun q => if (l.length : Int) < (l.length : Int) then _ else some true) _
    exact ev_neg (by omega) (ev_some rfl)
  · intro k hk ih
    have e1 : wrap64 ((k : Int) + 1) = ((k + 1 : Nat) : Int) := by unfold wrap64; omega
    refine ev_round ?_
    show Ev (fun q => if (k : Int) < (l.length : Int) then (if 0 ≤ (k : Int) then (if (k : Int) < (l.length : Int) then (if (rdOf ByteArray.empty l (k : Int)).toList = (rdOf ByteArray.empty l (k : Int)).toList then (mewsref02_Same.l0 q l l (wrap64 ((k : Int) + 1))) else (some false)) else (none)) else (none)) else (some true)) true
    rw [e1]
    exact ev_pos (by omega) (ev_pos (by omega) (ev_pos (by omega) (ev_pos rfl ih)))
theorem rsame_calls (v v' : Value) (l : List ByteArray) (w : World) (h : Rd w v l) (h' : Rd w v' l) (hl : l.length ≤ 1000000) :
    Calls Try.prog 13 #[v, v'] w fun e w' => e = .returned (.bool true) ∧ Drawn0 w w' := by
  obtain ⟨A, c, rfl, hc, hr⟩ := h
  obtain ⟨A', c', rfl, hc', hr'⟩ := h'
  obtain ⟨K, hK⟩ := same_ev l hl
  exact mewsref02_Same.calls K A c l A' c' l true w (C_of_readsOf hr) hc (C_of_readsOf hr') hc' (hK K (Nat.le_refl _))
end Go.Proofs.Ytbficlkjlhigjaa.Dq
