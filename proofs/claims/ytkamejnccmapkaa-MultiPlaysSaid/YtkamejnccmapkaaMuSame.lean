/- What is the same, what is far: plain laws over the printed functions; rows of calls. -/
import Derived.Test.YtkamejnccmapkaaMuExec
import Derived.Test.YtkamejnccmapkaaX9
import Derived.Test.YtkamejnccmapkaaX11
import Derived.Test.YtkamejnccmapkaaX12
namespace Go.Proofs.Ytkamejnccmapkaa.Mu
open Go.RowKit Go.Proofs.YtkamejnccmapkaaW.PrintWords Go.Proofs.YtkamejnccmapkaaW.PrintMore Go.Proofs.YtkamejnccmapkaaW.PrintLast Go.Proofs.Ytkamejnccmapkaa.X Go.Proofs.Ytkamejnccmapkaa.Y
set_option linter.unusedVariables false
set_option linter.unusedSimpArgs false
theorem up1 (i : Nat) (h : i ≤ 9000000000000000000) : wrap64 ((i : Int) + 1) = ((i + 1 : Nat) : Int) := by unfold wrap64; omega
theorem same2_ev (l : List ByteArray) (hl : l.length ≤ 9000000000000000000) : Ev (fun q => mewsref02_Same.f q l l) true := by
  have key : ∀ i, i ≤ l.length → Ev (fun k => mewsref02_Same.l0 k l l (i : Int)) true := by
    refine ev_up (g := fun k i => mewsref02_Same.l0 k l l (i : Int)) l.length ?_ ?_
    · refine ev_round ?_
      show Ev (fun q => if (l.length : Int) < (l.length : Int) then _ else (some true)) true
      exact ev_neg (by omega) (ev_some rfl)
    · intro i hi ih
      refine ev_round ?_
      show Ev (fun q => if (i : Int) < (l.length : Int) then (if 0 ≤ (i : Int) then (if (i : Int) < (l.length : Int) then (if (rdOf ByteArray.empty l (i : Int)).toList = (rdOf ByteArray.empty l (i : Int)).toList then (mewsref02_Same.l0 q l l (wrap64 ((i : Int) + 1))) else (some false)) else (none)) else (none)) else (some true)) true
      rw [up1 i (by omega)]
      exact ev_pos (by omega) (ev_pos (by omega) (ev_pos (by omega) (ev_pos rfl ih)))
  show Ev (fun q => if (l.length : Int) = (l.length : Int) then (mewsref02_Same.l0 q l l 0) else (some false)) true
  exact ev_pos rfl (key 0 (Nat.zero_le _))
theorem same15_ev (l : List (List ByteArray)) (hl : l.length ≤ 9000000000000000000) (h2 : ∀ x ∈ l, x.length ≤ 9000000000000000000) : Ev (fun q => mewsref15_Same.f q l l) true := by
  have key : ∀ i, i ≤ l.length → Ev (fun k => mewsref15_Same.l0 k (i : Int) l l) true := by
    refine ev_up (g := fun k i => mewsref15_Same.l0 k (i : Int) l l) l.length ?_ ?_
    · refine ev_round ?_
      show Ev (fun q => if (l.length : Int) < (l.length : Int) then _ else (some true)) true
      exact ev_neg (by omega) (ev_some rfl)
    · intro i hi ih
      obtain ⟨x, hx⟩ : ∃ x, x = rd_L1 l (i : Int) := ⟨_, rfl⟩
      have hxm : x ∈ l := by
        rw [hx]
        unfold rd_L1
        rw [List.getD_eq_getElem?_getD, show ((i : Int)).toNat = i from rfl, List.getElem?_eq_getElem hi]
        exact List.getElem_mem _
      have hxl := h2 x hxm
      have inner : ∀ j, j ≤ x.length → Ev (fun k => mewsref15_Same.l1 k (i : Int) (j : Int) l l) true := by
        refine ev_up (g := fun k j => mewsref15_Same.l1 k (i : Int) (j : Int) l l) x.length ?_ ?_
        · refine ev_round ?_
          show Ev (fun q => if 0 ≤ (i : Int) then (if (i : Int) < (l.length : Int) then (if (x.length : Int) < ((rd_L1 l (i : Int)).length : Int) then _ else (mewsref15_Same.l0 q (wrap64 ((i : Int) + 1)) l l)) else (none)) else (none)) true
          rw [up1 i (by omega)]
          exact ev_pos (by omega) (ev_pos (by omega) (ev_neg (by rw [← hx]; omega) ih))
        · intro j hj jh
          refine ev_round ?_
          show Ev (fun q => if 0 ≤ (i : Int) then (if (i : Int) < (l.length : Int) then (if (j : Int) < ((rd_L1 l (i : Int)).length : Int) then (if 0 ≤ (j : Int) then (if (i : Int) < (l.length : Int) then (if (j : Int) < ((rd_L1 l (i : Int)).length : Int) then (if (rdOf ByteArray.empty (rd_L1 l (i : Int)) (j : Int)).toList = (rdOf ByteArray.empty (rd_L1 l (i : Int)) (j : Int)).toList then (mewsref15_Same.l1 q (i : Int) (wrap64 ((j : Int) + 1)) l l) else (some false)) else (none)) else (none)) else (none)) else (mewsref15_Same.l0 q (wrap64 ((i : Int) + 1)) l l)) else (none)) else (none)) true
          rw [up1 j (by omega)]
          have hj2 : (j : Int) < ((rd_L1 l (i : Int)).length : Int) := by rw [← hx]; omega
          exact ev_pos (by omega) (ev_pos (by omega) (ev_pos hj2 (ev_pos (by omega) (ev_pos (by omega) (ev_pos hj2 (ev_pos rfl jh))))))
      refine ev_round ?_
      show Ev (fun q => if (i : Int) < (l.length : Int) then (if 0 ≤ (i : Int) then (if (i : Int) < (l.length : Int) then (if ((rd_L1 l (i : Int)).length : Int) = ((rd_L1 l (i : Int)).length : Int) then (mewsref15_Same.l1 q (i : Int) 0 l l) else (some false)) else (none)) else (none)) else (some true)) true
      exact ev_pos (by omega) (ev_pos (by omega) (ev_pos (by omega) (ev_pos rfl (inner 0 (Nat.zero_le _)))))
  show Ev (fun q => if (l.length : Int) = (l.length : Int) then (mewsref15_Same.l0 q 0 l l) else (some false)) true
  exact ev_pos rfl (key 0 (Nat.zero_le _))
theorem same03_run (a b : Int) (s : ByteArray) : mewsref03_Same.f 3 a b s [] a b s [] = some true := by
  simp [mewsref03_Same.f, mewsref03_Same.j0, mewsref03_Same.l0]
theorem bytes_any (l : List ByteArray) (hl : l.length ≤ 9000000000000000000) : ∃ r, Ev (fun q => mewsref37_Bytes.f q l) r ∧ (csize l ≤ 4611686018427387904 → r = (csize l : Nat)) := by
  have key : ∀ d i (n : Int), i + d = l.length → ∃ r, Ev (fun q => mewsref37_Bytes.l0 q l n (i : Int)) r := by
    intro d
    induction d with
    | zero =>
      intro i n hi
      refine ⟨n, ev_round ?_⟩
      show Ev (fun q => if (i : Int) < (l.length : Int) then _ else (some n)) n
      exact ev_neg (by omega) (ev_some rfl)
    | succ d ih =>
      intro i n hi
      obtain ⟨r, hr⟩ := ih (i + 1) (wrap64 (n + ((rdOf ByteArray.empty l (i : Int)).size : Int))) (by omega)
      refine ⟨r, ev_round ?_⟩
      show Ev (fun q => if (i : Int) < (l.length : Int) then (if 0 ≤ (i : Int) then (mewsref37_Bytes.l0 q l (wrap64 (n + ((rdOf ByteArray.empty l (i : Int)).size : Int))) (wrap64 ((i : Int) + 1))) else (none)) else (some n)) r
      rw [up1 i (by omega)]
      exact ev_pos (by omega) (ev_pos (by omega) hr)
  obtain ⟨r, hr⟩ := key l.length 0 (l.length : Int) (by omega)
  have hr' : Ev (fun q => mewsref37_Bytes.f q l) r := hr
  refine ⟨r, hr', fun hs => ?_⟩
  have h1 := bytes_run l hs l.length 0 (by omega)
  have h2 : mewsref37_Bytes.f (l.length + 1) l = some ((csize l : Nat) : Int) := by
    unfold mewsref37_Bytes.f
    simpa [csize] using h1
  exact ev_det hr' (Ev.of (fun k => mewsref37_Bytes.mono l k) h2)
def tot : List (List ByteArray) → Nat
  | [] => 0
  | c :: cs => csize c + tot cs
theorem tot_append (a b : List (List ByteArray)) : tot (a ++ b) = tot a + tot b := by
  induction a with
  | nil => exact (Nat.zero_add _).symm
  | cons x xs ih =>
    show csize x + tot (xs ++ b) = csize x + tot xs + tot b
    omega
theorem tot_mem {c : List ByteArray} {l : List (List ByteArray)} (h : c ∈ l) : csize c ≤ tot l := by
  induction l with
  | nil => cases h
  | cons x xs ih =>
    show csize c ≤ csize x + tot xs
    rcases List.mem_cons.1 h with rfl | h
    · omega
    · have := ih h; omega
theorem csize_le (l : List ByteArray) (B : Nat) (h : ∀ s ∈ l, s.size ≤ B) : csize l ≤ l.length * (B + 1) := by
  induction l with
  | nil => exact Nat.zero_le _
  | cons x xs ih =>
    have h1 := h x (List.mem_cons_self ..)
    have h2 := ih fun s hs => h s (List.mem_cons_of_mem _ hs)
    show 1 + x.size + csize xs ≤ (xs.length + 1) * (B + 1)
    rw [Nat.succ_mul]
    omega
/-- What the reading bounds. -/
def BdC (c : List ByteArray) : Prop := c.length ≤ 9000000000000000000 ∧ ∀ s ∈ c, s.size ≤ 140737488351232
theorem BdC.size {c : List ByteArray} (h : BdC c) (h3 : c.length ≤ 300) : csize c ≤ 42221246505369900 := by
  have h1 := csize_le c 140737488351232 h.2
  have h2 : c.length * (140737488351232 + 1) ≤ 300 * (140737488351232 + 1) := Nat.mul_le_mul_right _ h3
  omega
theorem far_ev (l : List S45) (hl : l.length ≤ 9000000000000000000) (h2 : ∀ o ∈ l, BdC o.f1) : ∃ b, Ev (fun q => mewslaw37_far.f q l) b ∧ (b = false → l.length ≤ 300 ∧ tot (l.map S45.f1) ≤ 300000 ∧ ∀ o ∈ l, o.f1.length ≤ 300) := by
  have key : ∀ d i, i + d = l.length → tot ((l.take i).map S45.f1) ≤ 300000 → (∀ o ∈ l.take i, o.f1.length ≤ 300) → ∃ b, Ev (fun q => mewslaw37_far.l0 q l ((tot ((l.take i).map S45.f1) : Nat) : Int) l (l.length : Int) (i : Int)) b ∧ (b = false → l.length ≤ 300 ∧ tot (l.map S45.f1) ≤ 300000 ∧ ∀ o ∈ l, o.f1.length ≤ 300) := by
    intro d
    induction d with
    | zero =>
      intro i hi ht ho
      rw [List.take_of_length_le (by omega)] at ht ho ⊢
      refine ⟨decide ((l.length : Int) > 300), ev_round ?_, fun h => ?_⟩
      · show Ev (fun q => if (i : Int) < (l.length : Int) then _ else (some (decide ((l.length : Int) > 300)))) _
        exact ev_neg (by omega) (ev_some rfl)
      · have := of_decide_eq_false h
        exact ⟨by omega, ht, ho⟩
    | succ d ih =>
      intro i hi ht ho
      have hil : i < l.length := by omega
      obtain ⟨o, hoo⟩ : ∃ o, o = rd_T45 l (i : Int) := ⟨_, rfl⟩
      have hoi : o = l[i] := by
        rw [hoo]
        unfold rd_T45
        rw [List.getD_eq_getElem?_getD, show ((i : Int)).toNat = i from rfl, List.getElem?_eq_getElem hil]
        rfl
      have hom : o ∈ l := by rw [hoi]; exact List.getElem_mem _
      have hb := h2 o hom
      have htk : l.take (i + 1) = l.take i ++ [o] := by
        rw [List.take_add_one, List.getElem?_eq_getElem hil, hoi]
        rfl
      have htt : tot ((l.take (i + 1)).map S45.f1) = tot ((l.take i).map S45.f1) + csize o.f1 := by
        rw [htk, List.map_append, tot_append]
        show _ + (csize o.f1 + 0) = _
        rw [Nat.add_zero]
      obtain ⟨r, hr, hrc⟩ := bytes_any o.f1 hb.1
      obtain ⟨t, htd⟩ : ∃ t, t = tot ((l.take i).map S45.f1) := ⟨_, rfl⟩
      rw [← htd] at ht htt ⊢
      have hgo : ∀ b, Ev (fun q => if (wrap64 ((t : Int) + r)) > 300000 then (some true) else (if ((o.f1).length : Int) > 300 then (some true) else (mewslaw37_far.l0 q l (wrap64 ((t : Int) + r)) l (l.length : Int) (wrap64 ((i : Int) + 1))))) b → Ev (fun q => mewslaw37_far.l0 q l (t : Int) l (l.length : Int) (i : Int)) b := by
        intro b h
        refine ev_round ?_
        show Ev (fun q => if (i : Int) < (l.length : Int) then (if 0 ≤ (i : Int) then (if (i : Int) < (l.length : Int) then ((mewsref37_Bytes.f q ((rd_T45 l (i : Int)).f1)).bind fun t356 => (if (wrap64 ((t : Int) + t356)) > 300000 then (some true) else (if (((rd_T45 l (i : Int)).f1).length : Int) > 300 then (some true) else (mewslaw37_far.l0 q l (wrap64 ((t : Int) + t356)) l (l.length : Int) (wrap64 ((i : Int) + 1)))))) else (none)) else (none)) else (some (decide ((l.length : Int) > 300)))) b
        rw [← hoo]
        exact ev_pos (by omega) (ev_pos (by omega) (ev_pos (by omega) (ev_bind hr h)))
      by_cases h3 : o.f1.length ≤ 300
      · have hs := hb.size h3
        have hre := hrc (by omega)
        have hw : wrap64 ((t : Int) + r) = ((t + csize o.f1 : Nat) : Int) := by rw [hre]; unfold wrap64; omega
        by_cases h4 : t + csize o.f1 > 300000
        · exact ⟨true, hgo true (ev_pos (by rw [hw]; omega) (ev_some rfl)), fun h => by cases h⟩
        · obtain ⟨b, hb1, hb2⟩ := ih (i + 1) (by omega) (by omega) (by
            rw [htk]
            intro x hx
            rcases List.mem_append.1 hx with hx | hx
            · exact ho x hx
            · rw [List.mem_singleton.1 hx]; exact h3)
          refine ⟨b, hgo b (ev_neg (by rw [hw]; omega) (ev_neg (by omega) ?_)), hb2⟩
          rw [hw, up1 i (by omega), ← htt]
          exact hb1
      · refine ⟨true, hgo true ?_, fun h => by cases h⟩
        exact ev_ite (fun _ => ev_some rfl) (fun _ => ev_pos (by omega) (ev_some rfl))
  obtain ⟨b, h1, h3⟩ := key l.length 0 (by omega) (Nat.zero_le _) (fun o h => by cases h)
  exact ⟨b, h1, h3⟩
/-- Row values, each of which reads its call. -/
def Cont (w : World) : List SV → List (List ByteArray) → Prop
  | [], [] => True
  | x :: xs, l :: ls => Rd w (encV x) l ∧ Cont w xs ls
  | _, _ => False
theorem Cont.below {w w1 : World} : ∀ {qs : List SV} {ls : List (List ByteArray)}, Cont w qs ls → Below w.heap.size w w1 → Cont w1 qs ls
  | [], [], _, _ => trivial
  | x :: xs, l :: ls, h, hb => ⟨h.1.below hb, Cont.below h.2 hb⟩
  | [], l :: ls, h, _ => h.elim
  | x :: xs, [], h, _ => h.elim
theorem Cont.len {w : World} : ∀ {qs : List SV} {ls : List (List ByteArray)}, Cont w qs ls → qs.length = ls.length
  | [], [], _ => rfl
  | x :: xs, l :: ls, h => congrArg (· + 1) (Cont.len h.2)
  | [], l :: ls, h => h.elim
  | x :: xs, [], h => h.elim
theorem Cont.snoc {w : World} {x : SV} {c : List ByteArray} (hx : Rd w (encV x) c) : ∀ {qs : List SV} {ls : List (List ByteArray)}, Cont w qs ls → Cont w (qs ++ [x]) (ls ++ [c])
  | [], [], _ => ⟨hx, trivial⟩
  | y :: xs, l :: ls, h => ⟨h.1, Cont.snoc hx h.2⟩
  | [], l :: ls, h => h.elim
  | x :: xs, [], h => h.elim
theorem Cont.at_ {w : World} : ∀ {qs : List SV} {ls : List (List ByteArray)} (_ : Cont w qs ls) (j : Nat) (l : List ByteArray), ls[j]? = some l → Rd w (encV (qs.getD j ⟨none, 0, 0⟩)) l
  | [], [], _, j, l, hj => by simp at hj
  | x :: xs, y :: ls, h, 0, l, hj => by
    have : y = l := by simpa using hj
    subst this
    exact h.1
  | x :: xs, y :: ls, h, j + 1, l, hj => by
    have := Cont.at_ h.2 j l (by simpa using hj)
    simpa using this
  | [], l :: ls, h, _, _, _ => h.elim
  | x :: xs, [], h, _, _, _ => h.elim
/-- As the printed functions read a row of calls. -/
theorem Cont.C {w : World} {A : Option Addr} {n c : Nat} {qs : List SV} {ls : List (List ByteArray)} (hQ : Rd2 w (.slice A n c) qs) (hc : Cont w qs ls) : Kd.C (Kd.slice 9 Kd.string) w A ls.length ls ∧ n = ls.length ∧ ls.length ≤ c := by
  obtain ⟨A', c', e, hle, hr⟩ := hQ
  injection e with e1 e2 e3
  subst e1
  subst e3
  have hlen := hc.len
  refine ⟨⟨rfl, by rw [← hlen]; exact hr.2.1, fun hn => ?_⟩, e2.trans hlen, by omega⟩
  obtain ⟨ad, e, hcell⟩ := hr.2.2 (by omega)
  refine ⟨ad, e, fun j p hj => ?_⟩
  have hjl := (List.getElem?_eq_some_iff.1 hj).1
  obtain ⟨A1, c1, he1, hc1, hr1⟩ := hc.at_ j p hj
  have hcj := hcell j (by omega)
  rw [he1] at hcj
  refine ⟨[.slice A1 p.length c1], rfl, ⟨A1, c1, rfl, hc1, C_of_readsOf hr1⟩, fun i u hu => ?_⟩
  have hi : i = 0 := by
    have := (List.getElem?_eq_some_iff.1 hu).1
    simpa using this
  subst hi
  have hu' : Value.slice A1 p.length c1 = u := by simpa using hu
  subst hu'
  simpa [show (Kd.sz (Kd.slice 9 Kd.string)) = 1 from rfl] using hcj
end Go.Proofs.Ytkamejnccmapkaa.Mu
