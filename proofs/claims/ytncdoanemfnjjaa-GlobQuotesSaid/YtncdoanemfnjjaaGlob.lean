/- Patterns over lists of bytes: what matches what, and what the functions of glob come to. No memory. -/
import Derived.Test.YtncdoanemfnjjaaY
import Derived.Test.YtncdoanemfnjjaaXDGlobAlone
import Derived.Test.YtncdoanemfnjjaaXDGlobRuns
import Derived.Test.YtncdoanemfnjjaaX2
import Derived.Test.YtncdoanemfnjjaaX3
namespace Go.Proofs.Ytncdoanemfnjjaa.Gl
open Go.RowKit Go.Proofs.YtncdoanemfnjjaaW.PrintWords Go.Proofs.YtncdoanemfnjjaaW.PrintMore Go.Proofs.Ytncdoanemfnjjaa.Y Go.Proofs.Ytncdoanemfnjjaa.X
set_option linter.unusedVariables false
set_option linter.unusedSimpArgs false

/-- Is a byte between two others, whichever is first? -/
def within (a b c : UInt8) : Bool := decide (min a.toNat b.toNat ≤ c.toNat) && decide (c.toNat ≤ max a.toNat b.toNat)
/-- A class's items: has a byte been met, and what is left behind the class. -/
def clsI (c : UInt8) : Bool → List UInt8 → Bool × List UInt8
  | has, [] => (has, [])
  | has, [a] => if a = 93 then (has, []) else (has || a == c, [])
  | has, [a, d] => if a = 93 then (has, [d]) else if a = 92 then (has || d == c, []) else clsI c (has || a == c) [d]
  | has, a :: d :: b :: r => if a = 93 then (has, d :: b :: r) else if a = 92 then clsI c (has || d == c) (b :: r) else if d = 45 ∧ b ≠ 93 then clsI c (has || within a b c) r else clsI c (has || a == c) (d :: b :: r)
def clsP (u : List UInt8) (c : UInt8) : Bool × List UInt8 :=
  if u.head? = some 94 then ((clsI c false u.tail).1 != true, (clsI c false u.tail).2) else ((clsI c false u).1 != false, (clsI c false u).2)
/-- A part that is no run: is a byte what it is, and what is left behind it. -/
def oneP (a : UInt8) (r : List UInt8) (c : UInt8) : Bool × List UInt8 :=
  if a = 63 then (true, r) else if a = 91 then clsP r c
  else if a = 92 then (match r with | [] => (a == c, []) | d :: r' => (d == c, r')) else (a == c, r)
/-- A pattern matches a text. -/
inductive Mt : List UInt8 → List UInt8 → Prop
  | nil : Mt [] []
  | star (u t' t : List UInt8) : Mt u t → Mt (42 :: u) (t' ++ t)
  | one (a : UInt8) (r : List UInt8) (c : UInt8) (t : List UInt8) : a ≠ 42 → (oneP a r c).1 = true → Mt (oneP a r c).2 t → Mt (a :: r) (c :: t)

theorem clsI_esc (c : UInt8) (has : Bool) (d : UInt8) (r : List UInt8) : clsI c has (92 :: d :: r) = clsI c (has || d == c) r := by
  match r with
  | [] => simp [clsI]
  | [b] => simp [clsI]
  | b :: b2 :: r => simp [clsI]
theorem clsI_one (c : UInt8) (has : Bool) (a : UInt8) (h : a ≠ 93) : clsI c has [a] = clsI c (has || a == c) [] := by
  simp only [clsI]
  rw [if_neg h]
theorem clsI_two (c : UInt8) (has : Bool) (a d : UInt8) (h : a ≠ 93) (h' : a ≠ 92) : clsI c has [a, d] = clsI c (has || a == c) [d] := by
  conv => lhs; unfold clsI
  rw [if_neg h, if_neg h']
theorem byte_eq (a b : UInt8) : ((a.toNat : Int) == (b.toNat : Int)) = (a == b) := by
  rw [Bool.eq_iff_iff, beq_iff_eq, beq_iff_eq]
  constructor
  · intro h; exact UInt8.toNat_inj.1 (by omega)
  · rintro rfl; rfl
theorem byte_eq' (a b : UInt8) : ((a.toNat : Int) = (b.toNat : Int)) ↔ a = b := by
  constructor
  · intro h; exact UInt8.toNat_inj.1 (by omega)
  · rintro rfl; rfl
theorem within_int (a b c : UInt8) : within a b c = (decide (mn (a.toNat : Int) (b.toNat : Int) ≤ (c.toNat : Int)) && decide ((c.toNat : Int) ≤ mx (a.toNat : Int) (b.toNat : Int))) := by
  unfold within mn mx
  congr 1
  · rw [decide_eq_decide]; split <;> omega
  · rw [decide_eq_decide]; split <;> omega
section
variable (s : ByteArray) (hs : s.size ≤ 140737488351232)
theorem at_ne (i : Nat) (h : i < s.size) : i < s.data.toList.length := by rw [← ba_size]; exact h
/-- The list from a place on. -/
theorem drop_at (i : Nat) (h : i < s.size) : s.data.toList.drop i = (s.data.toList[i]'(at_ne s i h)) :: s.data.toList.drop (i + 1) := List.drop_eq_getElem_cons _
theorem drop_end (i : Nat) (h : s.size ≤ i) : s.data.toList.drop i = [] := List.drop_eq_nil_iff.2 (by rw [← ba_size]; exact h)
include hs
theorem cls_dflt (c : UInt8) (turned has : Bool) (i : Nat) (h : i < s.size) {r : Bool × Int}
    (k : Ev (fun k => glob_class.l0 k s ((i + 1 : Nat) : Int) (c.toNat : Int) turned (has || (s.data.toList[i]'(at_ne s i h)) == c)) r) :
    Ev (fun k => if has = true then glob_class.l0 k s (wrap64 ((i : Int) + 1)) (c.toNat : Int) turned true else if 0 ≤ (i : Int) then if (i : Int) < (s.size : Int) then glob_class.l0 k s (wrap64 ((i : Int) + 1)) (c.toNat : Int) turned ((bt s (i : Int)) == (c.toNat : Int)) else none else none) r := by
  rw [w64 (by omega) (by omega), show ((i : Int) + 1) = ((i + 1 : Nat) : Int) by omega]
  refine ev_ite (fun hh => ?_) (fun hh => ev_pos (by omega) (ev_pos (by omega) ?_))
  · rw [hh, Bool.true_or] at k; exact k
  · rw [bt_nat s i h, byte_eq]
    rw [Bool.eq_false_iff.2 hh, Bool.false_or] at k
    exact k
theorem cls_esc (c : UInt8) (turned has : Bool) (i : Nat) (hlt1 : i + 1 < s.size) (r : Bool × Int)
    (k : Ev (fun k => glob_class.l0 k s ((i + 2 : Nat) : Int) (c.toNat : Int) turned (has || (s.data.toList[i + 1]'(at_ne s (i + 1) hlt1)) == c)) r) :
    Ev (fun k => glob_class.j4 k s (i : Int) (c.toNat : Int) turned has (decide ((wrap64 ((i : Int) + 1)) < (s.size : Int)))) r := by
  have e1 : wrap64 ((i : Int) + 1) = ((i + 1 : Nat) : Int) := by rw [w64 (by omega) (by omega)]; omega
  have e2 : wrap64 ((i : Int) + 2) = ((i + 2 : Nat) : Int) := by rw [w64 (by omega) (by omega)]; omega
  have h1 : ((i + 1 : Nat) : Int) < (s.size : Int) := by omega
  have h0 : 0 ≤ ((i + 1 : Nat) : Int) := by omega
  rw [e1, decide_eq_true h1]
  refine ev_round ?_
  simp only [glob_class.j4]
  rw [e1, e2, bt_nat s (i + 1) hlt1, byte_eq]
  refine ev_pos (by first | rfl | trivial) ?_
  refine ev_ite (fun hh => ?_) (fun hh => ev_pos h0 (ev_pos h1 ?_))
  · rw [hh, Bool.true_or] at k; exact k
  · rw [Bool.eq_false_iff.2 hh, Bool.false_or] at k; exact k
theorem cls_items (c : UInt8) (turned : Bool) : ∀ (n i : Nat) (has : Bool), i + n = s.size →
    Ev (fun k => glob_class.l0 k s (i : Int) (c.toNat : Int) turned has) ((clsI c has (s.data.toList.drop i)).1 != turned, ((s.size - (clsI c has (s.data.toList.drop i)).2.length : Nat) : Int)) := by
  intro n
  induction n using Nat.strongRecOn with
  | _ n ih =>
    intro i has hi
    rcases Nat.lt_or_ge i s.size with hlt | hge
    · have hb := Aside0.mk (bt_nat s i hlt)
      have hlen := ba_size s
      refine ev_round ?_
      simp only [glob_class.l0]
      refine ev_pos (by omega) (ev_pos (by omega) ?_)
      rw [hb.out]
      by_cases h93 : s.data.toList[i]'(at_ne s i hlt) = 93
      · have hc : clsI c has (s.data.toList.drop i) = (has, s.data.toList.drop (i + 1)) := by
          rw [drop_at s i hlt, h93]
          match s.data.toList.drop (i + 1) with
          | [] => simp [clsI]
          | [d] => simp [clsI]
          | d :: b :: r => simp [clsI]
        rw [hc, h93]
        refine ev_round ?_
        simp only [glob_class.j3]
        refine ev_neg (by decide) (ev_some ?_)
        rw [w64 (by omega) (by omega), List.length_drop, ← hlen]
        congr 1
        unfold mn
        split <;> omega
      · have hn93 : ((s.data.toList[i]'(at_ne s i hlt)).toNat : Int) ≠ 93 := fun he => h93 ((byte_eq' _ 93).1 he)
        rw [show (((s.data.toList[i]'(at_ne s i hlt)).toNat : Int) != 93) = true by rw [bne_iff_ne]; exact hn93]
        refine ev_round ?_
        simp only [glob_class.j3]
        refine ev_pos (by first | rfl | trivial) (ev_pos (by omega) (ev_pos (by omega) ?_))
        rw [hb.out]
        -- the way that takes the byte itself
        have hD : ∀ (e : clsI c has (s.data.toList.drop i) = clsI c (has || (s.data.toList[i]'(at_ne s i hlt)) == c) (s.data.toList.drop (i + 1))),
            Ev (fun k => if has = true then glob_class.l0 k s (wrap64 ((i : Int) + 1)) (c.toNat : Int) turned true else if 0 ≤ (i : Int) then if (i : Int) < (s.size : Int) then glob_class.l0 k s (wrap64 ((i : Int) + 1)) (c.toNat : Int) turned ((bt s (i : Int)) == (c.toNat : Int)) else none else none)
              ((clsI c has (s.data.toList.drop i)).1 != turned, ((s.size - (clsI c has (s.data.toList.drop i)).2.length : Nat) : Int)) := by
          intro e
          rw [e]
          exact cls_dflt s hs c turned has i hlt (ih (s.size - (i + 1)) (by omega) (i + 1) _ (by omega))
        rcases Nat.lt_or_ge (i + 1) s.size with hlt1 | hge1
        · have hb1 := Aside0.mk (bt_nat s (i + 1) hlt1)
          have e1 : Aside0 (wrap64 ((i : Int) + 1) = ((i + 1 : Nat) : Int)) := ⟨by rw [w64 (by omega) (by omega)]; omega⟩
          have e2 : Aside0 (wrap64 ((i : Int) + 2) = ((i + 2 : Nat) : Int)) := ⟨by rw [w64 (by omega) (by omega)]; omega⟩
          have e3 : Aside0 (wrap64 ((i : Int) + 3) = ((i + 3 : Nat) : Int)) := ⟨by rw [w64 (by omega) (by omega)]; omega⟩
          by_cases h92 : s.data.toList[i]'(at_ne s i hlt) = 92
          · have hc : clsI c has (s.data.toList.drop i) = clsI c (has || (s.data.toList[i + 1]'(at_ne s (i + 1) hlt1)) == c) (s.data.toList.drop (i + 2)) := by
              rw [drop_at s i hlt, h92, drop_at s (i + 1) hlt1]
              exact clsI_esc c has _ _
            rw [hc]
            refine ev_pos (by rw [h92]; rfl) ?_
            clear h92 hc
            exact cls_esc s hs c turned has i hlt1 _ (ih (s.size - (i + 2)) (by omega) (i + 2) _ (by omega))
          · have hn92 : ((s.data.toList[i]'(at_ne s i hlt)).toNat : Int) ≠ 92 := fun he => h92 ((byte_eq' _ 92).1 he)
            refine ev_neg hn92 ?_
            refine ev_round ?_
            simp only [glob_class.j4]
            refine ev_neg (by decide) ?_
            rcases Nat.lt_or_ge (i + 2) s.size with hlt2 | hge2
            · have hb2 := Aside0.mk (bt_nat s (i + 2) hlt2)
              refine ev_pos (by rw [e2.out]; omega) (ev_pos (by rw [e1.out]; omega) (ev_pos (by rw [e1.out]; omega) ?_))
              by_cases h45 : s.data.toList[i + 1]'(at_ne s (i + 1) hlt1) = 45
              · refine ev_pos (by rw [e1.out, hb1.out, h45]; rfl) (ev_pos (by rw [e2.out]; omega) ?_)
                by_cases hr : s.data.toList[i + 2]'(at_ne s (i + 2) hlt2) = 93
                · refine ev_pos (by rw [e2.out, hb2.out, hr]; rfl) (hD ?_)
                  rw [drop_at s i hlt, drop_at s (i + 1) hlt1, drop_at s (i + 1 + 1) hlt2, clsI, if_neg h93, if_neg h92, if_neg (fun h => h.2 hr)]
                · refine ev_neg (by rw [e2.out, hb2.out]; exact fun he => hr ((byte_eq' _ 93).1 he)) (ev_pos (by omega) (ev_pos (by omega) ?_))
                  have hc : clsI c has (s.data.toList.drop i) = clsI c (has || within (s.data.toList[i]'(at_ne s i hlt)) (s.data.toList[i + 2]'(at_ne s (i + 2) hlt2)) c) (s.data.toList.drop (i + 3)) := by
                    rw [drop_at s i hlt, drop_at s (i + 1) hlt1, drop_at s (i + 1 + 1) hlt2, clsI, if_neg h93, if_neg h92, if_pos ⟨h45, hr⟩]
                  have hnext := ih (s.size - (i + 3)) (by omega) (i + 3) (has || within (s.data.toList[i]'(at_ne s i hlt)) (s.data.toList[i + 2]'(at_ne s (i + 2) hlt2)) c) (by omega)
                  rw [hc]
                  rw [e2.out, e3.out, hb.out, hb2.out]
                  refine ev_ite (fun hh => ?_) (fun hh => ?_)
                  · rw [hh, Bool.true_or] at hnext ⊢; exact hnext
                  · rw [Bool.eq_false_iff.2 hh, Bool.false_or, within_int] at hnext ⊢
                    refine ev_ite (fun h1 => ?_) (fun h1 => ?_)
                    · rw [decide_eq_true h1, Bool.true_and] at hnext ⊢; exact hnext
                    · rw [decide_eq_false h1, Bool.false_and] at hnext ⊢; exact hnext
              · refine ev_neg (by rw [e1.out, hb1.out]; exact fun he => h45 ((byte_eq' _ 45).1 he)) (hD ?_)
                rw [drop_at s i hlt, drop_at s (i + 1) hlt1, drop_at s (i + 1 + 1) hlt2, clsI, if_neg h93, if_neg h92, if_neg (fun h => h45 h.1)]
            · refine ev_neg (by rw [e2.out]; omega) (hD ?_)
              rw [drop_at s i hlt, drop_at s (i + 1) hlt1, drop_end s (i + 1 + 1) hge2, clsI_two c has _ _ h93 h92]
        · have e1 : Aside0 (wrap64 ((i : Int) + 1) = ((i + 1 : Nat) : Int)) := ⟨by rw [w64 (by omega) (by omega)]; omega⟩
          have e2 : Aside0 (wrap64 ((i : Int) + 2) = ((i + 2 : Nat) : Int)) := ⟨by rw [w64 (by omega) (by omega)]; omega⟩
          have hD' := hD (by rw [drop_at s i hlt, drop_end s (i + 1) hge1, clsI_one c has _ h93])
          have hj4 : Ev (fun k => glob_class.j4 k s (i : Int) (c.toNat : Int) turned has false) ((clsI c has (s.data.toList.drop i)).1 != turned, ((s.size - (clsI c has (s.data.toList.drop i)).2.length : Nat) : Int)) := by
            refine ev_round ?_
            simp only [glob_class.j4]
            exact ev_neg (by decide) (ev_neg (by rw [e2.out]; omega) hD')
          refine ev_ite (fun _ => ?_) (fun _ => hj4)
          rw [e1.out, decide_eq_false (show ¬ ((i + 1 : Nat) : Int) < (s.size : Int) by omega)]
          exact hj4
    · rw [drop_end s i hge, clsI]
      refine ev_round ?_
      simp only [glob_class.l0]
      refine ev_neg (by omega) ?_
      refine ev_round ?_
      simp only [glob_class.j3]
      refine ev_neg (by decide) (ev_some ?_)
      rw [w64 (by omega) (by omega)]
      congr 1
      unfold mn
      simp
      omega
theorem cls_ev (c : UInt8) (i : Nat) (hi : i ≤ s.size) : Ev (fun k => glob_class.f k s (i : Int) (c.toNat : Int)) ((clsP (s.data.toList.drop i) c).1, ((s.size - (clsP (s.data.toList.drop i) c).2.length : Nat) : Int)) := by
  unfold glob_class.f clsP
  rcases Nat.lt_or_ge i s.size with hlt | hge
  · refine ev_pos (by omega) (ev_pos (by omega) ?_)
    rw [bt_nat s i hlt, drop_at s i hlt]
    by_cases h : s.data.toList[i]'(at_ne s i hlt) = 94
    · rw [if_pos (by rw [h]; rfl), h]
      refine ev_round ?_
      simp only [glob_class.j0]
      refine ev_pos (by rfl) ?_
      refine ev_round ?_
      simp only [glob_class.j1]
      rw [w64 (by omega) (by omega), show ((i : Int) + 1) = ((i + 1 : Nat) : Int) by omega]
      exact cls_items s hs c true (s.size - (i + 1)) (i + 1) false (by omega)
    · rw [if_neg (by simpa using h), show (((s.data.toList[i]'(at_ne s i hlt)).toNat : Int) == 94) = false by rw [beq_eq_false_iff_ne]; exact fun he => h ((byte_eq' _ 94).1 he)]
      refine ev_round ?_
      simp only [glob_class.j0]
      refine ev_neg (by decide) ?_
      refine ev_round ?_
      simp only [glob_class.j1]
      have := cls_items s hs c false (s.size - i) i false (by omega)
      rw [drop_at s i hlt] at this
      exact this
  · refine ev_neg (by omega) ?_
    rw [drop_end s i hge, if_neg (by simp)]
    refine ev_round ?_
    simp only [glob_class.j0]
    refine ev_neg (by decide) ?_
    refine ev_round ?_
    simp only [glob_class.j1]
    have := cls_items s hs c false 0 i false (by omega)
    rw [drop_end s i hge] at this
    exact this
theorem one_ev (c : UInt8) (i : Nat) (hlt : i < s.size) : Ev (fun k => glob_one.f k s (i : Int) (c.toNat : Int))
    ((oneP (s.data.toList[i]'(at_ne s i hlt)) (s.data.toList.drop (i + 1)) c).1, ((s.size - (oneP (s.data.toList[i]'(at_ne s i hlt)) (s.data.toList.drop (i + 1)) c).2.length : Nat) : Int)) := by
  unfold glob_one.f oneP
  have hlen := ba_size s
  have e1 : Aside0 (wrap64 ((i : Int) + 1) = ((i + 1 : Nat) : Int)) := ⟨by rw [w64 (by omega) (by omega)]; omega⟩
  have e2 : Aside0 (wrap64 ((i : Int) + 2) = ((i + 2 : Nat) : Int)) := ⟨by rw [w64 (by omega) (by omega)]; omega⟩
  refine ev_pos (by omega) (ev_pos (by omega) ?_)
  rw [bt_nat s i hlt, e1.out, e2.out]
  have hrest : ((i + 1 : Nat) : Int) = ((s.size - (s.data.toList.drop (i + 1)).length : Nat) : Int) := by rw [List.length_drop, ← hlen]; omega
  by_cases h63 : s.data.toList[i]'(at_ne s i hlt) = 63
  · rw [if_pos h63]
    refine ev_pos (by rw [h63]; rfl) (ev_some ?_)
    rw [hrest]
  rw [if_neg h63]
  refine ev_neg (fun he => h63 ((byte_eq' _ 63).1 he)) ?_
  by_cases h91 : s.data.toList[i]'(at_ne s i hlt) = 91
  · rw [if_pos h91]
    exact ev_pos (by rw [h91]; rfl) (ev_bind (cls_ev s hs c (i + 1) (by omega)) (ev_some rfl))
  rw [if_neg h91]
  refine ev_neg (fun he => h91 ((byte_eq' _ 91).1 he)) ?_
  by_cases h92 : s.data.toList[i]'(at_ne s i hlt) = 92
  · rw [if_pos h92]
    refine ev_pos (by rw [h92]; rfl) ?_
    rcases Nat.lt_or_ge (i + 1) s.size with hlt1 | hge1
    · rw [drop_at s (i + 1) hlt1, bt_nat s (i + 1) hlt1, byte_eq]
      refine ev_pos (by omega) (ev_pos (by omega) (ev_some ?_))
      congr 1
      rw [List.length_drop, ← hlen]
      omega
    · rw [drop_end s (i + 1) hge1, byte_eq]
      refine ev_neg (by omega) (ev_some ?_)
      congr 1
      simp
      omega
  · rw [if_neg h92]
    refine ev_neg (fun he => h92 ((byte_eq' _ 92).1 he)) (ev_some ?_)
    rw [byte_eq, hrest]
end
end Go.Proofs.Ytncdoanemfnjjaa.Gl
