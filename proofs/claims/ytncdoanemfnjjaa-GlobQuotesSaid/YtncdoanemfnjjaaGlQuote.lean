/- The document's Quote, the code's All, and whether texts are the same: what their Lean functions come to. No memory. -/
import Derived.Test.YtncdoanemfnjjaaGlPlain
import Derived.Test.YtncdoanemfnjjaaGlobMatch
import Derived.Test.YtncdoanemfnjjaaX7
import Derived.Test.YtncdoanemfnjjaaX13
import Derived.Test.YtncdoanemfnjjaaX14
namespace Go.Proofs.Ytncdoanemfnjjaa.Gl
open Go.RowKit Go.Proofs.YtncdoanemfnjjaaW.PrintWords Go.Proofs.YtncdoanemfnjjaaW.PrintMore Go.Proofs.Ytncdoanemfnjjaa.Y Go.Proofs.Ytncdoanemfnjjaa.X Go.Proofs.Ytncdoanemfnjjaa.Pure
set_option linter.unusedVariables false
set_option linter.unusedSimpArgs false
def ofL (u : List UInt8) : ByteArray := ⟨u.toArray⟩
theorem ofL_data (u : List UInt8) : (ofL u).data.toList = u := rfl
theorem ofL_size (a : List UInt8) : (ofL a).size = a.length := by rw [ba_size, ofL_data]
theorem ofL_add (a b : List UInt8) : ofL a ++ ofL b = ofL (a ++ b) := by
  apply ba_ext
  rw [ba_append]
  rfl
theorem ext1 (s : ByteArray) (i : Nat) (c : UInt8) (h : s.data.toList.drop i = c :: s.data.toList.drop (i + 1)) : s.extract i (i + 1) = ofL [c] := by
  apply ba_ext
  rw [ba_extract, h, ofL_data, Nat.add_sub_cancel_left]
  rfl
theorem w1 (i : Nat) (h : i ≤ 2000000000) : wrap64 ((i : Int) + 1) = ((i + 1 : Nat) : Int) := by
  rw [w64 (by omega) (by omega)]; omega
theorem quoteL_len (l : List UInt8) : (quoteL l).length ≤ 2 * l.length := by
  unfold quoteL
  induction l with
  | nil => simp
  | cons c l ih =>
    rw [List.flatMap_cons, List.length_append, List.length_cons]
    split
    · simp only [List.length_cons, List.length_nil]; omega
    · simp only [List.length_cons, List.length_nil]; omega
theorem rquote_ev (s : ByteArray) (hs : s.size ≤ 1000) : Ev (fun k => mewsref02_Quote.f k s) (ofL (quoteL s.data.toList)) := by
  unfold mewsref02_Quote.f
  have hlen := ba_size s
  have hq : ∀ i, (quoteL (s.data.toList.take i)).length ≤ 2000 := by
    intro i
    have := quoteL_len (s.data.toList.take i)
    rw [List.length_take] at this
    omega
  have h0 : (⟨#[]⟩ : ByteArray) = ofL [] := rfl
  rw [h0]
  refine ev_up (g := fun k i => mewsref02_Quote.l0 k s (ofL (quoteL (s.data.toList.take i))) (i : Int)) s.size ?_ (fun i hi h => ?_) 0 (by omega)
  · refine ev_round ?_
    simp only [mewsref02_Quote.l0]
    refine ev_neg (by omega) (ev_some ?_)
    rw [List.take_of_length_le (by omega)]
  · refine ev_round ?_
    simp only [mewsref02_Quote.l0]
    refine ev_pos (by omega) (ev_pos (by omega) ?_)
    have hlt : i < s.data.toList.length := by omega
    obtain ⟨c, hc⟩ : ∃ c, c = s.data.toList[i]'hlt := ⟨_, rfl⟩
    have hbt : bt s (i : Int) = (c.toNat : Int) := by rw [bt_nat s i hi, hc]
    have hd : s.data.toList.drop i = c :: s.data.toList.drop (i + 1) := by rw [hc]; exact List.drop_eq_getElem_cons hlt
    have hqi := hq i
    have e : s.data.toList.take (i + 1) = s.data.toList.take i ++ [c] := by rw [hc]; exact List.take_succ_eq_append_getElem hlt
    have eq : quoteL (s.data.toList.take i ++ [c]) = quoteL (s.data.toList.take i) ++ (if sp c = true then [92, c] else [c]) := by unfold quoteL; rw [List.flatMap_append]; simp
    rw [e, eq] at h
    rw [hbt, w1 i (by omega)]
    have hx : s.extract ((i : Int)).toNat (((i + 1 : Nat) : Int)).toNat = ofL [c] := by
      rw [Int.toNat_natCast, Int.toNat_natCast]
      exact ext1 s i c hd
    rw [hx]
    have h92 : (⟨#[92]⟩ : ByteArray) = ofL [92] := rfl
    rw [h92, ofL_add, ofL_add, ofL_add, List.append_assoc]
    have hsp : sp c = true → Ev (fun k => if (ofL (quoteL (s.data.toList.take i))).size + 1 ≤ 9223372036854775807 then (if (i : Int) ≤ ((i + 1 : Nat) : Int) then (if ((i + 1 : Nat) : Int) ≤ (s.size : Int) then (if (ofL (quoteL (s.data.toList.take i) ++ [92])).size + (ofL [c]).size ≤ 9223372036854775807 then (mewsref02_Quote.l0 k s (ofL (quoteL (s.data.toList.take i) ++ ([92] ++ [c]))) ((i + 1 : Nat) : Int)) else none) else none) else none) else none) (ofL (quoteL s.data.toList)) := by
      intro hs2
      rw [if_pos hs2] at h
      refine ev_pos (by rw [ofL_size]; omega) (ev_pos (by omega) (ev_pos (by omega) (ev_pos (by rw [ofL_size, ofL_size, List.length_append]; simp; omega) ?_)))
      exact h
    have hno : ∀ n : Nat, n < 256 → ((c.toNat : Int) = (n : Int) ↔ c = UInt8.ofNat n) := fun n hn => by
      have e : (UInt8.ofNat n).toNat = n := by simp [Nat.mod_eq_of_lt hn]
      exact ⟨fun h1 => UInt8.toNat_inj.1 (by omega), fun h1 => by subst h1; omega⟩
    refine ev_ite (fun h1 => hsp (by rw [(hno 42 (by decide)).1 h1]; rfl)) (fun h1 => ?_)
    refine ev_ite (fun h2 => hsp (by rw [(hno 63 (by decide)).1 h2]; rfl)) (fun h2 => ?_)
    refine ev_ite (fun h3 => hsp (by rw [(hno 91 (by decide)).1 h3]; rfl)) (fun h3 => ?_)
    refine ev_ite (fun h4 => hsp (by rw [(hno 92 (by decide)).1 h4]; rfl)) (fun h4 => ?_)
    have hns : ¬ sp c = true := by
      unfold sp
      simp only [Bool.or_eq_true, decide_eq_true_eq, not_or]
      exact ⟨⟨⟨fun q => h1 ((hno 42 (by decide)).2 q), fun q => h2 ((hno 63 (by decide)).2 q)⟩, fun q => h3 ((hno 91 (by decide)).2 q)⟩, fun q => h4 ((hno 92 (by decide)).2 q)⟩
    rw [if_neg hns] at h
    refine ev_pos (by omega) (ev_pos (by omega) (ev_pos (by rw [ofL_size, ofL_size]; simp; omega) ?_))
    exact h
theorem gall_ev (p : ByteArray) (hp : p.size ≤ 1000) (l : List ByteArray) (hl : l.length ≤ 1000) (hs : ∀ s ∈ l, s.size ≤ 1000) : Ev (fun k => glob_All.f k p l) (l.filter (fun s => matchL p.data.toList s.data.toList)) := by
  unfold glob_All.f
  refine ev_up (g := fun k i => glob_All.l0 k p ((l.take i).filter (fun s => matchL p.data.toList s.data.toList)) l (l.length : Int) (i : Int)) l.length ?_ (fun i hi h => ?_) 0 (by omega)
  · refine ev_round ?_
    simp only [glob_All.l0]
    refine ev_neg (by omega) (ev_some ?_)
    rw [List.take_of_length_le (by omega)]
  · refine ev_round ?_
    simp only [glob_All.l0]
    refine ev_pos (by omega) (ev_pos (by omega) (ev_pos (by omega) ?_))
    have hrd : rdOf ByteArray.empty l ((i : Nat) : Int) = l[i] := by
      show l.getD i _ = l[i]
      rw [List.getD_eq_getElem?_getD, List.getElem?_eq_getElem hi]; rfl
    have e : l.take (i + 1) = l.take i ++ [l[i]] := List.take_succ_eq_append_getElem hi
    rw [hrd, w1 i (by omega)]
    obtain ⟨b, hb, hb2⟩ := match_ev p l[i] (by omega) (by have := hs l[i] (List.getElem_mem hi); omega)
    have hm : (b = true) ↔ matchL p.data.toList l[i].data.toList = true := hb2.trans (matchL_mt _ _).symm
    rw [e, List.filter_append, List.filter_cons] at h
    refine ev_bind hb (ev_ite (fun ht => ?_) (fun ht => ?_))
    · rw [if_pos (hm.1 ht)] at h
      refine ev_pos ?_ h
      have h1 := List.length_filter_le (fun s : ByteArray => matchL p.data.toList s.data.toList) (l.take i)
      rw [List.length_take] at h1
      omega
    · rw [if_neg (fun q => ht (hm.2 q)), List.filter_nil, List.append_nil] at h
      exact h
theorem same2_l (a : List ByteArray) (hl : a.length ≤ 1000000000) : ∀ (n j : Nat), a.length - j ≤ n → j ≤ a.length → Ev (fun k => mewsref02_Same.l0 k a a (j : Int)) true := by
  intro n
  have hfin : ∀ j, ¬ j < a.length → Ev (fun k => mewsref02_Same.l0 k a a (j : Int)) true := by
    intro j hj
    refine ev_round ?_
    simp only [mewsref02_Same.l0]
    exact ev_neg (by omega) (ev_some rfl)
  induction n with
  | zero => intro j h1 h2; exact hfin j (by omega)
  | succ n ih =>
    intro j h1 h2
    by_cases hj : j < a.length
    · refine ev_round ?_
      simp only [mewsref02_Same.l0]
      rw [w1 j (by omega)]
      exact ev_pos (by omega) (ev_pos (by omega) (ev_pos (by omega) (ev_pos (by trivial) (ih (j + 1) (by omega) (by omega)))))
    · exact hfin j hj
theorem same2_ev (a : List ByteArray) (hl : a.length ≤ 1000000000) : Ev (fun k => mewsref02_Same.f k a a) true := by
  unfold mewsref02_Same.f
  exact ev_pos rfl (same2_l a hl a.length 0 (by omega) (by omega))
end Go.Proofs.Ytncdoanemfnjjaa.Gl
