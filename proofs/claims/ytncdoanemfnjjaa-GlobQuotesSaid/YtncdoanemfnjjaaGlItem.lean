/- An item of a class, as the document reads it: no memory. -/
import Derived.Test.YtncdoanemfnjjaaGlParts
import Derived.Test.YtncdoanemfnjjaaX8
namespace Go.Proofs.Ytncdoanemfnjjaa.Gl
open Go.RowKit Go.Proofs.YtncdoanemfnjjaaW.PrintWords Go.Proofs.YtncdoanemfnjjaaW.PrintMore Go.Proofs.Ytncdoanemfnjjaa.Y Go.Proofs.Ytncdoanemfnjjaa.X
set_option linter.unusedVariables false
set_option linter.unusedSimpArgs false
theorem nat_is (a : UInt8) (n : Nat) (h : n < 256) : ((a.toNat : Int) = (n : Int)) ↔ a = UInt8.ofNat n := by
  have e : (UInt8.ofNat n).toNat = n := by simp [Nat.mod_eq_of_lt h]
  constructor
  · intro h1
    apply UInt8.toNat_inj.1
    omega
  · intro h1
    subst h1
    omega
theorem at_drop {p : ByteArray} {i : Nat} {a : UInt8} {r : List UInt8} (hd : p.data.toList.drop i = a :: r) : i < p.size ∧ bt p (i : Int) = (a.toNat : Int) ∧ p.data.toList.drop (i + 1) = r ∧ p.size = i + 1 + r.length := by
  have hl : i < p.size ∧ p.size = i + 1 + r.length := by
    have := congrArg List.length hd
    rw [List.length_drop, ← ba_size] at this
    simp at this; omega
  have := drop_at (s := p) i hl.1
  rw [hd] at this
  injection this with h1 h2
  exact ⟨hl.1, by rw [bt_nat p i hl.1, ← h1], h2.symm, hl.2⟩
theorem item_ev (p : ByteArray) (hp : p.size ≤ 1000000) (i : Nat) (a : UInt8) (r : List UInt8) (hd : p.data.toList.drop i = a :: r) :
    Ev (fun k => mewsref02_item.f k p (i : Int)) (((itemN (a :: r)).1 : Int), ((itemN (a :: r)).2.1 : Int), ((i + (itemN (a :: r)).2.2 : Nat) : Int)) := by
  obtain ⟨hl, hb, hr1, hsz⟩ := at_drop hd
  have e1 : wrap64 ((i : Int) + 1) = ((i + 1 : Nat) : Int) := by rw [w64 (by omega) (by omega)]; omega
  have e2 : wrap64 ((i : Int) + 2) = ((i + 2 : Nat) : Int) := by rw [w64 (by omega) (by omega)]; omega
  have e3 : wrap64 ((i : Int) + 3) = ((i + 3 : Nat) : Int) := by rw [w64 (by omega) (by omega)]; omega
  have h92 : ((a.toNat : Int) = 92) ↔ a = 92 := nat_is a 92 (by decide)
  have hj1 : Ev (fun k => mewsref02_item.j1 k p (i : Int) false) ((a.toNat : Int), (a.toNat : Int), ((i + 1 : Nat) : Int)) := by
    refine ev_round ?_
    simp only [mewsref02_item.j1]
    rw [e1, hb]
    exact ev_neg (by simp) (ev_pos (by omega) (ev_pos (by omega) (ev_some rfl)))
  have hshort : p.size ≤ i + 2 → Ev (fun k => mewsref02_item.j0 k p (i : Int) false) ((a.toNat : Int), (a.toNat : Int), ((i + 1 : Nat) : Int)) := by
    intro hs
    refine ev_round ?_
    simp only [mewsref02_item.j0]
    rw [e2]
    exact ev_neg (by simp) (ev_neg (by omega) hj1)
  have hesc : ∀ d : UInt8, i + 1 < p.size → bt p ((i + 1 : Nat) : Int) = (d.toNat : Int) → Ev (fun k => mewsref02_item.j0 k p (i : Int) true) ((d.toNat : Int), (d.toNat : Int), ((i + 2 : Nat) : Int)) := by
    intro d h1 h2
    refine ev_round ?_
    simp only [mewsref02_item.j0]
    rw [e1, e2, h2]
    exact ev_pos (by first | rfl | trivial) (ev_pos (by omega) (ev_pos (by omega) (ev_some rfl)))
  unfold mewsref02_item.f
  refine ev_pos (by omega) (ev_pos (by omega) ?_)
  rw [e1, hb]
  match r, hr1, hsz with
  | [], hr1, hsz =>
    have hsz : p.size = i + 1 := by simpa using hsz
    rw [itemN1, decide_eq_false (show ¬ ((i + 1 : Nat) : Int) < (p.size : Int) by omega)]
    exact ev_ite (fun _ => hshort (by omega)) (fun _ => hshort (by omega))
  | [d], hr1, hsz =>
    have hsz : p.size = i + 2 := by simpa using hsz
    obtain ⟨g1, g2, _, _⟩ := at_drop hr1
    rw [itemN2, decide_eq_true (show ((i + 1 : Nat) : Int) < (p.size : Int) by omega)]
    by_cases h : a = 92
    · rw [if_pos h]
      exact ev_pos (h92.2 h) (hesc d g1 g2)
    · rw [if_neg h]
      exact ev_neg (fun e => h (h92.1 e)) (hshort (by omega))
  | d :: b :: r, hr1, hsz =>
    have hsz : i + 2 < p.size := by simp only [List.length_cons] at hsz; omega
    obtain ⟨g1, g2, g3, _⟩ := at_drop hr1
    obtain ⟨k1, k2, _, _⟩ := at_drop g3
    rw [itemN3, decide_eq_true (show ((i + 1 : Nat) : Int) < (p.size : Int) by omega)]
    by_cases h : a = 92
    · rw [if_pos h]
      exact ev_pos (h92.2 h) (hesc d g1 g2)
    rw [if_neg h]
    refine ev_neg (fun e => h (h92.1 e)) (ev_round ?_)
    simp only [mewsref02_item.j0]
    rw [e1, e2, g2, show ((i + 2 : Nat) : Int) = ((i + 1 + 1 : Nat) : Int) from rfl, k2]
    refine ev_neg (by simp) (ev_pos (by omega) (ev_pos (by omega) (ev_pos (by omega) ?_)))
    have h45 : ((d.toNat : Int) = 45) ↔ d = 45 := nat_is d 45 (by decide)
    have h93 : ((b.toNat : Int) = 93) ↔ b = 93 := nat_is b 93 (by decide)
    by_cases hdb : d = 45 ∧ b ≠ 93
    · rw [if_pos hdb]
      refine ev_pos (h45.2 hdb.1) (ev_pos (by omega) ?_)
      rw [show ((b.toNat : Int) != 93) = true from bne_iff_ne.2 (fun e => hdb.2 (h93.1 e))]
      refine ev_round ?_
      simp only [mewsref02_item.j1]
      rw [e2, e3, hb, show ((i + 2 : Nat) : Int) = ((i + 1 + 1 : Nat) : Int) from rfl, k2]
      refine ev_pos (by first | rfl | trivial) (ev_pos (by omega) (ev_pos (by omega) (ev_pos (by omega) (ev_pos (by omega) ?_))))
      refine ev_ite (fun hlt => ev_some ?_) (fun hlt => ev_some ?_)
      · rw [Nat.min_eq_left (by omega), Nat.max_eq_right (by omega)]
      · rw [Nat.min_eq_right (by omega), Nat.max_eq_left (by omega)]
    · rw [if_neg hdb]
      refine ev_ite (fun he => ?_) (fun he => hj1)
      have hb93 : b = 93 := by
        by_cases hb2 : b = 93
        · exact hb2
        · exact absurd ⟨h45.1 he, hb2⟩ hdb
      refine ev_pos (by omega) ?_
      rw [show ((b.toNat : Int) != 93) = false from by rw [h93.2 hb93]; rfl]
      exact hj1
/-- The contract. -/
theorem item_con {p : ByteArray} (hp : p.size ≤ 1000000) {i : Nat} {a : UInt8} {r : List UInt8} (hd : p.data.toList.drop i = a :: r) (w : World) :
    Calls Try.prog 23 #[.string p, .int .i64 i] w fun e w' => e = .returned (.tuple #[.int .u8 ((itemN (a :: r)).1 : Nat), .int .u8 ((itemN (a :: r)).2.1 : Nat), .int .i64 ((i + (itemN (a :: r)).2.2 : Nat) : Int)]) ∧ Below w.heap.size w w' := by
  obtain ⟨k, hk⟩ := (item_ev p hp i a r hd).rounds
  exact (mewsref02_item.calls k p (i : Int) _ _ _ w hk).mono (fun e w' h => ⟨h.1, h.2.below⟩)
end Go.Proofs.Ytncdoanemfnjjaa.Gl
