/- What the walk of ArgsTurned wants: what the options are (no memory), rows of texts, the calls' contracts. -/
import Derived.Test.YtcooijbmmkkdoaaArgsOpt
import Derived.Test.YtcooijbmmkkdoaaX11
import Derived.Test.YtcooijbmmkkdoaaX12
import Derived.Test.YtcooijbmmkkdoaaX3
import Derived.Test.YtcooijbmmkkdoaaX4
import Derived.Test.YtcooijbmmkkdoaaX5
import Derived.Test.YtcooijbmmkkdoaaX8
namespace Go.Proofs.Ytcooijbmmkkdoaa.Hd
open Go.RowKit Go.Proofs.YtcooijbmmkkdoaaW.PrintWords Go.Proofs.YtcooijbmmkkdoaaW.PrintLast Go.Proofs.YtcooijbmmkkdoaaW.PrintMore Go.Proofs.Ytcooijbmmkkdoaa.Y Go.Proofs.Ytcooijbmmkkdoaa.X Go.Proofs.Ytcooijbmmkkdoaa.Pure
set_option linter.unusedVariables false
set_option linter.unusedSimpArgs false
theorem sameT_l (a : List S38) (hl : a.length ≤ 1000000) (hs : ∀ x ∈ a, x.f1.length ≤ 1000000) : ∀ (n j : Nat), a.length - j ≤ n → j ≤ a.length → Ev (fun k => mewslaw29_same.l0 k a a (a.length : Int) (j : Int)) true := by
  intro n
  have hfin : ∀ j, ¬ j < a.length → Ev (fun k => mewslaw29_same.l0 k a a (a.length : Int) (j : Int)) true := by
    intro j hj
    refine ev_round ?_
    simp only [mewslaw29_same.l0]
    exact ev_neg (by omega) (ev_some rfl)
  induction n with
  | zero => intro j h1 h2; exact hfin j (by omega)
  | succ n ih =>
    intro j h1 h2
    by_cases hj : j < a.length
    · have hrd : rd_T38 a ((j : Nat) : Int) = a[j] := by
        show a.getD j z38 = a[j]
        rw [List.getD_eq_getElem?_getD, List.getElem?_eq_getElem hj]; rfl
      refine ev_round ?_
      simp only [mewslaw29_same.l0]
      rw [w1 j (by omega), hrd]
      have hlen := hs a[j] (List.getElem_mem hj)
      exact ev_pos (by omega) (ev_pos (by omega) (ev_pos (by omega) (ev_pos (by omega) (ev_neg (by simp) (ev_bind (same2_ev _ (by omega)) (ev_pos rfl (ih (j + 1) (by omega) (by omega))))))))
    · exact hfin j hj
theorem sameT_ev (a : List S38) (hl : a.length ≤ 1000000) (hs : ∀ x ∈ a, x.f1.length ≤ 1000000) : Ev (fun k => mewslaw29_same.f k a a) true := by
  unfold mewslaw29_same.f
  exact ev_pos rfl (sameT_l a hl hs a.length 0 (by omega) (by omega))
def nmT : List ByteArray := [⟨#[78, 88, 32, 48]⟩, ⟨#[76, 73, 77, 73, 84, 32, 50]⟩, ⟨#[77, 65, 84, 67, 72, 32, 49]⟩]
def prT : List ByteArray := [⟨#[78, 88]⟩, ⟨#[76, 73, 77, 73, 84]⟩, ⟨#[77, 65, 84, 67, 72]⟩]
theorem namesT : Names nmT prT [0, 2, 1] where
  len := rfl
  clen := rfl
  few := by decide
  size := by decide +kernel
  ahead := by decide +kernel
  count := by decide +kernel
  small := by decide
def wA : ByteArray := ⟨#[76, 73, 77, 73, 84]⟩
def wB : ByteArray := ⟨#[109, 97, 116, 99, 104]⟩
def wC : ByteArray := ⟨#[78, 120]⟩
theorem iA : idx (up wA) prT 0 = some 1 := by decide +kernel
theorem iB : idx (up wB) prT 0 = some 2 := by decide +kernel
theorem iC : idx (up wC) prT 0 = some 0 := by decide +kernel
theorem goA (s c : ByteArray) (r : List ByteArray) (x y z : S38) (h : y.f0 = false) : optL prT [0, 2, 1] (wA :: s :: c :: r) [x, y, z] = optL prT [0, 2, 1] r [x, ⟨true, [s, c]⟩, z] := by
  rw [optL_some _ _ _ _ _ 1 iA]
  simp [h]
  try omega
theorem goB (g : ByteArray) (r : List ByteArray) (x y z : S38) (h : z.f0 = false) : optL prT [0, 2, 1] (wB :: g :: r) [x, y, z] = optL prT [0, 2, 1] r [x, y, ⟨true, [g]⟩] := by
  rw [optL_some _ _ _ _ _ 2 iB]
  simp [h]
  try omega
theorem goC (r : List ByteArray) (x y z : S38) (h : x.f0 = false) : optL prT [0, 2, 1] (wC :: r) [x, y, z] = optL prT [0, 2, 1] r [⟨true, []⟩, y, z] := by
  rw [optL_some _ _ _ _ _ 0 iC]
  simp [h]
/-- What the options are. -/
def optsT (g s c : ByteArray) : List S38 := [⟨true, []⟩, ⟨true, [s, c]⟩, ⟨true, [g]⟩]
def ordersT (g s c : ByteArray) : List (List ByteArray) :=
  [[wA, s, c] ++ [wB, g] ++ [wC], [wA, s, c] ++ [wC] ++ [wB, g], [wB, g] ++ [wA, s, c] ++ [wC], [wB, g] ++ [wC] ++ [wA, s, c], [wC] ++ [wA, s, c] ++ [wB, g], [wC] ++ [wB, g] ++ [wA, s, c]]
theorem orders_is (g s c : ByteArray) (l : List ByteArray) (h : l ∈ ordersT g s c) : optL prT [0, 2, 1] l (List.replicate prT.length z38) = some (optsT g s c) := by
  have e : List.replicate prT.length z38 = [z38, z38, z38] := rfl
  have z : z38.f0 = false := rfl
  rw [e]
  simp only [ordersT, List.mem_cons, List.not_mem_nil, or_false] at h
  rcases h with rfl | rfl | rfl | rfl | rfl | rfl <;> simp only [List.cons_append, List.nil_append] <;>
    (repeat (first | rw [goA _ _ _ _ _ _ (by first | exact z | rfl)] | rw [goB _ _ _ _ _ (by first | exact z | rfl)] | rw [goC _ _ _ _ (by first | exact z | rfl)])) <;> rw [optL_nil] <;> rfl
theorem orders_small (g s c : ByteArray) (hg : g.size ≤ 300) (hs : s.size ≤ 300) (hc : c.size ≤ 300) (l : List ByteArray) (h : l ∈ ordersT g s c) : l.length ≤ 100 ∧ ∀ x ∈ l, x.size ≤ 300 := by
  have a1 : wA.size ≤ 300 := by decide
  have a2 : wB.size ≤ 300 := by decide
  have a3 : wC.size ≤ 300 := by decide
  simp only [ordersT, List.mem_cons, List.not_mem_nil, or_false] at h
  rcases h with rfl | rfl | rfl | rfl | rfl | rfl <;> refine ⟨by simp, fun x hx => ?_⟩ <;>
    · simp only [List.cons_append, List.nil_append, List.mem_cons, List.not_mem_nil, or_false] at hx
      rcases hx with rfl | rfl | rfl | rfl | rfl | rfl <;> assumption
theorem join_ev (a b c : List ByteArray) (ha : a.length ≤ 1000) (hb : b.length ≤ 1000) (hc : c.length ≤ 1000) : Ev (fun k => mewslaw29_join.f k [a, b, c]) (a ++ b ++ c) := by
  have e1 : wrap64 (0 + 1) = 1 := by rw [w64 (by omega) (by omega)]; rfl
  have e2 : wrap64 (1 + 1) = 2 := by rw [w64 (by omega) (by omega)]; rfl
  have e3 : wrap64 (2 + 1) = 3 := by rw [w64 (by omega) (by omega)]; rfl
  have r0 : rd_L2 [a, b, c] 0 = a := rfl
  have r1 : rd_L2 [a, b, c] 1 = b := rfl
  have r2 : rd_L2 [a, b, c] 2 = c := rfl
  have hl : (([a, b, c] : List (List ByteArray)).length : Int) = 3 := rfl
  unfold mewslaw29_join.f
  rw [hl]
  refine ev_round ?_
  simp only [mewslaw29_join.l0, r0, e1]
  refine ev_pos (by omega) (ev_pos (by omega) (ev_pos (by rw [hl]; omega) (ev_pos (by simp; omega) (ev_round ?_))))
  simp only [mewslaw29_join.l0, r1, e2]
  refine ev_pos (by omega) (ev_pos (by omega) (ev_pos (by rw [hl]; omega) (ev_pos (by simp; omega) (ev_round ?_))))
  simp only [mewslaw29_join.l0, r2, e3]
  refine ev_pos (by omega) (ev_pos (by omega) (ev_pos (by rw [hl]; omega) (ev_pos (by simp; omega) (ev_round ?_))))
  simp only [mewslaw29_join.l0]
  exact ev_neg (by omega) (ev_some (by simp))
theorem key_ev (g s c : ByteArray) (hg : g.size ≤ 300) (hs : s.size ≤ 300) (hc : c.size ≤ 300) (l : List ByteArray) (hmem : l ∈ ordersT g s c) : Ev (fun k => args_Options.f k l nmT) (optsT g s c, true) := by
  obtain ⟨q1, q2⟩ := orders_small g s c hg hs hc _ hmem
  have := opt_ev namesT _ q1 q2
  rw [orders_is g s c _ hmem] at this
  exact this
/-- A row of texts that is read. -/
def RV (W : World) (v : Value) (l : List ByteArray) : Prop := Kd.V Kd.string 9 W 0 (fun _ => True) v l
theorem RV.below {W W1 : World} {v : Value} {l : List ByteArray} (h : RV W v l) (hb : Below W.heap.size W W1) : RV W1 v l := Kd.V_below h hb
theorem RV.open {W : World} {A : Option Addr} {n c : Nat} {l : List ByteArray} (h : RV W (.slice A n c) l) : n = l.length ∧ n ≤ c ∧ Kd.C Kd.string W A l.length l := Kd.V_reads' h
theorem lit_C {W : World} {g : Nat} {t : TypeId} (l : List ByteArray) (hb : W.heap[g]? = some (.cells (l.map Value.string).toArray t (0, 0))) (hl : l.length ≤ maxLen) : Kd.C Kd.string W (some ⟨g, 0, none⟩) l.length l := by
  refine ⟨rfl, hl, fun _ => ⟨⟨g, 0, none⟩, rfl, fun j p hj => ⟨[.string p], rfl, rfl, fun i u hu => ?_⟩⟩⟩
  have hi : i = 0 := by
    have := (List.getElem?_eq_some_iff.1 hu).1
    simpa using this
  subst hi
  have hvu : Value.string p = u := by simpa using hu
  subst hvu
  have h1 := blk_cell hb j
  have h2 : ((l.map Value.string).toArray)[j]? = some (.string p) := by simp [hj]
  rw [h2] at h1
  simpa [Addr.add_lit, show Kd.string.sz = 1 from rfl] using h1
theorem lit_V {W : World} {g : Nat} {t : TypeId} {cs : Array Value} {n : Nat} (l : List ByteArray) (hb : W.heap[g]? = some (.cells cs t (0, 0))) (hcs : cs = (l.map Value.string).toArray) (hn : n = l.length) (hl : n ≤ maxLen) : RV W (.slice (some ⟨g, 0, none⟩) n n) l := by
  subst hcs
  subst hn
  exact ⟨_, _, rfl, Nat.le_refl _, fun W' hW => lit_C l ((hW g trivial (blk_lt hb)).trans hb) hl⟩
theorem old_blk {w W : World} {g : Nat} {o : Obj} (h : w.heap[g]? = some o) (hb : Below w.heap.size w W) : W.heap[g]? = some o := (hb.block g (blk_lt h)).trans h
theorem below_tr {w a c : World} (h1 : Below w.heap.size w a) (h2 : Below a.heap.size a c) : Below w.heap.size w c := h1.trans (h2.mono h1.size)
theorem cell_below {w w1 : World} {a : Addr} {v : Value} (h : w.cell? a = some v) (hb : Below w.heap.size w w1) : w1.cell? a = some v := by
  have hlt := World.block_lt_of_cell? w a h
  rw [← h]
  unfold World.cell?
  rw [hb.block _ hlt]
theorem cells4 {w : World} {g : Nat} {t : TypeId} {c0 c1 c2 c3 : Value} (h : w.heap[g]? = some (.cells #[c0, c1, c2, c3] t (0, 0))) :
    w.cell? ⟨g, 0, none⟩ = some c0 ∧ w.cell? ⟨g, 1, none⟩ = some c1 ∧ w.cell? ⟨g, 2, none⟩ = some c2 ∧ w.cell? ⟨g, 3, none⟩ = some c3 :=
  ⟨(blk_cell h 0).trans rfl, (blk_cell h 1).trans rfl, (blk_cell h 2).trans rfl, (blk_cell h 3).trans rfl⟩
theorem lit_event {P : Program} {ops : Array Oper} {Q : Exit → Act → World → Prop} {rest : List Oper} {o : Oper} {a : Act} {W : World} (hgd : o.guard = none) {N : Tmp} (_hd : o.dst = some N) {cs : Array Value} {t : TypeId} {n : Nat}
    (hrun : (execOp a.eval o).run P W = .ok (.value (.slice (some ⟨W.heap.size, 0, none⟩) n n)) (W.alloc (.cells cs t (0, 0))))
    (h : ∀ g, g = W.heap.size → ∀ w1, w1.heap[g]? = some (.cells cs t (0, 0)) → Below W.heap.size W w1 → wpList P ops Q rest (a.put o.dst (.slice (some ⟨g, 0, none⟩) n n)) w1) : wpList P ops Q (o :: rest) a W :=
  Kd.event_run hgd hrun (h _ rfl _ (blk_new W _) (below_alloc (Below.refl _ _) _))
theorem lit3_C {α : Type} {d : Kd α} {e : Nat} {w : World} {g : Nat} {t : TypeId} {A1 A2 A3 : Option Addr} {c1 c2 c3 : Nat} {a b c : List α} (hL : w.heap[g]? = some (.cells #[.slice A1 a.length c1, .slice A2 b.length c2, .slice A3 c.length c3] t (0, 0)))
    (h1 : a.length ≤ c1) (r1 : d.C w A1 a.length a) (h2 : b.length ≤ c2) (r2 : d.C w A2 b.length b) (h3 : c.length ≤ c3) (r3 : d.C w A3 c.length c) : (Kd.slice e d).C w (some ⟨g, 0, none⟩) 3 [a, b, c] := by
  refine ⟨rfl, by decide, fun _ => ⟨⟨g, 0, none⟩, rfl, fun j p hj => ?_⟩⟩
  have hone : ∀ (j : Nat) (v u : Value) (i : Nat), (#[Value.slice A1 a.length c1, .slice A2 b.length c2, .slice A3 c.length c3] : Array Value)[j]? = some v → [v][i]? = some u → w.cell? ((⟨g, 0, none⟩ : Addr).add (j * (Kd.slice e d).sz + i)) = some u := by
    intro j v u i hv hu
    have hi : i = 0 := by
      have := (List.getElem?_eq_some_iff.1 hu).1
      simpa using this
    subst hi
    have hvu : v = u := by simpa using hu
    subst hvu
    rw [← hv]
    have := blk_cell hL j
    simpa [Addr.add_lit, show (Kd.slice e d).sz = 1 from rfl] using this
  match j with
  | 0 =>
    obtain rfl : a = p := by simpa using hj
    exact ⟨[.slice A1 a.length c1], rfl, ⟨A1, c1, rfl, h1, r1⟩, fun i u hu => hone 0 _ u i rfl hu⟩
  | 1 =>
    obtain rfl : b = p := by simpa using hj
    exact ⟨[.slice A2 b.length c2], rfl, ⟨A2, c2, rfl, h2, r2⟩, fun i u hu => hone 1 _ u i rfl hu⟩
  | 2 =>
    obtain rfl : c = p := by simpa using hj
    exact ⟨[.slice A3 c.length c3], rfl, ⟨A3, c3, rfl, h3, r3⟩, fun i u hu => hone 2 _ u i rfl hu⟩
  | j + 3 => simp at hj
/-! ### the contracts -/
theorem far_con (g s c : ByteArray) : ∃ bf : Bool, (∀ (W : World) (A : Option Addr) (n k : Nat), RV W (.slice A n k) [g, s, c] → Calls Try.prog 7 #[.slice A n k] W fun e w' => e = .returned (.bool bf) ∧ Below W.heap.size W w') ∧ (bf = false → g.size ≤ 300 ∧ s.size ≤ 300 ∧ c.size ≤ 300) := by
  obtain ⟨b, hb, hb2⟩ := far_ev [g, s, c] (by simp)
  obtain ⟨k, hk⟩ := hb.rounds
  refine ⟨b, fun W A n kk hv => ?_, fun e => ?_⟩
  · obtain ⟨hn, hc, hr⟩ := hv.open
    subst hn
    exact (mewslaw29_far.calls k A kk [g, s, c] b W hr hc hk).mono (fun e w' h => ⟨h.1, h.2.below⟩)
  · obtain ⟨_, g2⟩ := hb2 e
    exact ⟨g2 g (by simp), g2 s (by simp), g2 c (by simp)⟩
theorem alive_con (W : World) : Calls Try.prog 8 #[] W fun e w' => e = .returned (.bool true) ∧ Below W.heap.size W w' := by
  obtain ⟨k, hk⟩ := alive_ev.rounds
  exact mewslaw29_alive.calls k true W hk
theorem join_con {W : World} {g : Nat} {A1 A2 A3 : Option Addr} {n1 n2 n3 c1 c2 c3 : Nat} {a b c : List ByteArray} (hb : W.heap[g]? = some (.cells #[.slice A1 n1 c1, .slice A2 n2 c2, .slice A3 n3 c3] 22 (0, 0)))
    (h1 : RV W (.slice A1 n1 c1) a) (h2 : RV W (.slice A2 n2 c2) b) (h3 : RV W (.slice A3 n3 c3) c) (l1 : a.length ≤ 1000) (l2 : b.length ≤ 1000) (l3 : c.length ≤ 1000) :
    Calls Try.prog 12 #[.slice (some ⟨g, 0, none⟩) 3 3] W fun e w' => ∃ A n k, e = .returned (.slice A n k) ∧ RV w' (.slice A n k) (a ++ b ++ c) ∧ Below W.heap.size W w' := by
  obtain ⟨hn1, hc1, r1⟩ := h1.open
  obtain ⟨hn2, hc2, r2⟩ := h2.open
  obtain ⟨hn3, hc3, r3⟩ := h3.open
  subst hn1; subst hn2; subst hn3
  obtain ⟨k, hk⟩ := (join_ev a b c l1 l2 l3).rounds
  refine (mewslaw29_join.calls k (some ⟨g, 0, none⟩) 3 [a, b, c] (a ++ b ++ c) W (lit3_C hb hc1 r1 hc2 r2 hc3 r3) (Nat.le_refl _) hk).mono (fun e w' h => ?_)
  obtain ⟨v, he, hR, hB⟩ := h
  obtain ⟨A, cc, hv⟩ := Kd.R_slice hR
  subst hv
  exact ⟨A, _, cc, he, Kd.V_mono (Kd.R_V hR) (fun _ _ => trivial), hB⟩
/-- The options, as they lie. -/
def OV (W : World) (g0 cap : Nat) (g s c : ByteArray) : Prop := 3 ≤ cap ∧ Kd.C k38 W (some ⟨g0, 0, none⟩) 3 (optsT g s c)
theorem OV.below {W W1 : World} {g0 cap : Nat} {g s c : ByteArray} (h : OV W g0 cap g s c) (hb : Below W.heap.size W W1) : OV W1 g0 cap g s c := ⟨h.1, Kd.C_below h.2 hb⟩
theorem opts_con {W : World} {A : Option Addr} {n k gn : Nat} {g s c : ByteArray} {l : List ByteArray} (hz : g.size ≤ 300 ∧ s.size ≤ 300 ∧ c.size ≤ 300) (hl : l ∈ ordersT g s c) (hv : RV W (.slice A n k) l) (hn : RV W (.slice (some ⟨gn, 0, none⟩) 3 3) nmT) :
    Calls Try.prog 9 #[.slice A n k, .slice (some ⟨gn, 0, none⟩) 3 3] W fun e w' => ∃ g0 cap, e = .returned (.tuple #[.slice (some ⟨g0, 0, none⟩) 3 cap, .bool true]) ∧ OV w' g0 cap g s c ∧ Below W.heap.size W w' := by
  obtain ⟨hn1, hc1, r1⟩ := hv.open
  subst hn1
  obtain ⟨_, hc2, r2⟩ := hn.open
  obtain ⟨q, hq⟩ := (key_ev g s c hz.1 hz.2.1 hz.2.2 l hl).rounds
  refine (args_Options.calls q (fun _ => True) A k l (some ⟨gn, 0, none⟩) 3 nmT (optsT g s c) true W hv r2 (Nat.le_refl _) hq).mono (fun e w' h => ?_)
  obtain ⟨v, he, hS, hB⟩ := h
  obtain ⟨g0, cap, hv0, _, _, _⟩ := Kd.S_form hS (by simp [optsT])
  subst hv0
  obtain ⟨_, h2, h3⟩ := Kd.S_reads' hS
  exact ⟨g0, cap, he, ⟨h2, h3⟩, hB⟩
theorem same_con {W : World} {g0 c0 g1 c1 : Nat} {g s c : ByteArray} (h0 : OV W g0 c0 g s c) (h1 : OV W g1 c1 g s c) :
    Calls Try.prog 11 #[.slice (some ⟨g0, 0, none⟩) 3 c0, .slice (some ⟨g1, 0, none⟩) 3 c1] W fun e w' => e = .returned (.bool true) ∧ Below W.heap.size W w' := by
  obtain ⟨k, hk⟩ := (sameT_ev (optsT g s c) (by simp [optsT]) (by simp [optsT])).rounds
  exact (mewslaw29_same.calls k _ c0 (optsT g s c) _ c1 (optsT g s c) true W h0.2 h0.1 h1.2 h1.1 hk).mono (fun e w' h => ⟨h.1, h.2.below⟩)
theorem same2_con {W : World} {A B : Option Addr} {n c m d : Nat} {l : List ByteArray} (hl : l.length ≤ 1000000000) (h0 : RV W (.slice A n c) l) (h1 : RV W (.slice B m d) l) :
    Calls Try.prog 13 #[.slice A n c, .slice B m d] W fun e w' => e = .returned (.bool true) ∧ Below W.heap.size W w' := by
  obtain ⟨hn1, hc1, r1⟩ := h0.open
  obtain ⟨hn2, hc2, r2⟩ := h1.open
  subst hn1; subst hn2
  obtain ⟨k, hk⟩ := (same2_ev l hl).rounds
  exact (mewsref02_Same.calls k _ c l _ d l true W r1 hc1 r2 hc2 hk).mono (fun e w' h => ⟨h.1, h.2.below⟩)
/-- The orders, as they lie: whatever one is read. -/
def Six (W : World) (g6 : Nat) (g s c : ByteArray) : Prop := ∀ i : Nat, i < 6 → ∃ A n k l, W.cell? ⟨g6, i, none⟩ = some (.slice A n k) ∧ RV W (.slice A n k) l ∧ l ∈ ordersT g s c
theorem Six.below {W W1 : World} {g6 : Nat} {g s c : ByteArray} (h : Six W g6 g s c) (hb : Below W.heap.size W W1) : Six W1 g6 g s c := fun i hi => by
  obtain ⟨A, n, k, l, h1, h2, h3⟩ := h i hi
  exact ⟨A, n, k, l, cell_below h1 hb, h2.below hb, h3⟩
theorem six_mk {W : World} {g6 : Nat} {g s c : ByteArray} {t : TypeId} {A1 A2 A3 A4 A5 A6 : Option Addr} {n1 n2 n3 n4 n5 n6 k1 k2 k3 k4 k5 k6 : Nat}
    (hb : W.heap[g6]? = some (.cells #[.slice A1 n1 k1, .slice A2 n2 k2, .slice A3 n3 k3, .slice A4 n4 k4, .slice A5 n5 k5, .slice A6 n6 k6] t (0, 0)))
    (h1 : RV W (.slice A1 n1 k1) ([wA, s, c] ++ [wB, g] ++ [wC])) (h2 : RV W (.slice A2 n2 k2) ([wA, s, c] ++ [wC] ++ [wB, g])) (h3 : RV W (.slice A3 n3 k3) ([wB, g] ++ [wA, s, c] ++ [wC])) (h4 : RV W (.slice A4 n4 k4) ([wB, g] ++ [wC] ++ [wA, s, c])) (h5 : RV W (.slice A5 n5 k5) ([wC] ++ [wA, s, c] ++ [wB, g])) (h6 : RV W (.slice A6 n6 k6) ([wC] ++ [wB, g] ++ [wA, s, c])) : Six W g6 g s c := fun i hi => by
  match i, hi with
  | 0, _ => exact ⟨_, _, _, _, (blk_cell hb 0).trans rfl, h1, by simp [ordersT]⟩
  | 1, _ => exact ⟨_, _, _, _, (blk_cell hb 1).trans rfl, h2, by simp [ordersT]⟩
  | 2, _ => exact ⟨_, _, _, _, (blk_cell hb 2).trans rfl, h3, by simp [ordersT]⟩
  | 3, _ => exact ⟨_, _, _, _, (blk_cell hb 3).trans rfl, h4, by simp [ordersT]⟩
  | 4, _ => exact ⟨_, _, _, _, (blk_cell hb 4).trans rfl, h5, by simp [ordersT]⟩
  | 5, _ => exact ⟨_, _, _, _, (blk_cell hb 5).trans rfl, h6, by simp [ordersT]⟩
theorem rv_of_C {W : World} {A : Option Addr} {n k : Nat} {l : List ByteArray} (hn : n = l.length) (hk : n ≤ k) (h : Kd.C Kd.string W A n l) (hE : ∀ W', (∀ q, q < W.heap.size → W'.heap[q]? = W.heap[q]?) → Kd.C Kd.string W' A n l) : RV W (.slice A n k) l := by
  subst hn
  exact ⟨A, k, rfl, hk, fun W' hW => hE W' (fun q hq => hW q trivial hq)⟩
/-- The cells that are read of the options. -/
theorem OV.cells {W : World} {g0 cap : Nat} {g s c : ByteArray} (h : OV W g0 cap g s c) : ∃ A1 c1 A2 c2, W.cell? ⟨g0, 0, none⟩ = some (.bool true) ∧ W.cell? ⟨g0, 3, none⟩ = some (.slice A1 2 c1) ∧ W.cell? ⟨g0, 5, none⟩ = some (.slice A2 1 c2) ∧ 2 ≤ c1 ∧ Kd.C Kd.string W A1 2 [s, c] ∧ 1 ≤ c2 ∧ Kd.C Kd.string W A2 1 [g] := by
  obtain ⟨ad, B0, d0, e0, p0, _, _, _⟩ := at_T38 h.2 0 (by decide) (by decide)
  obtain ⟨ad1, A1, c1, e1, _, p1, l1, r1⟩ := at_T38 h.2 1 (by decide) (by decide)
  obtain ⟨ad2, A2, c2, e2, _, p2, l2, r2⟩ := at_T38 h.2 2 (by decide) (by decide)
  injection e0 with e0
  injection e1 with e1
  injection e2 with e2
  subst e0; subst e1; subst e2
  exact ⟨A1, c1, A2, c2, p0, p1, p2, l1, r1, l2, r2⟩
/-! ### in the region that draws -/
theorem keep9 {W0 W W1 : World} {a b c d e f : Addr} {va vb vc vd ve vf : Value} (hb : Below W.heap.size W W1) (h : Below W0.heap.size W0 W ∧ W.cell? a = some va ∧ W.cell? b = some vb ∧ W.cell? c = some vc ∧ W.cell? d = some vd ∧ W.cell? e = some ve ∧ W.cell? f = some vf) :
    Below W0.heap.size W0 W1 ∧ W1.cell? a = some va ∧ W1.cell? b = some vb ∧ W1.cell? c = some vc ∧ W1.cell? d = some vd ∧ W1.cell? e = some ve ∧ W1.cell? f = some vf := by
  obtain ⟨h0, h1, h2, h3, h4, h5, h6⟩ := h
  exact ⟨below_tr h0 hb, cell_below h1 hb, cell_below h2 hb, cell_below h3 hb, cell_below h4 hb, cell_below h5 hb, cell_below h6 hb⟩
theorem same_held {W0 W : World} {P : Prop} {g0 c0 g1 c1 : Nat} {g s c : ByteArray} (hb : Below W0.heap.size W0 W ∧ P) (h0 : OV W0 g0 c0 g s c) (h1 : OV W0 g1 c1 g s c) :
    Calls Try.prog 11 #[.slice (some ⟨g0, 0, none⟩) 3 c0, .slice (some ⟨g1, 0, none⟩) 3 c1] W fun e w' => e = .returned (.bool true) ∧ Below W.heap.size W w' := same_con (h0.below hb.1) (h1.below hb.1)
theorem same2_held {W0 W : World} {P : Prop} {A : Option Addr} {k n : Nat} {t : TypeId} {l : List ByteArray} (hb : Below W0.heap.size W0 (W.alloc (.cells (l.map Value.string).toArray t (0, 0))) ∧ P) (hk : l.length ≤ k) (hr : Kd.C Kd.string W0 A l.length l) (hl : l.length ≤ 1000000000) (hn : n = l.length) :
    Calls Try.prog 13 #[.slice A n k, .slice (some ⟨W.heap.size, 0, none⟩) n n] (W.alloc (.cells (l.map Value.string).toArray t (0, 0))) fun e w' => e = .returned (.bool true) ∧ Below (W.alloc (.cells (l.map Value.string).toArray t (0, 0))).heap.size (W.alloc (.cells (l.map Value.string).toArray t (0, 0))) w' := by
  subst hn
  obtain ⟨q, hq⟩ := (same2_ev l hl).rounds
  have hb1 : (W.alloc (.cells (l.map Value.string).toArray t (0, 0))).heap[W.heap.size]? = some (.cells (l.map Value.string).toArray t (0, 0)) := blk_new W _
  exact (mewsref02_Same.calls q _ k l _ l.length l true _ (Kd.C_below hr hb.1) hk (lit_C l hb1 (by simp only [maxLen]; omega)) (Nat.le_refl _) hq).mono (fun e w' h => ⟨h.1, h.2.below⟩)
theorem same2_sc {W0 W : World} {P : Prop} {A : Option Addr} {k : Nat} {t : TypeId} {s c : ByteArray} (hb : Below W0.heap.size W0 (W.alloc (.cells #[.string s, .string c] t (0, 0))) ∧ P) (hk : 2 ≤ k) (hr : Kd.C Kd.string W0 A 2 [s, c]) :
    Calls Try.prog 13 #[.slice A 2 k, .slice (some ⟨W.heap.size, 0, none⟩) 2 2] (W.alloc (.cells #[.string s, .string c] t (0, 0))) fun e w' => e = .returned (.bool true) ∧ Below (W.alloc (.cells #[.string s, .string c] t (0, 0))).heap.size (W.alloc (.cells #[.string s, .string c] t (0, 0))) w' :=
  same2_held (l := [s, c]) hb hk hr (by simp) rfl
theorem same2_g {W0 W : World} {P : Prop} {A : Option Addr} {k : Nat} {t : TypeId} {g : ByteArray} (hb : Below W0.heap.size W0 (W.alloc (.cells #[.string g] t (0, 0))) ∧ P) (hk : 1 ≤ k) (hr : Kd.C Kd.string W0 A 1 [g]) :
    Calls Try.prog 13 #[.slice A 1 k, .slice (some ⟨W.heap.size, 0, none⟩) 1 1] (W.alloc (.cells #[.string g] t (0, 0))) fun e w' => e = .returned (.bool true) ∧ Below (W.alloc (.cells #[.string g] t (0, 0))).heap.size (W.alloc (.cells #[.string g] t (0, 0))) w' :=
  same2_held (l := [g]) hb hk hr (by simp) rfl
end Go.Proofs.Ytcooijbmmkkdoaa.Hd
