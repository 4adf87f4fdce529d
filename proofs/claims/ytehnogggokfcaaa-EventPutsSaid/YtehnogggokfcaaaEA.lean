/- Texts of this claim, joined: EvPlain, EvNum, EvCalls, EvTk, EvK8, EvCon. -/
import Derived.Test.YtehnogggokfcaaaEvRow
import Derived.Test.YtehnogggokfcaaaLA
import Derived.Test.YtehnogggokfcaaaYN
import Derived.Test.YtehnogggokfcaaaEvBare
section
/- Events, plain: what Put and Take come to. -/
namespace Go.Proofs.Ytehnogggokfcaaa.Ev
open Go.RowKit Go.Proofs.YtehnogggokfcaaaW.PrintWords Go.Proofs.YtehnogggokfcaaaW.PrintMore Go.Proofs.Ytehnogggokfcaaa.Y Go.Proofs.Ytehnogggokfcaaa.X Go.Proofs.Ytehnogggokfcaaa.Pure Go.Proofs.Ytehnogggokfcaaa.LM
set_option linter.unusedVariables false
set_option linter.unusedSimpArgs false
def tx (n : Int) : ByteArray := textB n
def pv (b : ByteArray) : Int := (parseP b.data.toList).1
def pk (b : ByteArray) : Bool := (parseP b.data.toList).2
def i64 (n : Int) : Prop := -9223372036854775808 ≤ n ∧ n ≤ 9223372036854775807
theorem pv_tx {n : Int} (h : i64 n) : pv (tx n) = n ∧ pk (tx n) = true := by
  unfold pv pk tx
  rw [textB_data, parse_text n h.1 h.2]
  exact ⟨rfl, rfl⟩
def joinB (l : List ByteArray) : ByteArray := ofL (joinL (bs l))
def splitB (s : ByteArray) : Option (List ByteArray) := (splitL s.data.toList).map (·.map ofL)
theorem split_join (l : List ByteArray) : splitB (joinB l) = some l := by
  unfold splitB joinB
  rw [ofL_data, splitL_join]
  show some ((bs l).map ofL) = _
  rw [ofL_bs]
def nm (k : Nat) : ByteArray := [(⟨#[]⟩ : ByteArray), ⟨#[79, 80, 69, 78]⟩, ⟨#[66, 89, 84, 69, 83]⟩, ⟨#[68, 82, 65, 73, 78]⟩, ⟨#[67, 76, 79, 83, 69]⟩, ⟨#[84, 73, 67, 75]⟩, ⟨#[82, 79, 85, 78, 68]⟩, ⟨#[70, 65, 85, 76, 84]⟩, ⟨#[67, 82, 65, 83, 72]⟩].getD k ⟨#[]⟩
def kindOf (w : ByteArray) : Nat := if w = nm 1 then 1 else if w = nm 2 then 2 else if w = nm 3 then 3 else if w = nm 4 then 4 else if w = nm 5 then 5 else if w = nm 6 then 6 else if w = nm 7 then 7 else if w = nm 8 then 8 else 0
def up (b : ByteArray) : ByteArray := PureU.up b
def fitsP (k n : Nat) : Bool := if k = 1 ∨ k = 4 ∨ k = 5 then n == 1 else if k = 2 ∨ k = 3 then n == 2 else if k = 6 then n == 0 else if k = 7 then n == 4 else n % 3 == 0
def formP (k n : Nat) : List UInt8 := if k = 1 ∨ k = 4 then [104] else if k = 2 then [104, 115] else if k = 3 then [104, 110] else if k = 5 then [110] else if k = 6 then [] else if k = 7 then [116, 102, 107, 122] else if k = 8 then (List.replicate n [120, 121, 119]).flatten else []
def setLast (f : S43 → S43) (l : List S43) : List S43 := l.dropLast ++ [f (l.getLastD z43)]
def stepP (c : UInt8) (x : ByteArray) (p : S26 × Bool) : S26 × Bool :=
  if c = 104 then ({ p.1 with f1 := pv x }, p.2 && pk x)
  else if c = 110 then ({ p.1 with f3 := pv x }, p.2 && pk x)
  else if c = 115 then ({ p.1 with f2 := x }, p.2 && true)
  else if c = 116 then ({ p.1 with f4 := pv x }, p.2 && pk x)
  else if c = 102 then ({ p.1 with f5 := { p.1.f5 with f0 := x } }, p.2 && true)
  else if c = 107 then ({ p.1 with f5 := { p.1.f5 with f1 := pv x } }, p.2 && pk x)
  else if c = 122 then ({ p.1 with f5 := { p.1.f5 with f2 := pv x } }, p.2 && pk x)
  else if c = 120 then ({ p.1 with f6 := p.1.f6 ++ [⟨pv x, ⟨⟨#[]⟩, 0⟩⟩] }, p.2 && pk x)
  else if c = 121 then ({ p.1 with f6 := setLast (fun q => { q with f1 := { q.f1 with f0 := x } }) p.1.f6 }, p.2 && true)
  else ({ p.1 with f6 := setLast (fun q => { q with f1 := { q.f1 with f1 := pv x } }) p.1.f6 }, p.2 && pk x)
def runP (f : List UInt8) (a : List ByteArray) (p : S26 × Bool) : S26 × Bool := (f.zip a).foldl (fun p q => stepP q.1 q.2 p) p
theorem runP_snoc (f : List UInt8) (a : List ByteArray) (p : S26 × Bool) (i : Nat) (hf : i < f.length) (ha : i < a.length) : runP (f.take (i + 1)) (a.take (i + 1)) p = stepP f[i] a[i] (runP (f.take i) (a.take i) p) := by
  unfold runP
  rw [List.take_succ_eq_append_getElem hf, List.take_succ_eq_append_getElem ha, List.zip_append (by rw [List.length_take, List.length_take]; omega), List.foldl_append]
  rfl
def k0 (k : Nat) : S26 := { z26 with f0 := k }
def doneP (p : S26 × Bool) : S26 × Int := if p.2 = true then (p.1, 0) else (z26, 2)
def kindP (k : Nat) (a : List ByteArray) : S26 × Int := if k = 0 ∨ fitsP k a.length = false then (z26, 5) else doneP (runP (formP k (a.length / 3)) a (k0 k, true))
def triP : List S43 → List ByteArray
  | [] => []
  | y :: r => tx y.f0 :: y.f1.f0 :: tx y.f1.f1 :: triP r
def argsP (k : Nat) (x : S26) : List ByteArray := if k = 1 ∨ k = 4 then [tx x.f1] else if k = 2 then [tx x.f1, x.f2] else if k = 3 then [tx x.f1, tx x.f3] else if k = 5 then [tx x.f3] else if k = 6 then [] else if k = 7 then [tx x.f4, x.f5.f0, tx x.f5.f1, tx x.f5.f2] else if k = 8 then triP x.f6 else []
def bareP (k : Nat) (x : S26) : S26 := if k = 1 ∨ k = 4 then { k0 k with f1 := x.f1 } else if k = 2 then { k0 k with f1 := x.f1, f2 := x.f2 } else if k = 3 then { k0 k with f1 := x.f1, f3 := x.f3 } else if k = 5 then { k0 k with f3 := x.f3 } else if k = 7 then { k0 k with f4 := x.f4, f5 := x.f5 } else if k = 8 then { k0 k with f6 := x.f6 } else k0 k
structure In (x : S26) : Prop where
  h : i64 x.f1
  n : i64 x.f3
  t : i64 x.f4
  k : i64 x.f5.f1
  z : i64 x.f5.f2
  l : ∀ y ∈ x.f6, i64 y.f0 ∧ i64 y.f1.f1
theorem setLast_snoc (f : S43 → S43) (l : List S43) (q : S43) : setLast f (l ++ [q]) = l ++ [f q] := by
  unfold setLast
  rw [List.dropLast_concat]
  congr 2
  rw [List.getLastD_eq_getLast?, List.getLast?_concat]
  rfl
theorem triP_len : ∀ L : List S43, (triP L).length = 3 * L.length
  | [] => rfl
  | y :: r => by rw [triP]; simp only [List.length_cons]; rw [triP_len r]; omega
theorem kind_nm : ∀ k : Fin 9, k.val ≠ 0 → kindOf (up (nm k.val)) = k.val := by decide +kernel
theorem kindOf_le (w : ByteArray) : kindOf w ≤ 8 := by
  unfold kindOf
  split <;> (try split) <;> (try split) <;> (try split) <;> (try split) <;> (try split) <;> (try split) <;> (try split) <;> omega
theorem run_tri (e : S26) : ∀ (L L0 : List S43), (∀ y ∈ L, i64 y.f0 ∧ i64 y.f1.f1) → runP (List.replicate L.length [(120 : UInt8), 121, 119]).flatten (triP L) ({ e with f6 := L0 }, true) = ({ e with f6 := L0 ++ L }, true)
  | [], L0, h => by simp [runP, triP]
  | y :: r, L0, h => by
    have ih := run_tri e r (L0 ++ [y]) (fun q hq => h q (List.mem_cons_of_mem _ hq))
    have hy := h y (List.mem_cons_self ..)
    rw [List.append_assoc] at ih
    unfold runP at ih ⊢
    rw [List.length_cons, List.replicate_succ, List.flatten_cons, triP]
    show List.foldl _ (stepP 119 _ (stepP 121 _ (stepP 120 _ _))) (List.zip (List.replicate r.length [(120 : UInt8), 121, 119]).flatten (triP r)) = _
    have e : stepP 119 (tx y.f1.f1) (stepP 121 y.f1.f0 (stepP 120 (tx y.f0) ({ e with f6 := L0 }, true))) = ({ e with f6 := L0 ++ [y] }, true) := by
      simp [stepP, setLast_snoc, (pv_tx hy.1).1, (pv_tx hy.1).2, (pv_tx hy.2).1, (pv_tx hy.2).2]
    rw [e]
    exact ih
theorem kind_args (k : Nat) (h0 : k ≠ 0) (h8 : k ≤ 8) (x : S26) (hx : In x) : kindP k (argsP k x) = (bareP k x, 0) := by
  have hf : fitsP k (argsP k x).length = true := by
    rcases (by omega : k = 1 ∨ k = 2 ∨ k = 3 ∨ k = 4 ∨ k = 5 ∨ k = 6 ∨ k = 7 ∨ k = 8) with rfl | rfl | rfl | rfl | rfl | rfl | rfl | rfl <;> try rfl
    show ((triP x.f6).length % 3 == 0) = true
    rw [triP_len]
    simp
  unfold kindP
  rw [if_neg (by rintro (h | h); exact h0 h; rw [hf] at h; cases h)]
  have hh := pv_tx hx.h
  have hn := pv_tx hx.n
  have ht := pv_tx hx.t
  have hk := pv_tx hx.k
  have hz := pv_tx hx.z
  rcases (by omega : k = 1 ∨ k = 2 ∨ k = 3 ∨ k = 4 ∨ k = 5 ∨ k = 6 ∨ k = 7 ∨ k = 8) with rfl | rfl | rfl | rfl | rfl | rfl | rfl | rfl
  · simp [doneP, runP, formP, argsP, stepP, bareP, hh]
  · simp [doneP, runP, formP, argsP, stepP, bareP, hh]
  · simp [doneP, runP, formP, argsP, stepP, bareP, hh, hn]
  · simp [doneP, runP, formP, argsP, stepP, bareP, hh]
  · simp [doneP, runP, formP, argsP, stepP, bareP, hn]
  · simp [doneP, runP, formP, argsP, stepP, bareP]
  · simp [doneP, runP, formP, argsP, stepP, bareP, ht, hk, hz]
  · have h := run_tri (k0 8) x.f6 [] hx.l
    have e : ((argsP 8 x).length / 3) = x.f6.length := by
      show (triP x.f6).length / 3 = _
      rw [triP_len]; omega
    rw [e]
    show doneP (runP (List.replicate x.f6.length [120, 121, 119]).flatten (triP x.f6) (k0 8, true)) = _
    rw [show (k0 8, true) = (({ k0 8 with f6 := [] } : S26), true) from rfl, h]
    rfl
end Go.Proofs.Ytehnogggokfcaaa.Ev
end
section
/- The closure that reads a number. -/
namespace Go.Proofs.Ytehnogggokfcaaa.Ev
open Go.RowKit Go.Proofs.YtehnogggokfcaaaW.PrintWords Go.Proofs.YtehnogggokfcaaaW.PrintMore Go.Proofs.YtehnogggokfcaaaW.PrintLast Go.Proofs.Ytehnogggokfcaaa.Y Go.Proofs.Ytehnogggokfcaaa.X Go.Proofs.Ytehnogggokfcaaa.Pure Go.Proofs.Ytehnogggokfcaaa.LM
set_option linter.unusedVariables false
set_option linter.unusedSimpArgs false
attribute [local go_sem ↓] Go.wp_at_zero Go.wp_at_succ
def TxB (W : World) (g off : Nat) (l : List ByteArray) : Prop := ∃ cells, W.heap[g]? = some (.cells cells 9 (0, 0)) ∧ ∀ i (h : i < l.length), cells[off + i]? = some (.string l[i])
theorem TxB.at {W : World} {g off : Nat} {l : List ByteArray} (h : TxB W g off l) (i : Nat) (hi : i < l.length) : W.cell? ⟨g, off + i, none⟩ = some (.string l[i]) := by
  obtain ⟨cells, hb, hc⟩ := h
  exact (blk_cell hb _).trans (hc i hi)
theorem TxB.move {W W1 : World} {g off : Nat} {l : List ByteArray} (h : TxB W g off l) (e : W1.heap[g]? = W.heap[g]?) : TxB W1 g off l := by
  obtain ⟨cells, hb, hc⟩ := h
  exact ⟨cells, e.trans hb, hc⟩
theorem TxB.lt {W : World} {g off : Nat} {l : List ByteArray} (h : TxB W g off l) : g < W.heap.size := by
  obtain ⟨cells, hb, hc⟩ := h
  exact (Array.getElem?_eq_some_iff.1 hb).1
theorem TxB.below {W W1 : World} {g off : Nat} {l : List ByteArray} (h : TxB W g off l) (hb : Below W.heap.size W W1) : TxB W1 g off l := h.move (hb.block g h.lt)
theorem TxB.ne {W : World} {g g2 off t : Nat} {l : List ByteArray} {cs : Array Value} (h : TxB W g off l) (hb : W.heap[g2]? = some (.cells cs t (0, 0))) (ht : (9 : Nat) ≠ t) : g ≠ g2 := by
  rintro rfl
  obtain ⟨cells, h1, hc⟩ := h
  rw [h1] at hb
  injection hb with hb
  injection hb with h2 h3
  exact ht h3
theorem TxB.set {W : World} {g g2 off t j : Nat} {l : List ByteArray} {cs : Array Value} (h : TxB W g off l) (hb : W.heap[g2]? = some (.cells cs t (0, 0))) (ht : (9 : Nat) ≠ t) (u : Value) : TxB (W.setCell ⟨g2, j, none⟩ u) g off l := h.move (heap_other (h.ne hb ht) u)
theorem TxB.tail {W : World} {g off : Nat} {x : ByteArray} {l : List ByteArray} (h : TxB W g off (x :: l)) : TxB W g (off + 1) l := by
  obtain ⟨cells, hb, hc⟩ := h
  refine ⟨cells, hb, fun i hi => ?_⟩
  have := hc (i + 1) (by rw [List.length_cons]; omega)
  rw [show off + 1 + i = off + (i + 1) by omega]
  exact this
theorem OwnT.txb {W : World} {base : Nat} {v : Value} {l : List ByteArray} (h : OwnT W base v l) (h0 : 0 < l.length) : ∃ g c, v = .slice (some ⟨g, 0, none⟩) l.length c ∧ l.length ≤ c ∧ TxB W g 0 l := by
  obtain ⟨g, c, rfl, _, _, cells, hb⟩ := Kd.R_form h h0
  obtain ⟨_, hc, hC⟩ := Kd.R_reads' h
  refine ⟨g, c, rfl, hc, cells, hb, fun i hi => ?_⟩
  obtain ⟨ad, e, hx⟩ := Kd.at_string hC (i : Int) (by omega) (by omega)
  injection e with e
  subst e
  rw [Int.toNat_natCast] at hx
  have e : (⟨g, 0, none⟩ : Addr).add i = ⟨g, i, none⟩ := by simp [Addr.add]; omega
  rw [e] at hx
  rw [Nat.zero_add, ← blk_cell hb i, hx]
  congr 2
  unfold rdOf
  rw [Int.toNat_natCast, List.getD_eq_getElem?_getD, List.getElem?_eq_getElem hi]
  rfl
theorem num_calls (i : Nat) (l : List ByteArray) (g4 g7 gl off c n : Nat) (wr : Bool) (w : World) (hn : n = l.length) (hl : TxB w gl off l) (hi : i < l.length) (hm : n ≤ 1000000000)
    (h4 : w.heap[g4]? = some (.cells #[.slice (some ⟨gl, off, none⟩) n c] 45 (0, 0))) (h7 : w.heap[g7]? = some (.cells #[.bool wr] 4 (0, 0))) :
    Calls Try.prog 28 #[.int .i64 (i : Int), .pointer (some ⟨g4, 0, none⟩), .pointer (some ⟨g7, 0, none⟩)] w fun e w' => e = .returned (.int .i64 (pv l[i])) ∧ ∃ w1, w1.heap = w.heap ∧ Below w.heap.size w w1 ∧ w' = w1.setCell ⟨g7, 0, none⟩ (.bool (wr || !pk l[i])) := by
  obtain ⟨k, hk⟩ := parse_ev l[i]
  obtain ⟨n1, n2, hP⟩ : ∃ n1 n2, parseP l[i].data.toList = (n1, n2) := ⟨_, _, rfl⟩
  have hpv : pv l[i] = n1 := by unfold pv; rw [hP]
  have hpk : pk l[i] = n2 := by unfold pk; rw [hP]
  rw [hpv, hpk]
  have hk := hk k (Nat.le_refl _)
  rw [hP] at hk
  have c4 : w.cell? ⟨g4, 0, none⟩ = some (.slice (some ⟨gl, off, none⟩) n c) := (blk_cell h4 0).trans rfl
  have cx := hl.at i hi
  generalize l[i] = x at hk cx
  have e1 : (0 : Int) ≤ (i : Int) := Int.natCast_nonneg _
  have e2 : (i : Int) < (n : Int) := by omega
  have e3 := eq_true e1
  have e4 := eq_true e2
  have ea : (⟨gl, off, none⟩ : Addr).add i = ⟨gl, off + i, none⟩ := by
    unfold Addr.add
    split
    · rename_i h0; subst h0; rfl
    · rfl
  have H7 := Aside0.mk h7
  have HK := Aside0.mk hk
  clear h7 hk hP hpv hpk hl h4
  go_enter Try.func28, Try.ntmps28
  go_wp2_with fail
  go_at_call 29
  with_reducible refine Calls.mono (num_Parse.calls k x n1 n2 w HK.out) ?_
  rintro _ w' ⟨rfl, hd⟩
  have hb := hd.below
  have HH := Aside0.mk (show w'.heap = w.heap from by obtain ⟨m, rfl⟩ := hd; rfl)
  have HB := Aside0.mk hb
  have K7 := Aside0.mk (show w'.heap[g7]? = some (.cells #[.bool wr] 4 (0, 0)) from by rw [HH.out]; exact H7.out)
  have c7 : w'.cell? ⟨g7, 0, none⟩ = some (.bool wr) := (blk_cell K7.out 0).trans rfl
  have f7 := blk_frozen K7.out 0
  clear hd hb c4 cx
  cases wr
  · go_wp2_with fail
    go_ret
    exact ⟨rfl, w', HH.out, HB.out, rfl⟩
  · go_wp2_with fail
    go_ret
    exact ⟨rfl, w', HH.out, HB.out, rfl⟩
end Go.Proofs.Ytehnogggokfcaaa.Ev
end
section
/- What is called on the way: contracts. -/
namespace Go.Proofs.Ytehnogggokfcaaa.Ev
open Go.RowKit Go.Proofs.YtehnogggokfcaaaW.PrintWords Go.Proofs.YtehnogggokfcaaaW.PrintMore Go.Proofs.YtehnogggokfcaaaW.PrintLast Go.Proofs.Ytehnogggokfcaaa.Y Go.Proofs.Ytehnogggokfcaaa.X Go.Proofs.Ytehnogggokfcaaa.Pure Go.Proofs.Ytehnogggokfcaaa.LM
set_option linter.unusedVariables false
set_option linter.unusedSimpArgs false
def ecOf (x : S26) (A : Option Addr) (c : Nat) : Ec := ⟨x.f0, x.f1, x.f2, x.f3, x.f4, x.f5.f0, x.f5.f1, x.f5.f2, A, x.f6.length, c⟩
theorem split_c (s : ByteArray) (hs : s.size ≤ 1000000000) : ∃ r1 r2, (r1, r2) = (((splitB s).getD []), (splitB s).isSome) ∧ (∀ w, Calls Try.prog 24 #[.string s] w fun e w' => ∃ v0_ : Value, e = .returned (.tuple #[v0_, .bool r2]) ∧ OwnT w' w.heap.size v0_ r1 ∧ Below w.heap.size w w') ∧ (∀ w, Calls Try.prog 30 #[.string s] w fun e w' => ∃ v0_ : Value, e = .returned (.tuple #[v0_, .bool r2]) ∧ OwnT w' w.heap.size v0_ r1 ∧ Below w.heap.size w w') := by
  obtain ⟨k, hk⟩ := split_ev s hs
  obtain ⟨k2, hk2⟩ := rsplit_ev s hs
  obtain ⟨r1, r2, hr⟩ : ∃ r1 r2, res [] (splitL s.data.toList) = (r1, r2) := ⟨_, _, rfl⟩
  refine ⟨r1, r2, ?_, fun w => line_Split.calls k s r1 r2 w (by rw [← hr]; exact hk k (Nat.le_refl _)), fun w => mewsref04_Split.calls k2 s r1 r2 w (by rw [← hr]; exact hk2 k2 (Nat.le_refl _))⟩
  rw [← hr, res_nil]
  unfold splitB
  cases splitL s.data.toList <;> rfl
theorem upper_c (s : ByteArray) (hs : s.size ≤ 1000000000) (w : World) : Calls Try.prog 26 #[.string s] w fun e w' => e = .returned (.string (up s)) ∧ Below w.heap.size w w' :=
  table_Upper.calls s (up s) w (PureU.upper_is s (by omega))
theorem rupper_c (s : ByteArray) (hs : s.size ≤ 1000000) (w : World) : Calls Try.prog 31 #[.string s] w fun e w' => e = .returned (.string (up s)) ∧ Below w.heap.size w w' := by
  obtain ⟨k, hk⟩ := PureU.rupper_ev s hs
  exact (mewsref28_Upper.calls k s (up s) w (hk k (Nat.le_refl _))).mono fun e w' ⟨h1, h2⟩ => ⟨h1, h2.below⟩
def nms : List ByteArray := [nm 1, nm 2, nm 3, nm 4, nm 5, nm 6, nm 7, nm 8]
theorem names_is : event_names.f = some nms := rfl
theorem idx_at (b : ByteArray) (R : Int) (i : Nat) (hi : i < 8) (h : Ev (fun k => slices_Index_string_string.l0 k nms b 8 ((i + 1 : Nat) : Int)) R) : Ev (fun k => slices_Index_string_string.l0 k nms b 8 (i : Int)) (if b = nm (i + 1) then (i : Int) else R) := by
  refine ev_round ?_
  simp only [slices_Index_string_string.l0]
  have e : rdOf ByteArray.empty nms (i : Int) = nm (i + 1) := by
    rcases (by omega : i = 0 ∨ i = 1 ∨ i = 2 ∨ i = 3 ∨ i = 4 ∨ i = 5 ∨ i = 6 ∨ i = 7) with rfl | rfl | rfl | rfl | rfl | rfl | rfl | rfl <;> rfl
  have hl : nms.length = 8 := rfl
  refine ev_pos (by omega) (ev_pos (by omega) (ev_pos (by omega) ?_))
  rw [e]
  by_cases hb : b = nm (i + 1)
  · rw [if_pos hb]
    exact ev_pos (by rw [hb]) (ev_some rfl)
  · rw [if_neg hb]
    refine ev_neg (fun h2 => hb (ba_ext ?_)) ?_
    · rw [← ba_toList, ← ba_toList]; exact h2
    · rw [w1 i (by omega)]
      exact h
theorem idx_ev (b : ByteArray) : Ev (fun k => slices_Index_string_string.f k nms b) ((kindOf b : Int) - 1) := by
  have h8 : Ev (fun k => slices_Index_string_string.l0 k nms b 8 ((8 : Nat) : Int)) (-1) := by
    refine ev_round ?_
    simp only [slices_Index_string_string.l0]
    exact ev_neg (by omega) (ev_some rfl)
  have h := idx_at b _ 0 (by omega) (idx_at b _ 1 (by omega) (idx_at b _ 2 (by omega) (idx_at b _ 3 (by omega) (idx_at b _ 4 (by omega) (idx_at b _ 5 (by omega) (idx_at b _ 6 (by omega) (idx_at b _ 7 (by omega) h8)))))))
  have e : (if b = nm (0 + 1) then ((0 : Nat) : Int) else if b = nm (1 + 1) then ((1 : Nat) : Int) else if b = nm (2 + 1) then ((2 : Nat) : Int) else if b = nm (3 + 1) then ((3 : Nat) : Int) else if b = nm (4 + 1) then ((4 : Nat) : Int) else if b = nm (5 + 1) then ((5 : Nat) : Int) else if b = nm (6 + 1) then ((6 : Nat) : Int) else if b = nm (7 + 1) then ((7 : Nat) : Int) else -1) = (kindOf b : Int) - 1 := by
    unfold kindOf
    by_cases h1 : b = nm 1
    · rw [if_pos h1, if_pos h1]; rfl
    by_cases h2 : b = nm 2
    · rw [if_neg h1, if_neg h1, if_pos h2, if_pos h2]; rfl
    by_cases h3 : b = nm 3
    · rw [if_neg h1, if_neg h1, if_neg h2, if_neg h2, if_pos h3, if_pos h3]; rfl
    by_cases h4 : b = nm 4
    · rw [if_neg h1, if_neg h1, if_neg h2, if_neg h2, if_neg h3, if_neg h3, if_pos h4, if_pos h4]; rfl
    by_cases h5 : b = nm 5
    · rw [if_neg h1, if_neg h1, if_neg h2, if_neg h2, if_neg h3, if_neg h3, if_neg h4, if_neg h4, if_pos h5, if_pos h5]; rfl
    by_cases h6 : b = nm 6
    · rw [if_neg h1, if_neg h1, if_neg h2, if_neg h2, if_neg h3, if_neg h3, if_neg h4, if_neg h4, if_neg h5, if_neg h5, if_pos h6, if_pos h6]; rfl
    by_cases h7 : b = nm 7
    · rw [if_neg h1, if_neg h1, if_neg h2, if_neg h2, if_neg h3, if_neg h3, if_neg h4, if_neg h4, if_neg h5, if_neg h5, if_neg h6, if_neg h6, if_pos h7, if_pos h7]; rfl
    by_cases h8 : b = nm 8
    · rw [if_neg h1, if_neg h1, if_neg h2, if_neg h2, if_neg h3, if_neg h3, if_neg h4, if_neg h4, if_neg h5, if_neg h5, if_neg h6, if_neg h6, if_neg h7, if_neg h7, if_pos h8, if_pos h8]; rfl
    · rw [if_neg h1, if_neg h1, if_neg h2, if_neg h2, if_neg h3, if_neg h3, if_neg h4, if_neg h4, if_neg h5, if_neg h5, if_neg h6, if_neg h6, if_neg h7, if_neg h7, if_neg h8, if_neg h8]; rfl
  rw [e] at h
  exact h
theorem names_c (w : World) : Calls Try.prog 15 #[] w fun e w' => ∃ v0_ : Value, e = .returned v0_ ∧ OwnT w' w.heap.size v0_ nms ∧ Below w.heap.size w w' := event_names.calls nms w names_is
theorem idx_c (b : ByteArray) (w : World) (base : Nat) (v : Value) (h : OwnT w base v nms) : Calls Try.prog 25 #[v, .string b] w fun e w' => e = .returned (.int .i64 ((kindOf b : Int) - 1)) ∧ Below w.heap.size w w' := by
  obtain ⟨A, c, rfl, hc, hC⟩ := h.reads
  obtain ⟨k, hk⟩ := idx_ev b
  exact (slices_Index_string_string.calls k A c nms b _ w hC hc (hk k (Nat.le_refl _))).mono fun e w' ⟨h1, h2⟩ => ⟨h1, h2.below⟩
theorem beq_nat (n m : Nat) : ((n : Int) == (m : Int)) = (n == m) := by
  rw [Bool.eq_iff_iff, beq_iff_eq, beq_iff_eq]
  omega
theorem beq_mod (n : Nat) : (Int.tmod (n : Int) 3 == 0) = (n % 3 == 0) := by
  rw [Int.tmod_eq_emod_of_nonneg (by omega), Bool.eq_iff_iff, beq_iff_eq, beq_iff_eq]
  omega
theorem fits_ev (k n : Nat) (h0 : k ≠ 0) (h8 : k ≤ 8) : Ev (fun q => event_fits.f q (k : Int) (n : Int)) (fitsP k n) := by
  refine Ev.of (event_fits.mono _ _) (k := 5) ?_
  rcases (by omega : k = 1 ∨ k = 2 ∨ k = 3 ∨ k = 4 ∨ k = 5 ∨ k = 6 ∨ k = 7 ∨ k = 8) with rfl | rfl | rfl | rfl | rfl | rfl | rfl | rfl <;> simp [event_fits.f, event_fits.j0, event_fits.j1, fitsP]
  all_goals (first | exact beq_nat n 0 | exact beq_nat n 1 | exact beq_nat n 2 | exact beq_nat n 4 | exact beq_mod n)
theorem fits_c (k n : Nat) (h0 : k ≠ 0) (h8 : k ≤ 8) (w : World) : Calls Try.prog 27 #[.int .i64 (k : Int), .int .i64 (n : Int)] w fun e w' => e = .returned (.bool (fitsP k n)) ∧ Below w.heap.size w w' := by
  obtain ⟨q, hq⟩ := fits_ev k n h0 h8
  exact (event_fits.calls q k n _ w (hq q (Nat.le_refl _))).mono fun e w' ⟨h1, h2⟩ => ⟨h1, h2.below⟩
theorem fits_i (k n : Nat) (kI nI : Int) (hk : kI = (k : Int)) (hn : nI = (n : Int)) (h0 : k ≠ 0) (h8 : k ≤ 8) (b : Bool) (hb : fitsP k n = b) (w : World) : Calls Try.prog 27 #[.int .i64 kI, .int .i64 nI] w fun e w' => e = .returned (.bool b) ∧ Below w.heap.size w w' := by
  subst hk
  subst hn
  subst hb
  exact fits_c k n h0 h8 w
end Go.Proofs.Ytehnogggokfcaaa.Ev
end
section
/- The state of event.Take behind its head. -/
namespace Go.Proofs.Ytehnogggokfcaaa.Ev
open Go.RowKit Go.Proofs.YtehnogggokfcaaaW.PrintWords Go.Proofs.YtehnogggokfcaaaW.PrintMore Go.Proofs.YtehnogggokfcaaaW.PrintLast Go.Proofs.Ytehnogggokfcaaa.Y Go.Proofs.Ytehnogggokfcaaa.X Go.Proofs.Ytehnogggokfcaaa.Pure Go.Proofs.Ytehnogggokfcaaa.LM
set_option linter.unusedVariables false
set_option linter.unusedSimpArgs false
structure Tk (w W : World) (g2 g4 g7 g9 gl off cc m : Nat) (a : List ByteArray) (wr : Bool) (e : Ec) : Prop where
  e2 : EB W g2 Ec.z
  b4 : W.heap[g4]? = some (.cells #[.slice (some ⟨gl, off, none⟩) m cc] 45 (0, 0))
  b7 : W.heap[g7]? = some (.cells #[.bool wr] 4 (0, 0))
  e9 : EB W g9 e
  tx : TxB W gl off a
  n : g2 ≠ g9
  b : Below w.heap.size w W
  h2 : w.heap.size ≤ g2
  h7 : w.heap.size ≤ g7
  h9 : w.heap.size ≤ g9
theorem ne_types {W : World} {g g2 t t2 : Nat} {cs cs2 : Array Value} (h : W.heap[g]? = some (.cells cs t (0, 0))) (h2 : W.heap[g2]? = some (.cells cs2 t2 (0, 0))) (ht : t ≠ t2) : g ≠ g2 := by
  rintro rfl
  rw [h] at h2
  injection h2 with h2
  injection h2 with _ h3
  exact ht h3
section
variable {w W W1 : World} {g2 g4 g7 g9 gl off cc m : Nat} {a : List ByteArray} {wr : Bool} {e : Ec}
theorem Tk.lt (k : Tk w W g2 g4 g7 g9 gl off cc m a wr e) : g2 < W.heap.size ∧ g4 < W.heap.size ∧ g7 < W.heap.size ∧ g9 < W.heap.size ∧ gl < W.heap.size := ⟨blk_lt k.e2, blk_lt k.b4, blk_lt k.b7, blk_lt k.e9, k.tx.lt⟩
theorem Tk.keep (k : Tk w W g2 g4 g7 g9 gl off cc m a wr e) (hk : ∀ q, q < W.heap.size → W1.heap[q]? = W.heap[q]?) (hb : Below w.heap.size w W1) : Tk w W1 g2 g4 g7 g9 gl off cc m a wr e :=
  ⟨(hk _ k.lt.1).trans k.e2, (hk _ k.lt.2.1).trans k.b4, (hk _ k.lt.2.2.1).trans k.b7, (hk _ k.lt.2.2.2.1).trans k.e9, k.tx.move (hk _ k.lt.2.2.2.2), k.n, hb, k.h2, k.h7, k.h9⟩
theorem Tk.below (k : Tk w W g2 g4 g7 g9 gl off cc m a wr e) (hb : Below W.heap.size W W1) : Tk w W1 g2 g4 g7 g9 gl off cc m a wr e := k.keep (fun q hq => hb.block q hq) (below_all_ k.b hb)
theorem Tk.put9 (k : Tk w W g2 g4 g7 g9 gl off cc m a wr e) {e' : Ec} (h9 : EB W1 g9 e') (hk : ∀ q, q ≠ g9 → W1.heap[q]? = W.heap[q]?) (hb : Below w.heap.size w W1) : Tk w W1 g2 g4 g7 g9 gl off cc m a wr e' :=
  ⟨(hk _ k.n).trans k.e2, (hk _ (ne_types k.b4 k.e9 (by decide))).trans k.b4, (hk _ (ne_types k.b7 k.e9 (by decide))).trans k.b7, h9, k.tx.move (hk _ (k.tx.ne k.e9 (by decide))), k.n, hb, k.h2, k.h7, k.h9⟩
theorem Tk.setH (k : Tk w W g2 g4 g7 g9 gl off cc m a wr e) (x : Int) : Tk w (W.setCell ⟨g9, 1, none⟩ (.int .i64 x)) g2 g4 g7 g9 gl off cc m a wr { e with h := x } := k.put9 (k.e9.setH x) (fun q hq => heap_other hq _) (ev_below_set k.b k.h9)
theorem Tk.setS (k : Tk w W g2 g4 g7 g9 gl off cc m a wr e) (x : ByteArray) : Tk w (W.setCell ⟨g9, 2, none⟩ (.string x)) g2 g4 g7 g9 gl off cc m a wr { e with s := x } := k.put9 (k.e9.setS x) (fun q hq => heap_other hq _) (ev_below_set k.b k.h9)
theorem Tk.setN (k : Tk w W g2 g4 g7 g9 gl off cc m a wr e) (x : Int) : Tk w (W.setCell ⟨g9, 3, none⟩ (.int .i64 x)) g2 g4 g7 g9 gl off cc m a wr { e with n := x } := k.put9 (k.e9.setN x) (fun q hq => heap_other hq _) (ev_below_set k.b k.h9)
theorem Tk.setT (k : Tk w W g2 g4 g7 g9 gl off cc m a wr e) (x : Int) : Tk w (W.setCell ⟨g9, 4, none⟩ (.int .i64 x)) g2 g4 g7 g9 gl off cc m a wr { e with t := x } := k.put9 (k.e9.setT x) (fun q hq => heap_other hq _) (ev_below_set k.b k.h9)
theorem Tk.setF (k : Tk w W g2 g4 g7 g9 gl off cc m a wr e) (x : ByteArray) (y z : Int) : Tk w (((W.setCell ⟨g9, 5, none⟩ (.string x)).setCell ⟨g9, 6, none⟩ (.int .i64 y)).setCell ⟨g9, 7, none⟩ (.int .i64 z)) g2 g4 g7 g9 gl off cc m a wr { e with fn := x, fk := y, fz := z } :=
  k.put9 (k.e9.setF x y z) (fun q hq => ((heap_other hq _).trans (heap_other hq _)).trans (heap_other hq _)) (ev_below_set (ev_below_set (ev_below_set k.b k.h9) k.h9) k.h9)
theorem Tk.setL (k : Tk w W g2 g4 g7 g9 gl off cc m a wr e) (A : Option Addr) (n c : Nat) : Tk w (W.setCell ⟨g9, 8, none⟩ (.slice A n c)) g2 g4 g7 g9 gl off cc m a wr { e with A := A, nl := n, c := c } := k.put9 (k.e9.setL A n c) (fun q hq => heap_other hq _) (ev_below_set k.b k.h9)
theorem Tk.num (k : Tk w W g2 g4 g7 g9 gl off cc m a wr e) (hm : m = a.length) (hm2 : m ≤ 1000000000) (i : Nat) (hi : i < a.length) :
    Calls Try.prog 28 #[.int .i64 (i : Int), .pointer (some ⟨g4, 0, none⟩), .pointer (some ⟨g7, 0, none⟩)] W fun x w' => x = .returned (.int .i64 (pv a[i])) ∧ Tk w w' g2 g4 g7 g9 gl off cc m a (wr || !pk a[i]) e ∧ (∀ base v L, OwnL W base v L → OwnL w' base v L) := by
  refine (num_calls i a g4 g7 gl off cc m wr W hm k.tx hi hm2 k.b4 k.b7).mono ?_
  rintro x w' ⟨rfl, w1, hh, hb, rfl⟩
  have k1 := k.below hb
  refine ⟨rfl, ⟨(heap_other (ne_types k1.e2 k1.b7 (by decide)) _).trans k1.e2, (heap_other (ne_types k1.b4 k1.b7 (by decide)) _).trans k1.b4, blk_put k1.b7 0 _ rfl, (heap_other (ne_types k1.e9 k1.b7 (by decide)) _).trans k1.e9, k1.tx.set k1.b7 (by decide) _, k.n, ev_below_set k1.b k.h7, k.h2, k.h7, k.h9⟩, fun base v L h => (h.below hb).set k1.b7 (by decide) _ _⟩
theorem Tk.numi (k : Tk w W g2 g4 g7 g9 gl off cc m a wr e) (hm : m = a.length) (hm2 : m ≤ 1000000000) (i : Nat) (iI : Int) (hI : iI = (i : Int)) (x : ByteArray) (hx : a[i]? = some x) :
    Calls Try.prog 28 #[.int .i64 iI, .pointer (some ⟨g4, 0, none⟩), .pointer (some ⟨g7, 0, none⟩)] W fun y w' => y = .returned (.int .i64 (pv x)) ∧ Tk w w' g2 g4 g7 g9 gl off cc m a (wr || !pk x) e ∧ (∀ base v L, OwnL W base v L → OwnL w' base v L) := by
  obtain ⟨hi, rfl⟩ := List.getElem?_eq_some_iff.1 hx
  subst hI
  exact k.num hm hm2 i hi
end
theorem c43_nil (w : World) : Kd.C k43 w none ([] : List S43).length [] := ⟨rfl, by decide, fun h => absurd h (by decide)⟩
theorem kind_2 (x y : ByteArray) : kindP 2 [x, y] = if (false || !pk x) = true then (z26, 2) else (⟨2, pv x, y, 0, 0, ⟨⟨#[]⟩, 0, 0⟩, []⟩, 0) := by
  cases h : pk x <;> simp [kindP, fitsP, formP, runP, stepP, doneP, h] <;> first | rfl | exact ⟨rfl, rfl, rfl, rfl, rfl, rfl⟩ | exact ⟨rfl, rfl, rfl, rfl, rfl⟩ | exact ⟨rfl, rfl, rfl, rfl⟩ | exact ⟨rfl, rfl, rfl⟩
end Go.Proofs.Ytehnogggokfcaaa.Ev
end
section
/- The eighth kind: Lefts, three arguments each; one more of them. -/
namespace Go.Proofs.Ytehnogggokfcaaa.Ev
open Go.RowKit Go.Proofs.YtehnogggokfcaaaW.PrintWords Go.Proofs.YtehnogggokfcaaaW.PrintMore Go.Proofs.YtehnogggokfcaaaW.PrintLast Go.Proofs.Ytehnogggokfcaaa.Y Go.Proofs.Ytehnogggokfcaaa.X Go.Proofs.Ytehnogggokfcaaa.Pure Go.Proofs.Ytehnogggokfcaaa.LM
set_option linter.unusedVariables false
set_option linter.unusedSimpArgs false
def at8 (a : List ByteArray) (i : Nat) : ByteArray := a.getD i ⟨#[]⟩
def one8 (a : List ByteArray) (i : Nat) : S43 := ⟨pv (at8 a (3 * i)), ⟨at8 a (3 * i + 1), pv (at8 a (3 * i + 2))⟩⟩
def lf8 (a : List ByteArray) (j : Nat) : List S43 := (List.range j).map (one8 a)
def wr8 (a : List ByteArray) (j : Nat) : Bool := (List.range j).any fun i => !pk (at8 a (3 * i)) || !pk (at8 a (3 * i + 2))
theorem lf8_succ (a : List ByteArray) (j : Nat) : lf8 a (j + 1) = lf8 a j ++ [one8 a j] := by simp [lf8, List.range_succ]
theorem wr8_succ (a : List ByteArray) (j : Nat) : wr8 a (j + 1) = ((wr8 a j || !pk (at8 a (3 * j))) || !pk (at8 a (3 * j + 2))) := by simp [wr8, List.range_succ, Bool.or_assoc]
theorem at8_get {a : List ByteArray} {i : Nat} (h : i < a.length) : a[i]? = some (at8 a i) := by
  unfold at8
  rw [List.getD_eq_getElem?_getD, List.getElem?_eq_getElem h]
  rfl
theorem tri_get : ∀ (q j : Nat), j < q → ((List.replicate q [(120 : UInt8), 121, 119]).flatten)[3 * j]? = some 120 ∧ ((List.replicate q [(120 : UInt8), 121, 119]).flatten)[3 * j + 1]? = some 121 ∧ ((List.replicate q [(120 : UInt8), 121, 119]).flatten)[3 * j + 2]? = some 119
  | q + 1, 0, _ => by rw [List.replicate_succ, List.flatten_cons]; exact ⟨rfl, rfl, rfl⟩
  | q + 1, j + 1, h => by
    have ih := tri_get q j (by omega)
    rw [List.replicate_succ, List.flatten_cons]
    rw [show 3 * (j + 1) = 3 * j + 1 + 1 + 1 by omega, show 3 * j + 1 + 1 + 1 + 1 = 3 * j + 1 + 1 + 1 + 1 from rfl, show 3 * j + 1 + 1 + 1 + 2 = 3 * j + 2 + 1 + 1 + 1 by omega]
    exact ih
theorem tri_len (q : Nat) : ((List.replicate q [(120 : UInt8), 121, 119]).flatten).length = 3 * q := by
  induction q with
  | zero => rfl
  | succ q ih => rw [List.replicate_succ, List.flatten_cons, List.length_append, ih]; simp; omega
theorem run8 (a : List ByteArray) (q : Nat) (hq : a.length = 3 * q) : ∀ j, j ≤ q → runP (((List.replicate q [(120 : UInt8), 121, 119]).flatten).take (3 * j)) (a.take (3 * j)) (k0 8, true) = ({ k0 8 with f6 := lf8 a j }, !wr8 a j)
  | 0, _ => rfl
  | j + 1, hj => by
    have ih := run8 a q hq j (by omega)
    obtain ⟨t0, t1, t2⟩ := tri_get q j (by omega)
    have hl := tri_len q
    obtain ⟨h0, t0⟩ := List.getElem?_eq_some_iff.1 t0
    obtain ⟨h1, t1⟩ := List.getElem?_eq_some_iff.1 t1
    obtain ⟨h2, t2⟩ := List.getElem?_eq_some_iff.1 t2
    obtain ⟨g0, s0⟩ := List.getElem?_eq_some_iff.1 (at8_get (a := a) (i := 3 * j) (by omega))
    obtain ⟨g1, s1⟩ := List.getElem?_eq_some_iff.1 (at8_get (a := a) (i := 3 * j + 1) (by omega))
    obtain ⟨g2, s2⟩ := List.getElem?_eq_some_iff.1 (at8_get (a := a) (i := 3 * j + 2) (by omega))
    have r0 := runP_snoc _ a (k0 8, true) (3 * j) h0 g0
    have r1 := runP_snoc _ a (k0 8, true) (3 * j + 1) h1 g1
    have r2 := runP_snoc _ a (k0 8, true) (3 * j + 2) h2 g2
    rw [show 3 * (j + 1) = 3 * j + 2 + 1 by omega, r2, r1, r0, ih, t0, t1, t2, s0, s1, s2, lf8_succ, wr8_succ]
    unfold one8
    simp [stepP, setLast_snoc, Bool.not_or]
section
variable {w W W1 : World} {g2 g4 g7 g9 gl off cc m : Nat} {a : List ByteArray} {wr : Bool} {e : Ec}
theorem Tk.grown (k : Tk w W g2 g4 g7 g9 gl off cc m a wr e) {base : Nat} {v : Value} {L : List S43} (ho : OwnL W base v L) (hg : W.grownBy W1 v.ownBlock) (hb : Below w.heap.size w W1) : Tk w W1 g2 g4 g7 g9 gl off cc m a wr e := by
  obtain ⟨l2, l4, l7, l9, ll⟩ := k.lt
  obtain ⟨cells, hx, hc⟩ := k.tx
  exact ⟨(hg.block _ l2 (Kd.R_ne ho k.e2 (by decide))).trans k.e2, (hg.block _ l4 (Kd.R_ne ho k.b4 (by decide))).trans k.b4, (hg.block _ l7 (Kd.R_ne ho k.b7 (by decide))).trans k.b7, (hg.block _ l9 (Kd.R_ne ho k.e9 (by decide))).trans k.e9, k.tx.move (hg.block _ ll (Kd.R_ne ho hx (by decide))), k.n, hb, k.h2, k.h7, k.h9⟩
theorem Tk.numA (k : Tk w W g2 g4 g7 g9 gl off cc m a wr e) (hm : m = a.length) (hm2 : m ≤ 1000000000) (i : Nat) (iI : Int) (hI : iI = (i : Int)) (x : ByteArray) (hx : a[i]? = some x) :
    Calls Try.prog 28 (#[.int .i64 iI] ++ #[.pointer (some ⟨g4, 0, none⟩), .pointer (some ⟨g7, 0, none⟩)]) W fun y w' => y = .returned (.int .i64 (pv x)) ∧ Tk w w' g2 g4 g7 g9 gl off cc m a (wr || !pk x) e ∧ (∀ base v L, OwnL W base v L → OwnL w' base v L) := by
  have h := k.numi hm hm2 i iI hI x hx
  simpa using h
theorem Tk.alloc (k : Tk w W g2 g4 g7 g9 gl off cc m a wr e) (o : Obj) : Tk w (W.alloc o) g2 g4 g7 g9 gl off cc m a wr e := k.below ((Below.refl W.heap.size W).alloc (Nat.le_refl _) o)
end
section
variable {ops : Array Oper} {S : World → Prop} {fuel : Nat} {listed : Array Bool} {a : Act} {W : World} {Q : Exit → Act → World → Prop} {rs : List Nat}
end
end Go.Proofs.Ytehnogggokfcaaa.Ev
end
section
/- What the printed functions on events come to. -/
namespace Go.Proofs.Ytehnogggokfcaaa.Ev
open Go.RowKit Go.Proofs.YtehnogggokfcaaaW.PrintWords Go.Proofs.YtehnogggokfcaaaW.PrintMore Go.Proofs.YtehnogggokfcaaaW.PrintLast Go.Proofs.Ytehnogggokfcaaa.Y Go.Proofs.Ytehnogggokfcaaa.X Go.Proofs.Ytehnogggokfcaaa.Pure Go.Proofs.Ytehnogggokfcaaa.LM
set_option linter.unusedVariables false
set_option linter.unusedSimpArgs false
noncomputable section
def eqP {α : Type} (a b : α) : Bool := @decide (a = b) (Classical.propDecidable _)
theorem eqP_iff {α : Type} {a b : α} : eqP a b = true ↔ a = b := by unfold eqP; exact @decide_eq_true_iff _ (Classical.propDecidable _)
theorem eqP_self {α : Type} (a : α) : eqP a a = true := eqP_iff.2 rfl
theorem eqP_no {α : Type} {a b : α} (h : a ≠ b) : eqP a b = false := by
  cases e : eqP a b with
  | false => rfl
  | true => exact absurd (eqP_iff.1 e) h
theorem tl_eq {a b : ByteArray} : a.toList = b.toList ↔ a = b := ⟨fun h => ba_ext (by rw [← ba_toList, ← ba_toList]; exact h), fun h => by rw [h]⟩
theorem left_eq (x y : S43) : (!((x.f0) == (y.f0)) || ((!(((x.f1.f0).toList) == ((y.f1.f0).toList)) || (!((x.f1.f1) == (y.f1.f1)))))) = !eqP x y := by
  obtain ⟨a, b, c⟩ := x
  obtain ⟨a', b', c'⟩ := y
  by_cases h : (⟨a, ⟨b, c⟩⟩ : S43) = ⟨a', ⟨b', c'⟩⟩
  · rw [eqP_iff.2 h]; cases h; simp
  · rw [eqP_no h]
    dsimp only
    by_cases h1 : a = a'
    · by_cases h2 : b = b'
      · have h3 : c ≠ c' := fun e => h (by rw [h1, h2, e])
        have h3 : (c == c') = false := beq_eq_false_iff_ne.2 h3
        rw [h3]; simp
      · have h3 : (b.toList == b'.toList) = false := beq_eq_false_iff_ne.2 (fun e => h2 (tl_eq.1 e))
        rw [h3]; simp
    · have h3 : (a == a') = false := beq_eq_false_iff_ne.2 h1
      rw [h3]; simp
theorem rd43 (l : List S43) (i : Nat) (h : i < l.length) : rd_T43 l (i : Int) = l[i] := by
  unfold rd_T43
  rw [Int.toNat_natCast, List.getD_eq_getElem?_getD, List.getElem?_eq_getElem h]; rfl
theorem drop_eq (a b : List S43) (i : Nat) (ha : i < a.length) (hb : i < b.length) : a.drop i = b.drop i ↔ a[i] = b[i] ∧ a.drop (i + 1) = b.drop (i + 1) := by
  rw [List.drop_eq_getElem_cons ha, List.drop_eq_getElem_cons hb, List.cons.injEq]
theorem lefts_ev (a b : List S43) (hl : a.length = b.length) (hm : a.length ≤ 1000000) : Ev (fun k => api_Left.l0 k a b (a.length : Int) ((0 : Nat) : Int)) (eqP a b) := by
  have h : ∀ i, i ≤ a.length → Ev (fun k => api_Left.l0 k a b (a.length : Int) ((a.length - i : Nat) : Int)) (eqP (a.drop (a.length - i)) (b.drop (a.length - i))) := by
    intro i
    induction i with
    | zero =>
      intro _
      refine ev_round ?_
      simp only [api_Left.l0]
      refine ev_neg (by omega) (ev_some ?_)
      rw [Nat.sub_zero, List.drop_of_length_le (Nat.le_refl _), List.drop_of_length_le (by omega)]
      exact (eqP_self _).symm
    | succ i ih =>
      intro hi
      have ih := ih (by omega)
      have h1 : a.length - (i + 1) < a.length := by omega
      have h2 : a.length - (i + 1) < b.length := by omega
      refine ev_round ?_
      simp only [api_Left.l0]
      refine ev_pos (by omega) (ev_pos (by omega) (ev_pos (by omega) (ev_pos (by omega) ?_)))
      rw [left_eq, rd43 a _ h1, rd43 b _ h2]
      have hd := drop_eq a b (a.length - (i + 1)) h1 h2
      by_cases he : a[a.length - (i + 1)] = b[a.length - (i + 1)]
      · rw [eqP_iff.2 he]
        refine ev_neg (by simp) ?_
        rw [w1 _ (by omega), show a.length - (i + 1) + 1 = a.length - i by omega]
        rw [show a.length - (i + 1) + 1 = a.length - i by omega] at hd
        have e : eqP (a.drop (a.length - (i + 1))) (b.drop (a.length - (i + 1))) = eqP (a.drop (a.length - i)) (b.drop (a.length - i)) := by
          by_cases hx : a.drop (a.length - i) = b.drop (a.length - i)
          · rw [eqP_iff.2 hx, eqP_iff.2 (hd.2 ⟨he, hx⟩)]
          · rw [eqP_no hx, eqP_no (fun h => hx (hd.1 h).2)]
        rw [e]
        exact ih
      · rw [eqP_no he]
        refine ev_pos (by simp) (ev_some ?_)
        rw [eqP_no (fun h => he (hd.1 h).1)]
  have h0 := h a.length (Nat.le_refl _)
  rw [Nat.sub_self] at h0
  exact h0
theorem leftsf_ev (a b : List S43) (hm : a.length ≤ 1000000) : Ev (fun k => api_Left.f k a b) (eqP a b) := by
  unfold api_Left.f
  by_cases hl : a.length = b.length
  · exact ev_pos (by rw [hl]) (lefts_ev a b hl hm)
  · exact ev_neg (by omega) (ev_some (eqP_no (fun h => hl (by rw [h]))).symm)
theorem s26_eq (a b : S26) : a = b ↔ a.f0 = b.f0 ∧ a.f1 = b.f1 ∧ a.f2 = b.f2 ∧ a.f3 = b.f3 ∧ a.f4 = b.f4 ∧ a.f5.f0 = b.f5.f0 ∧ a.f5.f1 = b.f5.f1 ∧ a.f5.f2 = b.f5.f2 ∧ a.f6 = b.f6 := by
  obtain ⟨a0, a1, a2, a3, a4, ⟨a5, a6, a7⟩, a8⟩ := a
  obtain ⟨b0, b1, b2, b3, b4, ⟨b5, b6, b7⟩, b8⟩ := b
  constructor
  · intro h; cases h; exact ⟨rfl, rfl, rfl, rfl, rfl, rfl, rfl, rfl, rfl⟩
  · rintro ⟨h0, h1, h2, h3, h4, h5, h6, h7, h8⟩
    dsimp only at h0 h1 h2 h3 h4 h5 h6 h7 h8
    rw [h0, h1, h2, h3, h4, h5, h6, h7, h8]
theorem same_ev (a b : S26) (hm : a.f6.length ≤ 1000000) : Ev (fun k => event_Same.f k a.f0 a.f1 a.f2 a.f3 a.f4 a.f5.f0 a.f5.f1 a.f5.f2 a.f6 b.f0 b.f1 b.f2 b.f3 b.f4 b.f5.f0 b.f5.f1 b.f5.f2 b.f6) (eqP a b) := by
  have hs := s26_eq a b
  unfold event_Same.f
  by_cases h0 : a.f0 = b.f0
  · refine ev_pos h0 ?_
    by_cases h1 : a.f1 = b.f1
    · refine ev_pos h1 ?_
      by_cases h2 : a.f2 = b.f2
      · refine ev_pos (tl_eq.2 h2) ?_
        by_cases h3 : a.f3 = b.f3
        · refine ev_pos h3 ?_
          by_cases h4 : a.f4 = b.f4
          · refine ev_pos h4 ?_
            by_cases h5 : a.f5.f0 = b.f5.f0 ∧ a.f5.f1 = b.f5.f1 ∧ a.f5.f2 = b.f5.f2
            · obtain ⟨h5, h6, h7⟩ := h5
              refine ev_pos (by simp [h5, h6, h7]) (ev_bind (leftsf_ev a.f6 b.f6 hm) (ev_some ?_))
              by_cases h8 : a.f6 = b.f6
              · rw [eqP_iff.2 h8, eqP_iff.2 (hs.2 ⟨h0, h1, h2, h3, h4, h5, h6, h7, h8⟩)]
              · rw [eqP_no h8, eqP_no (fun h => h8 (by rw [h]))]
            · refine ev_neg ?_ (ev_some (eqP_no (fun h => h5 (by rw [h]; exact ⟨rfl, rfl, rfl⟩))).symm)
              intro h
              rw [Bool.and_eq_true, Bool.and_eq_true, beq_iff_eq, beq_iff_eq, beq_iff_eq, tl_eq] at h
              exact h5 h
          · exact ev_neg h4 (ev_some (eqP_no (fun h => h4 (by rw [h]))).symm)
        · exact ev_neg h3 (ev_some (eqP_no (fun h => h3 (by rw [h]))).symm)
      · exact ev_neg (fun h => h2 (tl_eq.1 h)) (ev_some (eqP_no (fun h => h2 (by rw [h]))).symm)
    · exact ev_neg h1 (ev_some (eqP_no (fun h => h1 (by rw [h]))).symm)
  · exact ev_neg h0 (ev_some (eqP_no (fun h => h0 (by rw [h]))).symm)
theorem rlefts_ev (a b : S26) (hl : a.f6.length = b.f6.length) (hm : a.f6.length ≤ 1000000) : ∀ i, i ≤ a.f6.length → Ev (fun k => mewsref47_Same.l0 k ((a.f6.length - i : Nat) : Int) a.f0 a.f1 a.f2 a.f3 a.f4 a.f5.f0 a.f5.f1 a.f5.f2 a.f6 b.f0 b.f1 b.f2 b.f3 b.f4 b.f5.f0 b.f5.f1 b.f5.f2 b.f6) (eqP ({ a with f6 := a.f6.drop (a.f6.length - i) } : S26) { b with f6 := b.f6.drop (a.f6.length - i) }) := by
  intro i
  induction i with
  | zero =>
    intro _
    refine ev_round ?_
    simp only [mewsref47_Same.l0]
    refine ev_neg (by omega) ?_
    rw [Nat.sub_zero, List.drop_of_length_le (Nat.le_refl _), List.drop_of_length_le (by omega)]
    have hs := s26_eq ({ a with f6 := [] } : S26) { b with f6 := [] }
    generalize eqQ : eqP ({ a with f6 := [] } : S26) { b with f6 := [] } = q
    by_cases h0 : a.f0 = b.f0
    · refine ev_pos h0 ?_
      by_cases h1 : a.f1 = b.f1
      · refine ev_pos h1 ?_
        by_cases h2 : a.f2 = b.f2
        · refine ev_pos (tl_eq.2 h2) ?_
          by_cases h3 : a.f3 = b.f3
          · refine ev_pos h3 ?_
            by_cases h4 : a.f4 = b.f4
            · refine ev_pos h4 (ev_some ?_)
              rw [← eqQ]
              by_cases h5 : a.f5.f0 = b.f5.f0 ∧ a.f5.f1 = b.f5.f1 ∧ a.f5.f2 = b.f5.f2
              · obtain ⟨h5, h6, h7⟩ := h5
                rw [eqP_iff.2 (hs.2 ⟨h0, h1, h2, h3, h4, h5, h6, h7, rfl⟩)]
                simp [h5, h6, h7]
              · rw [eqP_no (fun h => h5 ⟨(hs.1 h).2.2.2.2.2.1, (hs.1 h).2.2.2.2.2.2.1, (hs.1 h).2.2.2.2.2.2.2.1⟩)]
                refine Bool.eq_false_iff.2 fun h => ?_
                rw [Bool.and_eq_true, Bool.and_eq_true, beq_iff_eq, beq_iff_eq, beq_iff_eq, tl_eq] at h
                exact h5 h
            · exact ev_neg h4 (ev_some (by rw [← eqQ]; exact (eqP_no (fun h => h4 (hs.1 h).2.2.2.2.1)).symm))
          · exact ev_neg h3 (ev_some (by rw [← eqQ]; exact (eqP_no (fun h => h3 (hs.1 h).2.2.2.1)).symm))
        · exact ev_neg (fun h => h2 (tl_eq.1 h)) (ev_some (by rw [← eqQ]; exact (eqP_no (fun h => h2 (hs.1 h).2.2.1)).symm))
      · exact ev_neg h1 (ev_some (by rw [← eqQ]; exact (eqP_no (fun h => h1 (hs.1 h).2.1)).symm))
    · exact ev_neg h0 (ev_some (by rw [← eqQ]; exact (eqP_no (fun h => h0 (hs.1 h).1)).symm))
  | succ i ih =>
    intro hi
    have ih := ih (by omega)
    have h1 : a.f6.length - (i + 1) < a.f6.length := by omega
    have h2 : a.f6.length - (i + 1) < b.f6.length := by omega
    refine ev_round ?_
    simp only [mewsref47_Same.l0]
    refine ev_pos (by omega) (ev_pos (by omega) (ev_pos (by omega) ?_))
    rw [left_eq, rd43 a.f6 _ h1, rd43 b.f6 _ h2]
    have hd := drop_eq a.f6 b.f6 (a.f6.length - (i + 1)) h1 h2
    have hs := s26_eq ({ a with f6 := a.f6.drop (a.f6.length - (i + 1)) } : S26) { b with f6 := b.f6.drop (a.f6.length - (i + 1)) }
    have hs2 := s26_eq ({ a with f6 := a.f6.drop (a.f6.length - i) } : S26) { b with f6 := b.f6.drop (a.f6.length - i) }
    dsimp only at hs hs2
    by_cases he : a.f6[a.f6.length - (i + 1)] = b.f6[a.f6.length - (i + 1)]
    · rw [eqP_iff.2 he]
      refine ev_neg (by simp) ?_
      rw [w1 _ (by omega), show a.f6.length - (i + 1) + 1 = a.f6.length - i by omega]
      rw [show a.f6.length - (i + 1) + 1 = a.f6.length - i by omega] at hd
      have e : eqP ({ a with f6 := a.f6.drop (a.f6.length - (i + 1)) } : S26) { b with f6 := b.f6.drop (a.f6.length - (i + 1)) } = eqP ({ a with f6 := a.f6.drop (a.f6.length - i) } : S26) { b with f6 := b.f6.drop (a.f6.length - i) } := by
        by_cases hx : ({ a with f6 := a.f6.drop (a.f6.length - i) } : S26) = { b with f6 := b.f6.drop (a.f6.length - i) }
        · obtain ⟨q0, q1, q2, q3, q4, q5, q6, q7, q8⟩ := hs2.1 hx
          rw [eqP_iff.2 hx, eqP_iff.2 (hs.2 ⟨q0, q1, q2, q3, q4, q5, q6, q7, hd.2 ⟨he, q8⟩⟩)]
        · rw [eqP_no hx, eqP_no (fun h => by
            obtain ⟨q0, q1, q2, q3, q4, q5, q6, q7, q8⟩ := hs.1 h
            exact hx (hs2.2 ⟨q0, q1, q2, q3, q4, q5, q6, q7, (hd.1 q8).2⟩))]
      rw [e]
      exact ih
    · rw [eqP_no he]
      refine ev_pos (by simp) (ev_some ?_)
      rw [eqP_no (fun h => he (hd.1 (hs.1 h).2.2.2.2.2.2.2.2).1)]
theorem rsame_ev (a b : S26) (hm : a.f6.length ≤ 1000000) : Ev (fun k => mewsref47_Same.f k a.f0 a.f1 a.f2 a.f3 a.f4 a.f5.f0 a.f5.f1 a.f5.f2 a.f6 b.f0 b.f1 b.f2 b.f3 b.f4 b.f5.f0 b.f5.f1 b.f5.f2 b.f6) (eqP a b) := by
  unfold mewsref47_Same.f
  by_cases hl : a.f6.length = b.f6.length
  · refine ev_pos (by rw [hl]) ?_
    have h := rlefts_ev a b hl hm a.f6.length (Nat.le_refl _)
    rw [Nat.sub_self] at h
    exact h
  · exact ev_neg (by omega) (ev_some (eqP_no (fun h => hl (by rw [h]))).symm)
theorem same_c (a b : S26) (A B : Option Addr) (c d : Nat) (hm : a.f6.length ≤ 1000000) (w : World) (ha : a.f6.length ≤ c) (hA : Kd.C k43 w A a.f6.length a.f6) (hb : b.f6.length ≤ d) (hB : Kd.C k43 w B b.f6.length b.f6) :
    Calls Try.prog 10 #[.agg (ecL (ecOf a A c)), .agg (ecL (ecOf b B d))] w fun e w' => e = .returned (.bool (eqP a b)) ∧ Below w.heap.size w w' := by
  obtain ⟨k, hk⟩ := same_ev a b hm
  exact event_Same.calls k _ _ _ _ _ _ _ _ A c a.f6 _ _ _ _ _ _ _ _ B d b.f6 (eqP a b) w hA ha hB hb (hk k (Nat.le_refl _))
theorem rsame_c (a b : S26) (A B : Option Addr) (c d : Nat) (hm : a.f6.length ≤ 1000000) (w : World) (ha : a.f6.length ≤ c) (hA : Kd.C k43 w A a.f6.length a.f6) (hb : b.f6.length ≤ d) (hB : Kd.C k43 w B b.f6.length b.f6) :
    Calls Try.prog 11 #[.agg (ecL (ecOf a A c)), .agg (ecL (ecOf b B d))] w fun e w' => e = .returned (.bool (eqP a b)) ∧ Below w.heap.size w w' := by
  obtain ⟨k, hk⟩ := rsame_ev a b hm
  exact mewsref47_Same.calls k _ _ _ _ _ _ _ _ A c a.f6 _ _ _ _ _ _ _ _ B d b.f6 (eqP a b) w hA ha hB hb (hk k (Nat.le_refl _))
theorem text_c (n : Int) (h : i64 n) (w : World) : Calls Try.prog 16 #[.int .i64 n] w fun e w' => e = .returned (.string (tx n)) ∧ Below w.heap.size w w' :=
  event_text.calls n (tx n) w (by unfold event_text.f; rw [text_f n h.1 h.2]; rfl)
theorem ntext_c (n : Int) (h : i64 n) (w : World) : Calls Try.prog 17 #[.int .i64 n] w fun e w' => e = .returned (.string (tx n)) ∧ Below w.heap.size w w' :=
  num_Text.calls n (tx n) w (text_f n h.1 h.2)
theorem join_c (l : List ByteArray) (hl : l.length ≤ 20000) (hs : ∀ s ∈ l, s.size ≤ 1000000) (A : Option Addr) (c n : Nat) (hn : n = l.length) (w : World) (hc : n ≤ c) (hC : Kd.C Kd.string w A n l) : Calls Try.prog 18 #[.slice A n c] w fun e w' => e = .returned (.string (joinB l)) ∧ Below w.heap.size w w' := by
  subst hn
  obtain ⟨k, hk⟩ := join_ev l hl hs
  exact line_Join.calls k A c l (joinB l) w hC hc (hk k (Nat.le_refl _))
theorem rjoin_c (l : List ByteArray) (hl : l.length ≤ 20000) (hs : ∀ s ∈ l, s.size ≤ 1000000) (A : Option Addr) (c n : Nat) (hn : n = l.length) (w : World) (hc : n ≤ c) (hC : Kd.C Kd.string w A n l) : Calls Try.prog 22 #[.slice A n c] w fun e w' => e = .returned (.string (joinB l)) ∧ Below w.heap.size w w' := by
  subst hn
  obtain ⟨k, hk⟩ := rjoin_ev l hl hs
  exact (mewsref04_Join.calls k A c l (joinB l) w hC hc (hk k (Nat.le_refl _))).mono fun e w' ⟨h1, h2⟩ => ⟨h1, h2.below⟩
theorem name_c (k : Nat) (h0 : k ≠ 0) (h8 : k ≤ 8) (w : World) : Calls Try.prog 19 #[.int .i64 (k : Int)] w fun e w' => e = .returned (.string (nm k)) ∧ Below w.heap.size w w' :=
  mewsref47_name.calls _ (nm k) w (by rcases (by omega : k = 1 ∨ k = 2 ∨ k = 3 ∨ k = 4 ∨ k = 5 ∨ k = 6 ∨ k = 7 ∨ k = 8) with rfl | rfl | rfl | rfl | rfl | rfl | rfl | rfl <;> rfl)
theorem form8_ev (n : Nat) (hn : n ≤ 1000000) : Ev (fun k => mewsref47_form.l0 k (n : Int) (⟨#[]⟩ : ByteArray) 0) (ofL (formP 8 n)) := by
  have h : ∀ i, i ≤ n → Ev (fun k => mewsref47_form.l0 k (n : Int) (ofL (formP 8 (n - i))) ((n - i : Nat) : Int)) (ofL (formP 8 n)) := by
    intro i
    induction i with
    | zero =>
      intro _
      refine ev_round ?_
      simp only [mewsref47_form.l0]
      exact ev_neg (by omega) (ev_some rfl)
    | succ i ih =>
      intro hi
      have ih := ih (by omega)
      have e0 : ∀ q, formP 8 q = (List.replicate q [(120 : UInt8), 121, 119]).flatten := fun q => rfl
      have hsz : (ofL (formP 8 (n - (i + 1)))).size = 3 * (n - (i + 1)) := by
        rw [ofL_size, e0]
        generalize n - (i + 1) = q
        induction q with
        | zero => rfl
        | succ q ih => rw [List.replicate_succ, List.flatten_cons, List.length_append, ih]; simp; omega
      refine ev_round ?_
      simp only [mewsref47_form.l0]
      refine ev_pos (by omega) (ev_pos (by rw [hsz]; omega) ?_)
      rw [w1 _ (by omega), show n - (i + 1) + 1 = n - i by omega]
      have e : ofL (formP 8 (n - (i + 1))) ++ (⟨#[120, 121, 119]⟩ : ByteArray) = ofL (formP 8 (n - i)) := by
        rw [show n - i = n - (i + 1) + 1 by omega, e0, e0]
        generalize n - (i + 1) = q
        rw [show (⟨#[120, 121, 119]⟩ : ByteArray) = ofL [120, 121, 119] from rfl, ofL_add]
        congr 1
        rw [List.replicate_succ']
        simp
      rw [e]
      exact ih
  have h0 := h n (Nat.le_refl _)
  rw [Nat.sub_self] at h0
  exact h0
theorem form_c (k n : Nat) (h0 : k ≠ 0) (h8 : k ≤ 8) (hn : n ≤ 1000000) (w : World) : Calls Try.prog 20 #[.int .i64 (k : Int), .int .i64 (n : Int)] w fun e w' => e = .returned (.string (ofL (formP k n))) ∧ Below w.heap.size w w' := by
  have h : Ev (fun q => mewsref47_form.f q (k : Int) (n : Int)) (ofL (formP k n)) := by
    unfold mewsref47_form.f
    by_cases hk : k = 8
    · subst hk
      exact ev_bind0 rfl (ev_pos rfl (form8_ev n hn))
    · refine ev_bind0 rfl (ev_neg (by omega) (ev_pos (by omega) (ev_pos (by show ((k : Nat) : Int) < 9; omega) (ev_some ?_))))
      rcases (by omega : k = 1 ∨ k = 2 ∨ k = 3 ∨ k = 4 ∨ k = 5 ∨ k = 6 ∨ k = 7) with rfl | rfl | rfl | rfl | rfl | rfl | rfl <;> rfl
  obtain ⟨q, hq⟩ := h
  exact mewsref47_form.calls q _ _ _ w (hq q (Nat.le_refl _))
end
end Go.Proofs.Ytehnogggokfcaaa.Ev
end
