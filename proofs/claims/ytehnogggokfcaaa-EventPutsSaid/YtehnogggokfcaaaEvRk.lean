/- The state of the document's Take; the signs of a form. -/
import Derived.Test.YtehnogggokfcaaaEvTake0
import Derived.Test.YtehnogggokfcaaaEA
namespace Go.Proofs.Ytehnogggokfcaaa.Ev
open Go.RowKit Go.Proofs.YtehnogggokfcaaaW.PrintWords Go.Proofs.YtehnogggokfcaaaW.PrintMore Go.Proofs.YtehnogggokfcaaaW.PrintLast Go.Proofs.Ytehnogggokfcaaa.Y Go.Proofs.Ytehnogggokfcaaa.X Go.Proofs.Ytehnogggokfcaaa.Pure Go.Proofs.Ytehnogggokfcaaa.LM
set_option linter.unusedVariables false
set_option linter.unusedSimpArgs false
structure Rk (w W : World) (g2 g6 gl : Nat) (l : List ByteArray) (e : Ec) : Prop where
  e2 : EB W g2 Ec.z
  e6 : EB W g6 e
  tx : TxB W gl 0 l
  n : g2 ≠ g6
  b : Below w.heap.size w W
  h2 : w.heap.size ≤ g2
  h6 : w.heap.size ≤ g6
def ecN (x : S26) (A : Option Addr) (n c : Nat) : Ec := ⟨x.f0, x.f1, x.f2, x.f3, x.f4, x.f5.f0, x.f5.f1, x.f5.f2, A, n, c⟩
section
variable {w W W1 : World} {g2 g6 gl : Nat} {l : List ByteArray} {e : Ec}
theorem Rk.below (k : Rk w W g2 g6 gl l e) (hb : Below W.heap.size W W1) : Rk w W1 g2 g6 gl l e := ⟨k.e2.below hb, k.e6.below hb, k.tx.below hb, k.n, below_all_ k.b hb, k.h2, k.h6⟩
theorem Rk.put6 (k : Rk w W g2 g6 gl l e) {e' : Ec} (h6 : EB W1 g6 e') (hk : ∀ q, q ≠ g6 → W1.heap[q]? = W.heap[q]?) (hb : Below w.heap.size w W1) : Rk w W1 g2 g6 gl l e' :=
  ⟨(hk _ k.n).trans k.e2, h6, k.tx.move (hk _ (k.tx.ne k.e6 (by decide))), k.n, hb, k.h2, k.h6⟩
theorem EB.setI (h : EB W g6 e) (x : ByteArray) : EB (W.setCell ⟨g6, 5, none⟩ (.string x)) g6 { e with fn := x } := blk_put h 5 _ rfl
theorem EB.setFk (h : EB W g6 e) (x : Int) : EB (W.setCell ⟨g6, 6, none⟩ (.int .i64 x)) g6 { e with fk := x } := blk_put h 6 _ rfl
theorem EB.setFz (h : EB W g6 e) (x : Int) : EB (W.setCell ⟨g6, 7, none⟩ (.int .i64 x)) g6 { e with fz := x } := blk_put h 7 _ rfl
theorem EB.setK (h : EB W g6 e) (x : Int) : EB (W.setCell ⟨g6, 0, none⟩ (.int .i64 x)) g6 { e with k := x } := blk_put h 0 _ rfl
theorem Rk.set (k : Rk w W g2 g6 gl l e) {e' : Ec} {j : Nat} {v : Value} (h : EB (W.setCell ⟨g6, j, none⟩ v) g6 e') : Rk w (W.setCell ⟨g6, j, none⟩ v) g2 g6 gl l e' := k.put6 h (fun q hq => heap_other hq _) (ev_below_set k.b k.h6)
theorem Rk.lt (k : Rk w W g2 g6 gl l e) : g2 < W.heap.size ∧ g6 < W.heap.size ∧ gl < W.heap.size := ⟨blk_lt k.e2, blk_lt k.e6, k.tx.lt⟩
theorem Rk.grown (k : Rk w W g2 g6 gl l e) {base : Nat} {v : Value} {L : List S43} (ho : OwnL W base v L) (hg : W.grownBy W1 v.ownBlock) (hb : Below w.heap.size w W1) : Rk w W1 g2 g6 gl l e := by
  obtain ⟨l2, l6, ll⟩ := k.lt
  obtain ⟨cells, hx, hc⟩ := k.tx
  exact ⟨(hg.block _ l2 (Kd.R_ne ho k.e2 (by decide))).trans k.e2, (hg.block _ l6 (Kd.R_ne ho k.e6 (by decide))).trans k.e6, k.tx.move (hg.block _ ll (Kd.R_ne ho hx (by decide))), k.n, hb, k.h2, k.h6⟩
theorem Rk.alloc (k : Rk w W g2 g6 gl l e) (o : Obj) : Rk w (W.alloc o) g2 g6 gl l e := k.below ((Below.refl W.heap.size W).alloc (Nat.le_refl _) o)
end
theorem rparse_c (s : ByteArray) (hs : s.size ≤ 1000000) (w : World) : Calls Try.prog 32 #[.string s] w fun e w' => e = .returned (.tuple #[.int .i64 (pv s), .bool (pk s)]) ∧ Below w.heap.size w w' := by
  obtain ⟨k, hk⟩ := ref_parse_ev s (by omega)
  exact mewsref01_Parse.calls k s (pv s) (pk s) w (hk k (Nat.le_refl _))
theorem kind_nm2 : ∀ k : Fin 9, k.val ≠ 0 → kindOf (nm k.val) = k.val := by decide +kernel
theorem kind_none (u : ByteArray) (h : ∀ j, 1 ≤ j → j ≤ 8 → u ≠ nm j) : kindOf u = 0 := by
  unfold kindOf
  rw [if_neg (h 1 (by omega) (by omega)), if_neg (h 2 (by omega) (by omega)), if_neg (h 3 (by omega) (by omega)), if_neg (h 4 (by omega) (by omega)), if_neg (h 5 (by omega) (by omega)), if_neg (h 6 (by omega) (by omega)), if_neg (h 7 (by omega) (by omega)), if_neg (h 8 (by omega) (by omega))]
theorem form_len (k m : Nat) (h0 : k ≠ 0) (h8 : k ≤ 8) : (formP k (m / 3)).length = m ↔ fitsP k m = true := by
  rcases (by omega : k = 1 ∨ k = 2 ∨ k = 3 ∨ k = 4 ∨ k = 5 ∨ k = 6 ∨ k = 7 ∨ k = 8) with rfl | rfl | rfl | rfl | rfl | rfl | rfl | rfl
  case _ => show 1 = m ↔ (m == 1) = true; rw [beq_iff_eq]; omega
  case _ => show 2 = m ↔ (m == 2) = true; rw [beq_iff_eq]; omega
  case _ => show 2 = m ↔ (m == 2) = true; rw [beq_iff_eq]; omega
  case _ => show 1 = m ↔ (m == 1) = true; rw [beq_iff_eq]; omega
  case _ => show 1 = m ↔ (m == 1) = true; rw [beq_iff_eq]; omega
  case _ => show 0 = m ↔ (m == 0) = true; rw [beq_iff_eq]; omega
  case _ => show 4 = m ↔ (m == 4) = true; rw [beq_iff_eq]; omega
  case _ =>
    show ((List.replicate (m / 3) [(120 : UInt8), 121, 119]).flatten).length = m ↔ (m % 3 == 0) = true
    rw [tri_len, beq_iff_eq]; omega
theorem get_idx (l : List UInt8) (i j : Nat) (hi : i < l.length) (hj : j < l.length) (e : i = j) : l[i] = l[j] := by subst e; rfl
theorem sign_c (v u : UInt8) (e : v = u) (hu : (u = 104 ∨ u = 110 ∨ u = 115 ∨ u = 116 ∨ u = 102 ∨ u = 107 ∨ u = 122 ∨ u = 120 ∨ u = 121 ∨ u = 119) ∧ ¬ (u = 121 ∨ u = 119)) {P : Prop} : (v = 104 ∨ v = 110 ∨ v = 115 ∨ v = 116 ∨ v = 102 ∨ v = 107 ∨ v = 122 ∨ v = 120 ∨ v = 121 ∨ v = 119) ∧ ((v = 121 ∨ v = 119) → P) := by
  subst e
  exact ⟨hu.1, fun h => absurd h hu.2⟩
theorem form_sign (k q : Nat) (h0 : k ≠ 0) (h8 : k ≤ 8) (a : List ByteArray) (ha : a.length = (formP k q).length) (i : Nat) (hi : i < (formP k q).length) :
    ((formP k q)[i] = 104 ∨ (formP k q)[i] = 110 ∨ (formP k q)[i] = 115 ∨ (formP k q)[i] = 116 ∨ (formP k q)[i] = 102 ∨ (formP k q)[i] = 107 ∨ (formP k q)[i] = 122 ∨ (formP k q)[i] = 120 ∨ (formP k q)[i] = 121 ∨ (formP k q)[i] = 119) ∧
    (((formP k q)[i] = 121 ∨ (formP k q)[i] = 119) → (runP ((formP k q).take i) (a.take i) (k0 k, true)).1.f6 ≠ []) := by
  by_cases hk : k = 8
  · subst hk
    have e : formP 8 q = (List.replicate q [(120 : UInt8), 121, 119]).flatten := rfl
    simp only [e] at hi ha ⊢
    rw [tri_len] at hi ha
    have hj : i / 3 < q := by omega
    obtain ⟨t0, t1, t2⟩ := tri_get q (i / 3) hj
    have hl := tri_len q
    obtain ⟨h0', t0⟩ := List.getElem?_eq_some_iff.1 t0
    obtain ⟨h1', t1⟩ := List.getElem?_eq_some_iff.1 t1
    obtain ⟨h2', t2⟩ := List.getElem?_eq_some_iff.1 t2
    have r := run8 a q ha (i / 3) (by omega)
    have r0 := runP_snoc _ a (k0 8, true) (3 * (i / 3)) h0' (by omega)
    have r1 := runP_snoc _ a (k0 8, true) (3 * (i / 3) + 1) h1' (by omega)
    rw [r, t0] at r0
    rw [t1] at r1
    rcases (by omega : i = 3 * (i / 3) ∨ i = 3 * (i / 3) + 1 ∨ i = 3 * (i / 3) + 2) with hx | hx | hx
    · have hz : ((List.replicate q [(120 : UInt8), 121, 119]).flatten)[i]'(by omega) = 120 := (get_idx _ _ _ _ _ hx).trans t0
      rw [hz]
      exact ⟨by decide, fun h => absurd h (by decide)⟩
    · have hz : ((List.replicate q [(120 : UInt8), 121, 119]).flatten)[i]'(by omega) = 121 := (get_idx _ _ _ _ _ hx).trans t1
      rw [hz]
      refine ⟨by decide, fun _ => ?_⟩
      rw [hx, r0]
      simp [stepP]
    · have hz : ((List.replicate q [(120 : UInt8), 121, 119]).flatten)[i]'(by omega) = 119 := (get_idx _ _ _ _ _ hx).trans t2
      rw [hz]
      refine ⟨by decide, fun _ => ?_⟩
      rw [hx, r1, r0]
      simp [stepP, setLast]
  · rcases (by omega : k = 1 ∨ k = 2 ∨ k = 3 ∨ k = 4 ∨ k = 5 ∨ k = 6 ∨ k = 7) with rfl | rfl | rfl | rfl | rfl | rfl | rfl
    · have hi : i < 1 := hi
      obtain rfl : i = 0 := by omega
      exact sign_c _ 104 rfl (by decide)
    · have hi : i < 2 := hi
      rcases (by omega : i = 0 ∨ i = 1) with rfl | rfl
      · exact sign_c _ 104 rfl (by decide)
      · exact sign_c _ 115 rfl (by decide)
    · have hi : i < 2 := hi
      rcases (by omega : i = 0 ∨ i = 1) with rfl | rfl
      · exact sign_c _ 104 rfl (by decide)
      · exact sign_c _ 110 rfl (by decide)
    · have hi : i < 1 := hi
      obtain rfl : i = 0 := by omega
      exact sign_c _ 104 rfl (by decide)
    · have hi : i < 1 := hi
      obtain rfl : i = 0 := by omega
      exact sign_c _ 110 rfl (by decide)
    · exact absurd hi (Nat.not_lt_zero _)
    · have hi : i < 4 := hi
      rcases (by omega : i = 0 ∨ i = 1 ∨ i = 2 ∨ i = 3) with rfl | rfl | rfl | rfl
      · exact sign_c _ 116 rfl (by decide)
      · exact sign_c _ 102 rfl (by decide)
      · exact sign_c _ 107 rfl (by decide)
      · exact sign_c _ 122 rfl (by decide)
section
variable {ops : Array Oper} {rest : List Oper} {o : Oper} {a : Act} {Q : Exit → Act → World → Prop} {W : World}
theorem left_cells {base g n cap : Nat} {L : List S43} {q : S43} (hn : n = L.length + 1) (HO : OwnL W base (.slice (some ⟨g, 0, none⟩) n cap) (L ++ [q])) : ∀ j u, ([.int .i64 q.f0, .string q.f1.f0, .int .i64 q.f1.f1] : List Value)[j]? = some u → W.cell? ⟨g, L.length * 3 + j, none⟩ = some u := by
  obtain ⟨c, hcl, hM, hcc, _⟩ := Kd.R_elem HO z43 (L.length : Int) (by omega) (by omega)
  rw [Int.toNat_natCast] at hM hcc
  have e : (L ++ [q]).getD L.length z43 = q := by rw [List.getD_eq_getElem?_getD, List.getElem?_append_right (Nat.le_refl _)]; simp
  rw [e] at hM
  obtain rfl := k43_openM hM
  exact hcc
theorem ev_stN {w0 : World} (base : Nat) (hN : o.dst = none) (hgd : o.guard = none) (p x : Tmp) (ho : o.op = .store 9 (.tmp p) (.tmp x)) {g n cap : Nat} {A' : Addr} (L : List S43) (q : S43) (u : ByteArray) (hn : n = L.length + 1)
    (haddr : a.eval (.tmp p) = .pointer (some A')) (hA : A' = ⟨g, L.length * 3 + 1, none⟩) (hx : a.eval (.tmp x) = .string u) (HO : OwnL W base (.slice (some ⟨g, 0, none⟩) n cap) (L ++ [q])) (HB : Below base w0 W)
    (h : ∀ w1, OwnL w1 base (.slice (some ⟨g, 0, none⟩) n cap) (L ++ [{ q with f1 := { q.f1 with f0 := u } }]) → Below base w0 w1 → W.grownBy w1 (some g) → wpList Try.prog ops Q rest a w1) : wpList Try.prog ops Q (o :: rest) a W := by
  subst hA
  refine Kd.R_store k43 base hN hgd 9 (.tmp p) (.tmp x) ho 43 (L.length : Int) 1 (L ++ [q]) { q with f1 := { q.f1 with f0 := u } } (.string u) [.string u] [.int .i64 q.f0, .string q.f1.f0, .int .i64 q.f1.f1] (fun _ => True) (fun _ => False) haddr (by rw [Int.toNat_natCast]; rfl) hx rfl (by kernel_rfl) (by intro z hz; rcases List.mem_cons.1 hz with rfl | hz; rfl; cases hz) HO (by omega) (by omega) rfl (by rw [Int.toNat_natCast]; exact left_cells hn HO) (show 1 + 1 ≤ 3 by omega) (k43_mkM _ _ _ _) (fun _ hk => hk.elim) HB (fun w1 h1 h2 h3 => h w1 ?_ h2 h3)
  rw [Int.toNat_natCast] at h1
  have e : (L ++ [q]).set L.length { q with f1 := { q.f1 with f0 := u } } = L ++ [{ q with f1 := { q.f1 with f0 := u } }] := by rw [List.set_append_right _ _ (Nat.le_refl _)]; simp
  rw [e] at h1
  exact h1
theorem ev_stB {w0 : World} (base : Nat) (hN : o.dst = none) (hgd : o.guard = none) (p x : Tmp) (ho : o.op = .store 3 (.tmp p) (.tmp x)) {g n cap : Nat} {A' : Addr} (L : List S43) (q : S43) (u : Int) (hn : n = L.length + 1)
    (haddr : a.eval (.tmp p) = .pointer (some A')) (hA : A' = ⟨g, L.length * 3 + 2, none⟩) (hx : a.eval (.tmp x) = .int .i64 u) (HO : OwnL W base (.slice (some ⟨g, 0, none⟩) n cap) (L ++ [q])) (HB : Below base w0 W)
    (h : ∀ w1, OwnL w1 base (.slice (some ⟨g, 0, none⟩) n cap) (L ++ [{ q with f1 := { q.f1 with f1 := u } }]) → Below base w0 w1 → W.grownBy w1 (some g) → wpList Try.prog ops Q rest a w1) : wpList Try.prog ops Q (o :: rest) a W := by
  subst hA
  refine Kd.R_store k43 base hN hgd 3 (.tmp p) (.tmp x) ho 43 (L.length : Int) 2 (L ++ [q]) { q with f1 := { q.f1 with f1 := u } } (.int .i64 u) [.int .i64 u] [.int .i64 q.f0, .string q.f1.f0, .int .i64 q.f1.f1] (fun _ => True) (fun _ => False) haddr (by rw [Int.toNat_natCast]; rfl) hx rfl (by kernel_rfl) (by intro z hz; rcases List.mem_cons.1 hz with rfl | hz; rfl; cases hz) HO (by omega) (by omega) rfl (by rw [Int.toNat_natCast]; exact left_cells hn HO) (show 2 + 1 ≤ 3 by omega) (k43_mkM _ _ _ _) (fun _ hk => hk.elim) HB (fun w1 h1 h2 h3 => h w1 ?_ h2 h3)
  rw [Int.toNat_natCast] at h1
  have e : (L ++ [q]).set L.length { q with f1 := { q.f1 with f1 := u } } = L ++ [{ q with f1 := { q.f1 with f1 := u } }] := by rw [List.set_append_right _ _ (Nat.le_refl _)]; simp
  rw [e] at h1
  exact h1
theorem ev_appL3 {w0 : World} (base : Nat) (hgd : o.guard = none) {N : Tmp} (hd : o.dst = some N) (s x : Tmp) {y0 y2 : Int} {y1 : ByteArray} (ho : o.op = .call { callee := .builtin .append, args := #[.tmp s, .tmp x], argTypes := #[24, 24] })
    (v : Value) (l : List S43) (hs : a.eval (.tmp s) = v) (hx : a.eval (.tmp x) = .slice (some ⟨W.heap.size, 0, none⟩) 1 1) (HO : OwnL W base v l) (HB : Below base w0 W) (hbase : base ≤ W.heap.size) (hl : l.length + 1 ≤ 1000000000)
    (h : ∀ v1 w1, OwnL w1 base v1 (l ++ [⟨y0, ⟨y1, y2⟩⟩]) → Below base w0 w1 → W.grownBy w1 v.ownBlock → wpList Try.prog ops Q rest (a.put o.dst v1) w1) : wpList Try.prog ops Q (o :: rest) a (W.alloc (.cells #[.int .i64 y0, .string y1, .int .i64 y2] 43 (0, 0))) :=
  ev_appL base hgd hd s x ho v l ⟨y0, ⟨y1, y2⟩⟩ hs hx HO HB hbase hl h
end
end Go.Proofs.Ytehnogggokfcaaa.Ev
