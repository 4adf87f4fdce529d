/- An event's line (event.Put). -/
import Derived.Test.YtehnogggokfcaaaEvBare
import Derived.Test.YtehnogggokfcaaaEA
namespace Go.Proofs.Ytehnogggokfcaaa.Ev
open Go.RowKit Go.Proofs.YtehnogggokfcaaaW.PrintWords Go.Proofs.YtehnogggokfcaaaW.PrintMore Go.Proofs.YtehnogggokfcaaaW.PrintLast Go.Proofs.Ytehnogggokfcaaa.Y Go.Proofs.Ytehnogggokfcaaa.X Go.Proofs.Ytehnogggokfcaaa.Pure Go.Proofs.Ytehnogggokfcaaa.LM
set_option linter.unusedVariables false
set_option linter.unusedSimpArgs false
attribute [local go_sem ↓] Go.wp_at_zero Go.wp_at_succ
noncomputable section
def putP (k : Nat) (x : S26) : ByteArray × Int := if (k ≠ 0 ∧ k ≤ 8) ∧ eqP x (bareP k x) = true then (joinB (nm k :: argsP k x), 0) else (⟨#[]⟩, 1)
structure Sm (x : S26) : Prop where
  s : x.f2.size ≤ 4000
  f : x.f5.f0.size ≤ 4000
  l : x.f6.length ≤ 5000
  y : ∀ q ∈ x.f6, q.f1.f0.size ≤ 4000
theorem dg_len : ∀ (f u : Nat) (acc : List UInt8), (dg f u acc).length ≤ f + acc.length
  | 0, _, acc => by show acc.length ≤ _; omega
  | f + 1, u, acc => by
    unfold dg
    split
    · simp; omega
    · have := dg_len f (u / 10) (dgt u :: acc)
      rw [List.length_cons] at this
      omega
theorem tx_size (n : Int) (h : i64 n) : (tx n).size ≤ 100 := by
  have h1 := dg_len 20 n.natAbs []
  rw [List.length_nil] at h1
  unfold tx
  rw [ba_size]
  unfold textB
  split
  · simp; omega
  · simp; omega
theorem nm_size (k : Nat) (h : k ≤ 8) : (nm k).size ≤ 100 := by
  rcases (by omega : k = 0 ∨ k = 1 ∨ k = 2 ∨ k = 3 ∨ k = 4 ∨ k = 5 ∨ k = 6 ∨ k = 7 ∨ k = 8) with rfl | rfl | rfl | rfl | rfl | rfl | rfl | rfl | rfl <;> decide
theorem tri_mem : ∀ (l : List S43), (∀ q ∈ l, i64 q.f0 ∧ i64 q.f1.f1) → (∀ q ∈ l, q.f1.f0.size ≤ 4000) → ∀ s ∈ triP l, s.size ≤ 4000
  | [], _, _, s, hs => by cases hs
  | q :: r, h, h2, s, hs => by
    rw [triP] at hs
    rcases List.mem_cons.1 hs with rfl | hs
    · have := tx_size _ (h q (List.mem_cons_self ..)).1; omega
    rcases List.mem_cons.1 hs with rfl | hs
    · have := h2 q (List.mem_cons_self ..); omega
    rcases List.mem_cons.1 hs with rfl | hs
    · have := tx_size _ (h q (List.mem_cons_self ..)).2; omega
    · exact tri_mem r (fun q hq => h q (List.mem_cons_of_mem _ hq)) (fun q hq => h2 q (List.mem_cons_of_mem _ hq)) s hs
theorem args_mem (k : Nat) (x : S26) (hi : In x) (hs : Sm x) : ∀ s ∈ argsP k x, s.size ≤ 4000 := by
  have h1 := tx_size _ hi.h
  have h2 := tx_size _ hi.n
  have h3 := tx_size _ hi.t
  have h4 := tx_size _ hi.k
  have h5 := tx_size _ hi.z
  have h6 := hs.s
  have h7 := hs.f
  intro s h
  unfold argsP at h
  split at h
  · simp at h; subst h; omega
  split at h
  · simp at h; rcases h with rfl | rfl <;> omega
  split at h
  · simp at h; rcases h with rfl | rfl <;> omega
  split at h
  · simp at h; subst h; omega
  split at h
  · cases h
  split at h
  · simp at h; rcases h with rfl | rfl | rfl | rfl <;> omega
  split at h
  · exact tri_mem _ hi.l hs.y s h
  · cases h
theorem args_len (k : Nat) (x : S26) (hs : Sm x) : (argsP k x).length ≤ 15000 := by
  have h8 := hs.l
  unfold argsP
  split
  · simp
  split
  · simp
  split
  · simp
  split
  · simp
  split
  · simp
  split
  · simp
  split
  · rw [triP_len]; omega
  · simp
theorem bareE_is (k : Nat) (x : S26) (hk : x.f0 = (k : Int)) (h0 : k ≠ 0) (h8 : k ≤ 8) (A : Option Addr) (c : Nat) (w : World) (hc : x.f6.length ≤ c) (hC : Kd.C k43 w A x.f6.length x.f6) : ∃ B d, bareE (ecOf x A c) = ecOf (bareP k x) B d ∧ (bareP k x).f6.length ≤ d ∧ Kd.C k43 w B (bareP k x).f6.length (bareP k x).f6 := by
  have e : (ecOf x A c).k = (k : Int) := hk
  rcases (by omega : k = 1 ∨ k = 2 ∨ k = 3 ∨ k = 4 ∨ k = 5 ∨ k = 6 ∨ k = 7 ∨ k = 8) with rfl | rfl | rfl | rfl | rfl | rfl | rfl | rfl
  case _ => exact ⟨none, 0, by unfold bareE; rw [e]; rfl, Nat.le_refl _, c43_nil _⟩
  case _ => exact ⟨none, 0, by unfold bareE; rw [e]; rfl, Nat.le_refl _, c43_nil _⟩
  case _ => exact ⟨none, 0, by unfold bareE; rw [e]; rfl, Nat.le_refl _, c43_nil _⟩
  case _ => exact ⟨none, 0, by unfold bareE; rw [e]; rfl, Nat.le_refl _, c43_nil _⟩
  case _ => exact ⟨none, 0, by unfold bareE; rw [e]; rfl, Nat.le_refl _, c43_nil _⟩
  case _ => exact ⟨none, 0, by unfold bareE; rw [e]; rfl, Nat.le_refl _, c43_nil _⟩
  case _ => exact ⟨none, 0, by unfold bareE; rw [e]; rfl, Nat.le_refl _, c43_nil _⟩
  case _ => exact ⟨A, c, by unfold bareE; rw [e]; rfl, hc, hC⟩
theorem bareE_c (k : Nat) (x : S26) (hk : x.f0 = (k : Int)) (A : Option Addr) (c : Nat) (B : Option Addr) (d : Nat) (hb : bareE (ecOf x A c) = ecOf (bareP k x) B d) (w : World) : Calls Try.prog 14 #[.agg (ecL (ecOf x A c))] w fun e w' => e = .returned (.agg (ecL (ecOf (bareP k x) B d))) ∧ Below w.heap.size w w' := by
  have h := bare_calls (ecOf x A c) w
  rw [hb] at h
  exact h
theorem nms_at (k : Nat) (h0 : k ≠ 0) (h8 : k ≤ 8) (h : k - 1 < nms.length) : nms[k - 1] = nm k := by
  rcases (by omega : k = 1 ∨ k = 2 ∨ k = 3 ∨ k = 4 ∨ k = 5 ∨ k = 6 ∨ k = 7 ∨ k = 8) with rfl | rfl | rfl | rfl | rfl | rfl | rfl | rfl <;> rfl
theorem all_mem4 (k : Nat) (x : S26) (h8 : k ≤ 8) (hi : In x) (hs : Sm x) : ∀ s ∈ nm k :: argsP k x, s.size ≤ 4000 := by
  intro s h
  rcases List.mem_cons.1 h with rfl | h
  · have := nm_size k h8; omega
  · exact args_mem k x hi hs s h
theorem all_mem (k : Nat) (x : S26) (h8 : k ≤ 8) (hi : In x) (hs : Sm x) : ∀ s ∈ nm k :: argsP k x, s.size ≤ 1000000 := fun s h => Nat.le_trans (all_mem4 k x h8 hi hs s h) (by decide)
theorem ld_str {W : World} {g j : Nat} {x : ByteArray} (ev : Operand → Value) (o : Oper) (p : Tmp) (ho : o.op = .load 9 (.tmp p)) (hp : ev (.tmp p) = .pointer (some ⟨g, j, none⟩)) (hc : W.cell? ⟨g, j, none⟩ = some (.string x)) : (execOp ev o).run Try.prog W = .ok (.value (.string x)) W := by
  have hu := Try.underlying9
  unfold execOp
  simp only [ho, hp]
  clear ho hp
  first | (go_simp; done) | (go_simp; rfl)
theorem EB.grown {W W1 : World} {g base : Nat} {e : Ec} {v : Value} {l : List ByteArray} (h : EB W g e) (ho : OwnT W base v l) (hg : W.grownBy W1 v.ownBlock) : EB W1 g e := (hg.block g h.lt (Kd.R_ne ho h (by decide))).trans h
def LB (W : World) (g : Nat) (y : S43) : Prop := W.heap[g]? = some (.cells #[.int .i64 y.f0, .string y.f1.f0, .int .i64 y.f1.f1] 43 (0, 0))
theorem LB.cells {W : World} {g : Nat} {y : S43} (h : LB W g y) : W.cell? ⟨g, 0, none⟩ = some (.int .i64 y.f0) ∧ W.cell? ⟨g, 1, none⟩ = some (.string y.f1.f0) ∧ W.cell? ⟨g, 2, none⟩ = some (.int .i64 y.f1.f1) := ⟨(blk_cell h 0).trans rfl, (blk_cell h 1).trans rfl, (blk_cell h 2).trans rfl⟩
theorem LB.below {W W1 : World} {g : Nat} {y : S43} (h : LB W g y) (hb : Below W.heap.size W W1) : LB W1 g y := (hb.block g (blk_lt h)).trans h
theorem LB.grown {W W1 : World} {g base : Nat} {y : S43} {v : Value} {l : List ByteArray} (h : LB W g y) (ho : OwnT W base v l) (hg : W.grownBy W1 v.ownBlock) : LB W1 g y := (hg.block g (blk_lt h) (Kd.R_ne ho h (by decide))).trans h
theorem lb_put {W : World} {g : Nat} {c0 c1 c2 : Value} (h : W.heap[g]? = some (.cells #[c0, c1, c2] 43 (0, 0))) (y : S43) : LB (((W.setCell ⟨g, 0, none⟩ (.int .i64 y.f0)).setCell ⟨g, 1, none⟩ (.string y.f1.f0)).setCell ⟨g, 2, none⟩ (.int .i64 y.f1.f1)) g y :=
  blk_put (blk_put (blk_put h 0 _ rfl) 1 _ rfl) 2 _ rfl
theorem own_lb {W : World} {g base : Nat} {v : Value} {l : List ByteArray} {c0 c1 c2 : Value} (ho : OwnT W base v l) (h : W.heap[g]? = some (.cells #[c0, c1, c2] 43 (0, 0))) (y : S43) : OwnT (((W.setCell ⟨g, 0, none⟩ (.int .i64 y.f0)).setCell ⟨g, 1, none⟩ (.string y.f1.f0)).setCell ⟨g, 2, none⟩ (.int .i64 y.f1.f1)) base v l :=
  ((ho.set h (by decide) _ _).set (blk_put h 0 _ rfl) (by decide) _ _).set (blk_put (blk_put h 0 _ rfl) 1 _ rfl) (by decide) _ _
theorem tri_app : ∀ (l : List S43) (y : S43), triP (l ++ [y]) = triP l ++ [tx y.f0, y.f1.f0, tx y.f1.f1]
  | [], _ => rfl
  | q :: r, y => by rw [List.cons_append, triP, triP, tri_app r y]; rfl
theorem tri_snoc (l : List S43) (i : Nat) (h : i < l.length) : triP (l.take (i + 1)) = triP (l.take i) ++ [tx l[i].f0, l[i].f1.f0, tx l[i].f1.f1] := by
  rw [List.take_succ_eq_append_getElem h, tri_app]
def RelT8 (w : World) (g1 : Nat) (x : S26) (A : Option Addr) (n c : Nat) (v4 v93 : Value) (wr : World) : Prop := ∃ (i : Nat) (A4 : Option Addr) (m4 c4 : Nat), v93 = .int .i64 (i : Int) ∧ i ≤ n ∧ m4 = (nm 8 :: triP (x.f6.take i)).length ∧ v4 = .slice A4 m4 c4 ∧ OwnT wr w.heap.size (.slice A4 m4 c4) (nm 8 :: triP (x.f6.take i)) ∧ EB wr g1 ⟨8, x.f1, x.f2, x.f3, x.f4, x.f5.f0, x.f5.f1, x.f5.f2, A, n, c⟩ ∧ Below w.heap.size w wr
theorem ev_val {P : Program} {ops : Array Oper} {rest : List Oper} {o : Oper} {a : Act} {Q : Exit → Act → World → Prop} {W : World} (hgd : o.guard = none) {N : Tmp} (hN : o.dst = some N) (v : Value) (w1 : World)
    (hrun : (execOp a.eval o).run P W = .ok (.value v) w1) (h : wpList P ops Q rest (a.put o.dst v) w1) : wpList P ops Q (o :: rest) a W := by
  refine wpList_plain hgd fun K hK => ?_
  unfold Oper.wp
  rw [hrun]
  show K (a.put o.dst v) w1
  exact hK _ _ h
set_option maxHeartbeats 8000000 in
set_option maxRecDepth 100000 in
theorem put_bad (x : S26) (k : Int) (hk : x.f0 = k) (hkk : k < 1 ∨ 8 < k) (A : Option Addr) (c : Nat) (w : World) : Calls Try.prog 8 #[.agg (ecL (ecOf x A c))] w fun e w' => e = .returned (.tuple #[.string ⟨#[]⟩, .int .i64 1]) ∧ Below w.heap.size w w' := by
  have hu := Try.underlying26
  have ARG : ecL (ecOf x A c) = #[.int .i64 k, .int .i64 x.f1, .string x.f2, .int .i64 x.f3, .int .i64 x.f4, .string x.f5.f0, .int .i64 x.f5.f1, .int .i64 x.f5.f2, .slice A x.f6.length c] := by rw [show ecL (ecOf x A c) = #[.int .i64 x.f0, .int .i64 x.f1, .string x.f2, .int .i64 x.f3, .int .i64 x.f4, .string x.f5.f0, .int .i64 x.f5.f1, .int .i64 x.f5.f2, .slice A x.f6.length c] from rfl, hk]
  rw [ARG]
  have HARG := Aside0.mk ARG
  clear ARG
  have HK := Aside0.mk hkk
  clear hk hkk
  by_cases h1 : k < 1
  · have d1 : decide (k < 1) = true := decide_eq_true h1
    go_enter Try.func8, Try.ntmps8
    go_wp2_with (first | ((with_reducible refine gate_dst (N := 1) rfl ?_); refine box_event ?hg (N := 1) ?hd (cs := #[.int .i64 k, .int .i64 x.f1, .string x.f2, .int .i64 x.f3, .int .i64 x.f4, .string x.f5.f0, .int .i64 x.f5.f1, .int .i64 x.f5.f2, .slice A x.f6.length c]) (t := 26) ?hr ?_; (case hd => rfl); (case hg => rfl); (case hr => first | (go_simp; done) | (go_simp; rfl)); intro g1 hg_ w1 hbox hb; have Gg1 := Aside0.mk hg_; have E1 := Aside0.mk (show EB w1 g1 ⟨k, x.f1, x.f2, x.f3, x.f4, x.f5.f0, x.f5.f1, x.f5.f2, A, x.f6.length, c⟩ from hbox); have B1 := Aside0.mk hb; clear hbox hb hg_; ))
    refine region_drew (fun W_ => EB W_ g1 ⟨k, x.f1, x.f2, x.f3, x.f4, x.f5.f0, x.f5.f1, x.f5.f2, A, x.f6.length, c⟩) (by kernel_rfl) (fun d_ hd_ he_ => ?_)
    have D1 := Aside0.mk (E1.out.below hd_)
    have BD := Aside0.mk (below_all_ B1.out hd_)
    clear hd_ he_
    refine ⟨D1.out, fun hHeld => ?_⟩
    refine wpAnyH_take (i := 0) (v := .pointer (some ⟨g1, 0, none⟩)) rfl (by kernel_rfl) (by kernel_rfl) (by kernel_rfl) (fun _ _ _ h => h) (Or.inl ⟨by kernel_rfl, ?_⟩) (by assumption) ?_
    · intro W_ hSw
      clear hSw
      first | (go_simp; done) | (go_simp; with_reducible rfl) | (go_simp; rfl)
    refine wpAnyH_take (i := 1) (v := .int .i64 k) rfl (by kernel_rfl) (by kernel_rfl) (by kernel_rfl) (fun _ _ _ h => h) (Or.inl ⟨by kernel_rfl, ?_⟩) (by assumption) ?_
    · intro W_ hSw
      obtain ⟨q0, q1, q2, q3, q4, q5, q6, q7, q8⟩ := EB.cells (e := ⟨k, x.f1, x.f2, x.f3, x.f4, x.f5.f0, x.f5.f1, x.f5.f2, A, x.f6.length, c⟩) hSw
      dsimp only at q0 q1 q2 q3 q4 q5 q6 q7 q8
      clear hSw
      first | (go_simp; done) | (go_simp; with_reducible rfl) | (go_simp; rfl)
    refine wpAnyH_take (i := 2) (v := .bool true) rfl (by kernel_rfl) (by kernel_rfl) (by kernel_rfl) (fun _ _ _ h => h) (Or.inl ⟨by kernel_rfl, ?_⟩) (by assumption) ?_
    · intro W_ hSw
      clear hSw
      first | (go_simp; done) | (go_simp; with_reducible rfl) | (go_simp; rfl)
    refine wpAnyH_take (i := 3) (v := .bool true) rfl (by kernel_rfl) (by kernel_rfl) (by kernel_rfl) (fun _ _ _ h => h) (Or.inl ⟨by kernel_rfl, ?_⟩) (by assumption) ?_
    · intro W_ hSw
      clear hSw
      first | (go_simp; done) | (go_simp; with_reducible rfl) | (go_simp; rfl)
    refine wpAnyH_take (i := 4) (v := undef) rfl (by kernel_rfl) (by kernel_rfl) (by kernel_rfl) (fun _ _ _ h => h) (Or.inr ⟨by kernel_rfl, rfl⟩) (by assumption) ?_
    refine wpAnyH_take (i := 5) (v := undef) rfl (by kernel_rfl) (by kernel_rfl) (by kernel_rfl) (fun _ _ _ h => h) (Or.inr ⟨by kernel_rfl, rfl⟩) (by assumption) ?_
    refine wpAnyH_take (i := 6) (v := undef) rfl (by kernel_rfl) (by kernel_rfl) (by kernel_rfl) (fun _ _ _ h => h) (Or.inr ⟨by kernel_rfl, rfl⟩) (by assumption) ?_
    refine wpAnyH_take (i := 7) (v := .bool true) rfl (by kernel_rfl) (by kernel_rfl) (by kernel_rfl) (fun _ _ _ h => h) (Or.inl ⟨by kernel_rfl, ?_⟩) (by assumption) ?_
    · intro W_ hSw
      clear hSw
      first | (go_simp; done) | (go_simp; with_reducible rfl) | (go_simp; rfl)
    refine wpAnyH_take (i := 8) (v := .bool true) rfl (by kernel_rfl) (by kernel_rfl) (by kernel_rfl) (fun _ _ _ h => h) (Or.inl ⟨by kernel_rfl, ?_⟩) (by assumption) ?_
    · intro W_ hSw
      clear hSw
      first | (go_simp; done) | (go_simp; with_reducible rfl) | (go_simp; rfl)
    refine wpAnyH_take (i := 9) (v := undef) rfl (by kernel_rfl) (by kernel_rfl) (by kernel_rfl) (fun _ _ _ h => h) (Or.inr ⟨by kernel_rfl, rfl⟩) (by assumption) ?_
    refine wpAnyH_take (i := 10) (v := undef) rfl (by kernel_rfl) (by kernel_rfl) (by kernel_rfl) (fun _ _ _ h => h) (Or.inr ⟨by kernel_rfl, rfl⟩) (by assumption) ?_
    refine wpAnyH_take (i := 11) (v := undef) rfl (by kernel_rfl) (by kernel_rfl) (by kernel_rfl) (fun _ _ _ h => h) (Or.inr ⟨by kernel_rfl, rfl⟩) (by assumption) ?_
    refine wpAnyH_take (i := 12) (v := undef) rfl (by kernel_rfl) (by kernel_rfl) (by kernel_rfl) (fun _ _ _ h => h) (Or.inr ⟨by kernel_rfl, rfl⟩) (by assumption) ?_
    refine wpAnyH_take (i := 13) (v := undef) rfl (by kernel_rfl) (by kernel_rfl) (by kernel_rfl) (fun _ _ _ h => h) (Or.inr ⟨by kernel_rfl, rfl⟩) (by assumption) ?_
    refine wpAnyH_take (i := 14) (v := .bool true) rfl (by kernel_rfl) (by kernel_rfl) (by kernel_rfl) (fun _ _ _ h => h) (Or.inl ⟨by kernel_rfl, ?_⟩) (by assumption) ?_
    · intro W_ hSw
      clear hSw
      first | (go_simp; done) | (go_simp; with_reducible rfl) | (go_simp; rfl)
    try simp only [Act.put, List.getElem_toArray, List.getElem_cons_succ, List.getElem_cons_zero, List.setIfInBounds_toArray, List.set_cons_zero, List.set_cons_succ]
    clear hHeld
    refine wpAnyH_done (by kernel_rfl) ?_ _
    go_wp2_with fail
    go_ret2
    exact ⟨rfl, BD.out⟩
  · have d1 : decide (k < 1) = false := decide_eq_false h1
    have d2 : decide (8 < k) = true := decide_eq_true (by have := HK.out; omega)
    go_enter Try.func8, Try.ntmps8
    go_wp2_with (first | ((with_reducible refine gate_dst (N := 1) rfl ?_); refine box_event ?hg (N := 1) ?hd (cs := #[.int .i64 k, .int .i64 x.f1, .string x.f2, .int .i64 x.f3, .int .i64 x.f4, .string x.f5.f0, .int .i64 x.f5.f1, .int .i64 x.f5.f2, .slice A x.f6.length c]) (t := 26) ?hr ?_; (case hd => rfl); (case hg => rfl); (case hr => first | (go_simp; done) | (go_simp; rfl)); intro g1 hg_ w1 hbox hb; have Gg1 := Aside0.mk hg_; have E1 := Aside0.mk (show EB w1 g1 ⟨k, x.f1, x.f2, x.f3, x.f4, x.f5.f0, x.f5.f1, x.f5.f2, A, x.f6.length, c⟩ from hbox); have B1 := Aside0.mk hb; clear hbox hb hg_; ))
    refine region_drew (fun W_ => EB W_ g1 ⟨k, x.f1, x.f2, x.f3, x.f4, x.f5.f0, x.f5.f1, x.f5.f2, A, x.f6.length, c⟩) (by kernel_rfl) (fun d_ hd_ he_ => ?_)
    have D1 := Aside0.mk (E1.out.below hd_)
    have BD := Aside0.mk (below_all_ B1.out hd_)
    clear hd_ he_
    refine ⟨D1.out, fun hHeld => ?_⟩
    refine wpAnyH_take (i := 0) (v := .pointer (some ⟨g1, 0, none⟩)) rfl (by kernel_rfl) (by kernel_rfl) (by kernel_rfl) (fun _ _ _ h => h) (Or.inl ⟨by kernel_rfl, ?_⟩) (by assumption) ?_
    · intro W_ hSw
      clear hSw
      first | (go_simp; done) | (go_simp; with_reducible rfl) | (go_simp; rfl)
    refine wpAnyH_take (i := 1) (v := .int .i64 k) rfl (by kernel_rfl) (by kernel_rfl) (by kernel_rfl) (fun _ _ _ h => h) (Or.inl ⟨by kernel_rfl, ?_⟩) (by assumption) ?_
    · intro W_ hSw
      obtain ⟨q0, q1, q2, q3, q4, q5, q6, q7, q8⟩ := EB.cells (e := ⟨k, x.f1, x.f2, x.f3, x.f4, x.f5.f0, x.f5.f1, x.f5.f2, A, x.f6.length, c⟩) hSw
      dsimp only at q0 q1 q2 q3 q4 q5 q6 q7 q8
      clear hSw
      first | (go_simp; done) | (go_simp; with_reducible rfl) | (go_simp; rfl)
    refine wpAnyH_take (i := 2) (v := .bool false) rfl (by kernel_rfl) (by kernel_rfl) (by kernel_rfl) (fun _ _ _ h => h) (Or.inl ⟨by kernel_rfl, ?_⟩) (by assumption) ?_
    · intro W_ hSw
      clear hSw
      first | (go_simp; done) | (go_simp; with_reducible rfl) | (go_simp; rfl)
    refine wpAnyH_take (i := 3) (v := .bool false) rfl (by kernel_rfl) (by kernel_rfl) (by kernel_rfl) (fun _ _ _ h => h) (Or.inl ⟨by kernel_rfl, ?_⟩) (by assumption) ?_
    · intro W_ hSw
      clear hSw
      first | (go_simp; done) | (go_simp; with_reducible rfl) | (go_simp; rfl)
    refine wpAnyH_take (i := 4) (v := .pointer (some ⟨g1, 0, none⟩)) rfl (by kernel_rfl) (by kernel_rfl) (by kernel_rfl) (fun _ _ _ h => h) (Or.inl ⟨by kernel_rfl, ?_⟩) (by assumption) ?_
    · intro W_ hSw
      clear hSw
      first | (go_simp; done) | (go_simp; with_reducible rfl) | (go_simp; rfl)
    refine wpAnyH_take (i := 5) (v := .int .i64 k) rfl (by kernel_rfl) (by kernel_rfl) (by kernel_rfl) (fun _ _ _ h => h) (Or.inl ⟨by kernel_rfl, ?_⟩) (by assumption) ?_
    · intro W_ hSw
      obtain ⟨q0, q1, q2, q3, q4, q5, q6, q7, q8⟩ := EB.cells (e := ⟨k, x.f1, x.f2, x.f3, x.f4, x.f5.f0, x.f5.f1, x.f5.f2, A, x.f6.length, c⟩) hSw
      dsimp only at q0 q1 q2 q3 q4 q5 q6 q7 q8
      clear hSw
      first | (go_simp; done) | (go_simp; with_reducible rfl) | (go_simp; rfl)
    refine wpAnyH_take (i := 6) (v := .bool true) rfl (by kernel_rfl) (by kernel_rfl) (by kernel_rfl) (fun _ _ _ h => h) (Or.inl ⟨by kernel_rfl, ?_⟩) (by assumption) ?_
    · intro W_ hSw
      clear hSw
      first | (go_simp; done) | (go_simp; with_reducible rfl) | (go_simp; rfl)
    refine wpAnyH_take (i := 7) (v := .bool true) rfl (by kernel_rfl) (by kernel_rfl) (by kernel_rfl) (fun _ _ _ h => h) (Or.inl ⟨by kernel_rfl, ?_⟩) (by assumption) ?_
    · intro W_ hSw
      clear hSw
      first | (go_simp; done) | (go_simp; with_reducible rfl) | (go_simp; rfl)
    refine wpAnyH_take (i := 8) (v := .bool true) rfl (by kernel_rfl) (by kernel_rfl) (by kernel_rfl) (fun _ _ _ h => h) (Or.inl ⟨by kernel_rfl, ?_⟩) (by assumption) ?_
    · intro W_ hSw
      clear hSw
      first | (go_simp; done) | (go_simp; with_reducible rfl) | (go_simp; rfl)
    refine wpAnyH_take (i := 9) (v := undef) rfl (by kernel_rfl) (by kernel_rfl) (by kernel_rfl) (fun _ _ _ h => h) (Or.inr ⟨by kernel_rfl, rfl⟩) (by assumption) ?_
    refine wpAnyH_take (i := 10) (v := undef) rfl (by kernel_rfl) (by kernel_rfl) (by kernel_rfl) (fun _ _ _ h => h) (Or.inr ⟨by kernel_rfl, rfl⟩) (by assumption) ?_
    refine wpAnyH_take (i := 11) (v := undef) rfl (by kernel_rfl) (by kernel_rfl) (by kernel_rfl) (fun _ _ _ h => h) (Or.inr ⟨by kernel_rfl, rfl⟩) (by assumption) ?_
    refine wpAnyH_take (i := 12) (v := undef) rfl (by kernel_rfl) (by kernel_rfl) (by kernel_rfl) (fun _ _ _ h => h) (Or.inr ⟨by kernel_rfl, rfl⟩) (by assumption) ?_
    refine wpAnyH_take (i := 13) (v := undef) rfl (by kernel_rfl) (by kernel_rfl) (by kernel_rfl) (fun _ _ _ h => h) (Or.inr ⟨by kernel_rfl, rfl⟩) (by assumption) ?_
    refine wpAnyH_take (i := 14) (v := .bool true) rfl (by kernel_rfl) (by kernel_rfl) (by kernel_rfl) (fun _ _ _ h => h) (Or.inl ⟨by kernel_rfl, ?_⟩) (by assumption) ?_
    · intro W_ hSw
      clear hSw
      first | (go_simp; done) | (go_simp; with_reducible rfl) | (go_simp; rfl)
    try simp only [Act.put, List.getElem_toArray, List.getElem_cons_succ, List.getElem_cons_zero, List.setIfInBounds_toArray, List.set_cons_zero, List.set_cons_succ]
    clear hHeld
    refine wpAnyH_done (by kernel_rfl) ?_ _
    go_wp2_with fail
    go_ret2
    exact ⟨rfl, BD.out⟩
set_option maxHeartbeats 40000000 in
set_option maxRecDepth 100000 in
theorem put_kind (x : S26) (k : Nat) (hk : x.f0 = (k : Int)) (h0 : k ≠ 0) (h8 : k ≤ 8) (hi : In x) (hs : Sm x) (A : Option Addr) (c : Nat) (w : World) (hc : x.f6.length ≤ c) (hC : Kd.C k43 w A x.f6.length x.f6) (R : ByteArray × Int) (hR : R = putP k x) : Calls Try.prog 8 #[.agg (ecL (ecOf x A c))] w fun e w' => e = .returned (.tuple #[.string R.1, .int .i64 R.2]) ∧ Below w.heap.size w w' := by
  obtain ⟨B, d, hbe, hd, hD⟩ := bareE_is k x hk h0 h8 A c w hc hC
  have HBE := Aside0.mk (bareE_c k x hk A c B d hbe)
  have HCC := Aside0.mk hc
  have HCR := Aside0.mk hC
  have HD := Aside0.mk hd
  have HDR := Aside0.mk hD
  have HI := Aside0.mk hi
  have HS := Aside0.mk hs
  have H0 := Aside0.mk h0
  have H8 := Aside0.mk h8
  have HR := Aside0.mk hR
  clear hbe hd hD hc hC hi hs hR
  have ecx : ecOf x A c = ⟨(k : Int), x.f1, x.f2, x.f3, x.f4, x.f5.f0, x.f5.f1, x.f5.f2, A, x.f6.length, c⟩ := by unfold ecOf; rw [hk]
  have ECX := Aside0.mk ecx
  clear ecx
  have hu := Try.underlying26
  have ARG : ecL (ecOf x A c) = #[.int .i64 (k : Int), .int .i64 x.f1, .string x.f2, .int .i64 x.f3, .int .i64 x.f4, .string x.f5.f0, .int .i64 x.f5.f1, .int .i64 x.f5.f2, .slice A x.f6.length c] := by rw [show ecL (ecOf x A c) = #[.int .i64 x.f0, .int .i64 x.f1, .string x.f2, .int .i64 x.f3, .int .i64 x.f4, .string x.f5.f0, .int .i64 x.f5.f1, .int .i64 x.f5.f2, .slice A x.f6.length c] from rfl, hk]
  rw [ARG]
  have HARG := Aside0.mk ARG
  clear ARG
  have d1 : decide ((k : Int) < 1) = false := decide_eq_false (by omega)
  have d2 : decide (8 < (k : Int)) = false := decide_eq_false (by omega)
  clear hk h0 h8
  go_enter Try.func8, Try.ntmps8
  go_wp2_with (first | ((with_reducible refine gate_dst (N := 1) rfl ?_); refine box_event ?hg (N := 1) ?hd (cs := #[.int .i64 (k : Int), .int .i64 x.f1, .string x.f2, .int .i64 x.f3, .int .i64 x.f4, .string x.f5.f0, .int .i64 x.f5.f1, .int .i64 x.f5.f2, .slice A x.f6.length c]) (t := 26) ?hr ?_; (case hd => rfl); (case hg => rfl); (case hr => first | (go_simp; done) | (go_simp; rfl)); intro g1 hg_ w1 hbox hb; have Gg1 := Aside0.mk hg_; have E1 := Aside0.mk (show EB w1 g1 ⟨(k : Int), x.f1, x.f2, x.f3, x.f4, x.f5.f0, x.f5.f1, x.f5.f2, A, x.f6.length, c⟩ from hbox); have B1 := Aside0.mk hb; clear hbox hb hg_; ))
  refine region_drew (fun W_ => EB W_ g1 ⟨(k : Int), x.f1, x.f2, x.f3, x.f4, x.f5.f0, x.f5.f1, x.f5.f2, A, x.f6.length, c⟩) (by kernel_rfl) (fun d_ hd_ he_ => ?_)
  have D1 := Aside0.mk (E1.out.below hd_)
  have BD := Aside0.mk (below_all_ B1.out hd_)
  have LG1 := Aside0.mk (show w.heap.size ≤ g1 from by have := Gg1.out; omega)
  clear hd_ he_
  refine ⟨D1.out, fun hHeld => ?_⟩
  refine wpAnyH_take (i := 0) (v := .pointer (some ⟨g1, 0, none⟩)) rfl (by kernel_rfl) (by kernel_rfl) (by kernel_rfl) (fun _ _ _ h => h) (Or.inl ⟨by kernel_rfl, ?_⟩) (by assumption) ?_
  · intro W_ hSw
    clear hSw
    first | (go_simp; done) | (go_simp; with_reducible rfl) | (go_simp; rfl)
  refine wpAnyH_take (i := 1) (v := .int .i64 (k : Int)) rfl (by kernel_rfl) (by kernel_rfl) (by kernel_rfl) (fun _ _ _ h => h) (Or.inl ⟨by kernel_rfl, ?_⟩) (by assumption) ?_
  · intro W_ hSw
    obtain ⟨q0, q1, q2, q3, q4, q5, q6, q7, q8⟩ := EB.cells (e := ⟨(k : Int), x.f1, x.f2, x.f3, x.f4, x.f5.f0, x.f5.f1, x.f5.f2, A, x.f6.length, c⟩) hSw
    dsimp only at q0 q1 q2 q3 q4 q5 q6 q7 q8
    clear hSw
    first | (go_simp; done) | (go_simp; with_reducible rfl) | (go_simp; rfl)
  refine wpAnyH_take (i := 2) (v := .bool false) rfl (by kernel_rfl) (by kernel_rfl) (by kernel_rfl) (fun _ _ _ h => h) (Or.inl ⟨by kernel_rfl, ?_⟩) (by assumption) ?_
  · intro W_ hSw
    clear hSw
    first | (go_simp; done) | (go_simp; with_reducible rfl) | (go_simp; rfl)
  refine wpAnyH_take (i := 3) (v := .bool false) rfl (by kernel_rfl) (by kernel_rfl) (by kernel_rfl) (fun _ _ _ h => h) (Or.inl ⟨by kernel_rfl, ?_⟩) (by assumption) ?_
  · intro W_ hSw
    clear hSw
    first | (go_simp; done) | (go_simp; with_reducible rfl) | (go_simp; rfl)
  refine wpAnyH_take (i := 4) (v := .pointer (some ⟨g1, 0, none⟩)) rfl (by kernel_rfl) (by kernel_rfl) (by kernel_rfl) (fun _ _ _ h => h) (Or.inl ⟨by kernel_rfl, ?_⟩) (by assumption) ?_
  · intro W_ hSw
    clear hSw
    first | (go_simp; done) | (go_simp; with_reducible rfl) | (go_simp; rfl)
  refine wpAnyH_take (i := 5) (v := .int .i64 (k : Int)) rfl (by kernel_rfl) (by kernel_rfl) (by kernel_rfl) (fun _ _ _ h => h) (Or.inl ⟨by kernel_rfl, ?_⟩) (by assumption) ?_
  · intro W_ hSw
    obtain ⟨q0, q1, q2, q3, q4, q5, q6, q7, q8⟩ := EB.cells (e := ⟨(k : Int), x.f1, x.f2, x.f3, x.f4, x.f5.f0, x.f5.f1, x.f5.f2, A, x.f6.length, c⟩) hSw
    dsimp only at q0 q1 q2 q3 q4 q5 q6 q7 q8
    clear hSw
    first | (go_simp; done) | (go_simp; with_reducible rfl) | (go_simp; rfl)
  refine wpAnyH_take (i := 6) (v := .bool false) rfl (by kernel_rfl) (by kernel_rfl) (by kernel_rfl) (fun _ _ _ h => h) (Or.inl ⟨by kernel_rfl, ?_⟩) (by assumption) ?_
  · intro W_ hSw
    clear hSw
    first | (go_simp; done) | (go_simp; with_reducible rfl) | (go_simp; rfl)
  refine wpAnyH_take (i := 7) (v := .bool false) rfl (by kernel_rfl) (by kernel_rfl) (by kernel_rfl) (fun _ _ _ h => h) (Or.inl ⟨by kernel_rfl, ?_⟩) (by assumption) ?_
  · intro W_ hSw
    clear hSw
    first | (go_simp; done) | (go_simp; with_reducible rfl) | (go_simp; rfl)
  refine wpAnyH_take (i := 8) (v := .bool false) rfl (by kernel_rfl) (by kernel_rfl) (by kernel_rfl) (fun _ _ _ h => h) (Or.inl ⟨by kernel_rfl, ?_⟩) (by assumption) ?_
  · intro W_ hSw
    clear hSw
    first | (go_simp; done) | (go_simp; with_reducible rfl) | (go_simp; rfl)
  refine wpAnyH_take (i := 9) (v := .agg #[.int .i64 (k : Int), .int .i64 x.f1, .string x.f2, .int .i64 x.f3, .int .i64 x.f4, .string x.f5.f0, .int .i64 x.f5.f1, .int .i64 x.f5.f2, .slice A x.f6.length c]) rfl (by kernel_rfl) (by kernel_rfl) (by kernel_rfl) (fun _ _ _ h => h) (Or.inl ⟨by kernel_rfl, ?_⟩) (by assumption) ?_
  · intro W_ hSw
    obtain ⟨q0, q1, q2, q3, q4, q5, q6, q7, q8⟩ := EB.cells (e := ⟨(k : Int), x.f1, x.f2, x.f3, x.f4, x.f5.f0, x.f5.f1, x.f5.f2, A, x.f6.length, c⟩) hSw
    dsimp only at q0 q1 q2 q3 q4 q5 q6 q7 q8
    clear hSw
    first | (go_simp; done) | (go_simp; with_reducible rfl) | (go_simp; rfl)
  refine wpAnyH_take (i := 10) (v := .agg #[.int .i64 (k : Int), .int .i64 x.f1, .string x.f2, .int .i64 x.f3, .int .i64 x.f4, .string x.f5.f0, .int .i64 x.f5.f1, .int .i64 x.f5.f2, .slice A x.f6.length c]) rfl (by kernel_rfl) (by kernel_rfl) (by kernel_rfl) (fun _ _ _ h => h) (Or.inl ⟨by kernel_rfl, ?_⟩) (by assumption) ?_
  · intro W_ hSw
    obtain ⟨q0, q1, q2, q3, q4, q5, q6, q7, q8⟩ := EB.cells (e := ⟨(k : Int), x.f1, x.f2, x.f3, x.f4, x.f5.f0, x.f5.f1, x.f5.f2, A, x.f6.length, c⟩) hSw
    dsimp only at q0 q1 q2 q3 q4 q5 q6 q7 q8
    clear hSw
    first | (go_simp; done) | (go_simp; with_reducible rfl) | (go_simp; rfl)
  try simp only [Act.put, List.getElem_toArray, List.getElem_cons_succ, List.getElem_cons_zero, List.setIfInBounds_toArray, List.set_cons_zero, List.set_cons_succ]
  clear hHeld
  have c1_ := HBE.out d_
  rw [HARG.out] at c1_
  refine next_le (i := 11) (rs := []) (by kernel_rfl) ?_
  refine cons_callG 11 (N := 18) (xs := #[.tmp 17]) (ts := #[26]) (by kernel_rfl) Try.func14 (by kernel_rfl) rfl #[.agg #[.int .i64 (k : Int), .int .i64 x.f1, .string x.f2, .int .i64 x.f3, .int .i64 x.f4, .string x.f5.f0, .int .i64 x.f5.f1, .int .i64 x.f5.f2, .slice A x.f6.length c]] (by kernel_rfl) ?_ AllReadyH.nil
  with_reducible refine Calls.mono (c1_) ?_
  rintro _ wa ⟨rfl, hb⟩
  have Da := Aside0.mk (D1.out.below hb)
  have BA := Aside0.mk (below_all_ BD.out hb)
  clear hb c1_
  have c2_ := same_c x (bareP k x) A B c d (by have := HS.out.l; omega) wa HCC.out (Kd.C_below HCR.out BA.out) HD.out (Kd.C_below HDR.out BA.out)
  rw [HARG.out] at c2_
  refine ⟨_, rfl, Da.out, ?_⟩
  try simp only [Act.put, List.getElem_toArray, List.getElem_cons_succ, List.getElem_cons_zero, List.setIfInBounds_toArray, List.set_cons_zero, List.set_cons_succ]
  refine next_le (i := 12) (rs := []) (by kernel_rfl) ?_
  refine cons_callG 12 (N := 19) (xs := #[.tmp 16, .tmp 18]) (ts := #[26, 26]) (by kernel_rfl) Try.func10 (by kernel_rfl) rfl #[.agg #[.int .i64 (k : Int), .int .i64 x.f1, .string x.f2, .int .i64 x.f3, .int .i64 x.f4, .string x.f5.f0, .int .i64 x.f5.f1, .int .i64 x.f5.f2, .slice A x.f6.length c], .agg (ecL (ecOf (bareP k x) B d))] (by kernel_rfl) ?_ AllReadyH.nil
  with_reducible refine Calls.mono (c2_) ?_
  rintro _ wb ⟨rfl, hb⟩
  have Db := Aside0.mk (Da.out.below hb)
  have BB := Aside0.mk (below_all_ BA.out hb)
  clear hb c2_
  obtain ⟨q, hq⟩ : ∃ q, q = eqP x (bareP k x) := ⟨_, rfl⟩
  have HQ := Aside0.mk hq
  rw [← hq]
  clear hq
  refine ⟨_, rfl, Db.out, ?_⟩
  try simp only [Act.put, List.getElem_toArray, List.getElem_cons_succ, List.getElem_cons_zero, List.setIfInBounds_toArray, List.set_cons_zero, List.set_cons_succ]
  have hHeld : EB wb g1 ⟨(k : Int), x.f1, x.f2, x.f3, x.f4, x.f5.f0, x.f5.f1, x.f5.f2, A, x.f6.length, c⟩ := Db.out
  cases q
  · skip
    refine wpAnyH_take (i := 13) (v := .bool true) rfl (by kernel_rfl) (by kernel_rfl) (by kernel_rfl) (fun _ _ _ h => h) (Or.inl ⟨by kernel_rfl, ?_⟩) (by assumption) ?_
    · intro W_ hSw
      clear hSw
      first | (go_simp; done) | (go_simp; with_reducible rfl) | (go_simp; rfl)
    refine wpAnyH_take (i := 14) (v := .bool true) rfl (by kernel_rfl) (by kernel_rfl) (by kernel_rfl) (fun _ _ _ h => h) (Or.inl ⟨by kernel_rfl, ?_⟩) (by assumption) ?_
    · intro W_ hSw
      clear hSw
      first | (go_simp; done) | (go_simp; with_reducible rfl) | (go_simp; rfl)
    try simp only [Act.put, List.getElem_toArray, List.getElem_cons_succ, List.getElem_cons_zero, List.setIfInBounds_toArray, List.set_cons_zero, List.set_cons_succ]
    clear hHeld
    refine wpAnyH_done (by kernel_rfl) ?_ _
    go_wp2_with fail
    go_ret2
    have hR_ : R = (⟨#[]⟩, 1) := by
      rw [HR.out]; unfold putP
      exact if_neg (fun h => absurd h.2 (by rw [← HQ.out]; decide))
    rw [hR_]
    exact ⟨rfl, BB.out⟩
  · skip
    refine wpAnyH_take (i := 13) (v := .bool false) rfl (by kernel_rfl) (by kernel_rfl) (by kernel_rfl) (fun _ _ _ h => h) (Or.inl ⟨by kernel_rfl, ?_⟩) (by assumption) ?_
    · intro W_ hSw
      clear hSw
      first | (go_simp; done) | (go_simp; with_reducible rfl) | (go_simp; rfl)
    refine wpAnyH_take (i := 14) (v := .bool false) rfl (by kernel_rfl) (by kernel_rfl) (by kernel_rfl) (fun _ _ _ h => h) (Or.inl ⟨by kernel_rfl, ?_⟩) (by assumption) ?_
    · intro W_ hSw
      clear hSw
      first | (go_simp; done) | (go_simp; with_reducible rfl) | (go_simp; rfl)
    try simp only [Act.put, List.getElem_toArray, List.getElem_cons_succ, List.getElem_cons_zero, List.setIfInBounds_toArray, List.set_cons_zero, List.set_cons_succ]
    clear hHeld
    refine wpAnyH_done (by kernel_rfl) ?_ _
    have HRR := Aside0.mk (show R = (joinB (nm k :: argsP k x), 0) from by
      rw [HR.out]; unfold putP
      exact if_pos ⟨⟨H0.out, H8.out⟩, HQ.out.symm⟩)
    go_wp2_with fail
    refine region_drew (fun W_ => EB W_ g1 ⟨(k : Int), x.f1, x.f2, x.f3, x.f4, x.f5.f0, x.f5.f1, x.f5.f2, A, x.f6.length, c⟩) (by kernel_rfl) (fun d_ hd_ he_ => ?_)
    have D1' := Aside0.mk (Db.out.below hd_)
    have BD' := Aside0.mk (below_all_ BB.out hd_)
    clear hd_ he_
    refine ⟨D1'.out, fun hHeld => ?_⟩
    have hw1 : IntKind.i64.wrap ((k : Int) - 1) = (k : Int) - 1 := by have := H0.out; have := H8.out; rw [IntKind.wrap_i64]; omega
    refine wpAnyH_take (i := 1) (v := .pointer (some ⟨g1, 0, none⟩)) rfl (by kernel_rfl) (by kernel_rfl) (by kernel_rfl) (fun _ _ _ h => h) (Or.inl ⟨by kernel_rfl, ?_⟩) (by assumption) ?_
    · intro W_ hSw
      clear hSw
      first | (go_simp; done) | (go_simp; with_reducible rfl) | (go_simp; rfl)
    refine wpAnyH_take (i := 2) (v := .int .i64 (k : Int)) rfl (by kernel_rfl) (by kernel_rfl) (by kernel_rfl) (fun _ _ _ h => h) (Or.inl ⟨by kernel_rfl, ?_⟩) (by assumption) ?_
    · intro W_ hSw
      obtain ⟨q0, q1, q2, q3, q4, q5, q6, q7, q8⟩ := EB.cells (e := ⟨(k : Int), x.f1, x.f2, x.f3, x.f4, x.f5.f0, x.f5.f1, x.f5.f2, A, x.f6.length, c⟩) hSw
      dsimp only at q0 q1 q2 q3 q4 q5 q6 q7 q8
      clear hSw
      first | (go_simp; done) | (go_simp; with_reducible rfl) | (go_simp; rfl)
    refine wpAnyH_take (i := 3) (v := .int .i64 ((k : Int) - 1)) rfl (by kernel_rfl) (by kernel_rfl) (by kernel_rfl) (fun _ _ _ h => h) (Or.inl ⟨by kernel_rfl, ?_⟩) (by assumption) ?_
    · intro W_ hSw
      clear hSw
      first | (go_simp; done) | (go_simp; with_reducible rfl) | (go_simp; rfl)
    try simp only [Act.put, List.getElem_toArray, List.getElem_cons_succ, List.getElem_cons_zero, List.setIfInBounds_toArray, List.set_cons_zero, List.set_cons_succ]
    clear hHeld
    refine next_le (i := 0) (rs := []) (by kernel_rfl) ?_
    refine cons_callG 0 (N := 22) (xs := #[]) (ts := #[]) (by kernel_rfl) Try.func15 (by kernel_rfl) rfl #[] (by kernel_rfl) ?_ AllReadyH.nil
    with_reducible refine Calls.mono (names_c _) ?_
    rintro _ wc ⟨v22, rfl, hN, hb⟩
    have Dc := Aside0.mk (D1'.out.below hb)
    have BC := Aside0.mk (below_all_ BD'.out hb)
    obtain ⟨gn, cn, hv, hcn, htx⟩ := hN.txb (by decide)
    subst hv
    have HX := Aside0.mk htx
    clear hb hN htx hcn
    rw [show nms.length = 8 from rfl]
    refine ⟨_, rfl, Dc.out, ?_⟩
    try simp only [Act.put, List.getElem_toArray, List.getElem_cons_succ, List.getElem_cons_zero, List.setIfInBounds_toArray, List.set_cons_zero, List.set_cons_succ]
    have hHeld : EB wc g1 ⟨(k : Int), x.f1, x.f2, x.f3, x.f4, x.f5.f0, x.f5.f1, x.f5.f2, A, x.f6.length, c⟩ := Dc.out
    have e1 : (0 : Int) ≤ (k : Int) - 1 := by have := H0.out; omega
    have e2 : (k : Int) - 1 < 8 := by have := H8.out; omega
    have e6 : ¬ ((k : Int) < 1) := by omega
    have e7 := eq_false e6
    have e3 := eq_true e1
    have e4 := eq_true e2
    have e5 : ((k : Int) - 1).toNat = k - 1 := by have := H0.out; omega
    refine wpAnyH_take (i := 4) (v := .pointer (some ⟨gn, k - 1, none⟩)) rfl (by kernel_rfl) (by kernel_rfl) (by kernel_rfl) (fun _ _ _ h => h) (Or.inl ⟨by kernel_rfl, ?_⟩) (by assumption) ?_
    · intro W_ hSw
      have ea : (⟨gn, 0, none⟩ : Addr).add (k - 1) = ⟨gn, k - 1, none⟩ := by unfold Addr.add; split <;> simp_all
      clear hSw
      first | (go_simp; done) | (go_simp; with_reducible rfl) | (go_simp; rfl)
    try simp only [Act.put, List.getElem_toArray, List.getElem_cons_succ, List.getElem_cons_zero, List.setIfInBounds_toArray, List.set_cons_zero, List.set_cons_succ]
    clear hHeld
    have q5 : wc.cell? ⟨gn, k - 1, none⟩ = some (.string (nm k)) := by
      have h9 := HX.out.at (k - 1) (by show k - 1 < 8; have := H8.out; have := H0.out; omega)
      rw [Nat.zero_add] at h9
      rw [h9]
      have h8 := H8.out
      have h0 := H0.out
      exact congrArg (fun z => some (Value.string z)) (nms_at k h0 h8 _)
    refine next_le (i := 5) (rs := []) (by kernel_rfl) ?_
    refine cons_valG 5 (N := 27) (op := .load 9 (.tmp 26)) (.string (nm k)) wc (by kernel_rfl) (fun o ho => ld_str _ o 26 ho (by kernel_rfl) q5) ⟨Dc.out, ?_⟩ AllReadyH.nil
    try simp only [Act.put, List.getElem_toArray, List.getElem_cons_succ, List.getElem_cons_zero, List.setIfInBounds_toArray, List.set_cons_zero, List.set_cons_succ]
    clear q5
    have BL0 := Aside0.mk (below_all_ BC.out ((Below.refl wc.heap.size wc).alloc (Nat.le_refl _) (.cells #[.string (nm k)] 9 (0, 0))))
    have DL0 := Aside0.mk (Dc.out.below ((Below.refl wc.heap.size wc).alloc (Nat.le_refl _) (.cells #[.string (nm k)] 9 (0, 0))))
    have OL0 := Aside0.mk (show OwnT (wc.alloc (.cells #[.string (nm k)] 9 (0, 0))) w.heap.size (.slice (some ⟨wc.heap.size, 0, none⟩) 1 1) [nm k] from own_new [nm k] rfl BC.out.size (by simp))
    refine next_le (i := 6) (rs := []) (by kernel_rfl) ?_
    refine cons_valG 6 (N := 28) (op := .buildSlice 45 1 #[(0, .tmp 27)]) (.slice (some ⟨wc.heap.size, 0, none⟩) 1 1) (wc.alloc (.cells #[.string (nm k)] 9 (0, 0))) (by kernel_rfl) (fun o ho => run_t1 _ o 27 (nm k) ho (by kernel_rfl)) ⟨DL0.out, ?_⟩ AllReadyH.nil
    try simp only [Act.put, List.getElem_toArray, List.getElem_cons_succ, List.getElem_cons_zero, List.setIfInBounds_toArray, List.set_cons_zero, List.set_cons_succ]
    have hHeld := DL0.out
    obtain ⟨wl, hwl⟩ : ∃ wl, wl = (wc.alloc (.cells #[.string (nm k)] 9 (0, 0))) := ⟨_, rfl⟩
    obtain ⟨gv, hgv⟩ : ∃ gv, gv = wc.heap.size := ⟨_, rfl⟩
    rw [← hwl, ← hgv] at OL0
    rw [← hwl] at BL0 DL0 hHeld ⊢
    rw [← hgv]
    refine wpAnyH_take (i := 7) (v := .slice (some ⟨gv, 0, none⟩) 1 1) rfl (by kernel_rfl) (by kernel_rfl) (by kernel_rfl) (fun _ _ _ h => h) (Or.inl ⟨by kernel_rfl, ?_⟩) (by assumption) ?_
    · intro W_ hSw
      clear hSw
      first | (go_simp; done) | (go_simp; with_reducible rfl) | (go_simp; rfl)
    try simp only [Act.put, List.getElem_toArray, List.getElem_cons_succ, List.getElem_cons_zero, List.setIfInBounds_toArray, List.set_cons_zero, List.set_cons_succ]
    clear hHeld hgv hwl
    refine wpAnyH_done (by kernel_rfl) ?_ _
    obtain ⟨q0, q1, q2, q3, q4, q5, q6, q7, q8⟩ := DL0.out.cells; dsimp only at q0 q1 q2 q3 q4 q5 q6 q7 q8
    have hk : k = 1 ∨ k = 2 ∨ k = 3 ∨ k = 4 ∨ k = 5 ∨ k = 6 ∨ k = 7 ∨ k = 8 := by have := H0.out; have := H8.out; omega
    clear e1 e2 e3 e4 e5 e6 e7 hw1 d1 d2
    rcases hk with rfl | rfl | rfl | rfl | rfl | rfl | rfl | rfl
    · skip
      go_wp2_with (first | (go_at_call 16; (with_reducible refine Calls.mono (text_c x.f1 HI.out.h _) ?_); rintro _ wt ⟨rfl, hb⟩; have DT := Aside0.mk (DL0.out.below hb); have OT := Aside0.mk (OL0.out.below hb); have BT := Aside0.mk (below_all_ BL0.out hb); clear hb) | ((with_reducible refine gate_dst (N := 38) rfl ?_); refine ev_val rfl (N := 38) rfl (.slice (some ⟨wt.heap.size, 0, none⟩) 1 1) (wt.alloc (.cells #[.string (tx x.f1)] 9 (0, 0))) (run_t1 _ _ 37 (tx x.f1) rfl rfl) ?_; have BU := Aside0.mk (below_all_ BT.out ((Below.refl wt.heap.size wt).alloc (Nat.le_refl _) (.cells #[.string (tx x.f1)] 9 (0, 0)))); have OU := Aside0.mk (OT.out.below ((Below.refl wt.heap.size wt).alloc (Nat.le_refl _) (.cells #[.string (tx x.f1)] 9 (0, 0)))); have RU := Aside0.mk (reads_new [tx x.f1] (W := wt) rfl (by simp))) | ((with_reducible refine gate_dst (N := 39) rfl ?_); refine ev_appT (w0 := w) w.heap.size rfl (N := 39) rfl 34 38 rfl (.slice (some ⟨gv, 0, none⟩) 1 1) [nm 1] [tx x.f1] (some ⟨wt.heap.size, 0, none⟩) 1 1 rfl rfl OU.out RU.out BU.out BU.out.size (by decide) (fun v9 w9_ hO_ hB_ hG_ => ?_); obtain ⟨A9, c9, hv9, hc9, hC9⟩ := hO_.reads; subst hv9; have HC9 := Aside0.mk hc9; have HR9 := Aside0.mk hC9; have B9 := Aside0.mk hB_; clear hO_ hB_ hG_ hc9 hC9 q0 q1 q2 q3 q4 q5 q6 q7 q8))
      have c3_ := join_c (nm 1 :: argsP 1 x) (by have := args_len 1 x HS.out; rw [List.length_cons]; omega) (all_mem 1 x (by decide) HI.out HS.out) A9 c9 2 rfl _ HC9.out HR9.out
      go_wp2_with fail
      go_at_call 18
      with_reducible refine Calls.mono c3_ ?_
      rintro _ wz ⟨rfl, hb⟩
      have BZ := Aside0.mk (below_all_ B9.out hb)
      clear hb c3_
      go_wp2_with fail
      go_ret2
      rw [HRR.out]
      exact ⟨rfl, BZ.out⟩
    · skip
      go_wp2_with fail
      clear q0 q1 q2 q3 q4 q5 q6 q7 q8
      refine region_drew (fun W_ => EB W_ g1 ⟨2, x.f1, x.f2, x.f3, x.f4, x.f5.f0, x.f5.f1, x.f5.f2, A, x.f6.length, c⟩) (by kernel_rfl) (fun d_ hd_ he_ => ?_)
      have DD := Aside0.mk (DL0.out.below hd_)
      have OD := Aside0.mk (OL0.out.below hd_)
      have BD2 := Aside0.mk (below_all_ BL0.out hd_)
      clear hd_ he_
      refine ⟨DD.out, fun hHeld => ?_⟩
      refine wpAnyH_take (i := 0) (v := .slice (some ⟨gv, 0, none⟩) 1 1) rfl (by kernel_rfl) (by kernel_rfl) (by kernel_rfl) (fun _ _ _ h => h) (Or.inl ⟨by kernel_rfl, ?_⟩) (by assumption) ?_
      · intro W_ hSw
        clear hSw
        first | (go_simp; done) | (go_simp; with_reducible rfl) | (go_simp; rfl)
      refine wpAnyH_take (i := 1) (v := .pointer (some ⟨g1, 1, none⟩)) rfl (by kernel_rfl) (by kernel_rfl) (by kernel_rfl) (fun _ _ _ h => h) (Or.inl ⟨by kernel_rfl, ?_⟩) (by assumption) ?_
      · intro W_ hSw
        clear hSw
        first | (go_simp; done) | (go_simp; with_reducible rfl) | (go_simp; rfl)
      refine wpAnyH_take (i := 2) (v := .int .i64 x.f1) rfl (by kernel_rfl) (by kernel_rfl) (by kernel_rfl) (fun _ _ _ h => h) (Or.inl ⟨by kernel_rfl, ?_⟩) (by assumption) ?_
      · intro W_ hSw
        obtain ⟨q0, q1, q2, q3, q4, q5, q6, q7, q8⟩ := EB.cells (e := ⟨2, x.f1, x.f2, x.f3, x.f4, x.f5.f0, x.f5.f1, x.f5.f2, A, x.f6.length, c⟩) hSw
        dsimp only at q0 q1 q2 q3 q4 q5 q6 q7 q8
        clear hSw
        first | (go_simp; done) | (go_simp; with_reducible rfl) | (go_simp; rfl)
      refine wpAnyH_take (i := 4) (v := .pointer (some ⟨g1, 2, none⟩)) rfl (by kernel_rfl) (by kernel_rfl) (by kernel_rfl) (fun _ _ _ h => h) (Or.inl ⟨by kernel_rfl, ?_⟩) (by assumption) ?_
      · intro W_ hSw
        clear hSw
        first | (go_simp; done) | (go_simp; with_reducible rfl) | (go_simp; rfl)
      refine wpAnyH_take (i := 5) (v := .string x.f2) rfl (by kernel_rfl) (by kernel_rfl) (by kernel_rfl) (fun _ _ _ h => h) (Or.inl ⟨by kernel_rfl, ?_⟩) (by assumption) ?_
      · intro W_ hSw
        obtain ⟨q0, q1, q2, q3, q4, q5, q6, q7, q8⟩ := EB.cells (e := ⟨2, x.f1, x.f2, x.f3, x.f4, x.f5.f0, x.f5.f1, x.f5.f2, A, x.f6.length, c⟩) hSw
        dsimp only at q0 q1 q2 q3 q4 q5 q6 q7 q8
        clear hSw
        first | (go_simp; done) | (go_simp; with_reducible rfl) | (go_simp; rfl)
      try simp only [Act.put, List.getElem_toArray, List.getElem_cons_succ, List.getElem_cons_zero, List.setIfInBounds_toArray, List.set_cons_zero, List.set_cons_succ]
      clear hHeld
      refine next_le (i := 3) (rs := []) (by kernel_rfl) ?_
      refine cons_callG 3 (N := 45) (xs := #[.tmp 44]) (ts := #[3]) (by kernel_rfl) Try.func16 (by kernel_rfl) rfl #[.int .i64 x.f1] (by kernel_rfl) ?_ AllReadyH.nil
      with_reducible refine Calls.mono (text_c x.f1 HI.out.h _) ?_
      rintro _ wt0 ⟨rfl, hb⟩
      have Dwt0 := Aside0.mk (DD.out.below hb)
      have Owt0 := Aside0.mk (OD.out.below hb)
      have Bwt0 := Aside0.mk (below_all_ BD2.out hb)
      clear hb
      refine ⟨_, rfl, Dwt0.out, ?_⟩
      try simp only [Act.put, List.getElem_toArray, List.getElem_cons_succ, List.getElem_cons_zero, List.setIfInBounds_toArray, List.set_cons_zero, List.set_cons_succ]
      have DU := Aside0.mk (Dwt0.out.below ((Below.refl wt0.heap.size wt0).alloc (Nat.le_refl _) (.cells #[.string (tx x.f1), .string x.f2] 9 (0, 0))))
      have OU := Aside0.mk (Owt0.out.below ((Below.refl wt0.heap.size wt0).alloc (Nat.le_refl _) (.cells #[.string (tx x.f1), .string x.f2] 9 (0, 0))))
      have BU := Aside0.mk (below_all_ Bwt0.out ((Below.refl wt0.heap.size wt0).alloc (Nat.le_refl _) (.cells #[.string (tx x.f1), .string x.f2] 9 (0, 0))))
      have RU := Aside0.mk (show Kd.C Kd.string (wt0.alloc (.cells #[.string (tx x.f1), .string x.f2] 9 (0, 0))) (some ⟨wt0.heap.size, 0, none⟩) 2 [tx x.f1, x.f2] from reads_new [tx x.f1, x.f2] (W := wt0) rfl (by simp))
      refine next_le (i := 6) (rs := []) (by kernel_rfl) ?_
      refine cons_valG 6 (N := 48) (op := .buildSlice 45 2 #[(0, .tmp 45), (1, .tmp 47)]) (.slice (some ⟨wt0.heap.size, 0, none⟩) 2 2) (wt0.alloc (.cells #[.string (tx x.f1), .string x.f2] 9 (0, 0))) (by kernel_rfl) (fun o ho => run_t2 _ o 45 47 (tx x.f1) x.f2 ho (by kernel_rfl) (by kernel_rfl)) ⟨DU.out, ?_⟩ AllReadyH.nil
      try simp only [Act.put, List.getElem_toArray, List.getElem_cons_succ, List.getElem_cons_zero, List.setIfInBounds_toArray, List.set_cons_zero, List.set_cons_succ]
      refine next_le (i := 7) (rs := []) (by kernel_rfl) ?_
      refine cons_appT (W := (wt0.alloc (.cells #[.string (tx x.f1), .string x.f2] 9 (0, 0)))) (N := 49) (w0 := w) w.heap.size 7 42 48 (by kernel_rfl) (.slice (some ⟨gv, 0, none⟩) 1 1) [nm 2] [tx x.f1, x.f2] (some ⟨wt0.heap.size, 0, none⟩) 2 2 (by kernel_rfl) (by kernel_rfl) OU.out RU.out BU.out BU.out.size (by decide) (fun v9 w9_ hO_ hB_ hG_ => ?_) AllReadyH.nil
      have E9 := Aside0.mk (DU.out.grown OU.out hG_)
      obtain ⟨A9, c9, hv9, hc9, hC9⟩ := hO_.reads
      subst hv9
      have HC9 := Aside0.mk hc9
      have HR9 := Aside0.mk hC9
      have B9 := Aside0.mk hB_
      clear hO_ hB_ hG_ hc9 hC9
      refine ⟨E9.out, ?_⟩
      try simp only [Act.put, List.getElem_toArray, List.getElem_cons_succ, List.getElem_cons_zero, List.setIfInBounds_toArray, List.set_cons_zero, List.set_cons_succ]
      have hHeld := E9.out
      refine wpAnyH_take (i := 8) (v := .slice A9 ([nm 2] ++ [tx x.f1, x.f2]).length c9) rfl (by kernel_rfl) (by kernel_rfl) (by kernel_rfl) (fun _ _ _ h => h) (Or.inl ⟨by kernel_rfl, ?_⟩) (by assumption) ?_
      · intro W_ hSw
        skip
        first | (go_simp; done) | (go_simp; with_reducible rfl) | (go_simp; rfl)
      try simp only [Act.put, List.getElem_toArray, List.getElem_cons_succ, List.getElem_cons_zero, List.setIfInBounds_toArray, List.set_cons_zero, List.set_cons_succ]
      clear hHeld
      refine wpAnyH_done (by kernel_rfl) ?_ _
      have c3_ := join_c (nm 2 :: argsP 2 x) (by have := args_len 2 x HS.out; rw [List.length_cons]; omega) (all_mem 2 x (by decide) HI.out HS.out) A9 c9 3 rfl _ HC9.out HR9.out
      go_wp2_with fail
      go_at_call 18
      with_reducible refine Calls.mono c3_ ?_
      rintro _ wz ⟨rfl, hb⟩
      have BZ := Aside0.mk (below_all_ B9.out hb)
      clear hb c3_
      go_wp2_with fail
      go_ret2
      rw [HRR.out]
      exact ⟨rfl, BZ.out⟩
    · skip
      go_wp2_with fail
      clear q0 q1 q2 q3 q4 q5 q6 q7 q8
      refine region_drew (fun W_ => EB W_ g1 ⟨3, x.f1, x.f2, x.f3, x.f4, x.f5.f0, x.f5.f1, x.f5.f2, A, x.f6.length, c⟩) (by kernel_rfl) (fun d_ hd_ he_ => ?_)
      have DD := Aside0.mk (DL0.out.below hd_)
      have OD := Aside0.mk (OL0.out.below hd_)
      have BD2 := Aside0.mk (below_all_ BL0.out hd_)
      clear hd_ he_
      refine ⟨DD.out, fun hHeld => ?_⟩
      refine wpAnyH_take (i := 0) (v := .slice (some ⟨gv, 0, none⟩) 1 1) rfl (by kernel_rfl) (by kernel_rfl) (by kernel_rfl) (fun _ _ _ h => h) (Or.inl ⟨by kernel_rfl, ?_⟩) (by assumption) ?_
      · intro W_ hSw
        clear hSw
        first | (go_simp; done) | (go_simp; with_reducible rfl) | (go_simp; rfl)
      refine wpAnyH_take (i := 1) (v := .pointer (some ⟨g1, 1, none⟩)) rfl (by kernel_rfl) (by kernel_rfl) (by kernel_rfl) (fun _ _ _ h => h) (Or.inl ⟨by kernel_rfl, ?_⟩) (by assumption) ?_
      · intro W_ hSw
        clear hSw
        first | (go_simp; done) | (go_simp; with_reducible rfl) | (go_simp; rfl)
      refine wpAnyH_take (i := 2) (v := .int .i64 x.f1) rfl (by kernel_rfl) (by kernel_rfl) (by kernel_rfl) (fun _ _ _ h => h) (Or.inl ⟨by kernel_rfl, ?_⟩) (by assumption) ?_
      · intro W_ hSw
        obtain ⟨q0, q1, q2, q3, q4, q5, q6, q7, q8⟩ := EB.cells (e := ⟨3, x.f1, x.f2, x.f3, x.f4, x.f5.f0, x.f5.f1, x.f5.f2, A, x.f6.length, c⟩) hSw
        dsimp only at q0 q1 q2 q3 q4 q5 q6 q7 q8
        clear hSw
        first | (go_simp; done) | (go_simp; with_reducible rfl) | (go_simp; rfl)
      refine wpAnyH_take (i := 4) (v := .pointer (some ⟨g1, 3, none⟩)) rfl (by kernel_rfl) (by kernel_rfl) (by kernel_rfl) (fun _ _ _ h => h) (Or.inl ⟨by kernel_rfl, ?_⟩) (by assumption) ?_
      · intro W_ hSw
        clear hSw
        first | (go_simp; done) | (go_simp; with_reducible rfl) | (go_simp; rfl)
      refine wpAnyH_take (i := 5) (v := .int .i64 x.f3) rfl (by kernel_rfl) (by kernel_rfl) (by kernel_rfl) (fun _ _ _ h => h) (Or.inl ⟨by kernel_rfl, ?_⟩) (by assumption) ?_
      · intro W_ hSw
        obtain ⟨q0, q1, q2, q3, q4, q5, q6, q7, q8⟩ := EB.cells (e := ⟨3, x.f1, x.f2, x.f3, x.f4, x.f5.f0, x.f5.f1, x.f5.f2, A, x.f6.length, c⟩) hSw
        dsimp only at q0 q1 q2 q3 q4 q5 q6 q7 q8
        clear hSw
        first | (go_simp; done) | (go_simp; with_reducible rfl) | (go_simp; rfl)
      try simp only [Act.put, List.getElem_toArray, List.getElem_cons_succ, List.getElem_cons_zero, List.setIfInBounds_toArray, List.set_cons_zero, List.set_cons_succ]
      clear hHeld
      refine next_le (i := 3) (rs := []) (by kernel_rfl) ?_
      refine cons_callG 3 (N := 55) (xs := #[.tmp 54]) (ts := #[3]) (by kernel_rfl) Try.func16 (by kernel_rfl) rfl #[.int .i64 x.f1] (by kernel_rfl) ?_ AllReadyH.nil
      with_reducible refine Calls.mono (text_c x.f1 HI.out.h _) ?_
      rintro _ wt0 ⟨rfl, hb⟩
      have Dwt0 := Aside0.mk (DD.out.below hb)
      have Owt0 := Aside0.mk (OD.out.below hb)
      have Bwt0 := Aside0.mk (below_all_ BD2.out hb)
      clear hb
      refine ⟨_, rfl, Dwt0.out, ?_⟩
      try simp only [Act.put, List.getElem_toArray, List.getElem_cons_succ, List.getElem_cons_zero, List.setIfInBounds_toArray, List.set_cons_zero, List.set_cons_succ]
      refine next_le (i := 6) (rs := []) (by kernel_rfl) ?_
      refine cons_callG 6 (N := 58) (xs := #[.tmp 57]) (ts := #[2]) (by kernel_rfl) Try.func17 (by kernel_rfl) rfl #[.int .i64 x.f3] (by kernel_rfl) ?_ AllReadyH.nil
      with_reducible refine Calls.mono (ntext_c x.f3 HI.out.n _) ?_
      rintro _ wt1 ⟨rfl, hb⟩
      have Dwt1 := Aside0.mk (Dwt0.out.below hb)
      have Owt1 := Aside0.mk (Owt0.out.below hb)
      have Bwt1 := Aside0.mk (below_all_ Bwt0.out hb)
      clear hb
      refine ⟨_, rfl, Dwt1.out, ?_⟩
      try simp only [Act.put, List.getElem_toArray, List.getElem_cons_succ, List.getElem_cons_zero, List.setIfInBounds_toArray, List.set_cons_zero, List.set_cons_succ]
      have DU := Aside0.mk (Dwt1.out.below ((Below.refl wt1.heap.size wt1).alloc (Nat.le_refl _) (.cells #[.string (tx x.f1), .string (tx x.f3)] 9 (0, 0))))
      have OU := Aside0.mk (Owt1.out.below ((Below.refl wt1.heap.size wt1).alloc (Nat.le_refl _) (.cells #[.string (tx x.f1), .string (tx x.f3)] 9 (0, 0))))
      have BU := Aside0.mk (below_all_ Bwt1.out ((Below.refl wt1.heap.size wt1).alloc (Nat.le_refl _) (.cells #[.string (tx x.f1), .string (tx x.f3)] 9 (0, 0))))
      have RU := Aside0.mk (show Kd.C Kd.string (wt1.alloc (.cells #[.string (tx x.f1), .string (tx x.f3)] 9 (0, 0))) (some ⟨wt1.heap.size, 0, none⟩) 2 [tx x.f1, tx x.f3] from reads_new [tx x.f1, tx x.f3] (W := wt1) rfl (by simp))
      refine next_le (i := 7) (rs := []) (by kernel_rfl) ?_
      refine cons_valG 7 (N := 59) (op := .buildSlice 45 2 #[(0, .tmp 55), (1, .tmp 58)]) (.slice (some ⟨wt1.heap.size, 0, none⟩) 2 2) (wt1.alloc (.cells #[.string (tx x.f1), .string (tx x.f3)] 9 (0, 0))) (by kernel_rfl) (fun o ho => run_t2 _ o 55 58 (tx x.f1) (tx x.f3) ho (by kernel_rfl) (by kernel_rfl)) ⟨DU.out, ?_⟩ AllReadyH.nil
      try simp only [Act.put, List.getElem_toArray, List.getElem_cons_succ, List.getElem_cons_zero, List.setIfInBounds_toArray, List.set_cons_zero, List.set_cons_succ]
      refine next_le (i := 8) (rs := []) (by kernel_rfl) ?_
      refine cons_appT (W := (wt1.alloc (.cells #[.string (tx x.f1), .string (tx x.f3)] 9 (0, 0)))) (N := 60) (w0 := w) w.heap.size 8 52 59 (by kernel_rfl) (.slice (some ⟨gv, 0, none⟩) 1 1) [nm 3] [tx x.f1, tx x.f3] (some ⟨wt1.heap.size, 0, none⟩) 2 2 (by kernel_rfl) (by kernel_rfl) OU.out RU.out BU.out BU.out.size (by decide) (fun v9 w9_ hO_ hB_ hG_ => ?_) AllReadyH.nil
      have E9 := Aside0.mk (DU.out.grown OU.out hG_)
      obtain ⟨A9, c9, hv9, hc9, hC9⟩ := hO_.reads
      subst hv9
      have HC9 := Aside0.mk hc9
      have HR9 := Aside0.mk hC9
      have B9 := Aside0.mk hB_
      clear hO_ hB_ hG_ hc9 hC9
      refine ⟨E9.out, ?_⟩
      try simp only [Act.put, List.getElem_toArray, List.getElem_cons_succ, List.getElem_cons_zero, List.setIfInBounds_toArray, List.set_cons_zero, List.set_cons_succ]
      have hHeld := E9.out
      refine wpAnyH_take (i := 9) (v := .slice A9 ([nm 3] ++ [tx x.f1, tx x.f3]).length c9) rfl (by kernel_rfl) (by kernel_rfl) (by kernel_rfl) (fun _ _ _ h => h) (Or.inl ⟨by kernel_rfl, ?_⟩) (by assumption) ?_
      · intro W_ hSw
        skip
        first | (go_simp; done) | (go_simp; with_reducible rfl) | (go_simp; rfl)
      try simp only [Act.put, List.getElem_toArray, List.getElem_cons_succ, List.getElem_cons_zero, List.setIfInBounds_toArray, List.set_cons_zero, List.set_cons_succ]
      clear hHeld
      refine wpAnyH_done (by kernel_rfl) ?_ _
      have c3_ := join_c (nm 3 :: argsP 3 x) (by have := args_len 3 x HS.out; rw [List.length_cons]; omega) (all_mem 3 x (by decide) HI.out HS.out) A9 c9 3 rfl _ HC9.out HR9.out
      go_wp2_with fail
      go_at_call 18
      with_reducible refine Calls.mono c3_ ?_
      rintro _ wz ⟨rfl, hb⟩
      have BZ := Aside0.mk (below_all_ B9.out hb)
      clear hb c3_
      go_wp2_with fail
      go_ret2
      rw [HRR.out]
      exact ⟨rfl, BZ.out⟩
    · skip
      go_wp2_with (first | (go_at_call 16; (with_reducible refine Calls.mono (text_c x.f1 HI.out.h _) ?_); rintro _ wt ⟨rfl, hb⟩; have DT := Aside0.mk (DL0.out.below hb); have OT := Aside0.mk (OL0.out.below hb); have BT := Aside0.mk (below_all_ BL0.out hb); clear hb) | ((with_reducible refine gate_dst (N := 38) rfl ?_); refine ev_val rfl (N := 38) rfl (.slice (some ⟨wt.heap.size, 0, none⟩) 1 1) (wt.alloc (.cells #[.string (tx x.f1)] 9 (0, 0))) (run_t1 _ _ 37 (tx x.f1) rfl rfl) ?_; have BU := Aside0.mk (below_all_ BT.out ((Below.refl wt.heap.size wt).alloc (Nat.le_refl _) (.cells #[.string (tx x.f1)] 9 (0, 0)))); have OU := Aside0.mk (OT.out.below ((Below.refl wt.heap.size wt).alloc (Nat.le_refl _) (.cells #[.string (tx x.f1)] 9 (0, 0)))); have RU := Aside0.mk (reads_new [tx x.f1] (W := wt) rfl (by simp))) | ((with_reducible refine gate_dst (N := 39) rfl ?_); refine ev_appT (w0 := w) w.heap.size rfl (N := 39) rfl 34 38 rfl (.slice (some ⟨gv, 0, none⟩) 1 1) [nm 4] [tx x.f1] (some ⟨wt.heap.size, 0, none⟩) 1 1 rfl rfl OU.out RU.out BU.out BU.out.size (by decide) (fun v9 w9_ hO_ hB_ hG_ => ?_); obtain ⟨A9, c9, hv9, hc9, hC9⟩ := hO_.reads; subst hv9; have HC9 := Aside0.mk hc9; have HR9 := Aside0.mk hC9; have B9 := Aside0.mk hB_; clear hO_ hB_ hG_ hc9 hC9 q0 q1 q2 q3 q4 q5 q6 q7 q8))
      have c3_ := join_c (nm 4 :: argsP 4 x) (by have := args_len 4 x HS.out; rw [List.length_cons]; omega) (all_mem 4 x (by decide) HI.out HS.out) A9 c9 2 rfl _ HC9.out HR9.out
      go_wp2_with fail
      go_at_call 18
      with_reducible refine Calls.mono c3_ ?_
      rintro _ wz ⟨rfl, hb⟩
      have BZ := Aside0.mk (below_all_ B9.out hb)
      clear hb c3_
      go_wp2_with fail
      go_ret2
      rw [HRR.out]
      exact ⟨rfl, BZ.out⟩
    · skip
      go_wp2_with (first | (go_at_call 17; (with_reducible refine Calls.mono (ntext_c x.f3 HI.out.n _) ?_); rintro _ wt ⟨rfl, hb⟩; have DT := Aside0.mk (DL0.out.below hb); have OT := Aside0.mk (OL0.out.below hb); have BT := Aside0.mk (below_all_ BL0.out hb); clear hb) | ((with_reducible refine gate_dst (N := 67) rfl ?_); refine ev_val rfl (N := 67) rfl (.slice (some ⟨wt.heap.size, 0, none⟩) 1 1) (wt.alloc (.cells #[.string (tx x.f3)] 9 (0, 0))) (run_t1 _ _ 66 (tx x.f3) rfl rfl) ?_; have BU := Aside0.mk (below_all_ BT.out ((Below.refl wt.heap.size wt).alloc (Nat.le_refl _) (.cells #[.string (tx x.f3)] 9 (0, 0)))); have OU := Aside0.mk (OT.out.below ((Below.refl wt.heap.size wt).alloc (Nat.le_refl _) (.cells #[.string (tx x.f3)] 9 (0, 0)))); have RU := Aside0.mk (reads_new [tx x.f3] (W := wt) rfl (by simp))) | ((with_reducible refine gate_dst (N := 68) rfl ?_); refine ev_appT (w0 := w) w.heap.size rfl (N := 68) rfl 63 67 rfl (.slice (some ⟨gv, 0, none⟩) 1 1) [nm 5] [tx x.f3] (some ⟨wt.heap.size, 0, none⟩) 1 1 rfl rfl OU.out RU.out BU.out BU.out.size (by decide) (fun v9 w9_ hO_ hB_ hG_ => ?_); obtain ⟨A9, c9, hv9, hc9, hC9⟩ := hO_.reads; subst hv9; have HC9 := Aside0.mk hc9; have HR9 := Aside0.mk hC9; have B9 := Aside0.mk hB_; clear hO_ hB_ hG_ hc9 hC9 q0 q1 q2 q3 q4 q5 q6 q7 q8))
      have c3_ := join_c (nm 5 :: argsP 5 x) (by have := args_len 5 x HS.out; rw [List.length_cons]; omega) (all_mem 5 x (by decide) HI.out HS.out) A9 c9 2 rfl _ HC9.out HR9.out
      go_wp2_with fail
      go_at_call 18
      with_reducible refine Calls.mono c3_ ?_
      rintro _ wz ⟨rfl, hb⟩
      have BZ := Aside0.mk (below_all_ B9.out hb)
      clear hb c3_
      go_wp2_with fail
      go_ret2
      rw [HRR.out]
      exact ⟨rfl, BZ.out⟩
    · skip
      have HC9 := Aside0.mk (show 1 ≤ 1 from Nat.le_refl _)
      obtain ⟨A9, c9, hv9, hc9, hC9⟩ := OL0.out.reads
      injection hv9 with h1_ h2_ h3_
      rw [← h1_] at hC9
      have HR9 := Aside0.mk hC9
      have B9 := Aside0.mk BL0.out
      clear hc9 hC9 h1_ h2_ h3_
      have c3_ := join_c (nm 6 :: argsP 6 x) (by have := args_len 6 x HS.out; rw [List.length_cons]; omega) (all_mem 6 x (by decide) HI.out HS.out) (some ⟨gv, 0, none⟩) 1 1 rfl _ HC9.out HR9.out
      go_wp2_with fail
      go_at_call 18
      with_reducible refine Calls.mono c3_ ?_
      rintro _ wz ⟨rfl, hb⟩
      have BZ := Aside0.mk (below_all_ B9.out hb)
      clear hb c3_
      go_wp2_with fail
      go_ret2
      rw [HRR.out]
      exact ⟨rfl, BZ.out⟩
    · skip
      go_wp2_with fail
      clear q0 q1 q2 q3 q4 q5 q6 q7 q8
      refine region_drew (fun W_ => EB W_ g1 ⟨7, x.f1, x.f2, x.f3, x.f4, x.f5.f0, x.f5.f1, x.f5.f2, A, x.f6.length, c⟩) (by kernel_rfl) (fun d_ hd_ he_ => ?_)
      have DD := Aside0.mk (DL0.out.below hd_)
      have OD := Aside0.mk (OL0.out.below hd_)
      have BD2 := Aside0.mk (below_all_ BL0.out hd_)
      clear hd_ he_
      refine ⟨DD.out, fun hHeld => ?_⟩
      refine wpAnyH_take (i := 0) (v := .slice (some ⟨gv, 0, none⟩) 1 1) rfl (by kernel_rfl) (by kernel_rfl) (by kernel_rfl) (fun _ _ _ h => h) (Or.inl ⟨by kernel_rfl, ?_⟩) (by assumption) ?_
      · intro W_ hSw
        clear hSw
        first | (go_simp; done) | (go_simp; with_reducible rfl) | (go_simp; rfl)
      refine wpAnyH_take (i := 1) (v := .pointer (some ⟨g1, 4, none⟩)) rfl (by kernel_rfl) (by kernel_rfl) (by kernel_rfl) (fun _ _ _ h => h) (Or.inl ⟨by kernel_rfl, ?_⟩) (by assumption) ?_
      · intro W_ hSw
        clear hSw
        first | (go_simp; done) | (go_simp; with_reducible rfl) | (go_simp; rfl)
      refine wpAnyH_take (i := 2) (v := .int .i64 x.f4) rfl (by kernel_rfl) (by kernel_rfl) (by kernel_rfl) (fun _ _ _ h => h) (Or.inl ⟨by kernel_rfl, ?_⟩) (by assumption) ?_
      · intro W_ hSw
        obtain ⟨q0, q1, q2, q3, q4, q5, q6, q7, q8⟩ := EB.cells (e := ⟨7, x.f1, x.f2, x.f3, x.f4, x.f5.f0, x.f5.f1, x.f5.f2, A, x.f6.length, c⟩) hSw
        dsimp only at q0 q1 q2 q3 q4 q5 q6 q7 q8
        clear hSw
        first | (go_simp; done) | (go_simp; with_reducible rfl) | (go_simp; rfl)
      refine wpAnyH_take (i := 4) (v := .pointer (some ⟨g1, 5, none⟩)) rfl (by kernel_rfl) (by kernel_rfl) (by kernel_rfl) (fun _ _ _ h => h) (Or.inl ⟨by kernel_rfl, ?_⟩) (by assumption) ?_
      · intro W_ hSw
        clear hSw
        first | (go_simp; done) | (go_simp; with_reducible rfl) | (go_simp; rfl)
      refine wpAnyH_take (i := 5) (v := .pointer (some ⟨g1, 5, none⟩)) rfl (by kernel_rfl) (by kernel_rfl) (by kernel_rfl) (fun _ _ _ h => h) (Or.inl ⟨by kernel_rfl, ?_⟩) (by assumption) ?_
      · intro W_ hSw
        clear hSw
        first | (go_simp; done) | (go_simp; with_reducible rfl) | (go_simp; rfl)
      refine wpAnyH_take (i := 6) (v := .string x.f5.f0) rfl (by kernel_rfl) (by kernel_rfl) (by kernel_rfl) (fun _ _ _ h => h) (Or.inl ⟨by kernel_rfl, ?_⟩) (by assumption) ?_
      · intro W_ hSw
        obtain ⟨q0, q1, q2, q3, q4, q5, q6, q7, q8⟩ := EB.cells (e := ⟨7, x.f1, x.f2, x.f3, x.f4, x.f5.f0, x.f5.f1, x.f5.f2, A, x.f6.length, c⟩) hSw
        dsimp only at q0 q1 q2 q3 q4 q5 q6 q7 q8
        clear hSw
        first | (go_simp; done) | (go_simp; with_reducible rfl) | (go_simp; rfl)
      refine wpAnyH_take (i := 7) (v := .pointer (some ⟨g1, 5, none⟩)) rfl (by kernel_rfl) (by kernel_rfl) (by kernel_rfl) (fun _ _ _ h => h) (Or.inl ⟨by kernel_rfl, ?_⟩) (by assumption) ?_
      · intro W_ hSw
        clear hSw
        first | (go_simp; done) | (go_simp; with_reducible rfl) | (go_simp; rfl)
      refine wpAnyH_take (i := 8) (v := .pointer (some ⟨g1, 6, none⟩)) rfl (by kernel_rfl) (by kernel_rfl) (by kernel_rfl) (fun _ _ _ h => h) (Or.inl ⟨by kernel_rfl, ?_⟩) (by assumption) ?_
      · intro W_ hSw
        clear hSw
        first | (go_simp; done) | (go_simp; with_reducible rfl) | (go_simp; rfl)
      refine wpAnyH_take (i := 9) (v := .int .i64 x.f5.f1) rfl (by kernel_rfl) (by kernel_rfl) (by kernel_rfl) (fun _ _ _ h => h) (Or.inl ⟨by kernel_rfl, ?_⟩) (by assumption) ?_
      · intro W_ hSw
        obtain ⟨q0, q1, q2, q3, q4, q5, q6, q7, q8⟩ := EB.cells (e := ⟨7, x.f1, x.f2, x.f3, x.f4, x.f5.f0, x.f5.f1, x.f5.f2, A, x.f6.length, c⟩) hSw
        dsimp only at q0 q1 q2 q3 q4 q5 q6 q7 q8
        clear hSw
        first | (go_simp; done) | (go_simp; with_reducible rfl) | (go_simp; rfl)
      refine wpAnyH_take (i := 11) (v := .pointer (some ⟨g1, 5, none⟩)) rfl (by kernel_rfl) (by kernel_rfl) (by kernel_rfl) (fun _ _ _ h => h) (Or.inl ⟨by kernel_rfl, ?_⟩) (by assumption) ?_
      · intro W_ hSw
        clear hSw
        first | (go_simp; done) | (go_simp; with_reducible rfl) | (go_simp; rfl)
      refine wpAnyH_take (i := 12) (v := .pointer (some ⟨g1, 7, none⟩)) rfl (by kernel_rfl) (by kernel_rfl) (by kernel_rfl) (fun _ _ _ h => h) (Or.inl ⟨by kernel_rfl, ?_⟩) (by assumption) ?_
      · intro W_ hSw
        clear hSw
        first | (go_simp; done) | (go_simp; with_reducible rfl) | (go_simp; rfl)
      refine wpAnyH_take (i := 13) (v := .int .i64 x.f5.f2) rfl (by kernel_rfl) (by kernel_rfl) (by kernel_rfl) (fun _ _ _ h => h) (Or.inl ⟨by kernel_rfl, ?_⟩) (by assumption) ?_
      · intro W_ hSw
        obtain ⟨q0, q1, q2, q3, q4, q5, q6, q7, q8⟩ := EB.cells (e := ⟨7, x.f1, x.f2, x.f3, x.f4, x.f5.f0, x.f5.f1, x.f5.f2, A, x.f6.length, c⟩) hSw
        dsimp only at q0 q1 q2 q3 q4 q5 q6 q7 q8
        clear hSw
        first | (go_simp; done) | (go_simp; with_reducible rfl) | (go_simp; rfl)
      try simp only [Act.put, List.getElem_toArray, List.getElem_cons_succ, List.getElem_cons_zero, List.setIfInBounds_toArray, List.set_cons_zero, List.set_cons_succ]
      clear hHeld
      refine next_le (i := 3) (rs := []) (by kernel_rfl) ?_
      refine cons_callG 3 (N := 74) (xs := #[.tmp 73]) (ts := #[3]) (by kernel_rfl) Try.func16 (by kernel_rfl) rfl #[.int .i64 x.f4] (by kernel_rfl) ?_ AllReadyH.nil
      with_reducible refine Calls.mono (text_c x.f4 HI.out.t _) ?_
      rintro _ wt0 ⟨rfl, hb⟩
      have Dwt0 := Aside0.mk (DD.out.below hb)
      have Owt0 := Aside0.mk (OD.out.below hb)
      have Bwt0 := Aside0.mk (below_all_ BD2.out hb)
      clear hb
      refine ⟨_, rfl, Dwt0.out, ?_⟩
      try simp only [Act.put, List.getElem_toArray, List.getElem_cons_succ, List.getElem_cons_zero, List.setIfInBounds_toArray, List.set_cons_zero, List.set_cons_succ]
      refine next_le (i := 10) (rs := []) (by kernel_rfl) ?_
      refine cons_callG 10 (N := 81) (xs := #[.tmp 80]) (ts := #[3]) (by kernel_rfl) Try.func16 (by kernel_rfl) rfl #[.int .i64 x.f5.f1] (by kernel_rfl) ?_ AllReadyH.nil
      with_reducible refine Calls.mono (text_c x.f5.f1 HI.out.k _) ?_
      rintro _ wt1 ⟨rfl, hb⟩
      have Dwt1 := Aside0.mk (Dwt0.out.below hb)
      have Owt1 := Aside0.mk (Owt0.out.below hb)
      have Bwt1 := Aside0.mk (below_all_ Bwt0.out hb)
      clear hb
      refine ⟨_, rfl, Dwt1.out, ?_⟩
      try simp only [Act.put, List.getElem_toArray, List.getElem_cons_succ, List.getElem_cons_zero, List.setIfInBounds_toArray, List.set_cons_zero, List.set_cons_succ]
      refine next_le (i := 14) (rs := []) (by kernel_rfl) ?_
      refine cons_callG 14 (N := 85) (xs := #[.tmp 84]) (ts := #[3]) (by kernel_rfl) Try.func16 (by kernel_rfl) rfl #[.int .i64 x.f5.f2] (by kernel_rfl) ?_ AllReadyH.nil
      with_reducible refine Calls.mono (text_c x.f5.f2 HI.out.z _) ?_
      rintro _ wt2 ⟨rfl, hb⟩
      have Dwt2 := Aside0.mk (Dwt1.out.below hb)
      have Owt2 := Aside0.mk (Owt1.out.below hb)
      have Bwt2 := Aside0.mk (below_all_ Bwt1.out hb)
      clear hb
      refine ⟨_, rfl, Dwt2.out, ?_⟩
      try simp only [Act.put, List.getElem_toArray, List.getElem_cons_succ, List.getElem_cons_zero, List.setIfInBounds_toArray, List.set_cons_zero, List.set_cons_succ]
      have DU := Aside0.mk (Dwt2.out.below ((Below.refl wt2.heap.size wt2).alloc (Nat.le_refl _) (.cells #[.string (tx x.f4), .string x.f5.f0, .string (tx x.f5.f1), .string (tx x.f5.f2)] 9 (0, 0))))
      have OU := Aside0.mk (Owt2.out.below ((Below.refl wt2.heap.size wt2).alloc (Nat.le_refl _) (.cells #[.string (tx x.f4), .string x.f5.f0, .string (tx x.f5.f1), .string (tx x.f5.f2)] 9 (0, 0))))
      have BU := Aside0.mk (below_all_ Bwt2.out ((Below.refl wt2.heap.size wt2).alloc (Nat.le_refl _) (.cells #[.string (tx x.f4), .string x.f5.f0, .string (tx x.f5.f1), .string (tx x.f5.f2)] 9 (0, 0))))
      have RU := Aside0.mk (show Kd.C Kd.string (wt2.alloc (.cells #[.string (tx x.f4), .string x.f5.f0, .string (tx x.f5.f1), .string (tx x.f5.f2)] 9 (0, 0))) (some ⟨wt2.heap.size, 0, none⟩) 4 [tx x.f4, x.f5.f0, tx x.f5.f1, tx x.f5.f2] from reads_new [tx x.f4, x.f5.f0, tx x.f5.f1, tx x.f5.f2] (W := wt2) rfl (by simp))
      refine next_le (i := 15) (rs := []) (by kernel_rfl) ?_
      refine cons_valG 15 (N := 86) (op := .buildSlice 45 4 #[(0, .tmp 74), (1, .tmp 77), (2, .tmp 81), (3, .tmp 85)]) (.slice (some ⟨wt2.heap.size, 0, none⟩) 4 4) (wt2.alloc (.cells #[.string (tx x.f4), .string x.f5.f0, .string (tx x.f5.f1), .string (tx x.f5.f2)] 9 (0, 0))) (by kernel_rfl) (fun o ho => run_t4 _ o 74 77 81 85 (tx x.f4) x.f5.f0 (tx x.f5.f1) (tx x.f5.f2) ho (by kernel_rfl) (by kernel_rfl) (by kernel_rfl) (by kernel_rfl)) ⟨DU.out, ?_⟩ AllReadyH.nil
      try simp only [Act.put, List.getElem_toArray, List.getElem_cons_succ, List.getElem_cons_zero, List.setIfInBounds_toArray, List.set_cons_zero, List.set_cons_succ]
      refine next_le (i := 16) (rs := []) (by kernel_rfl) ?_
      refine cons_appT (W := (wt2.alloc (.cells #[.string (tx x.f4), .string x.f5.f0, .string (tx x.f5.f1), .string (tx x.f5.f2)] 9 (0, 0)))) (N := 87) (w0 := w) w.heap.size 16 71 86 (by kernel_rfl) (.slice (some ⟨gv, 0, none⟩) 1 1) [nm 7] [tx x.f4, x.f5.f0, tx x.f5.f1, tx x.f5.f2] (some ⟨wt2.heap.size, 0, none⟩) 4 4 (by kernel_rfl) (by kernel_rfl) OU.out RU.out BU.out BU.out.size (by decide) (fun v9 w9_ hO_ hB_ hG_ => ?_) AllReadyH.nil
      have E9 := Aside0.mk (DU.out.grown OU.out hG_)
      obtain ⟨A9, c9, hv9, hc9, hC9⟩ := hO_.reads
      subst hv9
      have HC9 := Aside0.mk hc9
      have HR9 := Aside0.mk hC9
      have B9 := Aside0.mk hB_
      clear hO_ hB_ hG_ hc9 hC9
      refine ⟨E9.out, ?_⟩
      try simp only [Act.put, List.getElem_toArray, List.getElem_cons_succ, List.getElem_cons_zero, List.setIfInBounds_toArray, List.set_cons_zero, List.set_cons_succ]
      have hHeld := E9.out
      refine wpAnyH_take (i := 17) (v := .slice A9 ([nm 7] ++ [tx x.f4, x.f5.f0, tx x.f5.f1, tx x.f5.f2]).length c9) rfl (by kernel_rfl) (by kernel_rfl) (by kernel_rfl) (fun _ _ _ h => h) (Or.inl ⟨by kernel_rfl, ?_⟩) (by assumption) ?_
      · intro W_ hSw
        skip
        first | (go_simp; done) | (go_simp; with_reducible rfl) | (go_simp; rfl)
      try simp only [Act.put, List.getElem_toArray, List.getElem_cons_succ, List.getElem_cons_zero, List.setIfInBounds_toArray, List.set_cons_zero, List.set_cons_succ]
      clear hHeld
      refine wpAnyH_done (by kernel_rfl) ?_ _
      have c3_ := join_c (nm 7 :: argsP 7 x) (by have := args_len 7 x HS.out; rw [List.length_cons]; omega) (all_mem 7 x (by decide) HI.out HS.out) A9 c9 5 rfl _ HC9.out HR9.out
      go_wp2_with fail
      go_at_call 18
      with_reducible refine Calls.mono c3_ ?_
      rintro _ wz ⟨rfl, hb⟩
      have BZ := Aside0.mk (below_all_ B9.out hb)
      clear hb c3_
      go_wp2_with fail
      go_ret2
      rw [HRR.out]
      exact ⟨rfl, BZ.out⟩
    · skip
      obtain ⟨n, hn⟩ : ∃ n, n = x.f6.length := ⟨_, rfl⟩
      have HN := Aside0.mk hn
      clear hn
      have EC8 := Aside0.mk (show EB wl g1 ⟨8, x.f1, x.f2, x.f3, x.f4, x.f5.f0, x.f5.f1, x.f5.f2, A, n, c⟩ from by rw [HN.out]; exact DL0.out)
      rw [← HN.out] at q8
      go_wp2_with fail
      go_loopw [4, 93] (fun v4 v93 wr => RelT8 w g1 x A n c v4 v93 wr) (fun _ v93 _ => n - (intOf v93).toNat)
      case atStart => exact ⟨0, some ⟨gv, 0, none⟩, 1, 1, rfl, Nat.zero_le _, rfl, rfl, OL0.out, EC8.out, BL0.out⟩
      case round =>
        clear EC8 OL0 DL0 BL0 q0 q1 q2 q3 q4 q5 q6 q7 q8
        obtain ⟨i, A4, m4, c4, rfl, hi, hm4, rfl, ho_, he_, hb_⟩ := hrel
        have O4 := Aside0.mk ho_
        have E4 := Aside0.mk he_
        have B4 := Aside0.mk hb_
        have HM4 := Aside0.mk hm4
        have HI4 := Aside0.mk hi
        clear ho_ he_ hb_ hm4 hi
        by_cases hlt : i < n
        · have HLT := Aside0.mk hlt
          have e1 : ((i : Int) < (n : Int)) := by omega
          have e2 : (0 : Int) ≤ (i : Int) := Int.natCast_nonneg _
          obtain ⟨ad, hA, x0', x1', x2'⟩ := at_T43 HCR.out (i : Int) e2 (by have := HN.out; have := HLT.out; omega)
          rw [rd43 x.f6 i (by have := HN.out; have := HLT.out; omega)] at x0' x1' x2'
          rw [Int.toNat_natCast] at x0' x1' x2'
          have HY := Aside0.mk (show x.f6[i]'(by have := HN.out; have := HLT.out; omega) ∈ x.f6 from List.getElem_mem _)
          have HT := Aside0.mk (show triP (x.f6.take (i + 1)) = triP (x.f6.take i) ++ [tx (x.f6[i]'(by have := HN.out; have := HLT.out; omega)).f0, (x.f6[i]'(by have := HN.out; have := HLT.out; omega)).f1.f0, tx (x.f6[i]'(by have := HN.out; have := HLT.out; omega)).f1.f1] from tri_snoc _ _ _)
          obtain ⟨y, hy⟩ : ∃ y, y = x.f6[i]'(by have := HN.out; have := HLT.out; omega) := ⟨_, rfl⟩
          rw [← hy] at x0' x1' x2' HY HT
          clear hy hlt
          replace x0' := (B4.out.cell (World.block_lt_of_cell? w _ x0')).trans x0'
          replace x1' := (B4.out.cell (World.block_lt_of_cell? w _ x1')).trans x1'
          replace x2' := (B4.out.cell (World.block_lt_of_cell? w _ x2')).trans x2'
          cases hA
          have e3 := eq_true e1
          have e4 := eq_true e2
          have HEN := Aside0.mk (show IntKind.i64.wrap ((i : Int) + 1) = (i : Int) + 1 from by have := HLT.out; have := HN.out; have := HS.out.l; rw [IntKind.wrap_i64]; omega)
          go_wp2_with (first | ((with_reducible refine gate_dst (N := 6) rfl ?_); refine box_event ?hg (N := 6) ?hd (cs := #[.int .i64 0, .string (⟨#[]⟩ : ByteArray), .int .i64 0]) (t := 43) ?hr ?_; (case hd => rfl); (case hg => rfl); (case hr => first | (go_simp; done) | (go_simp; rfl)); intro g6 hg_ w6 hbox hb; have G6 := Aside0.mk hg_; have E6 := Aside0.mk hbox; have B6 := Aside0.mk hb; have u0 := (blk_cell hbox 0).trans rfl; have u1 := (blk_cell hbox 1).trans rfl; have u2 := (blk_cell hbox 2).trans rfl; have f0 := blk_frozen hbox 0; have f1 := blk_frozen hbox 1; have f2 := blk_frozen hbox 2; clear hbox hb hg_) | ((with_reducible refine gate_store (t := 43) (p := 6) rfl ?_); refine ev_store (w1 := (((w6.setCell ⟨g6, 0, none⟩ (.int .i64 y.f0)).setCell ⟨g6, 1, none⟩ (.string y.f1.f0)).setCell ⟨g6, 2, none⟩ (.int .i64 y.f1.f1))) ?hg ?hn ?hr ?_; (case hg => rfl); (case hn => rfl); (case hr => first | (go_simp; done) | (go_simp; rfl)); intro w7 hW_; have HW7 := Aside0.mk hW_; clear hW_; clear u0 u1 u2 f0 f1 f2 x0' x1' x2'; have L6 := Aside0.mk (show LB w7 g6 y from by rw [HW7.out]; exact lb_put E6.out y); have N16 := Aside0.mk (show g1 ≠ g6 from by have := E4.out.lt; have := G6.out; omega); have HG6 := Aside0.mk (show w.heap.size ≤ g6 from by have := B4.out.size; have := G6.out; omega); have E7 := Aside0.mk (show EB w7 g1 _ from by rw [HW7.out]; exact (((E4.out.below B6.out).other N16.out _).other N16.out _).other N16.out _); have B7 := Aside0.mk (show Below w.heap.size w w7 from by rw [HW7.out]; exact ev_below_set (ev_below_set (ev_below_set (below_all_ B4.out B6.out) HG6.out) HG6.out) HG6.out); have O7 := Aside0.mk (show OwnT w7 w.heap.size _ _ from by rw [HW7.out]; exact own_lb (O4.out.below B6.out) E6.out y); clear HW7 E6 B6 G6))
          refine region_drew (fun W_ => LB W_ g6 y) (by kernel_rfl) (fun d_ hd_ he_ => ?_)
          have LD := Aside0.mk (L6.out.below hd_)
          have ED := Aside0.mk (E7.out.below hd_)
          have OD := Aside0.mk (O7.out.below hd_)
          have BD8 := Aside0.mk (below_all_ B7.out hd_)
          clear hd_ he_
          refine ⟨LD.out, fun hHeld => ?_⟩
          refine wpAnyH_take (i := 0) (v := .slice A4 m4 c4) rfl (by kernel_rfl) (by kernel_rfl) (by kernel_rfl) (fun _ _ _ h => h) (Or.inl ⟨by kernel_rfl, ?_⟩) (by assumption) ?_
          · intro W_ hSw
            obtain ⟨q0, q1, q2⟩ := LB.cells hSw
            clear hSw
            first | (go_simp; done) | (go_simp; with_reducible rfl) | (go_simp; rfl)
          refine wpAnyH_take (i := 1) (v := .pointer (some ⟨g6, 0, none⟩)) rfl (by kernel_rfl) (by kernel_rfl) (by kernel_rfl) (fun _ _ _ h => h) (Or.inl ⟨by kernel_rfl, ?_⟩) (by assumption) ?_
          · intro W_ hSw
            obtain ⟨q0, q1, q2⟩ := LB.cells hSw
            clear hSw
            first | (go_simp; done) | (go_simp; with_reducible rfl) | (go_simp; rfl)
          refine wpAnyH_take (i := 2) (v := .int .i64 y.f0) rfl (by kernel_rfl) (by kernel_rfl) (by kernel_rfl) (fun _ _ _ h => h) (Or.inl ⟨by kernel_rfl, ?_⟩) (by assumption) ?_
          · intro W_ hSw
            obtain ⟨q0, q1, q2⟩ := LB.cells hSw
            clear hSw
            first | (go_simp; done) | (go_simp; with_reducible rfl) | (go_simp; rfl)
          refine wpAnyH_take (i := 4) (v := .pointer (some ⟨g6, 1, none⟩)) rfl (by kernel_rfl) (by kernel_rfl) (by kernel_rfl) (fun _ _ _ h => h) (Or.inl ⟨by kernel_rfl, ?_⟩) (by assumption) ?_
          · intro W_ hSw
            obtain ⟨q0, q1, q2⟩ := LB.cells hSw
            clear hSw
            first | (go_simp; done) | (go_simp; with_reducible rfl) | (go_simp; rfl)
          refine wpAnyH_take (i := 5) (v := .pointer (some ⟨g6, 1, none⟩)) rfl (by kernel_rfl) (by kernel_rfl) (by kernel_rfl) (fun _ _ _ h => h) (Or.inl ⟨by kernel_rfl, ?_⟩) (by assumption) ?_
          · intro W_ hSw
            obtain ⟨q0, q1, q2⟩ := LB.cells hSw
            clear hSw
            first | (go_simp; done) | (go_simp; with_reducible rfl) | (go_simp; rfl)
          refine wpAnyH_take (i := 6) (v := .string y.f1.f0) rfl (by kernel_rfl) (by kernel_rfl) (by kernel_rfl) (fun _ _ _ h => h) (Or.inl ⟨by kernel_rfl, ?_⟩) (by assumption) ?_
          · intro W_ hSw
            obtain ⟨q0, q1, q2⟩ := LB.cells hSw
            clear hSw
            first | (go_simp; done) | (go_simp; with_reducible rfl) | (go_simp; rfl)
          refine wpAnyH_take (i := 7) (v := .pointer (some ⟨g6, 1, none⟩)) rfl (by kernel_rfl) (by kernel_rfl) (by kernel_rfl) (fun _ _ _ h => h) (Or.inl ⟨by kernel_rfl, ?_⟩) (by assumption) ?_
          · intro W_ hSw
            obtain ⟨q0, q1, q2⟩ := LB.cells hSw
            clear hSw
            first | (go_simp; done) | (go_simp; with_reducible rfl) | (go_simp; rfl)
          refine wpAnyH_take (i := 8) (v := .pointer (some ⟨g6, 2, none⟩)) rfl (by kernel_rfl) (by kernel_rfl) (by kernel_rfl) (fun _ _ _ h => h) (Or.inl ⟨by kernel_rfl, ?_⟩) (by assumption) ?_
          · intro W_ hSw
            obtain ⟨q0, q1, q2⟩ := LB.cells hSw
            clear hSw
            first | (go_simp; done) | (go_simp; with_reducible rfl) | (go_simp; rfl)
          refine wpAnyH_take (i := 9) (v := .int .i64 y.f1.f1) rfl (by kernel_rfl) (by kernel_rfl) (by kernel_rfl) (fun _ _ _ h => h) (Or.inl ⟨by kernel_rfl, ?_⟩) (by assumption) ?_
          · intro W_ hSw
            obtain ⟨q0, q1, q2⟩ := LB.cells hSw
            clear hSw
            first | (go_simp; done) | (go_simp; with_reducible rfl) | (go_simp; rfl)
          try simp only [Act.put, List.getElem_toArray, List.getElem_cons_succ, List.getElem_cons_zero, List.setIfInBounds_toArray, List.set_cons_zero, List.set_cons_succ]
          clear hHeld
          refine next_le (i := 3) (rs := []) (by kernel_rfl) ?_
          refine cons_callG 3 (N := 100) (xs := #[.tmp 99]) (ts := #[3]) (by kernel_rfl) Try.func16 (by kernel_rfl) rfl #[.int .i64 y.f0] (by kernel_rfl) ?_ AllReadyH.nil
          with_reducible refine Calls.mono (text_c y.f0 (HI.out.l y HY.out).1 _) ?_
          rintro _ wt0 ⟨rfl, hb⟩
          have Lwt0 := Aside0.mk (LD.out.below hb)
          have Ewt0 := Aside0.mk (ED.out.below hb)
          have Owt0 := Aside0.mk (OD.out.below hb)
          have Bwt0 := Aside0.mk (below_all_ BD8.out hb)
          clear hb
          refine ⟨_, rfl, Lwt0.out, ?_⟩
          try simp only [Act.put, List.getElem_toArray, List.getElem_cons_succ, List.getElem_cons_zero, List.setIfInBounds_toArray, List.set_cons_zero, List.set_cons_succ]
          refine next_le (i := 10) (rs := []) (by kernel_rfl) ?_
          refine cons_callG 10 (N := 107) (xs := #[.tmp 106]) (ts := #[3]) (by kernel_rfl) Try.func16 (by kernel_rfl) rfl #[.int .i64 y.f1.f1] (by kernel_rfl) ?_ AllReadyH.nil
          with_reducible refine Calls.mono (text_c y.f1.f1 (HI.out.l y HY.out).2 _) ?_
          rintro _ wt1 ⟨rfl, hb⟩
          have Lwt1 := Aside0.mk (Lwt0.out.below hb)
          have Ewt1 := Aside0.mk (Ewt0.out.below hb)
          have Owt1 := Aside0.mk (Owt0.out.below hb)
          have Bwt1 := Aside0.mk (below_all_ Bwt0.out hb)
          clear hb
          refine ⟨_, rfl, Lwt1.out, ?_⟩
          try simp only [Act.put, List.getElem_toArray, List.getElem_cons_succ, List.getElem_cons_zero, List.setIfInBounds_toArray, List.set_cons_zero, List.set_cons_succ]
          have HML := Aside0.mk (show m4 = 1 + 3 * i from by rw [HM4.out, List.length_cons, triP_len, List.length_take]; have := HLT.out; have := HN.out; omega)
          have EU := Aside0.mk (Ewt1.out.below ((Below.refl wt1.heap.size wt1).alloc (Nat.le_refl _) (.cells #[.string (tx y.f0), .string y.f1.f0, .string (tx y.f1.f1)] 9 (0, 0))))
          have DU := Aside0.mk (Lwt1.out.below ((Below.refl wt1.heap.size wt1).alloc (Nat.le_refl _) (.cells #[.string (tx y.f0), .string y.f1.f0, .string (tx y.f1.f1)] 9 (0, 0))))
          have OU := Aside0.mk (Owt1.out.below ((Below.refl wt1.heap.size wt1).alloc (Nat.le_refl _) (.cells #[.string (tx y.f0), .string y.f1.f0, .string (tx y.f1.f1)] 9 (0, 0))))
          have BU := Aside0.mk (below_all_ Bwt1.out ((Below.refl wt1.heap.size wt1).alloc (Nat.le_refl _) (.cells #[.string (tx y.f0), .string y.f1.f0, .string (tx y.f1.f1)] 9 (0, 0))))
          have RU := Aside0.mk (show Kd.C Kd.string (wt1.alloc (.cells #[.string (tx y.f0), .string y.f1.f0, .string (tx y.f1.f1)] 9 (0, 0))) (some ⟨wt1.heap.size, 0, none⟩) 3 [tx y.f0, y.f1.f0, tx y.f1.f1] from reads_new [tx y.f0, y.f1.f0, tx y.f1.f1] (W := wt1) rfl (by simp))
          refine next_le (i := 11) (rs := []) (by kernel_rfl) ?_
          refine cons_valG 11 (N := 108) (op := .buildSlice 45 3 #[(0, .tmp 100), (1, .tmp 103), (2, .tmp 107)]) (.slice (some ⟨wt1.heap.size, 0, none⟩) 3 3) (wt1.alloc (.cells #[.string (tx y.f0), .string y.f1.f0, .string (tx y.f1.f1)] 9 (0, 0))) (by kernel_rfl) (fun o ho => run_t3 _ o 100 103 107 (tx y.f0) y.f1.f0 (tx y.f1.f1) ho (by kernel_rfl) (by kernel_rfl) (by kernel_rfl)) ⟨DU.out, ?_⟩ AllReadyH.nil
          try simp only [Act.put, List.getElem_toArray, List.getElem_cons_succ, List.getElem_cons_zero, List.setIfInBounds_toArray, List.set_cons_zero, List.set_cons_succ]
          refine next_le (i := 12) (rs := []) (by kernel_rfl) ?_
          refine cons_appT (W := (wt1.alloc (.cells #[.string (tx y.f0), .string y.f1.f0, .string (tx y.f1.f1)] 9 (0, 0)))) (N := 109) (w0 := w) w.heap.size 12 97 108 (by kernel_rfl) (.slice A4 m4 c4) (nm 8 :: triP (x.f6.take i)) [tx y.f0, y.f1.f0, tx y.f1.f1] (some ⟨wt1.heap.size, 0, none⟩) 3 3 (by kernel_rfl) (by kernel_rfl) OU.out RU.out BU.out BU.out.size (by rw [← HM4.out, HML.out]; have := HLT.out; have := HN.out; have := HS.out.l; omega) (fun v9 w9_ hO_ hB_ hG_ => ?_) AllReadyH.nil
          have L9 := Aside0.mk (DU.out.grown OU.out hG_)
          have E9 := Aside0.mk (EU.out.grown OU.out hG_)
          obtain ⟨A9, c9, hv9, hc9, hC9⟩ := hO_.reads
          subst hv9
          obtain ⟨m9, hm9⟩ : ∃ m9, m9 = (nm 8 :: triP (x.f6.take i) ++ [tx y.f0, y.f1.f0, tx y.f1.f1]).length := ⟨_, rfl⟩
          rw [← hm9] at hO_ hc9 hC9
          rw [← hm9]
          have HM9 := Aside0.mk hm9
          have O9 := Aside0.mk (show OwnT w9_ w.heap.size (.slice A9 m9 c9) (nm 8 :: triP (x.f6.take (i + 1))) from by rw [HT.out]; exact hO_)
          have B9 := Aside0.mk hB_
          clear hO_ hB_ hG_ hc9 hC9 hm9
          refine ⟨L9.out, ?_⟩
          try simp only [Act.put, List.getElem_toArray, List.getElem_cons_succ, List.getElem_cons_zero, List.setIfInBounds_toArray, List.set_cons_zero, List.set_cons_succ]
          have hHeld := L9.out
          refine wpAnyH_take (i := 13) (v := .slice A9 m9 c9) rfl (by kernel_rfl) (by kernel_rfl) (by kernel_rfl) (fun _ _ _ h => h) (Or.inl ⟨by kernel_rfl, ?_⟩) (by assumption) ?_
          · intro W_ hSw
            skip
            first | (go_simp; done) | (go_simp; with_reducible rfl) | (go_simp; rfl)
          try simp only [Act.put, List.getElem_toArray, List.getElem_cons_succ, List.getElem_cons_zero, List.setIfInBounds_toArray, List.set_cons_zero, List.set_cons_succ]
          clear hHeld
          refine wpAnyH_done (by kernel_rfl) ?_ _
          have hen := HEN.out
          go_wp2_with fail
          go_roundw
          case rel => exact ⟨i + 1, A9, m9, c9, by simp, by have := HLT.out; omega, by rw [HM9.out, HT.out]; rfl, rfl, O9.out, E9.out, B9.out⟩
          case measure => have := HLT.out; simp [intOf] <;> omega
        · have e1 : ¬ ((i : Int) < (n : Int)) := by omega
          have HT9 := Aside0.mk (show x.f6.take i = x.f6 from List.take_of_length_le (by have := HN.out; omega))
          rw [HT9.out] at O4
          have hm9 := HM4.out
          rw [HT9.out] at hm9
          obtain ⟨A9, c9, hv9, hc9, hC9⟩ := O4.out.reads
          injection hv9 with h1_ h2_ h3_
          rw [← h1_, ← hm9] at hC9
          rw [← h3_, ← hm9] at hc9
          have c3_ := join_c (nm 8 :: argsP 8 x) (by have := args_len 8 x HS.out; rw [List.length_cons]; omega) (all_mem 8 x (by decide) HI.out HS.out) A4 c4 m4 hm9 _ hc9 hC9
          clear h1_ h2_ h3_ hc9 hC9 hm9
          go_wp2_with fail
          go_at_call 18
          with_reducible refine Calls.mono c3_ ?_
          rintro _ wz ⟨rfl, hb⟩
          have BZ := Aside0.mk (below_all_ B4.out hb)
          clear hb c3_
          go_wp2_with fail
          go_ret2
          rw [HRR.out]
          exact ⟨rfl, BZ.out⟩
end
end Go.Proofs.Ytehnogggokfcaaa.Ev
