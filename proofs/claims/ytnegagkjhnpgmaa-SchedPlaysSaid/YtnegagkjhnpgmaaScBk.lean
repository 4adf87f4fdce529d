/- What Back walks over, told apart: events, rows, a line with another deque. -/
import Derived.Test.YtnegagkjhnpgmaaScStep
namespace Go.Proofs.Ytnegagkjhnpgmaa.Sc
open Go.RowKit Go.Proofs.YtnegagkjhnpgmaaW.PrintWords Go.Proofs.YtnegagkjhnpgmaaW.PrintMore Go.Proofs.YtnegagkjhnpgmaaW.PrintLast Go.Proofs.Ytnegagkjhnpgmaa.Dq
set_option linter.unusedVariables false
set_option linter.unusedSimpArgs false
attribute [local go_sem ↓] Go.wp_at_zero Go.wp_at_succ
/-- A handle's jobs, and the others. -/
def own (k : Int) (l : List Jb) : List Jb := l.filter fun x => decide (x.h = k)
def oth (k : Int) (l : List Jb) : List Jb := l.filter fun x => !decide (x.h = k)
theorem own_take (k : Int) (l : List Jb) (i : Nat) (h : i < l.length) : own k (l.take (i + 1)) = if (l[i]'h).h = k then own k (l.take i) ++ [l[i]'h] else own k (l.take i) := by
  unfold own
  rw [take_next l i h, List.filter_append]
  by_cases e : (l[i]'h).h = k
  · rw [if_pos e]
    simp [e]
  · rw [if_neg e]
    simp [e]
theorem oth_take (k : Int) (l : List Jb) (i : Nat) (h : i < l.length) : oth k (l.take (i + 1)) = if (l[i]'h).h = k then oth k (l.take i) else oth k (l.take i) ++ [l[i]'h] := by
  unfold oth
  rw [take_next l i h, List.filter_append]
  by_cases e : (l[i]'h).h = k
  · rw [if_pos e]
    simp [e]
  · rw [if_neg e]
    simp [e]
theorem own_le (k : Int) (l : List Jb) : (own k l).length ≤ l.length := List.length_filter_le _ _
theorem oth_le (k : Int) (l : List Jb) : (oth k l).length ≤ l.length := List.length_filter_le _ _
theorem own_oth (k : Int) (l : List Jb) : (own k l).length + (oth k l).length = l.length := by
  unfold own oth
  induction l with
  | nil => rfl
  | cons x l ih =>
    by_cases e : x.h = k
    · simp [e]; omega
    · simp [e]; omega
section
variable {ops : Array Oper} {rest : List Oper} {o : Oper} {a : Act} {Q : Exit → Act → World → Prop} {W : World}
theorem bs_event (hgd : o.guard = none) {N : Tmp} (hd : o.dst = some N) (s : Tmp) (x : Jb) (ho : o.op = .buildSlice 36 1 #[(0, .tmp s)])
    (hx : a.eval (.tmp s) = .agg #[.int .i64 x.h, .slice x.A x.n x.c, .int .i64 x.sz, .string x.ft])
    (h : ∀ b w1, b = W.heap.size → w1.heap[b]? = some (.cells #[.int .i64 x.h, .slice x.A x.n x.c, .int .i64 x.sz, .string x.ft] 29 (0, 0)) → Below W.heap.size W w1 → wpList Try.prog ops Q rest (a.put o.dst (.slice (some ⟨b, 0, none⟩) 1 1)) w1) :
    wpList Try.prog ops Q (o :: rest) a W := by
  have hu := Try.underlying29
  have hu2 := Try.underlying36
  refine Kd.event_run (v := .slice (some ⟨W.heap.size, 0, none⟩) 1 1) (w1 := W.alloc (.cells #[.int .i64 x.h, .slice x.A x.n x.c, .int .i64 x.sz, .string x.ft] 29 (0, 0))) hgd ?_ (h _ _ rfl (blk_new W _) (below_alloc (Below.refl _ _) _))
  clear h
  generalize a.eval = ev at hx ⊢
  obtain ⟨xh, xA, xn, xc, xs, xf⟩ := x
  unfold execOp
  simp only [ho]
  go_simp
  try (simp [hx]; done)
  try rfl
theorem app_event (hgd : o.guard = none) {N : Tmp} (hd : o.dst = some N) (s m : Tmp) (ho : o.op = .call { callee := .builtin .append, args := #[.tmp s, .tmp m], argTypes := #[36, 36] })
    (base b : Nat) (v : Value) (L : List Jb) (x : Jb) (hs0 : a.eval (.tmp s) = v) (hx : a.eval (.tmp m) = .slice (some ⟨b, 0, none⟩) 1 1) (hown : OwnJ W base v L) (hb : W.heap[b]? = some (.cells #[.int .i64 x.h, .slice x.A x.n x.c, .int .i64 x.sz, .string x.ft] 29 (0, 0)))
    (hL : L.length ≤ 2097152) (hbase : base ≤ W.heap.size)
    (h : ∀ gg cap w1, OwnJ w1 base (.slice (some ⟨gg, 0, none⟩) (L.length + 1) cap) (L ++ [x]) → W.grownBy w1 v.ownBlock → (v.ownBlock = some gg ∨ gg = W.heap.size) → wpList Try.prog ops Q rest (a.put o.dst (.slice (some ⟨gg, 0, none⟩) (L.length + 1) cap)) w1) :
    wpList Try.prog ops Q (o :: rest) a W := by
  obtain ⟨i0, hi0, hzz⟩ := Option.map_eq_some_iff.1 infoJ
  simp only [Prod.mk.injEq] at hzz
  refine wpList_append_lies W hgd (.tmp s) (.tmp m) 36 ho base 29 i0 _ 4 56 Try.underlying36 hi0 hzz.1 hzz.2.1 hzz.2.2 rfl (by omega) v L.length (flat L) hs0 hown ⟨b, 0, none⟩ 1 1 [.int .i64 x.h, .slice x.A x.n x.c, .int .i64 x.sz, .string x.ft] hx rfl (World.news_of_block hb) (by simp [Value.oneCell']) (by omega) (max_small _ hL) (lit_small _ hL) hbase _ rfl (fun gg cap w1 h2 h3 h4 h5 => h gg cap w1 ?_ h3 h4)
  unfold OwnJ
  rw [List.length_append, flat_append]
  exact h2
/-- A row appended to a row. -/
theorem app2_event (hgd : o.guard = none) {N : Tmp} (hd : o.dst = some N) (s m : Tmp) (ho : o.op = .call { callee := .builtin .append, args := #[.tmp s, .tmp m], argTypes := #[36, 36] })
    (base : Nat) (v : Value) (L : List Jb) (A : Option Addr) (c : Nat) (J : List Jb) (hs0 : a.eval (.tmp s) = v) (hx : a.eval (.tmp m) = .slice A J.length c) (hown : OwnJ W base v L) (hJ : Reads W A J) (h0 : 0 < J.length)
    (hL : L.length + J.length ≤ 2097152) (hbase : base ≤ W.heap.size)
    (h : ∀ A' cap w1, Reads w1 A' (L ++ J) → W.grownBy w1 v.ownBlock → wpList Try.prog ops Q rest (a.put o.dst (.slice A' (L.length + J.length) cap)) w1) :
    wpList Try.prog ops Q (o :: rest) a W := by
  obtain ⟨i0, hi0, hzz⟩ := Option.map_eq_some_iff.1 infoJ
  simp only [Prod.mk.injEq] at hzz
  obtain ⟨ad, rfl, hc⟩ := hJ h0
  refine wpList_append_lies W hgd (.tmp s) (.tmp m) 36 ho base 29 i0 _ 4 56 Try.underlying36 hi0 hzz.1 hzz.2.1 hzz.2.2 rfl (by omega) v L.length (flat L) hs0 hown ad J.length c (flat J) hx (flat_len J) hc (flat_one J) h0 (by simp only [maxLen]; omega) (by omega) hbase _ rfl (fun gg cap w1 h2 h3 h4 h5 => h _ cap w1 ?_ h3)
  have : OwnJ w1 base (.slice (some ⟨gg, 0, none⟩) (L.length + J.length) cap) (L ++ J) := by
    unfold OwnJ
    rw [List.length_append, flat_append]
    exact h2
  obtain ⟨A', c', e, hr⟩ := this.form
  injection e with e1 _ _
  rw [e1]
  exact hr
end
theorem DqJ.mono {w : World} {b b2 g : Nat} {A : Option Addr} {l : List Jb} (h : DqJ w b2 g A l) (hb : b ≤ b2) : DqJ w b g A l := by
  obtain ⟨R, f, h⟩ := h
  refine ⟨R, f, Nat.le_trans hb h.hg, h.blk, ?_, h.rep, h.cap⟩
  rcases h.room with e | ⟨r, e, hR, hr⟩
  · exact .inl e
  · exact .inr ⟨r, e, hR, Nat.le_trans hb hr⟩
theorem FrL.grown {w W W1 : World} {base : Nat} {F F' : Nat → Prop} {row : Option Nat} (h : FrL w W base F F') (hg : W.grownBy W1 row) (hr : ∀ j, row = some j → base ≤ j ∧ (F j ∨ w.heap.size ≤ j)) (hb : base ≤ w.heap.size) : FrL w W1 base F F' :=
  ⟨Nat.le_trans h.size hg.size, fun k hk hF => (hg.block k (Nat.lt_of_lt_of_le hk h.size) (fun e => by rcases (hr k e.symm).2 with h1 | h1; exact hF h1; omega)).trans (h.keep k hk hF),
    fun w0 e hb0 => pw_below_grown (h.below w0 e hb0) _ (by have := h.size; omega) hg (fun j e2 => by rw [e]; exact (hr j e2).1), h.new⟩
theorem FrL.more {w W W1 : World} {base : Nat} {F F' : Nat → Prop} (h : FrL w W base F F') (hg : Below W.heap.size W W1) (hb : base ≤ w.heap.size) : FrL w W1 base F F' :=
  ⟨Nat.le_trans h.size hg.size, fun k hk hF => (hg.block k (Nat.lt_of_lt_of_le hk h.size)).trans (h.keep k hk hF), fun w0 e hb0 => below_all hg (by have := h.size; omega) (h.below w0 e hb0), h.new⟩
theorem OwnJ.grown {w w1 : World} {base : Nat} {v : Value} {L : List Jb} {row : Option Nat} (h : OwnJ w base v L) (hg : w.grownBy w1 row) (hne : ∀ k, v.ownBlock = some k → row ≠ some k) : OwnJ w1 base v L :=
  h.kept fun k e => hg.block k (World.ownsRow.lt h k e).2 (fun e2 => hne k e e2.symm)
/-- A line whose deque is another. -/
theorem LnA.newq {w1 w2 wz : World} {base g d r d2 : Nat} {A A2 : Option Addr} {M : List (Int × Value)} {q q2 : List Jb} {S : Int → List Jb} (h : LnA w1 base g d r A M q S) (hb : Below w1.heap.size w1 w2) (hd : DqJ w2 w1.heap.size d2 A2 q2)
    (hwz : wz = w2.setCell ⟨g, 0, none⟩ (.pointer (some ⟨d2, 0, none⟩))) : LnA wz base g d2 r A2 M q2 S ∧ FrL w1 wz base (foot g d r A M) (foot g d2 r A2 M) := by
  have h2 := h.below hb
  have oth : ∀ k, k ≠ g → wz.heap[k]? = w2.heap[k]? := fun k hk => by rw [hwz]; exact heap_other hk _
  have hg2 := hd.dlt
  refine ⟨⟨h.hg, h.hr, ?_, (hd.mono h.base_le).kept (oth d2 (by have := h.glt; omega)) (fun k e => oth k (by have := (hd.room_lt e).1; have := h.glt; omega)), h2.map.kept (oth r (fun e => h.gr e.symm)), fun p hp => ?_, h.apart, h.rest⟩, ⟨?_, fun k hk hF => ?_, fun w0 e hb0 => ?_, fun k hk => ?_⟩⟩
  · rw [hwz]
    exact blk_put h2.blk 0 _ rfl
  · obtain ⟨ho, h3, h4⟩ := h2.rows p hp
    refine ⟨ho.kept fun k e => oth k ?_, h3, fun k e e2 => ?_⟩
    · obtain ⟨cs, hc⟩ := ho.kind e
      exact (h2.job hc).1
    · have := (World.ownsRow.lt (h.rows p hp).1 k e).2
      have := (hd.room_lt e2).1
      omega
  · rw [hwz, size_set]; exact hb.size
  · exact (oth k (fun e => hF (.inl e))).trans (hb.block k hk)
  · rw [hwz]
    exact below_set (below_all hb (by have := h.base_le; omega) hb0) (by rw [e]; exact h.hg)
  · rcases hk with e | e | e | e | e
    · exact .inl (.inl e)
    · exact .inr (by omega)
    · exact .inl (.inr (.inr (.inl e)))
    · exact .inr (hd.room_lt e).1
    · exact .inl (.inr (.inr (.inr (.inr e))))
end Go.Proofs.Ytnegagkjhnpgmaa.Sc
