/- What Drop calls: Clone, the handle's test, IndexFunc, DeleteFunc. -/
import Derived.Test.YtnegagkjhnpgmaaScSt
namespace Go.Proofs.Ytnegagkjhnpgmaa.Sc
open Go.RowKit Go.Proofs.YtnegagkjhnpgmaaW.PrintWords Go.Proofs.YtnegagkjhnpgmaaW.PrintMore Go.Proofs.YtnegagkjhnpgmaaW.PrintLast Go.Proofs.Ytnegagkjhnpgmaa.Dq
set_option linter.unusedVariables false
set_option linter.unusedSimpArgs false
attribute [local go_sem] max2_int min2_int max_two min_two
attribute [local go_sem ↓] Go.wp_at_zero Go.wp_at_succ
theorem own_zero (w : World) : OwnJ (w.alloc (.cells #[] 29 (0, 0))) w.heap.size (.slice (some ⟨w.heap.size, 0, none⟩) 0 0) [] :=
  ⟨rfl, .inr ⟨_, 0, #[], rfl, Nat.le_refl _, blk_new w _, Nat.le_refl _, Nat.zero_le _, rfl, rfl⟩⟩
section
variable {ops : Array Oper} {rest : List Oper} {o : Oper} {a : Act} {Q : Exit → Act → World → Prop} {W : World}
/-- A row appended to an empty one. -/
theorem app0_event (hgd : o.guard = none) {N : Tmp} (hd : o.dst = some N) (s m : Tmp) (ho : o.op = .call { callee := .builtin .append, args := #[.tmp s, .tmp m], argTypes := #[36, 36] })
    (base g0 : Nat) (A : Option Addr) (c n : Nat) (J : List Jb) (hn : n = J.length) (hs0 : a.eval (.tmp s) = .slice (some ⟨g0, 0, none⟩) 0 0) (hx : a.eval (.tmp m) = .slice A n c) (hown : OwnJ W base (.slice (some ⟨g0, 0, none⟩) 0 0) []) (hJ : Reads W A J) (h0 : 0 < n)
    (hL : n ≤ 2097152) (hbase : base ≤ W.heap.size)
    (h : ∀ gg cap w1, OwnJ w1 base (.slice (some ⟨gg, 0, none⟩) n cap) J → W.grownBy w1 (some g0) → wpList Try.prog ops Q rest (a.put o.dst (.slice (some ⟨gg, 0, none⟩) n cap)) w1) :
    wpList Try.prog ops Q (o :: rest) a W := by
  obtain ⟨i0, hi0, hzz⟩ := Option.map_eq_some_iff.1 infoJ
  simp only [Prod.mk.injEq] at hzz
  obtain ⟨ad, rfl, hc⟩ := hJ (by omega)
  have e0 : 0 + n = n := Nat.zero_add n
  refine wpList_append_lies W hgd (.tmp s) (.tmp m) 36 ho base 29 i0 _ 4 56 Try.underlying36 hi0 hzz.1 hzz.2.1 hzz.2.2 rfl (by omega) (.slice (some ⟨g0, 0, none⟩) 0 0) 0 [] hs0 hown ad n c (flat J) hx (by rw [hn]; exact flat_len J) hc (flat_one J) h0 (by simp only [maxLen]; omega) (by omega) hbase _ rfl (fun gg cap w1 h2 h3 h4 h5 => ?_)
  rw [e0] at h2 ⊢
  rw [List.nil_append] at h2
  exact h gg cap w1 (by unfold OwnJ; rw [← hn]; exact h2) h3
theorem clr_event (hgd : o.guard = none) (hN : o.dst = none) (s : Tmp) (ho : o.op = .call { callee := .builtin .clear, args := #[.tmp s], argTypes := #[36] })
    (g off m c : Nat) (cur : Array Value) (hs : a.eval (.tmp s) = .slice (some ⟨g, off, none⟩) (m + 1) c) (hb : W.heap[g]? = some (.cells cur 29 (0, 0))) (hsz : off + (m + 1) * 4 ≤ cur.size)
    (h : ∀ w1 cur', w1.heap.size = W.heap.size → (∀ q, q ≠ g → w1.heap[q]? = W.heap[q]?) → w1.heap[g]? = some (.cells cur' 29 (0, 0)) → (∀ j, j < off → cur'[j]? = cur[j]?) → (∀ w0 : World, w0.heap.size ≤ g → Below w0.heap.size w0 W → Below w0.heap.size w0 w1) → wpList Try.prog ops Q rest a w1) : wpList Try.prog ops Q (o :: rest) a W := by
  refine wpList_plain hgd fun K hK => ?_
  obtain ⟨i0, hi0, hzz⟩ := Option.map_eq_some_iff.1 infoJ
  simp only [Prod.mk.injEq] at hzz
  have hu := Try.underlying36
  obtain ⟨vs, hvs⟩ : ∃ vs, vs = (Builtin.zeroCells (Value.agg #[.int .i64 0, .slice none 0 0, .int .i64 0, .string ⟨#[]⟩]).cells (m + 1)).toList := ⟨_, rfl⟩
  have hlen : vs.length = (m + 1) * 4 := by rw [hvs, Array.length_toList, size_zeroCells]; rfl
  have hone : ∀ v ∈ vs, v.oneCell' = true := by
    rw [hvs]
    intro v hv
    unfold Builtin.zeroCells at hv
    rw [Array.toList_map] at hv
    obtain ⟨i, _, rfl⟩ := List.mem_map.1 hv
    have hlt : i % (Value.agg #[.int .i64 0, .slice none 0 0, .int .i64 0, .string ⟨#[]⟩]).cells.size < 4 := Nat.mod_lt _ (by decide)
    have hc : i % (Value.agg #[.int .i64 0, .slice none 0 0, .int .i64 0, .string ⟨#[]⟩]).cells.size = 0 ∨ i % (Value.agg #[.int .i64 0, .slice none 0 0, .int .i64 0, .string ⟨#[]⟩]).cells.size = 1 ∨ i % (Value.agg #[.int .i64 0, .slice none 0 0, .int .i64 0, .string ⟨#[]⟩]).cells.size = 2 ∨ i % (Value.agg #[.int .i64 0, .slice none 0 0, .int .i64 0, .string ⟨#[]⟩]).cells.size = 3 := by omega
    rcases hc with e | e | e | e <;> rw [e] <;> rfl
  have hrun := run_storeCells_at (P := Try.prog) g off 29 vs 0 cur W hb (by omega) hone
  have hh := h (W.setRow g (cur.toList.take (off + 0) ++ vs ++ cur.toList.drop (off + 0 + vs.length)).toArray) _ (by simp) (fun q hq => setRow_other W g q _ hq) (setRow_heap W g cur _ _ _ hb) (fun j hj => by
    rw [List.getElem?_toArray, List.append_assoc, List.getElem?_append_left (by rw [List.length_take, Array.length_toList]; omega), List.getElem?_take_of_lt (by omega), Array.getElem?_toList]) (fun w0 h0 hb0 => below_setRow hb0 h0 _)
  have hcl : ∀ ty : TypeId, (Builtin.clear_ #[36] ty #[.slice (some ⟨g, off, none⟩) (m + 1) c]).run Try.prog W = .ok (.tuple #[]) (W.setRow g (cur.toList.take (off + 0) ++ vs ++ cur.toList.drop (off + 0 + vs.length)).toArray) := fun ty => by
    have hz : (zeroValue 29).run Try.prog W = .ok (.agg #[.int .i64 0, .slice none 0 0, .int .i64 0, .string ⟨#[]⟩]) W := by simp [zeroValue, typeInfo, hi0, hzz.1]
    unfold Builtin.clear_
    simp only [List.getElem?_toArray, List.getElem?_cons_zero, Sem.run_bind, run_underlying hu, Result.andThen_ok, hz, ← hvs, hrun, Sem.run_pure]
  unfold Oper.wp execOp
  simp only [ho, resolve, invoke, builtin, List.map_toArray, List.map_cons, List.map_nil, hs, Sem.run_bind, Sem.run_pure, Result.andThen_ok, hcl]
  show K (a.put o.dst _) _
  rw [hN]
  exact hK _ _ hh
end
/-- A row of jobs at a block, whatever stands behind it. -/
def RBk (W : World) (g : Nat) (C : List Jb) : Prop := ∃ cur : Array Value, W.heap[g]? = some (.cells cur 29 (0, 0)) ∧ (flat C).length ≤ cur.size ∧ ∀ (j : Nat) (v : Value), (flat C)[j]? = some v → cur[j]? = some v
theorem RBk.of_own {W : World} {base g n c : Nat} {C : List Jb} (h : OwnJ W base (.slice (some ⟨g, 0, none⟩) n c) C) : RBk W g C ∧ base ≤ g := by
  rcases h.2 with ⟨e, _⟩ | ⟨g', cap, cur, e, hb, hg, h1, h2, h3, h4⟩
  · cases e
  · injection e with e _ _
    injection e with e
    injection e with e
    subst e
    refine ⟨⟨cur, hg, by rw [flat_len]; omega, fun j v hj => ?_⟩, hb⟩
    rw [← h4] at hj
    rw [← Array.getElem?_toList]
    obtain ⟨h5, h6⟩ := List.getElem?_eq_some_iff.1 hj
    rw [List.getElem_take] at h6
    rw [List.length_take] at h5
    rw [List.getElem?_eq_getElem (by omega), h6]
theorem RBk.reads {W : World} {g : Nat} {C : List Jb} (h : RBk W g C) : Reads W (some ⟨g, 0, none⟩) C := fun _ => by
  obtain ⟨cur, hg, _, hc⟩ := h
  refine ⟨_, rfl, fun j v hj => World.news_of_block hg j v ?_⟩
  rw [Array.getElem?_toList]
  exact hc j v hj
theorem RBk.take {W : World} {g : Nat} {C : List Jb} (h : RBk W g C) (i : Nat) : RBk W g (C.take i) := by
  obtain ⟨cur, hg, hl, hc⟩ := h
  refine ⟨cur, hg, ?_, fun j v hj => hc j v ?_⟩
  · rw [flat_len, List.length_take]; rw [flat_len] at hl; omega
  · rw [← flat_take] at hj
    obtain ⟨h5, h6⟩ := List.getElem?_eq_some_iff.1 hj
    rw [List.getElem_take] at h6
    rw [List.length_take] at h5
    rw [List.getElem?_eq_getElem (by omega), h6]
theorem RBk.at {W : World} {g : Nat} {C : List Jb} (h : RBk W g C) (i : Nat) (hi : i < C.length) :
    W.cell? ⟨g, i * 4, none⟩ = some (.int .i64 (C[i]'hi).h) ∧ W.cell? ⟨g, i * 4 + 1, none⟩ = some (.slice (C[i]'hi).A (C[i]'hi).n (C[i]'hi).c) ∧ W.cell? ⟨g, i * 4 + 2, none⟩ = some (.int .i64 (C[i]'hi).sz) ∧ W.cell? ⟨g, i * 4 + 3, none⟩ = some (.string (C[i]'hi).ft) := by
  obtain ⟨cur, hg, _, hc⟩ := h
  obtain ⟨h0, h1, h2, h3⟩ := flat_get C i hi
  exact ⟨(blk_cell hg _).trans (hc _ _ h0), (blk_cell hg _).trans (hc _ _ h1), (blk_cell hg _).trans (hc _ _ h2), (blk_cell hg _).trans (hc _ _ h3)⟩
theorem RBk.free {W : World} {g : Nat} {C : List Jb} (h : RBk W g C) (j : Nat) : W.frozen? ⟨g, j, none⟩ = false := by
  obtain ⟨cur, hg, _⟩ := h
  exact blk_frozen hg j
theorem RBk.kept {W W1 : World} {g : Nat} {C : List Jb} (h : RBk W g C) (e : W1.heap[g]? = W.heap[g]?) : RBk W1 g C := by
  obtain ⟨cur, hg, r⟩ := h
  exact ⟨cur, e.trans hg, r⟩
theorem RBk.lt {W : World} {g : Nat} {C : List Jb} (h : RBk W g C) : g < W.heap.size := by
  obtain ⟨cur, hg, _⟩ := h
  exact blk_lt hg
theorem set_pt {l : List Value} {cur : Array Value} (hl : l.length ≤ cur.size) (h : ∀ (j : Nat) (v : Value), l[j]? = some v → cur[j]? = some v) (p : Nat) (u : Value) : (l.set p u).length ≤ (cur.setIfInBounds p u).size ∧ ∀ (j : Nat) (v : Value), (l.set p u)[j]? = some v → (cur.setIfInBounds p u)[j]? = some v := by
  refine ⟨by simpa using hl, fun j v hj => ?_⟩
  rw [List.getElem?_set] at hj
  by_cases e : p = j
  · subst e
    rw [if_pos rfl] at hj
    by_cases h2 : p < l.length
    · rw [if_pos h2] at hj
      rw [Array.getElem?_setIfInBounds_self_of_lt (by omega)]
      exact hj
    · rw [if_neg h2] at hj; cases hj
  · rw [if_neg e] at hj
    rw [Array.getElem?_setIfInBounds_ne e]
    exact h j v hj
theorem RBk.set {W : World} {g : Nat} {C : List Jb} (h : RBk W g C) (i : Nat) (hi : i < C.length) (x : Jb) : RBk (s4 W g i x) g (C.set i x) := by
  obtain ⟨cur, hg, hl, hc⟩ := h
  have s0 := set_pt hl hc (i * 4) (.int .i64 x.h)
  have s1 := set_pt s0.1 s0.2 (i * 4 + 1) (.slice x.A x.n x.c)
  have s2 := set_pt s1.1 s1.2 (i * 4 + 2) (.int .i64 x.sz)
  have s3 := set_pt s2.1 s2.2 (i * 4 + 3) (.string x.ft)
  rw [flat_set C i hi x] at s3
  exact ⟨_, blk_put (blk_put (blk_put (blk_put hg _ _ rfl) _ _ rfl) _ _ rfl) _ _ rfl, s3⟩
/-- What a doing within one block leaves. -/
structure FD (w W : World) (g : Nat) : Prop where
  size : w.heap.size ≤ W.heap.size
  keep : ∀ q, q < w.heap.size → q ≠ g → W.heap[q]? = w.heap[q]?
  below : ∀ w0 : World, w0.heap.size ≤ g → Below w0.heap.size w0 w → Below w0.heap.size w0 W
theorem FD.refl (w : World) (g : Nat) : FD w w g := ⟨Nat.le_refl _, fun _ _ _ => rfl, fun _ _ h => h⟩
theorem FD.more {w W W1 : World} {g : Nat} (h : FD w W g) (hg : g < w.heap.size) (hb : Below W.heap.size W W1) : FD w W1 g :=
  ⟨Nat.le_trans h.size hb.size, fun q hq hne => (hb.block q (Nat.lt_of_lt_of_le hq h.size)).trans (h.keep q hq hne), fun w0 h0 hb0 => below_all hb (by have := h.size; omega) (h.below w0 h0 hb0)⟩
theorem FD.put {w W : World} {g i : Nat} (h : FD w W g) (x : Jb) : FD w (s4 W g i x) g :=
  ⟨by rw [s4_size]; exact h.size, fun q hq hne => (s4_other hne x).trans (h.keep q hq hne), fun w0 h0 hb0 => s4_below (h.below w0 h0 hb0) h0 x⟩
theorem oth_none {k : Int} {l : List Jb} (h : ∀ x ∈ l, x.h ≠ k) : oth k l = l := List.filter_eq_self.2 fun x hx => by simp [h x hx]
theorem set_take (C : List Jb) (i : Nat) (h : i < C.length) (x : Jb) : (C.set i x).take (i + 1) = C.take i ++ [x] := by
  rw [take_next _ i (by rw [List.length_set]; exact h), List.take_set_of_le (Nat.le_refl i), List.getElem_set_self]
theorem own_cap {w : World} {base n c : Nat} {A : Option Addr} {L : List Jb} (h : OwnJ w base (.slice A n c) L) : L.length ≤ c := by
  rcases h.2 with ⟨e, h0⟩ | ⟨g', cap, cur, e, hb, hg, h1, h2, h3, h4⟩
  · omega
  · injection e with _ _ e
    omega
theorem own_zero_adr {w : World} {base n c : Nat} {ad : Addr} {L : List Jb} (h : OwnJ w base (.slice (some ad) n c) L) : ∃ g, ad = ⟨g, 0, none⟩ := by
  rcases h.2 with ⟨e, h0⟩ | ⟨g', cap, cur, e, hb, hg, h1, h2, h3, h4⟩
  · cases e
  · injection e with e _ _
    injection e with e
    exact ⟨g', e⟩
theorem d_i (k : Nat) (h : k ≤ 2097152) : IntKind.i64.wrap ((k : Int) + 1) = (k : Int) + 1 := wrap_small2 k h
theorem d_w (k : Nat) (h : k ≤ 2097152) : wrap64 ((k : Int) + 1) = (k : Int) + 1 := wrap_small k h
set_option maxHeartbeats 1000000 in
theorem hdl_calls (x : Jb) (k : Int) (gh : Nat) (w : World) (hk : w.cell? ⟨gh, 0, none⟩ = some (.int .i64 k)) :
    Calls Try.prog 34 #[.agg #[.int .i64 x.h, .slice x.A x.n x.c, .int .i64 x.sz, .string x.ft], .pointer (some ⟨gh, 0, none⟩)] w fun e w' => e = .returned (.bool (decide (x.h = k))) ∧ Below w.heap.size w w' := by
  have hu := Try.underlying29
  obtain ⟨xh, xA, xn, xc, xs, xf⟩ := x
  go_enter Try.func34, Try.ntmps34
  go_wp2_with (first | ((with_reducible refine gate_dst (N := 2) rfl ?_); refine box_event ?hg (N := 2) ?hd (cs := #[.int .i64 xh, .slice xA xn xc, .int .i64 xs, .string xf]) (t := 29) ?hr ?_; (case hd => rfl); (case hg => rfl); (case hr => first | (go_simp; done) | (go_simp; rfl)); intro g2 hg_ w2 hbox hb; have BW := Aside0.mk hb; obtain ⟨u0, u1, u2, u3, -, -, -, -⟩ := cells4 hbox; have k0 := cell_below hk hb; clear hbox hb hg_ hk))
  go_ret
  exact ⟨by first | rfl | (simp; done) | (congr 2; exact (beq_eq_decide _ _)), BW.out⟩
set_option maxHeartbeats 1000000 in
theorem clone_calls (v : Value) (b : Nat) (L : List Jb) (w : World) (h : OwnJ w b v L) (h0 : L = [] → v = .slice none 0 0) (hL : L.length ≤ 2097152) :
    Calls Try.prog 33 #[v] w fun e w' => ∃ v', e = .returned v' ∧ OwnJ w' w.heap.size v' L ∧ Below w.heap.size w w' := by
  by_cases hl : L = []
  · have hv := h0 hl
    subst hv
    subst hl
    have E1 : (binOp .eql 36 (.slice none 0 0) (.slice none 0 0)).run Try.prog w = .ok (.bool true) w := Lib.run_eql_slice_nil w _ _ none 0 0 0 0 Try.underlying36
    go_enter Try.func33, Try.ntmps33
    go_wp2_with fail
    go_ret
    exact ⟨_, rfl, own_nil _ _ _ _, Below.refl _ _⟩
  · obtain ⟨A, c, rfl, hR⟩ := h.form
    have hpos : 0 < L.length := List.length_pos_iff.2 hl
    obtain ⟨ad, hAd, _⟩ := hR hpos
    subst hAd
    have HP := Aside0.mk hpos
    have HR := Aside0.mk hR
    have HLL := Aside0.mk hL
    obtain ⟨n, hn⟩ : ∃ n, n = L.length := ⟨_, rfl⟩
    have HN := Aside0.mk hn
    rw [← hn]
    have hu := Try.underlying36
    have hu2 := Try.underlying29
    have E1 : (binOp .eql 36 (.slice (some ad) n c) (.slice none 0 0)).run Try.prog w = .ok (.bool false) w := Lib.run_eql_slice_nil w _ _ (some ad) n c 0 0 Try.underlying36
    clear h h0 hl hR hpos hL hn
    go_enter Try.func33, Try.ntmps33
    go_wp2_with (first | ((with_reducible refine gate_dst (N := 7) rfl ?_); refine app0_event ?hg (N := 7) ?hd 5 6 ?ho w.heap.size w.heap.size (some ad) c n L HN.out ?hs ?hx (own_zero w) (HR.out.below (below_alloc (Below.refl _ _) _)) ?ps ?len ?bs ?_; (case hd => rfl); (case hg => rfl); (case ho => rfl); (case hs => rfl); (case hx => rfl); (case ps => rw [HN.out]; exact HP.out); (case len => rw [HN.out]; exact HLL.out); (case bs => simp); intro gg cap w1 hrd hgr; have OO := Aside0.mk hrd; have BO := Aside0.mk (pw_below_grown (below_alloc (Below.refl w.heap.size w) _) _ (by simp) hgr (fun j e => by injection e with e; omega)); clear hrd hgr))
    go_ret
    exact ⟨_, rfl, OO.out, BO.out⟩
/-- Where the first job of a handle stands. -/
def FI (k : Int) (L : List Jb) (r : Int) : Prop := (r = -1 ∧ ∀ x ∈ L, x.h ≠ k) ∨ ∃ (i : Nat) (h : i < L.length), r = (i : Int) ∧ (L[i]'h).h = k ∧ ∀ x ∈ L.take i, x.h ≠ k
theorem own_adr0 {w : World} {A : Option Addr} {L : List Jb} (h : Reads w A L) (h0 : 0 < L.length) : ∃ ad, A = some ad := by
  obtain ⟨ad, e, _⟩ := h h0
  exact ⟨ad, e⟩
def RelF (w : World) (k : Int) (L : List Jb) (v : Value) (wr : World) : Prop := ∃ i : Nat, v = .int .i64 i ∧ i ≤ L.length ∧ (∀ x ∈ L.take i, x.h ≠ k) ∧ Below w.heap.size w wr
set_option maxHeartbeats 4000000 in
set_option maxRecDepth 100000 in
theorem idx_calls (L : List Jb) (A0 : Option Addr) (c n : Nat) (hn : n = L.length) (k : Int) (gh : Nat) (w : World) (hA : Reads w A0 L) (hk : w.cell? ⟨gh, 0, none⟩ = some (.int .i64 k)) (hL : n ≤ 2097152) :
    Calls Try.prog 39 #[.slice A0 n c, .func (.func 34) #[] #[.pointer (some ⟨gh, 0, none⟩)]] w fun e w' => ∃ r, e = .returned (.int .i64 r) ∧ FI k L r ∧ Below w.heap.size w w' := by
  have hu := Try.underlying29
  have HA := Aside0.mk hA
  have HK := Aside0.mk hk
  have HN := Aside0.mk hn
  have HLL := Aside0.mk hL
  clear hA hk hn hL
  go_enter Try.func39, Try.ntmps39
  go_wp2_with fail
  go_loopw [8] (fun v8 wr => RelF w k L v8 wr) (fun v8 _ => n - (intOf v8).toNat)
  case atStart => exact ⟨0, rfl, Nat.zero_le _, by simp, Below.refl _ _⟩
  case round =>
    obtain ⟨i, rfl, hi, hpre, hb⟩ := hrel
    have HPRE := Aside0.mk hpre
    have HB := Aside0.mk hb
    clear hpre hb
    by_cases hlt : i < n
    · have HLT := Aside0.mk hlt
      have hlr : i < L.length := by rw [← HN.out]; exact hlt
      have HLR := Aside0.mk hlr
      have e1 : ((i : Int) < (n : Int)) := by omega
      have e2 : (0 : Int) ≤ (i : Int) := Int.natCast_nonneg _
      have e3 := eq_true e1
      have e4 := eq_true e2
      have e5 := d_i i (by have := HLL.out; omega)
      have e6 := d_w i (by have := HLL.out; omega)
      obtain ⟨ad, hAd, hc⟩ := (HA.out.below HB.out) (by omega)
      subst hAd
      obtain ⟨f0, f1, f2, f3⟩ := flat_get L i HLR.out
      obtain ⟨x, hx⟩ : ∃ x, x = L[i]'HLR.out := ⟨_, rfl⟩
      rw [← hx] at f0 f1 f2 f3
      obtain ⟨xh, xA, xn, xc, xs, xf⟩ := x
      have HX := Aside0.mk hx
      have x0 : wr.cell? (ad.add (i * 4)) = some (.int .i64 xh) := hc _ _ f0
      have x1' := hc _ _ f1
      have x2' := hc _ _ f2
      have x3' := hc _ _ f3
      rw [← Addr.add_add] at x1' x2' x3'
      have x1 : wr.cell? ⟨(ad.add (i * 4)).block, (ad.add (i * 4)).off + 1, none⟩ = some (.slice xA xn xc) := by rw [← add_field _ _ 1 (by omega)]; exact hc _ _ f1
      have x2 : wr.cell? ⟨(ad.add (i * 4)).block, (ad.add (i * 4)).off + 2, none⟩ = some (.int .i64 xs) := by rw [← add_field _ _ 2 (by omega)]; exact hc _ _ f2
      have x3 : wr.cell? ⟨(ad.add (i * 4)).block, (ad.add (i * 4)).off + 3, none⟩ = some (.string xf) := by rw [← add_field _ _ 3 (by omega)]; exact hc _ _ f3
      clear hx f0 f1 f2 f3 hc
      have KH := Aside0.mk (cell_below HK.out HB.out)
      have HTK := Aside0.mk (take_next L i HLR.out)
      rw [← HX.out] at HTK
      clear hlr hlt
      by_cases hk : xh = k
      · have hkd : decide (xh = k) = true := decide_eq_true hk
        have HKK := Aside0.mk hk
        clear hk
        go_wp2_with (first | (go_at_call 34; (with_reducible refine (hdl_calls ⟨xh, xA, xn, xc, xs, xf⟩ k gh wr KH.out).mono ?_); rintro e wc ⟨rfl, hb⟩; have BC := Aside0.mk hb; clear hb))
        go_ret
        exact ⟨_, rfl, .inr ⟨i, HLR.out, rfl, by rw [← HX.out]; exact HKK.out, HPRE.out⟩, below_all BC.out HB.out.size HB.out⟩
      · have hkd : decide (xh = k) = false := decide_eq_false hk
        have HKK := Aside0.mk hk
        clear hk
        go_wp2_with (first | (go_at_call 34; (with_reducible refine (hdl_calls ⟨xh, xA, xn, xc, xs, xf⟩ k gh wr KH.out).mono ?_); rintro e wc ⟨rfl, hb⟩; have BC := Aside0.mk hb; clear hb))
        go_roundw
        case rel => exact ⟨i + 1, by simp, HLR.out, by rw [HTK.out]; intro x hx; rcases List.mem_append.1 hx with hx | hx; exact HPRE.out x hx; rw [List.mem_singleton.1 hx]; exact HKK.out, below_all BC.out HB.out.size HB.out⟩
        case measure => have := HLT.out; simp [intOf] <;> omega
    · have e1 : ¬ ((i : Int) < (n : Int)) := by omega
      have e3 := eq_false e1
      have HALL := Aside0.mk (show ∀ x ∈ L, x.h ≠ k from by have h := HPRE.out; rw [List.take_of_length_le (by have := HN.out; omega)] at h; exact h)
      clear hlt hi e1
      go_wp2_with fail
      go_ret
      exact ⟨_, rfl, .inl ⟨rfl, HALL.out⟩, HB.out⟩
theorem rbk_low {W : World} {g i : Nat} {C : List Jb} {cur cur2 : Array Value} (hc : ∀ (j : Nat) (v : Value), (flat C)[j]? = some v → cur[j]? = some v) (h2 : W.heap[g]? = some (.cells cur2 29 (0, 0))) (hl : ∀ (j : Nat), j < i * 4 → cur2[j]? = cur[j]?) (hi : i ≤ C.length) (hs : i * 4 ≤ cur.size) : RBk W g (C.take i) := by
  refine ⟨cur2, h2, ?_, fun j v hj => ?_⟩
  · rw [flat_len, List.length_take, Nat.min_eq_left hi]
    rcases Nat.eq_zero_or_pos i with h0 | h0
    · omega
    · have h3 := hl (i * 4 - 1) (by omega)
      rw [show cur[i * 4 - 1]? = some (cur[i * 4 - 1]'(by omega)) from Array.getElem?_eq_getElem _] at h3
      have := (Array.getElem?_eq_some_iff.1 h3).1
      omega
  · rw [← flat_take] at hj
    obtain ⟨h5, h6⟩ := List.getElem?_eq_some_iff.1 hj
    rw [List.getElem_take] at h6
    rw [List.length_take, flat_len] at h5
    rw [hl j (by omega)]
    exact hc j v (by rw [List.getElem?_eq_getElem (by rw [flat_len]; omega), h6])
def RelD (w : World) (g n : Nat) (k : Int) (L : List Jb) (v5 v6 : Value) (wr : World) : Prop :=
  ∃ (i j : Nat) (C : List Jb), v5 = .int .i64 i ∧ v6 = .int .i64 j ∧ i < j ∧ j ≤ n ∧ C.length = n ∧ C.take i = oth k (L.take j) ∧ C.drop j = L.drop j ∧ RBk wr g C ∧ FD w wr g
set_option maxHeartbeats 8000000 in
set_option maxRecDepth 100000 in
theorem dfn_calls (L : List Jb) (base : Nat) (A : Option Addr) (c n : Nat) (hn : n = L.length) (k : Int) (gh : Nat) (w : World) (h : OwnJ w base (.slice A n c) L) (hk : w.cell? ⟨gh, 0, none⟩ = some (.int .i64 k)) (hne : ∀ ad, A = some ad → ad.block ≠ gh) (hL : n ≤ 2097152) (hbs : base ≤ w.heap.size) :
    Calls Try.prog 32 #[.slice A n c, .func (.func 34) #[] #[.pointer (some ⟨gh, 0, none⟩)]] w fun e w' => ∃ A' c', e = .returned (.slice A' (oth k L).length c') ∧ Reads w' A' (oth k L) ∧ (∀ w0 : World, w0.heap.size ≤ base → w0.heap.size ≤ w.heap.size → Below w0.heap.size w0 w → Below w0.heap.size w0 w') ∧ (∀ q, q < base → w'.heap[q]? = w.heap[q]?) ∧ w.heap.size ≤ w'.heap.size := by
  have hu := Try.underlying29
  have hu2 := Try.underlying36
  obtain ⟨A', c', he, hrd⟩ := h.form
  rw [← hn] at he
  injection he with he1 _ he2
  subst he1
  subst he2
  have HIX := Aside0.mk (idx_calls L A c n hn k gh w hrd hk hL)
  have HK := Aside0.mk hk
  have HN := Aside0.mk hn
  have HLL := Aside0.mk hL
  have HRD := Aside0.mk hrd
  have HO := Aside0.mk h
  have HNE := Aside0.mk hne
  have HBS := Aside0.mk hbs
  clear hrd hk hn hL h hne
  go_enter Try.func32, Try.ntmps32
  go_wp2_with fail
  go_at_call 39
  with_reducible refine HIX.out.mono ?_
  rintro e w1 ⟨r, rfl, hfi, hb⟩
  have HB1 := Aside0.mk hb
  clear HIX hb
  rcases hfi with ⟨rfl, hall⟩ | ⟨i0, hi0, rfl, hki, hpre⟩
  · have HALL := Aside0.mk (oth_none hall)
    clear hall
    go_wp2_with fail
    go_ret
    rw [HALL.out, ← HN.out]
    exact ⟨_, _, rfl, HRD.out.below HB1.out, fun w0 h0 h1 hb0 => below_all HB1.out h1 hb0, fun q hq => HB1.out.block q (Nat.lt_of_lt_of_le hq HBS.out), HB1.out.size⟩
  · obtain ⟨ad, hAd⟩ := own_adr0 HRD.out (by omega)
    subst hAd
    obtain ⟨g, hg⟩ : ∃ g, ad = ⟨g, 0, none⟩ := own_zero_adr HO.out
    subst hg
    obtain ⟨hrb, hbg⟩ := RBk.of_own HO.out
    have RB0 := Aside0.mk hrb
    have BG := Aside0.mk hbg
    have GLT := Aside0.mk hrb.lt
    have HGH := Aside0.mk (show gh ≠ g from fun e => HNE.out _ rfl e.symm)
    have HI0 := Aside0.mk hi0
    have c1 : ¬ ((i0 : Int) = -1) := by omega
    have c2 : ((i0 : Int) == -1) = false := by simp
    have c3 : decide ((i0 : Int) = -1) = false := decide_eq_false c1
    have e5 := d_i i0 (by have := HLL.out; have := HN.out; omega)
    have e6 := d_w i0 (by have := HLL.out; have := HN.out; omega)
    have ST0 := Aside0.mk (show L.take i0 = oth k (L.take (i0 + 1)) from by rw [oth_take k L i0 hi0, if_pos hki, oth_none hpre])
    clear hrb hbg hi0 hki hpre
    go_wp2_with fail
    go_loopw [5, 6] (fun v5 v6 wr => RelD w g n k L v5 v6 wr) (fun _ v6 _ => n - (intOf v6).toNat)
    case atStart => exact ⟨i0, i0 + 1, L, rfl, by simp, by omega, by have := HI0.out; have := HN.out; omega, HN.out.symm, ST0.out, rfl, RB0.out.kept (HB1.out.block g GLT.out), (FD.refl w g).more GLT.out HB1.out⟩
    case round =>
      clear c1 c2 c3 e5 e6 ST0
      obtain ⟨i, j, C, rfl, rfl, hij, hjn, hCl, hct, hcd, hrb, hfd⟩ := hrel
      have HIJ := Aside0.mk hij
      have HCL := Aside0.mk hCl
      have HCT := Aside0.mk hct
      have HCD := Aside0.mk hcd
      have HRB := Aside0.mk hrb
      have HFD := Aside0.mk hfd
      have HJN := Aside0.mk hjn
      clear hCl hct hcd hrb hfd hjn
      by_cases hlt : j < n
      · have HLT := Aside0.mk hlt
        have e1 : ((j : Int) < (n : Int)) := by omega
        have e2 : (0 : Int) ≤ (j : Int) := Int.natCast_nonneg _
        have e3 := eq_true e1
        have e4 := eq_true e2
        have i1 : ((i : Int) < (n : Int)) := by omega
        have i2 : (0 : Int) ≤ (i : Int) := Int.natCast_nonneg _
        have i3 := eq_true i1
        have i4 := eq_true i2
        have e5 := d_i j (by have := HLL.out; omega)
        have e6 := d_w j (by have := HLL.out; omega)
        have i5 := d_i i (by have := HLL.out; omega)
        have i6 := d_w i (by have := HLL.out; omega)
        have hjl : j < L.length := by have := HN.out; omega
        have hjc : j < C.length := by have := HCL.out; omega
        have hic : i < C.length := by omega
        have HIC := Aside0.mk hic
        have hCL : C[j]'hjc = L[j]'hjl := by
          have h1 := congrArg (fun l => l[0]?) HCD.out
          simp only [List.getElem?_drop, Nat.add_zero] at h1
          rw [List.getElem?_eq_getElem hjc, List.getElem?_eq_getElem hjl] at h1
          exact Option.some.inj h1
        obtain ⟨x0, x1, x2, x3⟩ := HRB.out.at j hjc
        obtain ⟨x, hx⟩ : ∃ x, x = L[j]'hjl := ⟨_, rfl⟩
        rw [hCL, ← hx] at x0 x1 x2 x3
        have OT := Aside0.mk (oth_take k L j hjl)
        rw [← hx] at OT
        have CD1 := Aside0.mk (show C.drop (j + 1) = L.drop (j + 1) from by
          have h1 := congrArg (fun l => l.drop 1) HCD.out
          simp only [List.drop_drop] at h1
          exact h1)
        obtain ⟨xh, xA, xn, xc, xs, xf⟩ := x
        dsimp only at OT
        have KH := Aside0.mk (show wr.cell? ⟨gh, 0, none⟩ = some (.int .i64 k) from (World.cell?_of_block (HFD.out.keep gh (World.block_lt_of_cell? w _ HK.out) HGH.out)).trans HK.out)
        clear hx hCL hjl hjc hic hlt hij
        by_cases hkx : xh = k
        · have hkd : decide (xh = k) = true := decide_eq_true hkx
          have OT1 := Aside0.mk (OT.out.trans (if_pos hkx))
          clear hkx
          go_wp2_with (first | ((with_reducible refine gate_dst (N := 7) rfl ?_); refine box_event ?hg (N := 7) ?hd (cs := #[.int .i64 0, .slice none 0 0, .int .i64 0, .string (⟨#[]⟩ : ByteArray)]) (t := 29) ?hr ?_; (case hd => rfl); (case hg => rfl); (case hr => first | (go_simp; done) | (go_simp; rfl)); intro g7 hg_ w3 hbox hb; have G7 := Aside0.mk hg_; have BW3 := Aside0.mk hb; have B7 := Aside0.mk hbox; clear hbox hb hg_ x0 x1 x2 x3; obtain ⟨u0, u1, u2, u3, v0, v1, v2, v3⟩ := cells4 B7.out) | ((with_reducible refine gate_store (t := 29) (p := 7) rfl ?_); refine store_event2 (w1 := ((((w3.setCell ⟨g7, 0, none⟩ (.int .i64 xh)).setCell ⟨g7, 1, none⟩ (.slice xA xn xc)).setCell ⟨g7, 2, none⟩ (.int .i64 xs)).setCell ⟨g7, 3, none⟩ (.string xf))) ?hg ?hn ?hr ?_; (case hg => rfl); (case hn => rfl); (case hr => first | (go_simp; done) | (go_simp; rfl)); intro w4 hW_; have HW4 := Aside0.mk hW_; clear hW_; have BW := Aside0.mk (show Below wr.heap.size wr w4 from by rw [HW4.out]; exact below_set (below_set (below_set (below_set BW3.out (Nat.le_of_eq G7.out.symm)) (Nat.le_of_eq G7.out.symm)) (Nat.le_of_eq G7.out.symm)) (Nat.le_of_eq G7.out.symm)); have BX := Aside0.mk (show w4.heap[g7]? = some (.cells #[.int .i64 xh, .slice xA xn xc, .int .i64 xs, .string xf] 29 (0, 0)) from by rw [HW4.out]; exact put4 B7.out _ _ _ _); clear u0 u1 u2 u3 v0 v1 v2 v3 BW3 B7 HW4; obtain ⟨u0, u1, u2, u3, v0, v1, v2, v3⟩ := cells4 BX.out) | (go_at_call 34; (with_reducible refine (hdl_calls ⟨xh, xA, xn, xc, xs, xf⟩ k gh w4 (cell_below KH.out BW.out)).mono ?_); rintro e wc ⟨rfl, hb⟩; have BC := Aside0.mk (below_tr BW.out hb); clear hb u0 u1 u2 u3 v0 v1 v2 v3))
          go_roundw
          case rel => exact ⟨i, j + 1, C, rfl, by simp, by have := HIJ.out; omega, HLT.out, HCL.out, by rw [OT1.out]; exact HCT.out, CD1.out, HRB.out.kept (BC.out.block g (HRB.out.lt)), HFD.out.more GLT.out BC.out⟩
          case measure => have := HLT.out; simp [intOf] <;> omega
        · have hkd : decide (xh = k) = false := decide_eq_false hkx
          have OT1 := Aside0.mk (OT.out.trans (if_neg hkx))
          clear hkx
          go_wp2_with (first | ((with_reducible refine gate_dst (N := 7) rfl ?_); refine box_event ?hg (N := 7) ?hd (cs := #[.int .i64 0, .slice none 0 0, .int .i64 0, .string (⟨#[]⟩ : ByteArray)]) (t := 29) ?hr ?_; (case hd => rfl); (case hg => rfl); (case hr => first | (go_simp; done) | (go_simp; rfl)); intro g7 hg_ w3 hbox hb; have G7 := Aside0.mk hg_; have BW3 := Aside0.mk hb; have B7 := Aside0.mk hbox; clear hbox hb hg_ x0 x1 x2 x3; obtain ⟨u0, u1, u2, u3, v0, v1, v2, v3⟩ := cells4 B7.out) | ((with_reducible refine gate_store (t := 29) (p := 7) rfl ?_); refine store_event2 (w1 := ((((w3.setCell ⟨g7, 0, none⟩ (.int .i64 xh)).setCell ⟨g7, 1, none⟩ (.slice xA xn xc)).setCell ⟨g7, 2, none⟩ (.int .i64 xs)).setCell ⟨g7, 3, none⟩ (.string xf))) ?hg ?hn ?hr ?_; (case hg => rfl); (case hn => rfl); (case hr => first | (go_simp; done) | (go_simp; rfl)); intro w4 hW_; have HW4 := Aside0.mk hW_; clear hW_; have BW := Aside0.mk (show Below wr.heap.size wr w4 from by rw [HW4.out]; exact below_set (below_set (below_set (below_set BW3.out (Nat.le_of_eq G7.out.symm)) (Nat.le_of_eq G7.out.symm)) (Nat.le_of_eq G7.out.symm)) (Nat.le_of_eq G7.out.symm)); have BX := Aside0.mk (show w4.heap[g7]? = some (.cells #[.int .i64 xh, .slice xA xn xc, .int .i64 xs, .string xf] 29 (0, 0)) from by rw [HW4.out]; exact put4 B7.out _ _ _ _); clear u0 u1 u2 u3 v0 v1 v2 v3 BW3 B7 HW4; obtain ⟨u0, u1, u2, u3, v0, v1, v2, v3⟩ := cells4 BX.out) | (go_at_call 34; (with_reducible refine (hdl_calls ⟨xh, xA, xn, xc, xs, xf⟩ k gh w4 (cell_below KH.out BW.out)).mono ?_); rintro e wc ⟨rfl, hb⟩; have BC := Aside0.mk (below_tr BW.out hb); have BXC := Aside0.mk (old_blk BX.out hb); clear hb u0 u1 u2 u3 v0 v1 v2 v3; obtain ⟨u0, u1, u2, u3, -, -, -, -⟩ := cells4 BXC.out; obtain ⟨p0, p1, p2, p3⟩ := (HRB.out.kept (BC.out.block g (HRB.out.lt))).at i HIC.out; have r0 := (HRB.out.kept (BC.out.block g (HRB.out.lt))).free (i * 4); have r1 := (HRB.out.kept (BC.out.block g (HRB.out.lt))).free (i * 4 + 1); have r2 := (HRB.out.kept (BC.out.block g (HRB.out.lt))).free (i * 4 + 2); have r3 := (HRB.out.kept (BC.out.block g (HRB.out.lt))).free (i * 4 + 3)) | ((with_reducible refine gate_store (t := 29) (p := 33) rfl ?_); refine store_event2 (w1 := ((((wc.setCell ⟨g, i * 4, none⟩ (.int .i64 xh)).setCell ⟨g, i * 4 + 1, none⟩ (.slice xA xn xc)).setCell ⟨g, i * 4 + 2, none⟩ (.int .i64 xs)).setCell ⟨g, i * 4 + 3, none⟩ (.string xf))) ?hg ?hn ?hr ?_; (case hg => rfl); (case hn => rfl); (case hr => first | (go_simp; done) | (go_simp; rfl)); intro w8 hW_; have HW8 := Aside0.mk hW_; clear hW_ u0 u1 u2 u3 p0 p1 p2 p3 r0 r1 r2 r3))
          go_roundw
          case rel =>
            have R5 : RBk wc g C := HRB.out.kept (BC.out.block g (HRB.out.lt))
            have F5 : FD w wc g := HFD.out.more GLT.out BC.out
            rw [show w8 = s4 wc g i ⟨xh, xA, xn, xc, xs, xf⟩ from HW8.out]
            refine ⟨i + 1, j + 1, C.set i ⟨xh, xA, xn, xc, xs, xf⟩, by simp, by simp, by have := HIJ.out; omega, HLT.out, by rw [List.length_set]; exact HCL.out, ?_, ?_, R5.set i HIC.out _, F5.put _⟩
            · rw [OT1.out, ← HCT.out]
              exact set_take C i HIC.out _
            · rw [List.drop_set_of_lt (by have := HIJ.out; omega)]
              exact CD1.out
          case measure => have := HLT.out; simp [intOf] <;> omega
      · have hje : j = n := by have := HJN.out; omega
        subst hje
        have e1 : ¬ ((j : Int) < (j : Int)) := by omega
        have HJ := Aside0.mk (show C.take i = oth k L from by rw [HCT.out, HN.out, List.take_length])
        have HIL := Aside0.mk (show i = (oth k L).length from by rw [← HJ.out, List.length_take, HCL.out]; omega)
        obtain ⟨m, hm⟩ : ∃ m, j = i + (m + 1) := ⟨j - i - 1, by omega⟩
        obtain ⟨cur, hcur, hcl, hcc⟩ := HRB.out
        have HCUR := Aside0.mk hcur
        have HSZ := Aside0.mk (show i * 4 + (m + 1) * 4 ≤ cur.size from by rw [flat_len, HCL.out] at hcl; omega)
        have hnc := HO.out
        have HCAP := Aside0.mk (own_cap hnc)
        have HCC := Aside0.mk hcc
        clear hcur hcl hcc hnc
        subst hm
        have q1 : (i : Int) ≤ ((i + (m + 1) : Nat) : Int) := by omega
        have q2 : (0 : Int) ≤ (i : Int) := Int.natCast_nonneg _
        have q3 := eq_true q1
        have q4 := eq_true q2
        have q5 : (i : Int) ≤ (c : Int) := by have := HCAP.out; have := HN.out; omega
        have q6 := eq_true q5
        have q7 : i + (m + 1) - i = m + 1 := by omega
        have q8 : ¬ (c = i) := by have := HCAP.out; have := HN.out; omega
        have q9 : ¬ (i = c) := fun e => q8 e.symm
        have q10 : (c == i) = false := by simp [q8]
        have q11 : (i == c) = false := by simp [q9]
        clear hij hlt e1 q1 q5
        go_wp2_with (first | ((with_reducible refine clr_event rfl rfl 38 rfl g (i * 4) m (c - i) cur ?hs HCUR.out HSZ.out ?_); (case hs => first | rfl | (go_simp; done) | (simp; done)); intro w1 cur2 hsz hoth hat hlow hbel; have C1 := Aside0.mk hsz; have C2 := Aside0.mk hoth; have C3 := Aside0.mk hat; have C4 := Aside0.mk hlow; have C5 := Aside0.mk hbel; clear hsz hoth hat hlow hbel))
        go_ret
        have hR : RBk w1 g (oth k L) := by
          rw [← HJ.out]
          exact rbk_low HCC.out C3.out C4.out (by have := HCL.out; omega) (by have := HSZ.out; omega)
        refine ⟨some ⟨g, 0, none⟩, c, by rw [← HIL.out]; rfl, hR.reads, fun w0 h0 h1 hb0 => C5.out w0 (Nat.le_trans h0 BG.out) (HFD.out.below w0 (Nat.le_trans h0 BG.out) hb0), fun q hq => ?_, by rw [C1.out]; exact HFD.out.size⟩
        have := BG.out
        have := HBS.out
        exact (C2.out q (by omega)).trans (HFD.out.keep q (by omega) (by omega))
end Go.Proofs.Ytnegagkjhnpgmaa.Sc
