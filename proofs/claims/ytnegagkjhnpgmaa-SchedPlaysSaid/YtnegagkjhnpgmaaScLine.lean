/- A line of jobs: its state, and its small methods. -/
import Derived.Test.YtnegagkjhnpgmaaScMap
namespace Go.Proofs.Ytnegagkjhnpgmaa.Sc
open Go.RowKit Go.Proofs.YtnegagkjhnpgmaaW.PrintWords Go.Proofs.YtnegagkjhnpgmaaW.PrintMore Go.Proofs.YtnegagkjhnpgmaaW.PrintLast Go.Proofs.Ytnegagkjhnpgmaa.Dq
set_option linter.unusedVariables false
set_option linter.unusedSimpArgs false
attribute [local go_sem ↓] Go.wp_at_zero Go.wp_at_succ
/-- A row of one's own at a block that is kept. -/
theorem OwnJ.kept {w w1 : World} {base : Nat} {v : Value} {L : List Jb} (h : OwnJ w base v L) (hk : ∀ k, v.ownBlock = some k → w1.heap[k]? = w.heap[k]?) : OwnJ w1 base v L := by
  refine ⟨h.1, ?_⟩
  rcases h.2 with hn | ⟨g, cap, cur, rfl, hb, hgg, rest⟩
  · exact .inl hn
  · exact .inr ⟨g, cap, cur, rfl, hb, (hk g rfl).trans hgg, rest⟩
theorem OwnJ.below {w w1 : World} {base : Nat} {v : Value} {L : List Jb} (h : OwnJ w base v L) (hb : Below w.heap.size w w1) : OwnJ w1 base v L := h.kept fun k hk => hb.block k (World.ownsRow.lt h k hk).2
theorem OwnJ.kind {w : World} {base : Nat} {v : Value} {L : List Jb} (h : OwnJ w base v L) {k : Nat} (hk : v.ownBlock = some k) : ∃ cur, w.heap[k]? = some (.cells cur 29 (0, 0)) := by
  rcases h.2 with ⟨rfl, _⟩ | ⟨g, cap, cur, rfl, hb, hgg, rest⟩
  · cases hk
  · injection hk with hk
    subst hk
    exact ⟨cur, hgg⟩
theorem OwnJ.form {w : World} {base : Nat} {v : Value} {L : List Jb} (h : OwnJ w base v L) : ∃ A c, v = .slice A L.length c ∧ Reads w A L := by
  rcases h.2 with ⟨rfl, h0⟩ | ⟨g, cap, cur, rfl, hb, hgg, hn, hm, hs, ht⟩
  · rw [h0]
    exact ⟨none, 0, rfl, fun h1 => by omega⟩
  · refine ⟨_, _, rfl, fun h1 => ⟨_, rfl, fun j v hj => ?_⟩⟩
    exact World.ownsRow.cells h rfl j v hj
/-- A line at a block. -/
structure LnA (w : World) (base g d r : Nat) (A : Option Addr) (M : List (Int × Value)) (q : List Jb) (S : Int → List Jb) : Prop where
  hg : base ≤ g
  hr : base ≤ r
  blk : w.heap[g]? = some (.cells #[.pointer (some ⟨d, 0, none⟩), .map (some r)] 54 (0, 0))
  dq : DqJ w base d A q
  map : MapAt w r M
  rows : ∀ p ∈ M, OwnJ w base p.2 (S p.1) ∧ S p.1 ≠ [] ∧ ∀ k, p.2.ownBlock = some k → A ≠ some ⟨k, 0, none⟩
  apart : M.Pairwise (fun p q => p.1 ≠ q.1 ∧ p.2.ownBlock ≠ q.2.ownBlock)
  rest : ∀ h, (∀ p ∈ M, p.1 ≠ h) → S h = []
def foot (g d r : Nat) (A : Option Addr) (M : List (Int × Value)) (k : Nat) : Prop := k = g ∨ k = d ∨ k = r ∨ A = some ⟨k, 0, none⟩ ∨ ∃ p, p ∈ M ∧ p.2.ownBlock = some k
def Ln (w : World) (base g : Nat) (q : List Jb) (S : Int → List Jb) (F : Nat → Prop) : Prop := ∃ d r A M, LnA w base g d r A M q S ∧ F = foot g d r A M
/-- What a doing of a line leaves. -/
structure FrL (w w' : World) (base : Nat) (F F' : Nat → Prop) : Prop where
  size : w.heap.size ≤ w'.heap.size
  keep : ∀ k, k < w.heap.size → ¬ F k → w'.heap[k]? = w.heap[k]?
  below : ∀ w0 : World, w0.heap.size = base → Below w0.heap.size w0 w → Below w0.heap.size w0 w'
  new : ∀ k, F' k → F k ∨ w.heap.size ≤ k
theorem FrL.refl (w : World) (base : Nat) (F : Nat → Prop) : FrL w w base F F := ⟨Nat.le_refl _, fun _ _ _ => rfl, fun _ _ h => h, fun _ h => .inl h⟩
theorem FrL.trans {w w1 w2 : World} {base : Nat} {F F1 F2 : Nat → Prop} (h : FrL w w1 base F F1) (k : FrL w1 w2 base F1 F2) : FrL w w2 base F F2 := by
  refine ⟨Nat.le_trans h.size k.size, fun i hi hF => ?_, fun w0 e hb => k.below w0 e (h.below w0 e hb), fun i hi => ?_⟩
  · refine (k.keep i (Nat.lt_of_lt_of_le hi h.size) (fun h1 => ?_)).trans (h.keep i hi hF)
    rcases h.new i h1 with h2 | h2
    · exact hF h2
    · omega
  · rcases k.new i hi with h1 | h1
    · exact h.new i h1
    · exact .inr (Nat.le_trans h.size h1)
theorem FrL.of_below {w w1 : World} {base : Nat} (F : Nat → Prop) (h : Below w.heap.size w w1) (hb : base ≤ w.heap.size) : FrL w w1 base F F :=
  ⟨h.size, fun k hk _ => h.block k hk, fun w0 e hb0 => below_all h (by omega) hb0, fun _ h => .inl h⟩
theorem blkg_lt {w : World} {g : Nat} {o : Obj} (h : w.heap[g]? = some o) : g < w.heap.size := blk_lt h
theorem DqJ.dlt {w : World} {base g : Nat} {A : Option Addr} {l : List Jb} (h : DqJ w base g A l) : base ≤ g ∧ g < w.heap.size := h.hg
theorem DqJ.room_lt {w : World} {base g r : Nat} {A : Option Addr} {l : List Jb} (h : DqJ w base g A l) (e : A = some ⟨r, 0, none⟩) : base ≤ r ∧ r < w.heap.size := by
  obtain ⟨R, f, h⟩ := h
  exact ⟨(h.room_lt e).2, (h.room_lt e).1⟩
theorem DqJ.kind {w : World} {base g : Nat} {A : Option Addr} {l : List Jb} (h : DqJ w base g A l) : ∃ cs, w.heap[g]? = some (.cells cs 66 (0, 0)) := by
  obtain ⟨R, f, h⟩ := h
  exact ⟨_, h.blk⟩
theorem DqJ.room_kind {w : World} {base g r : Nat} {A : Option Addr} {l : List Jb} (h : DqJ w base g A l) (e : A = some ⟨r, 0, none⟩) : ∃ cs, w.heap[r]? = some (.cells cs 29 (0, 0)) := by
  obtain ⟨R, f, h⟩ := h
  rcases h.room with e' | ⟨r', e', hR, hb⟩
  · rw [e'.2] at e; cases e
  · rw [e'] at e
    injection e with e
    injection e with e _ _
    subst e
    exact ⟨_, hR⟩
theorem DqJ.kept {w w1 : World} {base g : Nat} {A : Option Addr} {l : List Jb} (h : DqJ w base g A l) (hg : w1.heap[g]? = w.heap[g]?) (hr : ∀ r, A = some ⟨r, 0, none⟩ → w1.heap[r]? = w.heap[r]?) : DqJ w1 base g A l := by
  obtain ⟨R, f, h⟩ := h
  exact ⟨R, f, h.kept hg (fun r e _ => hr r e)⟩
theorem MapAt.kept {w w1 : World} {r : Nat} {M : List (Int × Value)} (h : MapAt w r M) (e : w1.heap[r]? = w.heap[r]?) : MapAt w1 r M := by
  obtain ⟨es, clock, h1, h2⟩ := h
  exact ⟨es, clock, e.trans h1, h2⟩
section
variable {w w1 : World} {base g d r : Nat} {A : Option Addr} {M : List (Int × Value)} {q : List Jb} {S : Int → List Jb}
theorem LnA.glt (h : LnA w base g d r A M q S) : g < w.heap.size := blk_lt h.blk
theorem LnA.foot_lt (h : LnA w base g d r A M q S) (k : Nat) (hk : foot g d r A M k) : base ≤ k ∧ k < w.heap.size := by
  rcases hk with rfl | rfl | rfl | e | ⟨p, hp, e⟩
  · exact ⟨h.hg, blk_lt h.blk⟩
  · exact h.dq.dlt
  · exact ⟨h.hr, h.map.lt⟩
  · exact h.dq.room_lt e
  · exact World.ownsRow.lt (h.rows p hp).1 k e
theorem LnA.kept (h : LnA w base g d r A M q S) (hk : ∀ k, foot g d r A M k → w1.heap[k]? = w.heap[k]?) : LnA w1 base g d r A M q S :=
  ⟨h.hg, h.hr, (hk g (.inl rfl)).trans h.blk, h.dq.kept (hk d (.inr (.inl rfl))) (fun r e => hk r (.inr (.inr (.inr (.inl e))))), h.map.kept (hk r (.inr (.inr (.inl rfl)))),
    fun p hp => ⟨(h.rows p hp).1.kept (fun k e => hk k (.inr (.inr (.inr (.inr ⟨p, hp, e⟩))))), (h.rows p hp).2⟩, h.apart, h.rest⟩
theorem LnA.below (h : LnA w base g d r A M q S) (hb : Below w.heap.size w w1) : LnA w1 base g d r A M q S := h.kept fun k hk => hb.block k (h.foot_lt k hk).2
theorem Ln.below {F : Nat → Prop} (h : Ln w base g q S F) (hb : Below w.heap.size w w1) : Ln w1 base g q S F := by
  obtain ⟨d, r, A, M, h, e⟩ := h
  exact ⟨d, r, A, M, h.below hb, e⟩
theorem Ln.kept {F : Nat → Prop} (h : Ln w base g q S F) (hk : ∀ k, F k → w1.heap[k]? = w.heap[k]?) : Ln w1 base g q S F := by
  obtain ⟨d, r, A, M, h, rfl⟩ := h
  exact ⟨d, r, A, M, h.kept hk, rfl⟩
theorem Ln.lt {F : Nat → Prop} (h : Ln w base g q S F) (k : Nat) (hk : F k) : base ≤ k ∧ k < w.heap.size := by
  obtain ⟨d, r, A, M, h, rfl⟩ := h
  exact h.foot_lt k hk
theorem Ln.hg {F : Nat → Prop} (h : Ln w base g q S F) : base ≤ g ∧ g < w.heap.size ∧ F g := by
  obtain ⟨d, r, A, M, h, rfl⟩ := h
  exact ⟨h.hg, h.glt, .inl rfl⟩
theorem LnA.cells (h : LnA w base g d r A M q S) : w.cell? ⟨g, 0, none⟩ = some (.pointer (some ⟨d, 0, none⟩)) ∧ w.cell? ⟨g, 1, none⟩ = some (.map (some r)) ∧ w.frozen? ⟨g, 0, none⟩ = false ∧ w.frozen? ⟨g, 1, none⟩ = false :=
  ⟨(blk_cell h.blk 0).trans rfl, (blk_cell h.blk 1).trans rfl, blk_frozen h.blk 0, blk_frozen h.blk 1⟩
theorem LnA.base_le (h : LnA w base g d r A M q S) : base ≤ w.heap.size := Nat.le_of_lt (Nat.lt_of_le_of_lt h.hg h.glt)
/-- The blocks of a line are apart. -/
theorem LnA.gd (h : LnA w base g d r A M q S) : g ≠ d := fun e => by
  obtain ⟨cs, hc⟩ := h.dq.kind
  rw [← e, h.blk] at hc
  injection hc with hc
  injection hc with _ hc
  exact absurd hc (by decide)
theorem LnA.gr (h : LnA w base g d r A M q S) : g ≠ r := fun e => by
  obtain ⟨es, c, hc, _⟩ := h.map
  rw [← e, h.blk] at hc
  cases hc
theorem LnA.dr (h : LnA w base g d r A M q S) : d ≠ r := fun e => by
  obtain ⟨cs, hd⟩ := h.dq.kind
  obtain ⟨es, c, hc, _⟩ := h.map
  rw [← e, hd] at hc
  cases hc
theorem LnA.job (h : LnA w base g d r A M q S) {k : Nat} {cs : Array Value} (hk : w.heap[k]? = some (.cells cs 29 (0, 0))) : k ≠ g ∧ k ≠ d ∧ k ≠ r := by
  refine ⟨fun e => ?_, fun e => ?_, fun e => ?_⟩
  · rw [e, h.blk] at hk
    injection hk with hk
    injection hk with _ hk
    exact absurd hk (by decide)
  · obtain ⟨cs, hd⟩ := h.dq.kind
    rw [e, hd] at hk
    injection hk with hk
    injection hk with _ hk
    exact absurd hk (by decide)
  · obtain ⟨es, c, hc, _⟩ := h.map
    rw [e, hc] at hk
    cases hk
end
theorem fnd_none (k : Int) : ∀ (M : List (Int × Value)) (i : Nat), fnd k M i = none → ∀ p ∈ M, p.1 ≠ k
  | [], i, _, p, hp => by cases hp
  | a :: M, i, h, p, hp => by
    unfold fnd at h
    by_cases e : a.1 = k
    · rw [if_pos e] at h; cases h
    · rw [if_neg e] at h
      rcases List.mem_cons.1 hp with rfl | hp
      · exact e
      · exact fnd_none k M (i + 1) h p hp
/-- What is looked up in a line's map. -/
theorem LnA.look {w : World} {base g d r : Nat} {A : Option Addr} {M : List (Int × Value)} {q : List Jb} {S : Int → List Jb} (h : LnA w base g d r A M q S) (k : Int) :
    ∃ v, (getM M k).getD (.slice none 0 0) = v ∧ OwnJ w base v (S k) ∧ ((v = .slice none 0 0 ∧ S k = [] ∧ ∀ p ∈ M, p.1 ≠ k) ∨ (k, v) ∈ M) := by
  refine ⟨_, rfl, ?_⟩
  unfold getM
  cases hq : fnd k M 0 with
  | none =>
    have hn := fnd_none k M 0 hq
    have h0 := h.rest k hn
    rw [h0]
    exact ⟨own_nil _ _ _ _, .inl ⟨rfl, rfl, hn⟩⟩
  | some p =>
    obtain ⟨i, v⟩ := p
    obtain ⟨_, hat⟩ := fnd_at k M 0 i v hq
    have hm : (k, v) ∈ M := List.mem_of_getElem? hat
    exact ⟨(h.rows _ hm).1, .inr hm⟩
theorem DqJ.len {w : World} {base g : Nat} {A : Option Addr} {l : List Jb} (h : DqJ w base g A l) : w.cell? ⟨g, 2, none⟩ = some (.int .i64 l.length) ∧ l.length ≤ 2097152 := by
  obtain ⟨R, f, h⟩ := h
  exact ⟨h.cells.2.2.1, Nat.le_trans h.rep.le h.cap⟩
set_option maxHeartbeats 1000000
theorem lnlen_calls (base g : Nat) (q : List Jb) (S : Int → List Jb) (F : Nat → Prop) (w : World) (h : Ln w base g q S F) :
    Calls Try.prog 12 #[.pointer (some ⟨g, 0, none⟩)] w fun e w' => e = .returned (.int .i64 q.length) ∧ w = w' := by
  obtain ⟨d, r, A, M, h, _⟩ := h
  obtain ⟨k0, k1, z0, z1⟩ := h.cells
  have HL := Aside0.mk (len_calls d q.length w h.dq.len.1)
  clear h
  go_enter Try.func12, Try.ntmps12
  go_wp2_with (first | (go_at_call 30; (with_reducible refine HL.out.mono ?_); rintro e w' ⟨rfl, rfl⟩))
  go_ret
  exact ⟨rfl, rfl⟩
theorem lnlen_nil (w : World) : Calls Try.prog 12 #[.pointer none] w fun e w' => e = .returned (.int .i64 0) ∧ w = w' := by
  go_enter Try.func12, Try.ntmps12
  go_wp2_with fail
  go_ret
  exact ⟨rfl, rfl⟩
theorem lnlen_zero (g : Nat) (w : World) (k0 : w.cell? ⟨g, 0, none⟩ = some (.pointer none)) : Calls Try.prog 12 #[.pointer (some ⟨g, 0, none⟩)] w fun e w' => e = .returned (.int .i64 0) ∧ w = w' := by
  have HL := Aside0.mk (len_nil w)
  go_enter Try.func12, Try.ntmps12
  go_wp2_with (first | (go_at_call 30; (with_reducible refine HL.out.mono ?_); rintro e w' ⟨rfl, rfl⟩))
  go_ret
  exact ⟨rfl, rfl⟩
theorem aside_calls (base g : Nat) (q : List Jb) (S : Int → List Jb) (F : Nat → Prop) (k : Int) (w : World) (h : Ln w base g q S F) :
    Calls Try.prog 13 #[.pointer (some ⟨g, 0, none⟩), .int .i64 k] w fun e w' => e = .returned (.int .i64 (S k).length) ∧ w = w' := by
  obtain ⟨d, r, A, M, h, _⟩ := h
  obtain ⟨k0, k1, z0, z1⟩ := h.cells
  obtain ⟨v, hv, ho, _⟩ := h.look k
  have hl := run_look h.map k
  rw [hv] at hl
  obtain ⟨A', c, rfl, _⟩ := ho.form
  clear h ho hv
  go_enter Try.func13, Try.ntmps13
  go_wp2_with fail
  go_ret
  exact ⟨rfl, rfl⟩
theorem aside_nil (k : Int) (w : World) : Calls Try.prog 13 #[.pointer none, .int .i64 k] w fun e w' => e = .returned (.int .i64 0) ∧ w = w' := by
  go_enter Try.func13, Try.ntmps13
  go_wp2_with fail
  go_ret
  exact ⟨rfl, rfl⟩
theorem lnall_calls (base g : Nat) (q : List Jb) (S : Int → List Jb) (F : Nat → Prop) (w : World) (h : Ln w base g q S F) :
    Calls Try.prog 24 #[.pointer (some ⟨g, 0, none⟩)] w fun e w' => ∃ v, e = .returned v ∧ OwnJ w' w.heap.size v q ∧ Below w.heap.size w w' := by
  obtain ⟨d, r, A, M, h, _⟩ := h
  obtain ⟨k0, k1, z0, z1⟩ := h.cells
  have HL := Aside0.mk (all_calls d base A q w h.dq)
  clear h
  go_enter Try.func24, Try.ntmps24
  go_wp2_with (first | (go_at_call 35; (with_reducible refine HL.out.mono ?_); rintro e w' ⟨v, rfl, hO, hB⟩; have HO := Aside0.mk hO; have HB := Aside0.mk hB; clear hO hB))
  go_ret
  exact ⟨_, rfl, HO.out, HB.out⟩
theorem lnall_nil (w : World) : Calls Try.prog 24 #[.pointer none] w fun e w' => e = .returned (.slice none 0 0) ∧ w = w' := by
  go_enter Try.func24, Try.ntmps24
  go_wp2_with fail
  go_ret
  exact ⟨rfl, rfl⟩
theorem ready_calls (base g : Nat) (q : List Jb) (S : Int → List Jb) (F : Nat → Prop) (w : World) (h : Ln w base g q S F) :
    Calls Try.prog 26 #[.pointer (some ⟨g, 0, none⟩)] w fun e w' => e = .returned (.bool true) ∧ w = w' := by
  obtain ⟨d, r, A, M, h, _⟩ := h
  obtain ⟨k0, k1, z0, z1⟩ := h.cells
  clear h
  go_enter Try.func26, Try.ntmps26
  go_wp2_with fail
  go_ret
  exact ⟨rfl, rfl⟩
theorem ready_nil (w : World) : Calls Try.prog 26 #[.pointer none] w fun e w' => e = .returned (.bool false) ∧ w = w' := by
  go_enter Try.func26, Try.ntmps26
  go_wp2_with fail
  go_ret
  exact ⟨rfl, rfl⟩
theorem map_event {P : Program} {ops : Array Oper} {rest : List Oper} {o : Oper} {a : Act} {Q : Exit → Act → World → Prop} {W : World} (hgd : o.guard = none) {N : Tmp} (_hd : o.dst = some N) {t : TypeId} (_ho : o.op = .makeMap t none)
    (hrun : (execOp a.eval o).run P W = .ok (.value (.map (some W.heap.size))) (W.alloc (.map #[] 0)))
    (h : ∀ g, g = W.heap.size → ∀ w1, w1.heap[g]? = some (.map #[] 0) → Below W.heap.size W w1 → wpList P ops Q rest (a.put o.dst (.map (some g))) w1) : wpList P ops Q (o :: rest) a W :=
  Kd.event_run hgd hrun (h _ rfl _ (blk_new W _) (below_alloc (Below.refl _ _) _))
theorem lnnew_calls (w : World) :
    Calls Try.prog 8 #[] w fun e w' => ∃ g F, e = .returned (.pointer (some ⟨g, 0, none⟩)) ∧ Ln w' w.heap.size g [] (fun _ => []) F ∧ Below w.heap.size w w' := by
  have HN := Aside0.mk (new_calls [] none 0 0 rfl w (fun h0 => absurd h0 (by simp)) (by simp))
  go_enter Try.func8, Try.ntmps8
  go_wp2_with (first | (go_at_call 25; (with_reducible refine HN.out.mono ?_); rintro e w1 ⟨d, A, rfl, hd, hb⟩; have DQ := Aside0.mk hd; have BB := Aside0.mk hb; clear hd hb HN) | ((with_reducible refine gate_dst (N := 2) rfl ?_); refine map_event ?hg (N := 2) ?hd (t := 52) ?ho ?hr ?_; (case hd => rfl); (case hg => rfl); (case ho => rfl); (case hr => rfl); intro r hr w2 hmap hb2; have HR := Aside0.mk hr; have HM := Aside0.mk hmap; have BM := Aside0.mk hb2; clear hr hmap hb2) | ((with_reducible refine gate_dst (N := 4) rfl ?_); refine box_event ?hg (N := 4) ?hd (cs := #[.pointer (some ⟨d, 0, none⟩), .map (some r)]) (t := 54) ?hr ?_; (case hd => rfl); (case hg => rfl); (case hr => first | (go_simp; done) | (go_simp; rfl)); intro g hg w3 hbox hb3; have HG := Aside0.mk hg; have HX := Aside0.mk hbox; have BX := Aside0.mk hb3; clear hbox hb3 hg))
  go_ret
  have hsz := BB.out.size
  have hsz2 := BM.out.size
  have hdq := (DQ.out.below BM.out).below BX.out
  have hmp : MapAt w3 r [] := ⟨#[], 0, old_blk HM.out BX.out, rfl⟩
  have hB := below_tr (below_tr BB.out BM.out) BX.out
  refine ⟨g, _, rfl, ⟨d, r, A, [], ⟨by rw [HG.out]; omega, by rw [HR.out]; omega, HX.out, hdq, hmp, (fun p hp => absurd hp (by simp)), List.Pairwise.nil, fun _ _ => rfl⟩, rfl⟩, hB⟩
end Go.Proofs.Ytnegagkjhnpgmaa.Sc
