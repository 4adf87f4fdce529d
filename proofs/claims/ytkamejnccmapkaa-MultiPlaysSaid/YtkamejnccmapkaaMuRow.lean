/- Rows that are read: of texts, and of rows as values. -/
import Derived.Test.YtkamejnccmapkaaX0
import Derived.Test.YtkamejnccmapkaaWWords
import Derived.Test.YtkamejnccmapkaaWMore
import Derived.Test.YtkamejnccmapkaaWLast
import Derived.Deep.RegionHeld3
import Derived.Deep.RegionLaw
namespace Go.Proofs.Ytkamejnccmapkaa.Mu
open Go.RowKit Go.Proofs.YtkamejnccmapkaaW.PrintWords Go.Proofs.YtkamejnccmapkaaW.PrintMore Go.Proofs.YtkamejnccmapkaaW.PrintLast
set_option linter.unusedVariables false
set_option linter.unusedSimpArgs false
theorem readsOf_of_C {w : World} {A : Option Addr} {n : Nat} {l : List ByteArray} (h : Kd.C Kd.string w A n l) : ReadsOf Value.string ByteArray.empty w A n l := by
  obtain ⟨h1, h2, h3⟩ := h
  refine ⟨h1, h2, fun hn => ?_⟩
  obtain ⟨ad, e, hc⟩ := h3 hn
  refine ⟨ad, e, fun j hj => ?_⟩
  obtain ⟨x, hx⟩ : ∃ x, l[j]? = some x := ⟨_, List.getElem?_eq_getElem (by omega)⟩
  obtain ⟨c, hl, hR, hcell⟩ := hc j x hx
  have hR' : c = [Value.string x] := hR
  have := hcell 0 (Value.string x) (by rw [hR']; rfl)
  rw [List.getD_eq_getElem?_getD, hx]
  simpa [show (Kd.sz Kd.string) = 1 from rfl] using this
theorem C_of_readsOf {w : World} {A : Option Addr} {n : Nat} {l : List ByteArray} (h : ReadsOf Value.string ByteArray.empty w A n l) : Kd.C Kd.string w A n l := by
  obtain ⟨h1, h2, h3⟩ := h
  refine ⟨h1, h2, fun hn => ?_⟩
  obtain ⟨ad, e, hc⟩ := h3 hn
  refine ⟨ad, e, fun j p hj => ?_⟩
  have hjl := (List.getElem?_eq_some_iff.1 hj).1
  refine ⟨[Value.string p], rfl, rfl, fun i u hu => ?_⟩
  have hi : i = 0 := by
    have := (List.getElem?_eq_some_iff.1 hu).1
    simpa using this
  subst hi
  have hu' : Value.string p = u := by simpa using hu
  subst hu'
  have := hc j (by omega)
  rw [List.getD_eq_getElem?_getD, hj] at this
  simpa [show (Kd.sz Kd.string) = 1 from rfl] using this
/-- A value that is a slice in which a list is read. -/
def Rd (w : World) (v : Value) (l : List ByteArray) : Prop := ∃ A c, v = .slice A l.length c ∧ l.length ≤ c ∧ ReadsOf Value.string ByteArray.empty w A l.length l
theorem Rd.below {w w1 : World} {v : Value} {l : List ByteArray} (h : Rd w v l) (hb : Below w.heap.size w w1) : Rd w1 v l := by
  obtain ⟨A, c, e, hc, hr⟩ := h
  exact ⟨A, c, e, hc, hr.below hb⟩
/-- Behind whatever turns nothing that lay below a mark, where the row lies below it. -/
theorem rd_of_own {w : World} {base : Nat} {v : Value} {l : List ByteArray} (h : w.ownsRow base 9 1 v l.length (encs Value.string l)) : Rd w v l := by
  obtain ⟨A, c, e, hr⟩ := own_reads_of (d := ByteArray.empty) h
  refine ⟨A, c, e, ?_, hr⟩
  subst e
  rcases h.2 with ⟨h1, h2⟩ | ⟨g', cap', cur, he, _, _, h1, h2, _⟩
  · rw [h2]; exact Nat.zero_le _
  · injection he with _ _ he
    omega
theorem rd_of_R {w : World} {base : Nat} {ok : Nat → Prop} {v : Value} {l : List ByteArray} (h : Kd.R Kd.string 9 w base ok v l) : Rd w v l := by
  obtain ⟨A, c, rfl⟩ := Kd.R_slice h
  have := Kd.R_reads' h
  exact ⟨A, c, rfl, this.2.1, readsOf_of_C this.2.2⟩
theorem rd_nil (w : World) : Rd w (.slice none 0 0) [] := ⟨none, 0, rfl, Nat.le_refl _, rfl, by simp, fun h => absurd h (by simp)⟩
theorem run_app (W : World) (base : Nat) (ty : TypeId) (v : Value) (xs ys : List ByteArray) (A : Option Addr) (m c : Nat) (HO : W.ownsRow base 9 1 v xs.length (encs Value.string xs)) (HR : ReadsOf Value.string ByteArray.empty W A m ys) (hbase : base ≤ W.heap.size)
    (hl : (xs.length + m) * 16 ≤ 140737488355328) :
    ∃ v1 w1, (Builtin.append_ #[23, 23] ty #[v, .slice A m c]).run Try.prog W = .ok v1 w1 ∧ w1.ownsRow base 9 1 v1 (xs ++ ys).length (encs Value.string (xs ++ ys)) ∧ W.grownBy w1 v.ownBlock := by
  obtain ⟨i0, hi, hz0, hz1, hz2⟩ := info_parts (show (Try.prog.info? 9).map (fun i => (i.zero, i.size, i.bytes)) = some (some (.string ByteArray.empty), 1, 16) by kernel_rfl)
  have hm : ys.length = m := HR.1
  rcases A with _ | ad
  · have h0 : m = 0 := by
      rcases Nat.eq_zero_or_pos m with h0 | h0
      · exact h0
      · obtain ⟨ad, h, _⟩ := HR.2.2 h0
        cases h
    subst h0
    obtain rfl : ys = [] := List.eq_nil_of_length_eq_zero hm
    refine ⟨v, W, ?_, by simpa using HO, World.grownBy.refl W _⟩
    rcases HO.2 with ⟨rfl, hn⟩ | ⟨g, cap, cur, rfl, _, _, hnc, _⟩
    · simp [Builtin.append_, run_underlying Try.underlying23, sizeOf, typeInfo, hi, Builtin.lenOf, Builtin.firstCells]
    · simp [Builtin.append_, run_underlying Try.underlying23, sizeOf, typeInfo, hi, Builtin.lenOf, Builtin.firstCells, hnc, storeCells]
  · have hcells : ∀ j u, (encs Value.string ys)[j]? = some u → W.cell? (ad.add j) = some u := by
      intro j u hu
      have hj : j < ys.length := by
        rcases Nat.lt_or_ge j ys.length with h | h
        · exact h
        · simp [encs, List.getElem?_eq_none h] at hu
      obtain ⟨ad', h', hc⟩ := HR.2.2 (by omega)
      injection h' with h'
      subst h'
      rw [encs_get (d := ByteArray.empty) ys j hj] at hu
      rw [← hu]
      exact hc j (by omega)
    obtain ⟨v1, w1, hr, h2, h3, _, h5⟩ := run_append_own_at (P := Try.prog) W base 23 ty 9 i0 (.string ByteArray.empty) 1 16 Try.underlying23 hi hz0 hz1 hz2 rfl (by omega) v xs.length (encs Value.string xs) HO ad m c (encs Value.string ys) (by simp [encs, hm]) hcells
      (by intro u hu; simp only [encs, List.mem_map] at hu; obtain ⟨q, _, rfl⟩ := hu; rfl) (by simp only [maxLen]; omega) hl hbase
    exact ⟨v1, w1, hr, by simpa [encs, hm] using h2, h3⟩
theorem step_app {ops : Array Oper} {o : Oper} {a : Act} {W : World} {K : Act → World → Prop} {Q : Exit → Act → World → Prop} {E : Prop} (hgd : o.guard = none) (s x : Operand)
    (ho : o.op = .call { callee := .builtin .append, args := #[s, x], argTypes := #[23, 23] })
    (w0 : World) (base : Nat) (v : Value) (xs ys : List ByteArray) (A : Option Addr) (m c : Nat) (hs : a.eval s = v) (hx : a.eval x = .slice A m c)
    (HO : W.ownsRow base 9 1 v xs.length (encs Value.string xs)) (HR : ReadsOf Value.string ByteArray.empty W A m ys) (HB : Below base w0 W) (hbase : base ≤ W.heap.size) (hl : (xs.length + m) * 16 ≤ 140737488355328)
    (h : ∀ v1 w1, w1.ownsRow base 9 1 v1 (xs ++ ys).length (encs Value.string (xs ++ ys)) → Below base w0 w1 → base ≤ w1.heap.size → K (a.put o.dst v1) w1) :
    if Region.wanted o (yielded ops a.tmps) = true then Oper.wp Try.prog o a W K Q else E := by
  have hw : Region.wanted o (yielded ops a.tmps) = true := by simp [Region.wanted, hgd]
  rw [if_pos hw]
  obtain ⟨v1, w1, hr, hO, hg⟩ := run_app W base o.type v xs ys A m c HO HR hbase hl
  unfold Oper.wp execOp
  simp only [ho, resolve, invoke, builtin, Sem.run_bind, Sem.run_pure, Result.andThen_ok, List.map_toArray, List.map_cons, List.map_nil, hs, hx, hr]
  exact h v1 w1 hO (HB.grown hg hbase (own_base HO)) (Nat.le_trans hbase hg.size)
theorem wp_app {ops : Array Oper} {rest : List Oper} {o : Oper} {a : Act} {W : World} {Q : Exit → Act → World → Prop} (hgd : o.guard = none) (s x : Operand)
    (ho : o.op = .call { callee := .builtin .append, args := #[s, x], argTypes := #[23, 23] })
    (w0 : World) (base : Nat) (v : Value) (xs ys : List ByteArray) (A : Option Addr) (m c : Nat) (hs : a.eval s = v) (hx : a.eval x = .slice A m c)
    (HO : W.ownsRow base 9 1 v xs.length (encs Value.string xs)) (HR : ReadsOf Value.string ByteArray.empty W A m ys) (HB : Below base w0 W) (hbase : base ≤ W.heap.size) (hl : (xs.length + m) * 16 ≤ 140737488355328)
    (h : ∀ v1 w1, w1.ownsRow base 9 1 v1 (xs ++ ys).length (encs Value.string (xs ++ ys)) → Below base w0 w1 → base ≤ w1.heap.size → wpList Try.prog ops Q rest (a.put o.dst v1) w1) :
    wpList Try.prog ops Q (o :: rest) a W := by
  obtain ⟨v1, w1, hr, hO, hg⟩ := run_app W base o.type v xs ys A m c HO HR hbase hl
  refine wpList_plain hgd fun K hK => ?_
  unfold Oper.wp execOp
  simp only [ho, resolve, invoke, builtin, Sem.run_bind, Sem.run_pure, Result.andThen_ok, List.map_toArray, List.map_cons, List.map_nil, hs, hx, hr]
  exact hK _ _ (h v1 w1 hO (HB.grown hg hbase (own_base HO)) (Nat.le_trans hbase hg.size))
/-- A row of one thing that has just been laid. -/
theorem reads_one (W : World) (x : ByteArray) : ReadsOf Value.string ByteArray.empty (W.alloc (.cells #[Value.string x] 9)) (some ⟨W.heap.size, 0, none⟩) 1 [x] := by
  refine ⟨rfl, by decide, fun _ => ⟨_, rfl, fun j hj => ?_⟩⟩
  have hj0 : j = 0 := by omega
  subst hj0
  rw [add_plain]
  exact (blk_cell (blk_new W (.cells #[Value.string x] 9)) 0).trans rfl
/-- A row as a value: where it lies, its length, its room. -/
structure SV where
  A : Option Addr
  n : Nat
  c : Nat
def encV (x : SV) : Value := .slice x.A x.n x.c
/-- A value that is a slice in which a list is read. -/
def Rd2 (w : World) (v : Value) (l : List SV) : Prop := ∃ A c, v = .slice A l.length c ∧ l.length ≤ c ∧ ReadsOf encV ⟨none, 0, 0⟩ w A l.length l
theorem Rd2.below {w w1 : World} {v : Value} {l : List SV} (h : Rd2 w v l) (hb : Below w.heap.size w w1) : Rd2 w1 v l := by
  obtain ⟨A, c, e, hc, hr⟩ := h
  exact ⟨A, c, e, hc, hr.below hb⟩
/-- Behind whatever turns nothing that lay below a mark, where the row lies below it. -/
theorem rd_of_own2 {w : World} {base : Nat} {v : Value} {l : List SV} (h : w.ownsRow base 23 1 v l.length (encs encV l)) : Rd2 w v l := by
  obtain ⟨A, c, e, hr⟩ := own_reads_of (d := ⟨none, 0, 0⟩) h
  refine ⟨A, c, e, ?_, hr⟩
  subst e
  rcases h.2 with ⟨h1, h2⟩ | ⟨g', cap', cur, he, _, _, h1, h2, _⟩
  · rw [h2]; exact Nat.zero_le _
  · injection he with _ _ he
    omega
theorem rd_nil2 (w : World) : Rd2 w (.slice none 0 0) [] := ⟨none, 0, rfl, Nat.le_refl _, rfl, by simp, fun h => absurd h (by simp)⟩
theorem run_app2 (W : World) (base : Nat) (ty : TypeId) (v : Value) (xs ys : List SV) (A : Option Addr) (m c : Nat) (HO : W.ownsRow base 23 1 v xs.length (encs encV xs)) (HR : ReadsOf encV ⟨none, 0, 0⟩ W A m ys) (hbase : base ≤ W.heap.size)
    (hl : (xs.length + m) * 24 ≤ 140737488355328) :
    ∃ v1 w1, (Builtin.append_ #[22, 22] ty #[v, .slice A m c]).run Try.prog W = .ok v1 w1 ∧ w1.ownsRow base 23 1 v1 (xs ++ ys).length (encs encV (xs ++ ys)) ∧ W.grownBy w1 v.ownBlock := by
  obtain ⟨i0, hi, hz0, hz1, hz2⟩ := info_parts (show (Try.prog.info? 23).map (fun i => (i.zero, i.size, i.bytes)) = some (some (.slice none 0 0), 1, 24) by kernel_rfl)
  have hm : ys.length = m := HR.1
  rcases A with _ | ad
  · have h0 : m = 0 := by
      rcases Nat.eq_zero_or_pos m with h0 | h0
      · exact h0
      · obtain ⟨ad, h, _⟩ := HR.2.2 h0
        cases h
    subst h0
    obtain rfl : ys = [] := List.eq_nil_of_length_eq_zero hm
    refine ⟨v, W, ?_, by simpa using HO, World.grownBy.refl W _⟩
    rcases HO.2 with ⟨rfl, hn⟩ | ⟨g, cap, cur, rfl, _, _, hnc, _⟩
    · simp [Builtin.append_, run_underlying Try.underlying22, sizeOf, typeInfo, hi, Builtin.lenOf, Builtin.firstCells]
    · simp [Builtin.append_, run_underlying Try.underlying22, sizeOf, typeInfo, hi, Builtin.lenOf, Builtin.firstCells, hnc, storeCells]
  · have hcells : ∀ j u, (encs encV ys)[j]? = some u → W.cell? (ad.add j) = some u := by
      intro j u hu
      have hj : j < ys.length := by
        rcases Nat.lt_or_ge j ys.length with h | h
        · exact h
        · simp [encs, List.getElem?_eq_none h] at hu
      obtain ⟨ad', h', hc⟩ := HR.2.2 (by omega)
      injection h' with h'
      subst h'
      rw [encs_get (d := ⟨none, 0, 0⟩) ys j hj] at hu
      rw [← hu]
      exact hc j (by omega)
    obtain ⟨v1, w1, hr, h2, h3, _, h5⟩ := run_append_own_at (P := Try.prog) W base 22 ty 23 i0 (.slice none 0 0) 1 24 Try.underlying22 hi hz0 hz1 hz2 rfl (by omega) v xs.length (encs encV xs) HO ad m c (encs encV ys) (by simp [encs, hm]) hcells
      (by intro u hu; simp only [encs, List.mem_map] at hu; obtain ⟨q, _, rfl⟩ := hu; rfl) (by simp only [maxLen]; omega) hl hbase
    exact ⟨v1, w1, hr, by simpa [encs, hm] using h2, h3⟩
theorem step_app2 {ops : Array Oper} {o : Oper} {a : Act} {W : World} {K : Act → World → Prop} {Q : Exit → Act → World → Prop} {E : Prop} (hgd : o.guard = none) (s x : Operand)
    (ho : o.op = .call { callee := .builtin .append, args := #[s, x], argTypes := #[22, 22] })
    (w0 : World) (base : Nat) (v : Value) (xs ys : List SV) (A : Option Addr) (m c : Nat) (hs : a.eval s = v) (hx : a.eval x = .slice A m c)
    (HO : W.ownsRow base 23 1 v xs.length (encs encV xs)) (HR : ReadsOf encV ⟨none, 0, 0⟩ W A m ys) (HB : Below base w0 W) (hbase : base ≤ W.heap.size) (hl : (xs.length + m) * 24 ≤ 140737488355328)
    (h : ∀ v1 w1, w1.ownsRow base 23 1 v1 (xs ++ ys).length (encs encV (xs ++ ys)) → Below base w0 w1 → base ≤ w1.heap.size → K (a.put o.dst v1) w1) :
    if Region.wanted o (yielded ops a.tmps) = true then Oper.wp Try.prog o a W K Q else E := by
  have hw : Region.wanted o (yielded ops a.tmps) = true := by simp [Region.wanted, hgd]
  rw [if_pos hw]
  obtain ⟨v1, w1, hr, hO, hg⟩ := run_app2 W base o.type v xs ys A m c HO HR hbase hl
  unfold Oper.wp execOp
  simp only [ho, resolve, invoke, builtin, Sem.run_bind, Sem.run_pure, Result.andThen_ok, List.map_toArray, List.map_cons, List.map_nil, hs, hx, hr]
  exact h v1 w1 hO (HB.grown hg hbase (own_base HO)) (Nat.le_trans hbase hg.size)
theorem wp_app2 {ops : Array Oper} {rest : List Oper} {o : Oper} {a : Act} {W : World} {Q : Exit → Act → World → Prop} (hgd : o.guard = none) (s x : Operand)
    (ho : o.op = .call { callee := .builtin .append, args := #[s, x], argTypes := #[22, 22] })
    (w0 : World) (base : Nat) (v : Value) (xs ys : List SV) (A : Option Addr) (m c : Nat) (hs : a.eval s = v) (hx : a.eval x = .slice A m c)
    (HO : W.ownsRow base 23 1 v xs.length (encs encV xs)) (HR : ReadsOf encV ⟨none, 0, 0⟩ W A m ys) (HB : Below base w0 W) (hbase : base ≤ W.heap.size) (hl : (xs.length + m) * 24 ≤ 140737488355328)
    (h : ∀ v1 w1, w1.ownsRow base 23 1 v1 (xs ++ ys).length (encs encV (xs ++ ys)) → Below base w0 w1 → base ≤ w1.heap.size → wpList Try.prog ops Q rest (a.put o.dst v1) w1) :
    wpList Try.prog ops Q (o :: rest) a W := by
  obtain ⟨v1, w1, hr, hO, hg⟩ := run_app2 W base o.type v xs ys A m c HO HR hbase hl
  refine wpList_plain hgd fun K hK => ?_
  unfold Oper.wp execOp
  simp only [ho, resolve, invoke, builtin, Sem.run_bind, Sem.run_pure, Result.andThen_ok, List.map_toArray, List.map_cons, List.map_nil, hs, hx, hr]
  exact hK _ _ (h v1 w1 hO (HB.grown hg hbase (own_base HO)) (Nat.le_trans hbase hg.size))
/-- A row of one thing that has just been laid. -/
theorem reads_one2 (W : World) (x : SV) : ReadsOf encV ⟨none, 0, 0⟩ (W.alloc (.cells #[encV x] 23)) (some ⟨W.heap.size, 0, none⟩) 1 [x] := by
  refine ⟨rfl, by decide, fun _ => ⟨_, rfl, fun j hj => ?_⟩⟩
  have hj0 : j = 0 := by omega
  subst hj0
  rw [add_plain]
  exact (blk_cell (blk_new W (.cells #[encV x] 23)) 0).trans rfl
theorem wp_app2g {ops : Array Oper} {rest : List Oper} {o : Oper} {a : Act} {W : World} {Q : Exit → Act → World → Prop} (hgd : o.guard = none) (s x : Operand)
    (ho : o.op = .call { callee := .builtin .append, args := #[s, x], argTypes := #[22, 22] })
    (w0 : World) (base : Nat) (v : Value) (xs ys : List SV) (A : Option Addr) (m c : Nat) (hs : a.eval s = v) (hx : a.eval x = .slice A m c)
    (HO : W.ownsRow base 23 1 v xs.length (encs encV xs)) (HR : ReadsOf encV ⟨none, 0, 0⟩ W A m ys) (HB : Below base w0 W) (hbase : base ≤ W.heap.size) (hl : (xs.length + m) * 24 ≤ 140737488355328)
    (h : ∀ v1 w1, w1.ownsRow base 23 1 v1 (xs ++ ys).length (encs encV (xs ++ ys)) → Below base w0 w1 → W.grownBy w1 v.ownBlock → wpList Try.prog ops Q rest (a.put o.dst v1) w1) :
    wpList Try.prog ops Q (o :: rest) a W := by
  obtain ⟨v1, w1, hr, hO, hg⟩ := run_app2 W base o.type v xs ys A m c HO HR hbase hl
  refine wpList_plain hgd fun K hK => ?_
  unfold Oper.wp execOp
  simp only [ho, resolve, invoke, builtin, Sem.run_bind, Sem.run_pure, Result.andThen_ok, List.map_toArray, List.map_cons, List.map_nil, hs, hx, hr]
  exact hK _ _ (h v1 w1 hO (HB.grown hg hbase (own_base HO)) hg)
end Go.Proofs.Ytkamejnccmapkaa.Mu
