/- A map from numbers to rows: its entries, and what is looked up, stored and deleted. -/
import Derived.Test.YtnegagkjhnpgmaaScAll
import Derived.MapKept
namespace Go.Proofs.Ytnegagkjhnpgmaa.Sc
open Go.RowKit Go.Proofs.YtnegagkjhnpgmaaW.PrintWords Go.Proofs.YtnegagkjhnpgmaaW.PrintMore Go.Proofs.YtnegagkjhnpgmaaW.PrintLast Go.Proofs.Ytnegagkjhnpgmaa.Dq
set_option linter.unusedVariables false
set_option linter.unusedSimpArgs false
/-- Where a key stands, and its value. -/
def fnd (k : Int) : List (Int × Value) → Nat → Option (Nat × Value)
  | [], _ => none
  | p :: r, i => if p.1 = k then some (i, p.2) else fnd k r (i + 1)
def Ent (l : List MapEntry) (M : List (Int × Value)) : Prop := l.map (fun e => (e.key, e.val)) = M.map (fun p => (Value.int .i64 p.1, p.2))
theorem find_int (k : Int) : ∀ (l : List MapEntry) (M : List (Int × Value)) (i : Nat), Ent l M → Instr.findNow (.int .i64) (.int .i64 k) l i = some (fnd k M i)
  | [], [], i, _ => rfl
  | [], p :: M, i, h => by simp [Ent] at h
  | e :: l, [], i, h => by simp [Ent] at h
  | e :: l, p :: M, i, h => by
    simp only [Ent, List.map_cons, List.cons.injEq, Prod.mk.injEq] at h
    obtain ⟨⟨h1, h2⟩, h3⟩ := h
    obtain ⟨r, hr, hr2⟩ := MapKept.sameNow_of_keys (d := .int .i64) (a := .int .i64 k) (b := e.key) rfl (by rw [h1]; rfl)
    unfold Instr.findNow fnd
    rw [hr]
    by_cases hk : p.1 = k
    · have : r = true := hr2.2 (by rw [h1, hk])
      subst this
      rw [if_pos hk, h2]
    · have : r = false := by
        cases r with
        | false => rfl
        | true =>
          have := hr2.1 rfl
          rw [h1] at this
          injection this with _ this
          exact absurd this.symm hk
      subst this
      rw [if_neg hk]
      exact find_int k l M (i + 1) h3
/-- A map lies at a block. -/
def MapAt (W : World) (r : Nat) (M : List (Int × Value)) : Prop := ∃ es clock, W.heap[r]? = some (.map es clock) ∧ Ent es.toList M
def getM (M : List (Int × Value)) (k : Int) : Option Value := (fnd k M 0).map (·.2)
def updM (M : List (Int × Value)) (k : Int) (v : Value) : List (Int × Value) := match fnd k M 0 with
  | some (i, _) => M.set i (k, v)
  | none => M ++ [(k, v)]
def delM (M : List (Int × Value)) (k : Int) : List (Int × Value) := match fnd k M 0 with
  | some (i, _) => M.eraseIdx i
  | none => M
theorem MapAt.below {W W1 : World} {r : Nat} {M : List (Int × Value)} (h : MapAt W r M) (hb : Below W.heap.size W W1) : MapAt W1 r M := by
  obtain ⟨es, clock, h1, h2⟩ := h
  exact ⟨es, clock, (hb.block r (blk_lt h1)).trans h1, h2⟩
theorem MapAt.lt {W : World} {r : Nat} {M : List (Int × Value)} (h : MapAt W r M) : r < W.heap.size := by
  obtain ⟨es, clock, h1, _⟩ := h
  exact blk_lt h1
theorem run_look {W : World} {r : Nat} {M : List (Int × Value)} (h : MapAt W r M) (k : Int) : (Instr.lookup 52 (.map (some r)) (.int .i64 k) false).run Try.prog W = .ok ((getM M k).getD (.slice none 0 0)) W := by
  obtain ⟨es, clock, h1, h2⟩ := h
  have hu := Try.underlying52
  have hk := Try.underlying3
  have hf := find_int k es.toList M 0 h2
  have hz : ((Try.prog.info? 36).map (·.zero)) = some (some (.slice none 0 0)) := by kernel_rfl
  obtain ⟨i0, hi, hz⟩ := Option.map_eq_some_iff.1 hz
  have hc : (Instr.checkKey es.isEmpty 10000 3 (.int .i64 k)).run Try.prog W = .ok () W := MapKept.run_checkKey (k := .int .i64 k) hk rfl _ 9999
  have hff := MapKept.run_findKey (P := Try.prog) (w := W) hk hf
  unfold Instr.lookup getM
  cases hq : fnd k M 0 with
  | none =>
    rw [hq] at hff
    simp [run_underlying hu, MapKept.run_getObj_map h1, hc, hff, Result.andThen, zeroValue, typeInfo, hi, hz]
  | some p =>
    rw [hq] at hff
    simp [run_underlying hu, MapKept.run_getObj_map h1, hc, hff, Result.andThen]
theorem run_look_nil (W : World) (k : Int) : (Instr.lookup 52 (.map none) (.int .i64 k) false).run Try.prog W = .ok (.slice none 0 0) W := by
  have hu := Try.underlying52
  have hk := Try.underlying3
  have hz : ((Try.prog.info? 36).map (·.zero)) = some (some (.slice none 0 0)) := by kernel_rfl
  obtain ⟨i0, hi, hz⟩ := Option.map_eq_some_iff.1 hz
  have hc : (Instr.checkKey true 10000 3 (.int .i64 k)).run Try.prog W = .ok () W := MapKept.run_checkKey (k := .int .i64 k) hk rfl _ 9999
  have hff := MapKept.run_findKey (P := Try.prog) (w := W) (l := []) hk (show Instr.findNow (.int .i64) (.int .i64 k) [] 0 = some none from rfl)
  unfold Instr.lookup
  simp [run_underlying hu, hc, hff, Result.andThen, zeroValue, typeInfo, hi, hz]
/-- A block that is set anew. -/
def oset (W : World) (r : Nat) (o : Obj) : World := { W with heap := W.heap.setIfInBounds r o }
theorem oset_other {W : World} {k r : Nat} (h : k ≠ r) (o : Obj) : (oset W r o).heap[k]? = W.heap[k]? := by
  unfold oset
  exact Array.getElem?_setIfInBounds_ne (fun e => h e.symm)
theorem oset_size (W : World) (r : Nat) (o : Obj) : (oset W r o).heap.size = W.heap.size := by simp [oset]
theorem oset_at {W : World} {r : Nat} (o : Obj) (h : r < W.heap.size) : (oset W r o).heap[r]? = some o := Array.getElem?_setIfInBounds_self_of_lt h
theorem oset_below {w0 W : World} {r : Nat} (h : Below w0.heap.size w0 W) (hr : w0.heap.size ≤ r) (o : Obj) : Below w0.heap.size w0 (oset W r o) :=
  ⟨h.os, h.tape, h.output, by rw [oset_size]; exact h.size, fun k hk => (oset_other (by omega) o).trans (h.block k hk)⟩
theorem fnd_at (k : Int) : ∀ (M : List (Int × Value)) (i0 i : Nat) (v : Value), fnd k M i0 = some (i, v) → i0 ≤ i ∧ M[i - i0]? = some (k, v)
  | [], i0, i, v, h => by cases h
  | p :: M, i0, i, v, h => by
    unfold fnd at h
    by_cases hk : p.1 = k
    · rw [if_pos hk] at h
      injection h with h
      injection h with h1 h2
      subst h1
      refine ⟨Nat.le_refl _, ?_⟩
      rw [Nat.sub_self, ← hk, ← h2]
      rfl
    · rw [if_neg hk] at h
      obtain ⟨h1, h2⟩ := fnd_at k M (i0 + 1) i v h
      refine ⟨by omega, ?_⟩
      rw [show i - i0 = (i - (i0 + 1)) + 1 by omega, List.getElem?_cons_succ]
      exact h2
theorem ent_at {es : Array MapEntry} {M : List (Int × Value)} (h : Ent es.toList M) (j : Nat) : (es[j]?).map (fun e => (e.key, e.val)) = (M[j]?).map (fun p => (Value.int .i64 p.1, p.2)) := by
  unfold Ent at h
  have := congrArg (fun l => l[j]?) h
  simpa using this
theorem ent_key {es : Array MapEntry} {M : List (Int × Value)} (h : Ent es.toList M) {i : Nat} {k : Int} {v : Value} (hat : M[i]? = some (k, v)) : (es[i]?).map (·.key) = some (.int .i64 k) := by
  have := ent_at h i
  rw [hat] at this
  cases he : es[i]? with
  | none => rw [he] at this; cases this
  | some e =>
    rw [he] at this
    injection this with this
    injection this with this _
    show some e.key = _
    rw [this]
theorem ent_mod {es : Array MapEntry} {M : List (Int × Value)} (h : Ent es.toList M) (i : Nat) (k : Int) (v : Value) : Ent (es.modify i fun e => { e with key := .int .i64 k, val := v }).toList (M.set i (k, v)) := by
  unfold Ent
  apply List.ext_getElem?
  intro j
  have hj := ent_at h j
  rw [List.getElem?_map, List.getElem?_map, Array.getElem?_toList, Array.getElem?_modify, List.getElem?_set]
  by_cases e : i = j
  · subst e
    rw [if_pos rfl, if_pos rfl]
    cases he : es[i]? with
    | none =>
      rw [he] at hj
      have hM : M[i]? = none := by
        cases hm : M[i]? with
        | none => rfl
        | some q => rw [hm] at hj; cases hj
      have := List.getElem?_eq_none_iff.1 hM
      rw [if_neg (by omega)]
      rfl
    | some x =>
      rw [he] at hj
      have hM : i < M.length := by
        cases hm : M[i]? with
        | none => rw [hm] at hj; cases hj
        | some q => exact (List.getElem?_eq_some_iff.1 hm).1
      rw [if_pos hM]
      rfl
  · rw [if_neg e, if_neg e]
    exact hj
theorem map_erase {α β : Type} (f : α → β) : ∀ (l : List α) (i : Nat), (l.eraseIdx i).map f = (l.map f).eraseIdx i
  | [], i => by simp
  | x :: l, 0 => rfl
  | x :: l, i + 1 => by
    simp only [List.eraseIdx_cons_succ, List.map_cons, map_erase f l i]
theorem ent_del {es : Array MapEntry} {M : List (Int × Value)} (h : Ent es.toList M) (i : Nat) : Ent (es.eraseIdxIfInBounds i).toList (M.eraseIdx i) := by
  unfold Ent at h ⊢
  rw [Array.toList_eraseIdxIfInBounds, map_erase, map_erase, h]
theorem run_upd {W : World} {r : Nat} {M : List (Int × Value)} (h : MapAt W r M) (k : Int) (v : Value) :
    ∃ o, (Instr.mapUpdate 52 (.map (some r)) (.int .i64 k) v).run Try.prog W = .ok () (oset W r o) ∧ MapAt (oset W r o) r (updM M k v) := by
  obtain ⟨es, clock, h1, h2⟩ := h
  have hu := Try.underlying52
  have hk := Try.underlying3
  have hf := find_int k es.toList M 0 h2
  have hc : (Instr.checkKey false 10000 3 (.int .i64 k)).run Try.prog W = .ok () W := MapKept.run_checkKey (k := .int .i64 k) hk rfl _ 9999
  have hff := MapKept.run_findKey (P := Try.prog) (w := W) hk hf
  have hlt := blk_lt h1
  unfold updM
  cases hq : fnd k M 0 with
  | none =>
    rw [hq] at hff
    refine ⟨.map (es.push { key := .int .i64 k, val := v, born := clock }) (clock + 1), ?_, _, _, oset_at _ hlt, ?_⟩
    · unfold Instr.mapUpdate oset
      simp [run_underlying hu, MapKept.run_getObj_map h1, hc, hff, Result.andThen, MapKept.run_setObj_map _ h1]
    · unfold Ent at h2 ⊢
      rw [Array.toList_push, List.map_append, List.map_append, h2]
      rfl
  | some p =>
    obtain ⟨i, v0⟩ := p
    rw [hq] at hff
    obtain ⟨_, hat⟩ := fnd_at k M 0 i v0 hq
    rw [Nat.sub_zero] at hat
    have hke : (es[i]?).map (·.key) = some (.int .i64 k) := ent_key h2 hat
    have hst : (Instr.keyThatStays (.int .i64 k) (.int .i64 k)).run Try.prog W = .ok (.int .i64 k) W := MapKept.run_keyThatStays (d := .int .i64) rfl
    refine ⟨.map (es.modify i fun e => { e with key := .int .i64 k, val := v }) clock, ?_, _, _, oset_at _ hlt, ent_mod h2 i k v⟩
    unfold Instr.mapUpdate oset
    simp [run_underlying hu, MapKept.run_getObj_map h1, hc, hff, Result.andThen, MapKept.run_setObj_map _ h1, hke, hst]
theorem run_del {W : World} {r : Nat} {M : List (Int × Value)} (h : MapAt W r M) (k : Int) (ty : TypeId) :
    ∃ o, (Builtin.delete_ #[52, 3] ty #[.map (some r), .int .i64 k]).run Try.prog W = .ok (.tuple #[]) (oset W r o) ∧ MapAt (oset W r o) r (delM M k) := by
  obtain ⟨es, clock, h1, h2⟩ := h
  have hu := Try.underlying52
  have hk := Try.underlying3
  have hf := find_int k es.toList M 0 h2
  have hc : (Instr.checkKey es.isEmpty 10000 3 (.int .i64 k)).run Try.prog W = .ok () W := MapKept.run_checkKey (k := .int .i64 k) hk rfl _ 9999
  have hff := MapKept.run_findKey (P := Try.prog) (w := W) hk hf
  have hlt := blk_lt h1
  unfold delM
  cases hq : fnd k M 0 with
  | none =>
    rw [hq] at hff
    refine ⟨.map es clock, ?_, _, _, oset_at _ hlt, h2⟩
    unfold oset
    simp [Builtin.delete_, run_underlying hu, MapKept.run_getObj_map h1, hc, hff, Result.andThen, MapKept.run_setObj_map _ h1]
  | some p =>
    obtain ⟨i, v0⟩ := p
    rw [hq] at hff
    refine ⟨.map (es.eraseIdxIfInBounds i) clock, ?_, _, _, oset_at _ hlt, ent_del h2 i⟩
    unfold oset
    simp [Builtin.delete_, run_underlying hu, MapKept.run_getObj_map h1, hc, hff, Result.andThen, MapKept.run_setObj_map _ h1]
theorem run_del_nil (W : World) (k : Int) (ty : TypeId) : (Builtin.delete_ #[52, 3] ty #[.map none, .int .i64 k]).run Try.prog W = .ok (.tuple #[]) W := by
  have hu := Try.underlying52
  have hk := Try.underlying3
  have hc : (Instr.checkKey true 10000 3 (.int .i64 k)).run Try.prog W = .ok () W := MapKept.run_checkKey (k := .int .i64 k) hk rfl _ 9999
  simp [Builtin.delete_, run_underlying hu, hc, Result.andThen]
end Go.Proofs.Ytnegagkjhnpgmaa.Sc
