/- A line's jobs in memory: four cells an element; a room of them. -/
import Derived.Test.YtnegagkjhnpgmaaDqMath
import Derived.Test.YtnegagkjhnpgmaaProg
import Derived.Laws.IdiomCopy
import Derived.Test.YtnegagkjhnpgmaaWWords
import Derived.Test.YtnegagkjhnpgmaaWMore
import Derived.Test.YtnegagkjhnpgmaaWLast
namespace Go.Proofs.Ytnegagkjhnpgmaa.Sc
open Go.RowKit Go.Proofs.YtnegagkjhnpgmaaW.PrintWords Go.Proofs.YtnegagkjhnpgmaaW.PrintMore Go.Proofs.YtnegagkjhnpgmaaW.PrintLast Go.Proofs.Ytnegagkjhnpgmaa.Dq
set_option linter.unusedVariables false
set_option linter.unusedSimpArgs false
/-- A job, as it lies: its texts by their row's value. -/
structure Jb where
  h : Int
  A : Option Addr
  n : Nat
  c : Nat
  sz : Int
  ft : ByteArray
def Jb.z : Jb := ⟨0, none, 0, 0, 0, ⟨#[]⟩⟩
def jL (x : Jb) : List Value := [.int .i64 x.h, .slice x.A x.n x.c, .int .i64 x.sz, .string x.ft]
def flat (R : List Jb) : List Value := R.flatMap jL
theorem flat_nil : flat [] = [] := rfl
theorem flat_cons (x : Jb) (R : List Jb) : flat (x :: R) = .int .i64 x.h :: .slice x.A x.n x.c :: .int .i64 x.sz :: .string x.ft :: flat R := rfl
theorem flat_len (R : List Jb) : (flat R).length = R.length * 4 := by
  induction R with
  | nil => rfl
  | cons x R ih => rw [flat_cons]; simp only [List.length_cons, ih]; omega
theorem flat_append (R S : List Jb) : flat (R ++ S) = flat R ++ flat S := List.flatMap_append
theorem flat_get : ∀ (R : List Jb) (i : Nat) (hi : i < R.length), (flat R)[i * 4]? = some (.int .i64 (R[i]'hi).h) ∧ (flat R)[i * 4 + 1]? = some (.slice (R[i]'hi).A (R[i]'hi).n (R[i]'hi).c) ∧ (flat R)[i * 4 + 2]? = some (.int .i64 (R[i]'hi).sz) ∧ (flat R)[i * 4 + 3]? = some (.string (R[i]'hi).ft)
  | x :: R, 0, _ => ⟨rfl, rfl, rfl, rfl⟩
  | x :: R, i + 1, hi => by
    have := flat_get R i (by simpa using hi)
    rw [flat_cons]
    have e : ∀ j, (i + 1) * 4 + j = (i * 4 + j) + 1 + 1 + 1 + 1 := fun j => by omega
    have e0 : (i + 1) * 4 = i * 4 + 1 + 1 + 1 + 1 := by omega
    rw [e, e, e, e0]
    simp only [List.getElem?_cons_succ, List.getElem_cons_succ]
    exact this
theorem flat_set : ∀ (R : List Jb) (i : Nat) (hi : i < R.length) (x : Jb), ((((flat R).set (i * 4) (.int .i64 x.h)).set (i * 4 + 1) (.slice x.A x.n x.c)).set (i * 4 + 2) (.int .i64 x.sz)).set (i * 4 + 3) (.string x.ft) = flat (R.set i x)
  | y :: R, 0, _, x => rfl
  | y :: R, i + 1, hi, x => by
    have := flat_set R i (by simpa using hi) x
    have e : ∀ j, (i + 1) * 4 + j = (i * 4 + j) + 1 + 1 + 1 + 1 := fun j => by omega
    have e0 : (i + 1) * 4 = i * 4 + 1 + 1 + 1 + 1 := by omega
    rw [e, e, e, e0]
    simp only [flat_cons, List.set_cons_succ]
    rw [this]
/-- A room of jobs lies at a block. -/
def Room (W : World) (r : Nat) (R : List Jb) : Prop := W.heap[r]? = some (.cells (flat R).toArray 29 (0, 0))
def s4 (W : World) (r i : Nat) (x : Jb) : World := (((W.setCell ⟨r, i * 4, none⟩ (.int .i64 x.h)).setCell ⟨r, i * 4 + 1, none⟩ (.slice x.A x.n x.c)).setCell ⟨r, i * 4 + 2, none⟩ (.int .i64 x.sz)).setCell ⟨r, i * 4 + 3, none⟩ (.string x.ft)
theorem Room.below {W W1 : World} {r : Nat} {R : List Jb} (h : Room W r R) (hb : Below W.heap.size W W1) : Room W1 r R := (hb.block r (blk_lt h)).trans h
theorem Room.at {W : World} {r : Nat} {R : List Jb} (h : Room W r R) (i : Nat) (hi : i < R.length) :
    W.cell? ⟨r, i * 4, none⟩ = some (.int .i64 (R[i]'hi).h) ∧ W.cell? ⟨r, i * 4 + 1, none⟩ = some (.slice (R[i]'hi).A (R[i]'hi).n (R[i]'hi).c) ∧ W.cell? ⟨r, i * 4 + 2, none⟩ = some (.int .i64 (R[i]'hi).sz) ∧ W.cell? ⟨r, i * 4 + 3, none⟩ = some (.string (R[i]'hi).ft) := by
  obtain ⟨h0, h1, h2, h3⟩ := flat_get R i hi
  refine ⟨(blk_cell h _).trans ?_, (blk_cell h _).trans ?_, (blk_cell h _).trans ?_, (blk_cell h _).trans ?_⟩ <;> rw [List.getElem?_toArray] <;> assumption
theorem Room.free {W : World} {r : Nat} {R : List Jb} (h : Room W r R) (j : Nat) : W.frozen? ⟨r, j, none⟩ = false := blk_frozen h j
theorem heap_other {w : World} {k g j : Nat} (h : k ≠ g) (v : Value) : (w.setCell ⟨g, j, none⟩ v).heap[k]? = w.heap[k]? := Below.heap_setCell w ⟨g, j, none⟩ v k h
theorem s4_other {W : World} {k r i : Nat} (h : k ≠ r) (x : Jb) : (s4 W r i x).heap[k]? = W.heap[k]? := by
  unfold s4
  rw [heap_other h, heap_other h, heap_other h, heap_other h]
theorem s4_below {w0 W : World} {r i : Nat} (h : Below w0.heap.size w0 W) (hr : w0.heap.size ≤ r) (x : Jb) : Below w0.heap.size w0 (s4 W r i x) := below_set (below_set (below_set (below_set h hr) hr) hr) hr
theorem set_list (l : List Value) (i : Nat) (v : Value) : l.toArray.setIfInBounds i v = (l.set i v).toArray := by simp
theorem Room.set {W : World} {r : Nat} {R : List Jb} (h : Room W r R) (i : Nat) (hi : i < R.length) (x : Jb) : Room (s4 W r i x) r (R.set i x) := by
  unfold s4 Room
  rw [← flat_set R i hi x]
  exact blk_put (blk_put (blk_put (blk_put h _ _ (set_list _ _ _)) _ _ (set_list _ _ _)) _ _ (set_list _ _ _)) _ _ (set_list _ _ _)
/-! ### many cells at once -/
/-- Some cells of a row anew, from a place on. -/
def setFrom (cs : Array Value) : Nat → List Value → Array Value
  | _, [] => cs
  | o, v :: vs => setFrom (cs.setIfInBounds o v) (o + 1) vs
theorem setFrom_size : ∀ (vs : List Value) (cs : Array Value) (o : Nat), (setFrom cs o vs).size = cs.size
  | [], cs, o => rfl
  | v :: vs, cs, o => by rw [setFrom, setFrom_size vs]; simp
theorem setFrom_at : ∀ (vs : List Value) (cs : Array Value) (o i : Nat), i < cs.size → (setFrom cs o vs)[i]? = if o ≤ i ∧ i < o + vs.length then vs[i - o]? else cs[i]?
  | [], cs, o, i, hi => by
    rw [setFrom, if_neg (by simp only [List.length_nil]; omega)]
  | v :: vs, cs, o, i, hi => by
    rw [setFrom, setFrom_at vs _ _ i (by simpa using hi)]
    by_cases h : i = o
    · subst h
      rw [if_neg (by omega), if_pos (by simp), Nat.sub_self]
      rw [Array.getElem?_setIfInBounds_self_of_lt hi]
      rfl
    · by_cases h2 : o + 1 ≤ i ∧ i < o + 1 + vs.length
      · rw [if_pos h2, if_pos (by simp only [List.length_cons]; omega), show i - o = (i - (o + 1)) + 1 by omega, List.getElem?_cons_succ]
      · rw [if_neg h2, if_neg (by simp only [List.length_cons]; omega), Array.getElem?_setIfInBounds_ne (by omega)]
theorem heap_setCells {t : TypeId} {g : Nat} : ∀ (vs : List Value) (o : Nat) (W : World) (cs : Array Value), W.heap[g]? = some (.cells cs t (0, 0)) → (W.setCells g o vs).heap[g]? = some (.cells (setFrom cs o vs) t (0, 0))
  | [], o, W, cs, h => h
  | v :: vs, o, W, cs, h => by
    rw [World.setCells, setFrom]
    exact heap_setCells vs (o + 1) _ _ (blk_put h o v rfl)
theorem setCells_below {w0 : World} {g : Nat} (hg : w0.heap.size ≤ g) : ∀ (vs : List Value) (o : Nat) (W : World), Below w0.heap.size w0 W → Below w0.heap.size w0 (W.setCells g o vs)
  | [], o, W, h => h
  | v :: vs, o, W, h => by
    rw [World.setCells]
    exact setCells_below hg vs (o + 1) _ (below_set h hg)
theorem setCells_other {k g : Nat} (hk : k ≠ g) : ∀ (vs : List Value) (o : Nat) (W : World), (W.setCells g o vs).heap[k]? = W.heap[k]?
  | [], o, W => rfl
  | v :: vs, o, W => by
    rw [World.setCells, setCells_other hk vs]
    exact Below.heap_setCell W ⟨g, o, none⟩ v k hk
theorem setFrom_list (cs : Array Value) (o : Nat) (vs : List Value) (h : o + vs.length ≤ cs.size) : setFrom cs o vs = (cs.toList.take o ++ vs ++ cs.toList.drop (o + vs.length)).toArray := by
  apply Array.ext_getElem?
  intro i
  by_cases hi : i < cs.size
  · rw [setFrom_at _ _ _ _ hi]
    conv => rhs; rw [List.getElem?_toArray]
    have hlt : (cs.toList.take o).length = o := by rw [List.length_take, Array.length_toList]; omega
    by_cases h1 : i < o
    · rw [if_neg (by omega), List.append_assoc, List.getElem?_append_left (by omega), List.getElem?_take_of_lt h1, Array.getElem?_toList]
    · by_cases h2 : i < o + vs.length
      · rw [if_pos ⟨by omega, h2⟩, List.getElem?_append_left (by rw [List.length_append]; omega), List.getElem?_append_right (by omega), hlt]
      · rw [if_neg (by omega), List.getElem?_append_right (by rw [List.length_append]; omega), List.length_append, hlt, List.getElem?_drop, show o + vs.length + (i - (o + vs.length)) = i by omega, Array.getElem?_toList]
  · rw [Array.getElem?_eq_none (by rw [setFrom_size]; omega), Array.getElem?_eq_none (by simp; omega)]
theorem flat_take : ∀ (R : List Jb) (k : Nat), (flat R).take (k * 4) = flat (R.take k)
  | [], k => by simp [flat]
  | x :: R, 0 => by simp [flat]
  | x :: R, k + 1 => by
    rw [flat_cons, show (k + 1) * 4 = k * 4 + 1 + 1 + 1 + 1 by omega]
    simp only [List.take_succ_cons, flat_take R k, flat_cons]
theorem flat_drop : ∀ (R : List Jb) (k : Nat), (flat R).drop (k * 4) = flat (R.drop k)
  | [], k => by simp [flat]
  | x :: R, 0 => by simp [flat]
  | x :: R, k + 1 => by
    rw [flat_cons, show (k + 1) * 4 = k * 4 + 1 + 1 + 1 + 1 by omega]
    simp only [List.drop_succ_cons, flat_drop R k]
def spl (Z : List Jb) (o : Nat) (X : List Jb) : List Jb := Z.take o ++ X ++ Z.drop (o + X.length)
theorem spl_len (Z : List Jb) (o : Nat) (X : List Jb) (h : o + X.length ≤ Z.length) : (spl Z o X).length = Z.length := by simp [spl]; omega
theorem flat_spl (Z : List Jb) (o : Nat) (X : List Jb) (h : o + X.length ≤ Z.length) : setFrom (flat Z).toArray (o * 4) (flat X) = (flat (spl Z o X)).toArray := by
  rw [setFrom_list _ _ _ (by rw [flat_len, List.size_toArray, flat_len]; omega)]
  unfold spl
  rw [flat_append, flat_append, flat_len, List.toList_toArray, flat_take, show o * 4 + X.length * 4 = (o + X.length) * 4 by omega, flat_drop]
theorem flat_one : ∀ (R : List Jb), ∀ u ∈ flat R, u.oneCell' = true
  | [], u, hu => by cases hu
  | x :: R, u, hu => by
    rw [flat_cons] at hu
    simp only [List.mem_cons] at hu
    rcases hu with rfl | rfl | rfl | rfl | hu
    · rfl
    · rfl
    · rfl
    · rfl
    · exact flat_one R u hu
theorem infoJ : (Try.prog.info? 29).map (fun i => (i.zero, i.size, i.bytes)) = some (some (.agg #[.int .i64 0, .slice none 0 0, .int .i64 0, .string ⟨#[]⟩]), 4, 56) := by kernel_rfl
theorem sizeJ : (Try.prog.info? 29).map (·.size) = some 4 := by kernel_rfl
/-- A row of jobs that is read. -/
def Reads (W : World) (A : Option Addr) (R : List Jb) : Prop := 0 < R.length → ∃ ad, A = some ad ∧ ∀ j v, (flat R)[j]? = some v → W.cell? (ad.add j) = some v
theorem cell_below {w w1 : World} {a : Addr} {v : Value} (h : w.cell? a = some v) (hb : Below w.heap.size w w1) : w1.cell? a = some v := by
  have hlt := World.block_lt_of_cell? w a h
  rw [← h]
  unfold World.cell?
  rw [hb.block _ hlt]
theorem Reads.below {W W1 : World} {A : Option Addr} {R : List Jb} (h : Reads W A R) (hb : Below W.heap.size W W1) : Reads W1 A R := fun h0 => by
  obtain ⟨ad, e, hc⟩ := h h0
  exact ⟨ad, e, fun j v hj => cell_below (hc j v hj) hb⟩
theorem run_copyJ (w : World) (ty : TypeId) (g o dLen dCap : Nat) (A : Option Addr) (sLen sCap n : Nat) (Z X : List Jb) (hg : Room w g Z) (hn : n = Nat.min sLen dLen) (hX : X.length = n) (hs : Reads w A X) (hfit : o + n ≤ Z.length) :
    ∃ w1, (Builtin.copy_ #[36, 36] ty #[.slice (some ⟨g, o * 4, none⟩) dLen dCap, .slice A sLen sCap]).run Try.prog w = .ok (goInt n) w1 ∧ Room w1 g (spl Z o X) ∧ (∀ k, k ≠ g → w1.heap[k]? = w.heap[k]?) ∧ (∀ w0 : World, w0.heap.size ≤ g → Below w0.heap.size w0 w → Below w0.heap.size w0 w1) := by
  have hu := Try.underlying36
  obtain ⟨i0, hi, hzz⟩ := Option.map_eq_some_iff.1 sizeJ
  by_cases h0 : n = 0
  · subst h0
    have hX0 : X = [] := List.length_eq_zero_iff.1 hX
    subst hX0
    refine ⟨w, ?_, ?_, fun k _ => rfl, fun w0 _ h => h⟩
    · have hl : ∀ (x : Addr), (loadCells x 0).run Try.prog w = .ok #[] w := fun x => by simpa using run_loadCells_list (P := Try.prog) w x [] (by simp)
      cases A <;> simp [Builtin.copy_, run_underlying hu, Builtin.lenOf, Builtin.firstCells, sizeOf, typeInfo, hi, hzz, ← hn, storeCells, hl]
    · unfold spl
      simpa using hg
  · obtain ⟨ad, e, hc⟩ := hs (by omega)
    subst e
    have hfl : (flat X).length = n * 4 := by rw [flat_len, hX]
    refine ⟨w.setCells g (o * 4) (flat X), ?_, ?_, fun k hk => setCells_other hk _ _ _, fun w0 hw h => setCells_below hw _ _ _ h⟩
    · have hl := run_loadCells_list (P := Try.prog) w ad (flat X) hc
      have hst := run_storeCells_cells (P := Try.prog) g (o * 4) (flat X) 0 w
        (fun j hj => by
          rw [Nat.add_zero, blk_cell hg]
          rw [hfl] at hj
          have : o * 4 + j < (flat Z).toArray.size := by rw [List.size_toArray, flat_len]; omega
          rw [Array.getElem?_eq_getElem this]; rfl)
        (fun j hj => blk_frozen hg _) (flat_one X)
      rw [hfl] at hl
      simp [Builtin.copy_, run_underlying hu, Builtin.lenOf, Builtin.firstCells, sizeOf, typeInfo, hi, hzz, ← hn, hl, hst]
    · have := heap_setCells (flat X) (o * 4) w _ hg
      unfold Room
      rw [this, flat_spl Z o X (by omega)]
end Go.Proofs.Ytnegagkjhnpgmaa.Sc
