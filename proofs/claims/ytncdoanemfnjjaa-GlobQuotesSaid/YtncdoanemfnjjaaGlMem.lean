/- The document's parts as they lie in memory (a struct of 257 cells), and the events of their walks. -/
import Derived.Test.YtncdoanemfnjjaaGlParts
import Derived.Deep.MidRow
import Derived.Deep.RegionHeld3
namespace Go.Proofs.Ytncdoanemfnjjaa.Gl
open Go.RowKit Go.Proofs.YtncdoanemfnjjaaW.PrintWords Go.Proofs.YtncdoanemfnjjaaW.PrintMore Go.Proofs.YtncdoanemfnjjaaW.PrintLast
set_option linter.unusedVariables false
set_option linter.unusedSimpArgs false
/-- A part's cells. -/
def pcL (k : Int) (h : Nat → Bool) : List Value := Value.int .i64 k :: (List.range 256).map (fun c => Value.bool (h c))
def pcA (k : Int) (h : Nat → Bool) : Array Value := (pcL k h).toArray
def noH : Nat → Bool := fun _ => false
theorem pcL_len (k : Int) (h : Nat → Bool) : (pcL k h).length = 257 := by simp [pcL]
theorem pcA_size (k : Int) (h : Nat → Bool) : (pcA k h).size = 257 := by rw [pcA, List.size_toArray]; exact pcL_len k h
theorem pcA_0 (k : Int) (h : Nat → Bool) : (pcA k h)[0]? = some (.int .i64 k) := rfl
theorem pcL_at (k : Int) (h : Nat → Bool) (c : Nat) (hc : c < 256) : (pcL k h)[1 + c]? = some (.bool (h c)) := by
  rw [Nat.add_comm 1 c]
  unfold pcL
  rw [List.getElem?_cons_succ]
  simp [hc]
theorem pcA_at (k : Int) (h : Nat → Bool) (c : Nat) (hc : c < 256) : (pcA k h)[1 + c]? = some (.bool (h c)) := by
  unfold pcA
  rw [List.getElem?_toArray]
  exact pcL_at k h c hc
theorem pcL_one (k : Int) (h : Nat → Bool) : ∀ u ∈ pcL k h, u.oneCell' = true := by
  intro u hu
  unfold pcL at hu
  rcases List.mem_cons.1 hu with rfl | hu
  · rfl
  · obtain ⟨c, _, rfl⟩ := List.mem_map.1 hu
    rfl
theorem pcA_congr {k : Int} {h h' : Nat → Bool} (e : ∀ c, c < 256 → h c = h' c) : pcA k h = pcA k h' := by
  unfold pcA pcL
  congr 2
  exact List.map_congr_left (fun c hc => by rw [e c (List.mem_range.1 hc)])
/-- One byte more, or not. -/
def updH (h : Nat → Bool) (c : Nat) (b : Bool) : Nat → Bool := fun d => if d = c then b else h d
theorem pcA_set (k : Int) (h : Nat → Bool) (c : Nat) (hc : c < 256) (b : Bool) : (pcA k h).setIfInBounds (1 + c) (.bool b) = pcA k (updH h c b) := by
  apply Array.ext'
  rw [Array.toList_setIfInBounds]
  show (pcL k h).set (1 + c) (.bool b) = pcL k (updH h c b)
  rw [Nat.add_comm 1 c]
  unfold pcL
  rw [List.set_cons_succ]
  congr 1
  apply List.ext_getElem?
  intro i
  rw [List.getElem?_set, List.length_map, List.length_range]
  by_cases hi : c = i
  · subst hi
    simp [hc, updH]
  · have : ¬ i = c := fun e => hi e.symm
    simp only [if_neg hi, List.getElem?_map]
    by_cases hl : i < 256
    · rw [List.getElem?_range hl]; simp [updH, this]
    · rw [List.getElem?_eq_none (by simp; omega)]; rfl
theorem pcA_kind (k k' : Int) (h : Nat → Bool) : (pcA k h).setIfInBounds 0 (.int .i64 k') = pcA k' h := rfl
/-- A part lies at a block. -/
def PB (W : World) (g : Nat) (k : Int) (h : Nat → Bool) : Prop := W.heap[g]? = some (.cells (pcA k h) 42 (0, 0))
theorem PB.below {W W1 : World} {g : Nat} {k : Int} {h : Nat → Bool} (p : PB W g k h) (hb : Below W.heap.size W W1) : PB W1 g k h := (hb.block g (blk_lt p)).trans p
theorem PB.kind {W : World} {g : Nat} {k : Int} {h : Nat → Bool} (p : PB W g k h) : W.cell? ⟨g, 0, none⟩ = some (.int .i64 k) := (blk_cell p 0).trans (pcA_0 k h)
theorem PB.has {W : World} {g : Nat} {k : Int} {h : Nat → Bool} (p : PB W g k h) (c : Nat) (hc : c < 256) : W.cell? ⟨g, 1 + c, none⟩ = some (.bool (h c)) := (blk_cell p _).trans (pcA_at k h c hc)
theorem PB.free {W : World} {g : Nat} {k : Int} {h : Nat → Bool} (p : PB W g k h) (j : Nat) : W.frozen? ⟨g, j, none⟩ = false := blk_frozen p j
theorem PB.set {W : World} {g : Nat} {k : Int} {h : Nat → Bool} (p : PB W g k h) (c : Nat) (hc : c < 256) (b : Bool) : PB (W.setCell ⟨g, 1 + c, none⟩ (.bool b)) g k (updH h c b) := blk_put p (1 + c) (.bool b) (pcA_set k h c hc b)
theorem PB.setk {W : World} {g : Nat} {k : Int} {h : Nat → Bool} (p : PB W g k h) (k' : Int) : PB (W.setCell ⟨g, 0, none⟩ (.int .i64 k')) g k' h := blk_put p 0 (.int .i64 k') (pcA_kind k k' h)
theorem PB.congr {W : World} {g : Nat} {k : Int} {h h' : Nat → Bool} (p : PB W g k h) (e : ∀ c, c < 256 → h c = h' c) : PB W g k h' := by
  unfold PB at p ⊢
  rw [p, pcA_congr e]
theorem PB.range {W : World} {g : Nat} {k : Int} {h : Nat → Bool} (p : PB W g k h) : W.rangeAt g 0 (pcL k h) := fun j v hv => by
  rw [Nat.zero_add]
  refine (blk_cell p j).trans ?_
  show (pcL k h).toArray[j]? = some v
  rw [List.getElem?_toArray]; exact hv
theorem PB.there {W : World} {g : Nat} {k : Int} {h : Nat → Bool} (p : PB W g k h) : W.there g 0 257 := fun j hj => by
  rw [Nat.zero_add]
  refine ⟨?_, blk_frozen p j⟩
  rw [blk_cell p j]
  have : j < (pcA k h).size := by rw [pcA_size]; exact hj
  rw [Array.getElem?_eq_getElem this]; rfl
theorem cell_below {w w1 : World} {a : Addr} {v : Value} (h : w.cell? a = some v) (hb : Below w.heap.size w w1) : w1.cell? a = some v := by
  have hlt := World.block_lt_of_cell? w a h
  rw [← h]
  unfold World.cell?
  rw [hb.block _ hlt]
theorem below_tr {w a c : World} (h1 : Below w.heap.size w a) (h2 : Below a.heap.size a c) : Below w.heap.size w c := h1.trans (h2.mono h1.size)
theorem infoP : (Try.prog.info? 42).map (fun i => (i.zero, i.size, i.bytes)) = some (some (.agg (pcA 0 noH)), 257, 264) := by kernel_rfl
theorem sizeP : (Try.prog.info? 42).map (·.size) = some 257 := by kernel_rfl
theorem run_allocP (W : World) : (Instr.alloc 42 true (.tuple #[])).run Try.prog W = .ok (.pointer (some ⟨W.heap.size, 0, none⟩)) (W.alloc (.cells (pcA 0 noH) 42 (0, 0))) := by kernel_rfl
theorem run_buildP3 (W : World) : (Instr.build 42 #[(0, .int .i64 3)]).run Try.prog W = .ok (.agg (pcA 3 noH)) W := by kernel_rfl
theorem run_buildP4 (W : World) : (Instr.build 42 #[(0, .int .i64 4)]).run Try.prog W = .ok (.agg (pcA 4 noH)) W := by kernel_rfl
theorem heap_set_other {w : World} {k g j : Nat} (h : k ≠ g) {v : Value} : (w.setCell ⟨g, j, none⟩ v).heap[k]? = w.heap[k]? := Below.heap_setCell w ⟨g, j, none⟩ v k h
/-! ### events -/
section
variable {ops : Array Oper} {rest : List Oper} {o : Oper} {a : Act} {Q : Exit → Act → World → Prop}
theorem store_event2 {P : Program} {W w1 : World} (hgd : o.guard = none) (hN : o.dst = none)
    (hrun : (execOp a.eval o).run P W = .ok .skip w1) (h : ∀ w', w' = w1 → wpList P ops Q rest a w') : wpList P ops Q (o :: rest) a W := by
  refine wpList_plain hgd fun K hK => ?_
  unfold Oper.wp
  rw [hrun]
  show K (a.put o.dst undef) w1
  rw [hN]
  exact hK _ _ (h _ rfl)
theorem ev_allocP {W : World} (hgd : o.guard = none) {N : Tmp} (hd : o.dst = some N) (ho : o.op = .alloc 42)
    (h : ∀ g, g = W.heap.size → ∀ w1, PB w1 g 0 noH → Below W.heap.size W w1 → wpList Try.prog ops Q rest (a.put o.dst (.pointer (some ⟨g, 0, none⟩))) w1) : wpList Try.prog ops Q (o :: rest) a W :=
  box_event hgd hd (cs := pcA 0 noH) (t := 42) (by unfold execOp; simp only [ho, Sem.run_bind, run_allocP, Result.andThen_ok, Sem.run_pure]) h
theorem ev_value {P : Program} {W : World} (hgd : o.guard = none) (v : Value) (hrun : (execOp a.eval o).run P W = .ok (.value v) W) (h : wpList P ops Q rest (a.put o.dst v) W) : wpList P ops Q (o :: rest) a W := Kd.event_run hgd hrun h
theorem ev_buildP3 {W : World} (hgd : o.guard = none) (ho : o.op = .build 42 #[(0, .const (.int .i64 3))]) (h : wpList Try.prog ops Q rest (a.put o.dst (.agg (pcA 3 noH))) W) : wpList Try.prog ops Q (o :: rest) a W :=
  ev_value hgd _ (by
    unfold execOp
    simp only [ho, Sem.run_bind, List.map_toArray, List.map_cons, List.map_nil]
    show ((Instr.build 42 #[(0, .int .i64 3)]).run Try.prog W).andThen _ = _
    rw [run_buildP3]
    rfl) h
theorem ev_buildP4 {W : World} (hgd : o.guard = none) (ho : o.op = .build 42 #[(0, .const (.int .i64 4))]) (h : wpList Try.prog ops Q rest (a.put o.dst (.agg (pcA 4 noH))) W) : wpList Try.prog ops Q (o :: rest) a W :=
  ev_value hgd _ (by
    unfold execOp
    simp only [ho, Sem.run_bind, List.map_toArray, List.map_cons, List.map_nil]
    show ((Instr.build 42 #[(0, .int .i64 4)]).run Try.prog W).andThen _ = _
    rw [run_buildP4]
    rfl) h
/-- Some cells of a row anew, from a place on. -/
def setFrom (cs : Array Value) : Nat → List Value → Array Value
  | _, [] => cs
  | o, v :: vs => setFrom (cs.setIfInBounds o v) (o + 1) vs
theorem setFrom_size : ∀ (vs : List Value) (cs : Array Value) (o : Nat), (setFrom cs o vs).size = cs.size
  | [], cs, o => rfl
  | v :: vs, cs, o => by rw [setFrom, setFrom_size vs]; simp
theorem setFrom_at : ∀ (vs : List Value) (cs : Array Value) (o i : Nat), i < cs.size → (setFrom cs o vs)[i]? = if o ≤ i ∧ i < o + vs.length then vs[i - o]? else cs[i]?
  | [], cs, o, i, hi => by
    rw [setFrom, if_neg (by simp only [List.length_nil]; omega)]
  | v :: vs, cs, o, i, hi => by
    rw [setFrom, setFrom_at vs _ _ i (by simpa using hi)]
    by_cases h : i = o
    · subst h
      rw [if_neg (by omega), if_pos (by simp), Nat.sub_self]
      rw [Array.getElem?_setIfInBounds_self_of_lt hi]
      rfl
    · by_cases h2 : o + 1 ≤ i ∧ i < o + 1 + vs.length
      · rw [if_pos h2, if_pos (by simp only [List.length_cons]; omega), show i - o = (i - (o + 1)) + 1 by omega, List.getElem?_cons_succ]
      · rw [if_neg h2, if_neg (by simp only [List.length_cons]; omega), Array.getElem?_setIfInBounds_ne (by omega)]
theorem heap_setCells {t : TypeId} {g : Nat} : ∀ (vs : List Value) (o : Nat) (W : World) (cs : Array Value), W.heap[g]? = some (.cells cs t (0, 0)) → (W.setCells g o vs).heap[g]? = some (.cells (setFrom cs o vs) t (0, 0))
  | [], o, W, cs, h => h
  | v :: vs, o, W, cs, h => by
    rw [World.setCells, setFrom]
    exact heap_setCells vs (o + 1) _ _ (blk_put h o v rfl)
theorem setCells_below {w0 : World} {g : Nat} (hg : w0.heap.size ≤ g) : ∀ (vs : List Value) (o : Nat) (W : World), Below w0.heap.size w0 W → Below w0.heap.size w0 (W.setCells g o vs)
  | [], o, W, h => h
  | v :: vs, o, W, h => by
    rw [World.setCells]
    exact setCells_below hg vs (o + 1) _ (below_set h hg)
theorem setCells_other {k g : Nat} (hk : k ≠ g) : ∀ (vs : List Value) (o : Nat) (W : World), (W.setCells g o vs).heap[k]? = W.heap[k]?
  | [], o, W => rfl
  | v :: vs, o, W => by
    rw [World.setCells, setCells_other hk vs]
    exact Below.heap_setCell W ⟨g, o, none⟩ v k hk
theorem PB.over {W : World} {g : Nat} {k k' : Int} {h h' : Nat → Bool} (p : PB W g k h) : PB (W.setCells g 0 (pcL k' h')) g k' h' := by
  have e := heap_setCells (pcL k' h') 0 W _ p
  unfold PB
  rw [e]
  have : setFrom (pcA k h) 0 (pcL k' h') = pcA k' h' := by
    apply Array.ext_getElem?
    intro i
    by_cases hi : i < 257
    · rw [setFrom_at _ _ _ _ (by rw [pcA_size]; exact hi), if_pos (by rw [pcL_len]; omega), Nat.sub_zero]
      unfold pcA
      rw [List.getElem?_toArray]
    · rw [Array.getElem?_eq_none (by rw [setFrom_size, pcA_size]; omega), Array.getElem?_eq_none (by rw [pcA_size]; omega)]
  rw [this]
theorem ev_storeP {W : World} (hgd : o.guard = none) (hN : o.dst = none) {p s : Tmp} {g : Nat} {k k' : Int} {h h' : Nat → Bool} (ho : o.op = .store 42 (.tmp p) (.tmp s)) (hp : a.eval (.tmp p) = .pointer (some ⟨g, 0, none⟩)) (hs : a.eval (.tmp s) = .agg (pcA k' h'))
    (hb : PB W g k h) (hh : ∀ w1, w1 = W.setCells g 0 (pcL k' h') → wpList Try.prog ops Q rest a w1) : wpList Try.prog ops Q (o :: rest) a W :=
  store_event2 hgd hN (by
    unfold execOp
    simp only [ho, hp, hs, Sem.run_bind]
    rw [run_storeAt_mid W g 0 42 (pcA k' h') (by rw [pcA_size]; exact hb.there) (by rw [sizeP, pcA_size]) (all_oneCell_toArray (pcL_one k' h'))]
    rfl) hh
theorem ev_loadP {W : World} (hgd : o.guard = none) {p : Tmp} {g : Nat} {k : Int} {h : Nat → Bool} (ho : o.op = .load 42 (.tmp p)) (hp : a.eval (.tmp p) = .pointer (some ⟨g, 0, none⟩))
    (hb : PB W g k h) (hh : wpList Try.prog ops Q rest (a.put o.dst (.agg (pcA k h))) W) : wpList Try.prog ops Q (o :: rest) a W :=
  wpList_load_mid hgd 42 (.tmp p) ho g 0 hp (pcL k h) _ hb.range Try.underlying42 rfl (by rw [sizeP, pcL_len]) hh
end
/-! ### a row of parts -/
theorem foldl_zip : ∀ (l : List Value) (k : Nat) (a : Array Value), (l.zipIdx k).foldl (fun cs p => cs.setIfInBounds (0 + p.2) p.1) a = setFrom a k l
  | [], k, a => rfl
  | v :: vs, k, a => by
    rw [List.zipIdx_cons, List.foldl_cons, setFrom, Nat.zero_add]
    exact foldl_zip vs (k + 1) _
theorem setFrom_all (cs a : Array Value) (h : a.size = cs.size) : setFrom a 0 cs.toList = cs := by
  apply Array.ext_getElem?
  intro i
  by_cases hi : i < cs.size
  · rw [setFrom_at _ _ _ _ (by omega), if_pos (by rw [Array.length_toList]; omega), Nat.sub_zero, Array.getElem?_toList]
  · rw [Array.getElem?_eq_none (by rw [setFrom_size]; omega), Array.getElem?_eq_none (by omega)]
theorem fill_one (cs a : Array Value) (h : a.size = cs.size) (hs : cs.size = 257) : Instr.fill (fun i => some (i * 257, 257)) a [(0, .agg cs)] = some cs := by
  have e : (cs.zipIdx.foldl (fun (b : Array Value) (p : Value × Nat) => b.setIfInBounds (0 + p.2) p.1) a) = cs := by
    rw [← Array.foldl_toList, Array.toList_zipIdx]
    rw [foldl_zip, setFrom_all cs a h]
  simp only [Instr.fill, Value.cells, hs, h, Nat.zero_mul]
  simp
  simpa using e
theorem run_litP (W : World) (cs : Array Value) (h : cs.size = 257) : (Instr.buildSlice 38 1 #[(0, .agg cs)]).run Try.prog W = .ok (.slice (some ⟨W.heap.size, 0, none⟩) 1 1) (W.alloc (.cells cs 42 (0, 0))) := by
  obtain ⟨i0, hi, hzz⟩ := Option.map_eq_some_iff.1 infoP
  simp only [Prod.mk.injEq] at hzz
  obtain ⟨z0, z1, z2⟩ := hzz
  have hu := Try.underlying38
  have hf := fun a ha => fill_one cs a ha h
  unfold Instr.buildSlice
  simp only [Sem.run_bind, run_underlying hu W, Result.andThen_ok, sizeOf, typeInfo]
  simp [hi, z0, z1, zeroValue, typeInfo, Sem.run_bind, Value.cells, pcA_size]
  rw [hf _ (by simp [h])]
  rfl
/-- The kind of a part. -/
def kP : Kd PV where
  sz := 257
  E := []
  K := fun _ x cs => cs = pcL x.1 x.2
  M := fun _ _ _ x cs => cs = pcL x.1 x.2
  K_len := fun h => by rw [h]; exact pcL_len _ _
  K_one := fun h => by rw [h]; exact pcL_one _ _
  K_below := fun _ h => h
  K_of_M := fun h => h
  M_mono := fun _ h => h
  M_bound := fun h => h
  M_move := fun _ h => h
  M_lower := fun _ h => h
/-- A row of parts of one's own. -/
def OwnP (W : World) (base : Nat) (v : Value) (L : List PV) : Prop := kP.R 42 W base (fun _ => True) v L
theorem OwnP.nil (W : World) (base : Nat) : OwnP W base (.slice none 0 0) [] := Kd.R_nil _ _ _ _ _
theorem OwnP.below {W W1 : World} {base : Nat} {v : Value} {L : List PV} (h : OwnP W base v L) (hb : Below W.heap.size W W1) : OwnP W1 base v L := Kd.R_below h hb
section
variable {ops : Array Oper} {rest : List Oper} {o : Oper} {a : Act} {Q : Exit → Act → World → Prop}
/-- append(out, x): the literal row of one part, and the append. -/
theorem ev_litP {W : World} (hgd : o.guard = none) {s : Tmp} {k : Int} {h : Nat → Bool} (ho : o.op = .buildSlice 38 1 #[(0, .tmp s)]) (hs : a.eval (.tmp s) = .agg (pcA k h))
    (hh : ∀ w1, w1 = W.alloc (.cells (pcA k h) 42 (0, 0)) → wpList Try.prog ops Q rest (a.put o.dst (.slice (some ⟨W.heap.size, 0, none⟩) 1 1)) w1) : wpList Try.prog ops Q (o :: rest) a W :=
  Kd.event_run hgd (by
    unfold execOp
    simp only [ho, Sem.run_bind, List.map_toArray, List.map_cons, List.map_nil, hs]
    rw [run_litP W _ (pcA_size k h)]
    rfl) (hh _ rfl)
theorem ev_appP {w0 W wl : World} (base : Nat) (hgd : o.guard = none) (s x : Tmp) (ho : o.op = .call { callee := .builtin .append, args := #[.tmp s, .tmp x], argTypes := #[38, 38] })
    (v : Value) (L : List PV) (k : Int) (h : Nat → Bool) (hs : a.eval (.tmp s) = v) (hx : a.eval (.tmp x) = .slice (some ⟨W.heap.size, 0, none⟩) 1 1) (hl : wl = W.alloc (.cells (pcA k h) 42 (0, 0)))
    (HO : OwnP W base v L) (HB : Below base w0 W) (hbase : base ≤ W.heap.size) (hn : L.length ≤ 1000000)
    (hh : ∀ v1 w1, OwnP w1 base v1 (L ++ [(k, h)]) → Below base w0 w1 → wpList Try.prog ops Q rest (a.put o.dst v1) w1) : wpList Try.prog ops Q (o :: rest) a wl := by
  subst hl
  exact Kd.R_append kP base hgd (.tmp s) (.tmp x) 38 42 (.agg (pcA 0 noH)) 264 ho Try.underlying38 infoP (pcA_size 0 noH) (by decide) (by decide) v L (k, h) (pcL k h) (fun _ => True) (fun _ => False) hs hx rfl (fun _ hk => hk.elim) (fun _ _ => trivial) HO HB hbase (by omega) (fun v1 w1 h1 h2 _ _ => hh v1 w1 h1 h2)
end
end Go.Proofs.Ytncdoanemfnjjaa.Gl
namespace Go.Proofs.Ytncdoanemfnjjaa.Gl
open Go.RowKit Go.Proofs.YtncdoanemfnjjaaW.PrintWords Go.Proofs.YtncdoanemfnjjaaW.PrintMore Go.Proofs.YtncdoanemfnjjaaW.PrintLast
set_option linter.unusedVariables false
set_option linter.unusedSimpArgs false
/-! ### rows of answers -/
def brA (n : Nat) (f : Nat → Bool) : Array Value := ((List.range n).map (fun i => Value.bool (f i))).toArray
def BR (W : World) (g n : Nat) (f : Nat → Bool) : Prop := W.heap[g]? = some (.cells (brA n f) 4 (0, 0))
theorem brA_at (n : Nat) (f : Nat → Bool) (i : Nat) (hi : i < n) : (brA n f)[i]? = some (.bool (f i)) := by
  unfold brA
  rw [List.getElem?_toArray]
  simp [hi]
theorem brA_size (n : Nat) (f : Nat → Bool) : (brA n f).size = n := by simp [brA]
theorem brA_set (n : Nat) (f : Nat → Bool) (i : Nat) (b : Bool) : (brA n f).setIfInBounds i (.bool b) = brA n (updH f i b) := by
  apply Array.ext_getElem?
  intro j
  by_cases hj : j < n
  · rw [brA_at n _ j hj]
    by_cases e : i = j
    · subst e
      rw [Array.getElem?_setIfInBounds_self_of_lt (by rw [brA_size]; exact hj)]
      simp [updH]
    · rw [Array.getElem?_setIfInBounds_ne e, brA_at n f j hj]
      have : ¬ j = i := fun h => e h.symm
      simp [updH, this]
  · rw [Array.getElem?_eq_none (by simp [brA_size]; omega), Array.getElem?_eq_none (by rw [brA_size]; omega)]
theorem BR.below {W W1 : World} {g n : Nat} {f : Nat → Bool} (h : BR W g n f) (hb : Below W.heap.size W W1) : BR W1 g n f := (hb.block g (blk_lt h)).trans h
theorem BR.at {W : World} {g n : Nat} {f : Nat → Bool} (h : BR W g n f) (i : Nat) (hi : i < n) : W.cell? ⟨g, i, none⟩ = some (.bool (f i)) := (blk_cell h i).trans (brA_at n f i hi)
theorem BR.free {W : World} {g n : Nat} {f : Nat → Bool} (h : BR W g n f) (i : Nat) : W.frozen? ⟨g, i, none⟩ = false := blk_frozen h i
theorem BR.set {W : World} {g n : Nat} {f : Nat → Bool} (h : BR W g n f) (i : Nat) (b : Bool) : BR (W.setCell ⟨g, i, none⟩ (.bool b)) g n (updH f i b) := blk_put h i (.bool b) (brA_set n f i b)
theorem BR.other {W : World} {g g2 n j : Nat} {f : Nat → Bool} (h : BR W g n f) (hne : g ≠ g2) (u : Value) : BR (W.setCell ⟨g2, j, none⟩ u) g n f := by
  unfold BR
  rw [heap_set_other hne]; exact h
theorem BR.congr {W : World} {g n : Nat} {f f' : Nat → Bool} (h : BR W g n f) (e : ∀ i, i < n → f i = f' i) : BR W g n f' := by
  have : brA n f = brA n f' := by
    unfold brA
    congr 1
    exact List.map_congr_left (fun c hc => by rw [e c (List.mem_range.1 hc)])
  unfold BR at h ⊢
  rw [h, this]
theorem made_br (n : Nat) : madeCells (Value.bool false).cells (n * 1) = brA n noH := by
  apply Array.ext_getElem?
  intro j
  by_cases hj : j < n
  · rw [brA_at n _ j hj]
    simp [madeCells, Value.cells, hj, noH, Nat.mod_one]
  · rw [Array.getElem?_eq_none (by simp [size_madeCells]; omega), Array.getElem?_eq_none (by rw [brA_size]; omega)]
theorem infoB : (Try.prog.info? 4).map (fun i => (i.zero, i.size, i.bytes)) = some (some (.bool false), 1, 1) := by kernel_rfl
section
variable {ops : Array Oper} {rest : List Oper} {o : Oper} {a : Act} {Q : Exit → Act → World → Prop}
theorem ev_makeB {W : World} (hgd : o.guard = none) {N x y : Tmp} (hd : o.dst = some N) (ho : o.op = .makeSlice 37 (.tmp x) (.tmp y)) (m : Nat) (hx : a.eval (.tmp x) = .int .i64 (m : Int)) (hy : a.eval (.tmp y) = .int .i64 (m : Int)) (hm : m ≤ 2000000)
    (h : ∀ g, g = W.heap.size → ∀ w1, BR w1 g m noH → Below W.heap.size W w1 → wpList Try.prog ops Q rest (a.put o.dst (.slice (some ⟨g, 0, none⟩) m m)) w1) : wpList Try.prog ops Q (o :: rest) a W := by
  obtain ⟨i0, hi, hzz⟩ := Option.map_eq_some_iff.1 infoB
  simp only [Prod.mk.injEq] at hzz
  obtain ⟨hz0, hz1, hz2⟩ := hzz
  have hr := run_make (P := Try.prog) W 37 4 i0 (.bool false) Try.underlying37 hi hz0 .i64 .i64 (m : Int) (m : Int) (by omega) (by omega)
    (by
      have h3 : ((i0.bytes * m : Nat) : Int) ≤ 281474976710656 := by rw [hz2, Nat.mul_comm]; omega
      rwa [Int.natCast_mul] at h3) (by omega)
  simp only [Int.toNat_natCast] at hr
  rw [hz1, made_br] at hr
  exact Kd.event_run hgd (by simp [execOp, ho, hx, hy, hr]) (h _ rfl _ (blk_new W _) (below_alloc (Below.refl _ _) _))
end
theorem OwnP.slice {W : World} {base : Nat} {v : Value} {L : List PV} (h : OwnP W base v L) : ∃ A c, v = .slice A L.length c := Kd.R_slice h
theorem OwnP.at {W : World} {base n c : Nat} {A : Option Addr} {L : List PV} (h : OwnP W base (.slice A n c) L) (k : Nat) (hk : k < L.length) :
    ∃ gl, A = some ⟨gl, 0, none⟩ ∧ W.cell? ⟨gl, k * 257, none⟩ = some (.int .i64 (L[k]'hk).1) ∧ ∀ d, d < 256 → W.cell? ⟨gl, k * 257 + 1 + d, none⟩ = some (.bool ((L[k]'hk).2 d)) := by
  obtain ⟨g, cap, hv, _, _, _⟩ := Kd.R_form h (by omega)
  injection hv with hA hn _
  subst hA
  subst hn
  obtain ⟨cs, hcl, hM, hcc, _⟩ := Kd.R_elem h (0, noH) (k : Int) (by omega) (by omega)
  have hx : L.getD ((k : Int)).toNat (0, noH) = L[k]'hk := by rw [Int.toNat_natCast, List.getD_eq_getElem?_getD, List.getElem?_eq_getElem hk]; rfl
  rw [hx] at hM
  have hM : cs = pcL (L[k]'hk).1 (L[k]'hk).2 := hM
  subst hM
  refine ⟨g, rfl, ?_, fun d hd => ?_⟩
  · have := hcc 0 _ (show (pcL (L[k]'hk).1 (L[k]'hk).2)[0]? = some _ from rfl)
    simpa [show kP.sz = 257 from rfl] using this
  · have := hcc (1 + d) _ (pcL_at (L[k]'hk).1 (L[k]'hk).2 d hd)
    simpa [Nat.add_assoc, show kP.sz = 257 from rfl] using this
theorem own_else {W : World} {base g n i : Nat} {v u : Value} {L : List PV} {f : Nat → Bool} (h : OwnP W base v L) (r : BR W g n f) : OwnP (W.setCell ⟨g, i, none⟩ u) base v L :=
  Kd.R_set h r (by intro q hq; rcases List.mem_cons.1 hq with rfl | hq; (exact (by decide : (42 : Nat) ≠ 4)); (cases hq)) i u
theorem own_apart {W : World} {base n c g8 m gl : Nat} {L : List PV} {f : Nat → Bool} (h : OwnP W base (.slice (some ⟨gl, 0, none⟩) n c) L) (r : BR W g8 m f) : gl ≠ g8 := by
  have := Kd.R_ne h r (by decide)
  intro e
  subst e
  exact this rfl
theorem keep14 {W : World} {ga g8 x y i : Nat} {va vb u : Value} (hne : ga ≠ g8) (h : W.cell? ⟨ga, x, none⟩ = some va ∧ W.cell? ⟨ga, y, none⟩ = some vb) :
    (W.setCell ⟨g8, i, none⟩ u).cell? ⟨ga, x, none⟩ = some va ∧ (W.setCell ⟨g8, i, none⟩ u).cell? ⟨ga, y, none⟩ = some vb := by
  have e : ∀ j, (W.setCell ⟨g8, i, none⟩ u).cell? ⟨ga, j, none⟩ = W.cell? ⟨ga, j, none⟩ := fun j => by
    unfold World.cell?
    rw [show (W.setCell ⟨g8, i, none⟩ u).heap[(⟨ga, j, none⟩ : Addr).block]? = W.heap[(⟨ga, j, none⟩ : Addr).block]? from heap_set_other hne]
  exact ⟨by rw [e]; exact h.1, by rw [e]; exact h.2⟩
/-! ### a region that draws its order, by hand -/
theorem region_drew {id : Nat} {ops : Array Oper} {Q : Exit → Act → World → Prop} (S : World → Prop) {a : Act} {w : World} (hm : Try.prog.follows .mixedOrders = true)
    (h : ∀ d, Below w.heap.size w d → S d ∧ (S d → wpAnyH Try.prog .any ops Q S ops.size (Array.replicate ops.size false) a d)) : (Code.region id ops true).wp Try.prog Q a w :=
  have hd := h _ (below_drew (Below.refl _ _))
  wp_region_held_drew hm hd.1 hd.2
theorem step_run {ops : Array Oper} {o : Oper} {a : Act} {W w1 : World} {K : Act → World → Prop} {Q : Exit → Act → World → Prop} {E : Prop} (hgd : o.guard = none) (hN : o.dst = none)
    (hrun : (execOp a.eval o).run Try.prog W = .ok .skip w1) (h : ∀ w', w' = w1 → K a w') :
    if Region.wanted o (yielded ops a.tmps) = true then Oper.wp Try.prog o a W K Q else E := by
  have hw : Region.wanted o (yielded ops a.tmps) = true := by simp [Region.wanted, hgd]
  rw [if_pos hw]
  unfold Oper.wp
  rw [hrun]
  show K (a.put o.dst undef) w1
  rw [hN]
  exact h _ rfl
theorem run_setB {a : Act} {o : Oper} {W : World} {p s : Tmp} {g x : Nat} {b c : Bool} (ho : o.op = .store 4 (.tmp p) (.tmp s)) (hp : a.eval (.tmp p) = .pointer (some ⟨g, x, none⟩)) (hs : a.eval (.tmp s) = .bool b)
    (hc : W.cell? ⟨g, x, none⟩ = some (.bool c)) (hf : W.frozen? ⟨g, x, none⟩ = false) : (execOp a.eval o).run Try.prog W = .ok .skip (W.setCell ⟨g, x, none⟩ (.bool b)) := by
  unfold execOp
  simp only [ho, hp, hs]
  clear ho hp hs
  first | (go_simp; done) | (go_simp; rfl)
theorem next_setB {ops : Array Oper} {S : World → Prop} {fuel : Nat} {listed : Array Bool} {a : Act} {W : World} {Q : Exit → Act → World → Prop} (i : Nat) {p s : Tmp} {g x : Nat} {b c : Bool}
    (hr : Region.ready .any ops listed = [i]) (hi : (ops[i]?).map (fun o => (o.guard.isNone, o.dst, o.op)) = some (true, none, .store 4 (.tmp p) (.tmp s))) (hp : a.eval (.tmp p) = .pointer (some ⟨g, x, none⟩)) (hs : a.eval (.tmp s) = .bool b)
    (hc : W.cell? ⟨g, x, none⟩ = some (.bool c)) (hf : W.frozen? ⟨g, x, none⟩ = false) (h : ∀ w', w' = W.setCell ⟨g, x, none⟩ (.bool b) → S w' ∧ wpAnyH Try.prog .any ops Q S fuel (listed.setIfInBounds i true) a w') :
    wpAnyH Try.prog .any ops Q S (fuel + 1) listed a W := by
  match ho : ops[i]? with
  | none => rw [ho] at hi; cases hi
  | some o =>
    rw [ho] at hi
    injection hi with hi
    injection hi with h1 h2
    injection h2 with h2 h3
    have hgd : o.guard = none := by
      cases hg : o.guard with
      | none => rfl
      | some x => rw [hg] at h1; cases h1
    refine wpAnyH_ready hr (by simp) (AllReadyH.cons ho (fun K hK => ?_) AllReadyH.nil)
    exact step_run hgd h2 (run_setB h3 hp hs hc hf) (fun w' e => hK.out _ _ (h w' e).1 (fun _ => (h w' e).2))
end Go.Proofs.Ytncdoanemfnjjaa.Gl
