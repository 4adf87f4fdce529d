/- Rows of texts and of Lefts of one's own; closures called; steps of drawn regions. -/
import Derived.Test.YtehnogggokfcaaaEvMem
import Derived.Test.YtehnogggokfcaaaX
namespace Go.Proofs.Ytehnogggokfcaaa.Ev
open Go.RowKit Go.Proofs.YtehnogggokfcaaaW.PrintWords Go.Proofs.YtehnogggokfcaaaW.PrintMore Go.Proofs.YtehnogggokfcaaaW.PrintLast Go.Proofs.Ytehnogggokfcaaa.X
set_option linter.unusedVariables false
set_option linter.unusedSimpArgs false
abbrev S26 := Go.Proofs.Ytehnogggokfcaaa.X.S26
def OwnT (W : World) (base : Nat) (v : Value) (l : List ByteArray) : Prop := Kd.R Kd.string 9 W base (fun _ => True) v l
def OwnL (W : World) (base : Nat) (v : Value) (l : List S43) : Prop := Kd.R k43 43 W base (fun _ => True) v l
theorem OwnT.below {W W1 : World} {base : Nat} {v : Value} {l : List ByteArray} (h : OwnT W base v l) (hb : Below W.heap.size W W1) : OwnT W1 base v l := Kd.R_below h hb
theorem OwnL.below {W W1 : World} {base : Nat} {v : Value} {l : List S43} (h : OwnL W base v l) (hb : Below W.heap.size W W1) : OwnL W1 base v l := Kd.R_below h hb
theorem OwnL.nil (W : World) (base : Nat) : OwnL W base (.slice none 0 0) [] := Kd.R_nil _ _ _ _ _
theorem OwnT.reads {W : World} {base : Nat} {v : Value} {l : List ByteArray} (h : OwnT W base v l) : ∃ A c, v = .slice A l.length c ∧ l.length ≤ c ∧ Kd.C Kd.string W A l.length l := Kd.R_reads h
theorem OwnL.reads {W : World} {base : Nat} {v : Value} {l : List S43} (h : OwnL W base v l) : ∃ A c, v = .slice A l.length c ∧ l.length ≤ c ∧ Kd.C k43 W A l.length l := Kd.R_reads h
theorem k43_E : k43.E = [] := rfl
theorem OwnT.set {W : World} {base : Nat} {v : Value} {l : List ByteArray} (h : OwnT W base v l) {g t : Nat} {cells : Array Value} (hb : W.heap[g]? = some (.cells cells t (0, 0))) (ht : (9 : Nat) ≠ t) (j : Nat) (u : Value) : OwnT (W.setCell ⟨g, j, none⟩ u) base v l :=
  Kd.R_set h hb (by intro q hq; rcases List.mem_cons.1 hq with rfl | hq; (exact ht); (cases hq)) j u
theorem OwnL.set {W : World} {base : Nat} {v : Value} {l : List S43} (h : OwnL W base v l) {g t : Nat} {cells : Array Value} (hb : W.heap[g]? = some (.cells cells t (0, 0))) (ht : (43 : Nat) ≠ t) (j : Nat) (u : Value) : OwnL (W.setCell ⟨g, j, none⟩ u) base v l :=
  Kd.R_set h hb (by intro q hq; rw [k43_E] at hq; rcases List.mem_cons.1 hq with rfl | hq; (exact ht); (cases hq)) j u
theorem infoT : (Try.prog.info? 9).map (fun i => (i.zero, i.size, i.bytes)) = some (some (.string ⟨#[]⟩), 1, 16) := by kernel_rfl
theorem infoLf : (Try.prog.info? 43).map (fun i => (i.zero, i.size, i.bytes)) = some (some (.agg #[.int .i64 0, .string ⟨#[]⟩, .int .i64 0]), 3, 32) := by kernel_rfl
section
variable {W : World} (ev : Operand → Value) (o : Oper)
theorem run_t1 (s0 : Tmp) (x0 : ByteArray) (ho : o.op = .buildSlice 45 1 #[(0, .tmp s0)]) (h0 : ev (.tmp s0) = .string x0) :
    (execOp ev o).run Try.prog W = .ok (.value (.slice (some ⟨W.heap.size, 0, none⟩) 1 1)) (W.alloc (.cells #[.string x0] 9 (0, 0))) := by
  have hu := Try.underlying9
  have hu2 := Try.underlying45
  unfold execOp
  simp only [ho]
  go_simp
  try (simp [h0]; done)
  try rfl
theorem run_t2 (s0 s1 : Tmp) (x0 x1 : ByteArray) (ho : o.op = .buildSlice 45 2 #[(0, .tmp s0), (1, .tmp s1)]) (h0 : ev (.tmp s0) = .string x0) (h1 : ev (.tmp s1) = .string x1) :
    (execOp ev o).run Try.prog W = .ok (.value (.slice (some ⟨W.heap.size, 0, none⟩) 2 2)) (W.alloc (.cells #[.string x0, .string x1] 9 (0, 0))) := by
  have hu := Try.underlying9
  have hu2 := Try.underlying45
  unfold execOp
  simp only [ho]
  go_simp
  try (simp [h0, h1]; done)
  try rfl
theorem run_t3 (s0 s1 s2 : Tmp) (x0 x1 x2 : ByteArray) (ho : o.op = .buildSlice 45 3 #[(0, .tmp s0), (1, .tmp s1), (2, .tmp s2)]) (h0 : ev (.tmp s0) = .string x0) (h1 : ev (.tmp s1) = .string x1) (h2 : ev (.tmp s2) = .string x2) :
    (execOp ev o).run Try.prog W = .ok (.value (.slice (some ⟨W.heap.size, 0, none⟩) 3 3)) (W.alloc (.cells #[.string x0, .string x1, .string x2] 9 (0, 0))) := by
  have hu := Try.underlying9
  have hu2 := Try.underlying45
  unfold execOp
  simp only [ho]
  go_simp
  try (simp [h0, h1, h2]; done)
  try rfl
theorem run_t4 (s0 s1 s2 s3 : Tmp) (x0 x1 x2 x3 : ByteArray) (ho : o.op = .buildSlice 45 4 #[(0, .tmp s0), (1, .tmp s1), (2, .tmp s2), (3, .tmp s3)]) (h0 : ev (.tmp s0) = .string x0) (h1 : ev (.tmp s1) = .string x1) (h2 : ev (.tmp s2) = .string x2) (h3 : ev (.tmp s3) = .string x3) :
    (execOp ev o).run Try.prog W = .ok (.value (.slice (some ⟨W.heap.size, 0, none⟩) 4 4)) (W.alloc (.cells #[.string x0, .string x1, .string x2, .string x3] 9 (0, 0))) := by
  have hu := Try.underlying9
  have hu2 := Try.underlying45
  unfold execOp
  simp only [ho]
  go_simp
  try (simp [h0, h1, h2, h3]; done)
  try rfl
theorem run_l1 (s0 : Tmp) (x : S43) (ho : o.op = .buildSlice 24 1 #[(0, .tmp s0)]) (h0 : ev (.tmp s0) = .agg #[.int .i64 x.f0, .string x.f1.f0, .int .i64 x.f1.f1]) :
    (execOp ev o).run Try.prog W = .ok (.value (.slice (some ⟨W.heap.size, 0, none⟩) 1 1)) (W.alloc (.cells #[.int .i64 x.f0, .string x.f1.f0, .int .i64 x.f1.f1] 43 (0, 0))) := by
  have hu := Try.underlying43
  have hu2 := Try.underlying24
  unfold execOp
  simp only [ho]
  go_simp
  try (simp [h0]; done)
  try rfl
end
theorem reads_new {W W1 : World} (l : List ByteArray) (hW : W1 = W.alloc (.cells (l.map Value.string).toArray 9 (0, 0))) (hl : l.length ≤ 1000) : Kd.C Kd.string W1 (some ⟨W.heap.size, 0, none⟩) l.length l := by
  refine ⟨rfl, by omega, fun _ => ⟨_, rfl, fun j p hj => ⟨[.string p], rfl, rfl, fun i u hu => ?_⟩⟩⟩
  have hi : i = 0 := by
    cases i with
    | zero => rfl
    | succ i => cases hu
  subst hi
  injection hu with hu
  subst hu
  subst hW
  have e : (⟨W.heap.size, 0, none⟩ : Addr).add (j * Kd.string.sz + 0) = ⟨W.heap.size, j, none⟩ := by
    rw [show Kd.string.sz = 1 from rfl, Nat.mul_one, Nat.add_zero]
    simp [Addr.add]
    omega
  rw [e]
  refine (blk_cell (blk_new W _) _).trans ?_
  rw [List.getElem?_toArray, List.getElem?_map, hj]
  rfl
theorem own_new {W W1 : World} {base : Nat} (l : List ByteArray) (hW : W1 = W.alloc (.cells (l.map Value.string).toArray 9 (0, 0))) (hb : base ≤ W.heap.size) (hl : l.length ≤ 1000) : OwnT W1 base (.slice (some ⟨W.heap.size, 0, none⟩) l.length l.length) l := by
  subst hW
  refine ⟨fun _ _ => trivial, l.map Value.string, ?_, ?_⟩
  · have h2 := World.ownsRow_lit (base := base) (e := 9) (size := 1) W (l.map Value.string).toArray l.length hb (by simp only [maxLen]; omega) (by simp)
    exact h2
  · exact Kd.reps_scalar l
section
variable {ops : Array Oper} {rest : List Oper} {o : Oper} {a : Act} {Q : Exit → Act → World → Prop} {W : World}
theorem ev_appT {w0 : World} (base : Nat) (hgd : o.guard = none) {N : Tmp} (hd : o.dst = some N) (s x : Tmp) (ho : o.op = .call { callee := .builtin .append, args := #[.tmp s, .tmp x], argTypes := #[45, 45] })
    (v : Value) (l ys : List ByteArray) (A : Option Addr) (m c : Nat) (hs : a.eval (.tmp s) = v) (hx : a.eval (.tmp x) = .slice A m c) (HO : OwnT W base v l) (HR : Kd.C Kd.string W A m ys) (HB : Below base w0 W) (hbase : base ≤ W.heap.size) (hl : l.length + m ≤ 1000000000)
    (h : ∀ v1 w1, OwnT w1 base v1 (l ++ ys) → Below base w0 w1 → W.grownBy w1 v.ownBlock → wpList Try.prog ops Q rest (a.put o.dst v1) w1) : wpList Try.prog ops Q (o :: rest) a W :=
  Kd.R_append_rows Kd.string base hgd (.tmp s) (.tmp x) 45 9 (.string ⟨#[]⟩) 16 ho Try.underlying45 infoT rfl (by decide) (by decide) v l ys A m c (fun _ => True) (fun _ => False) hs hx HO HR (fun _ _ hk => hk) (fun _ hk => hk.elim) (fun _ _ => trivial) HB hbase (by omega) (fun v1 w1 h1 h2 h3 _ => h v1 w1 h1 h2 h3)
theorem ev_appL {w0 : World} (base : Nat) (hgd : o.guard = none) {N : Tmp} (hd : o.dst = some N) (s x : Tmp) (ho : o.op = .call { callee := .builtin .append, args := #[.tmp s, .tmp x], argTypes := #[24, 24] })
    (v : Value) (l : List S43) (p : S43) (hs : a.eval (.tmp s) = v) (hx : a.eval (.tmp x) = .slice (some ⟨W.heap.size, 0, none⟩) 1 1) (HO : OwnL W base v l) (HB : Below base w0 W) (hbase : base ≤ W.heap.size) (hl : l.length + 1 ≤ 1000000000)
    (h : ∀ v1 w1, OwnL w1 base v1 (l ++ [p]) → Below base w0 w1 → W.grownBy w1 v.ownBlock → wpList Try.prog ops Q rest (a.put o.dst v1) w1) : wpList Try.prog ops Q (o :: rest) a (W.alloc (.cells #[.int .i64 p.f0, .string p.f1.f0, .int .i64 p.f1.f1] 43 (0, 0))) :=
  Kd.R_append k43 base hgd (.tmp s) (.tmp x) 24 43 (.agg #[.int .i64 0, .string ⟨#[]⟩, .int .i64 0]) 32 ho Try.underlying24 infoLf rfl (by decide) (by decide) v l p [.int .i64 p.f0, .string p.f1.f0, .int .i64 p.f1.f1] (fun _ => True) (fun _ => False) hs hx (k43_mkM _ _ _ p) (fun _ hk => hk.elim) (fun _ _ => trivial) HO HB hbase (by omega) (fun v1 w1 h1 h2 h3 _ => h v1 w1 h1 h2 h3)
end
section
variable {ops : Array Oper} {S : World → Prop} {fuel : Nat} {listed : Array Bool} {a : Act} {W : World} {Q : Exit → Act → World → Prop} {rs : List Nat}
theorem cons_appT {w0 : World} (base : Nat) (i : Nat) {N : Tmp} (s x : Tmp) (hi : (ops[i]?).map (fun o => (Region.wanted o (yielded ops a.tmps), o.dst, o.op)) = some (true, some N, .call { callee := .builtin .append, args := #[.tmp s, .tmp x], argTypes := #[45, 45] }))
    (v : Value) (l ys : List ByteArray) (A : Option Addr) (m c : Nat) (hs0 : a.eval (.tmp s) = v) (hx : a.eval (.tmp x) = .slice A m c) (HO : OwnT W base v l) (HR : Kd.C Kd.string W A m ys) (HB : Below base w0 W) (hbase : base ≤ W.heap.size) (hl : l.length + m ≤ 1000000000)
    (h : ∀ v1 w1, OwnT w1 base v1 (l ++ ys) → Below base w0 w1 → W.grownBy w1 v.ownBlock → S w1 ∧ wpAnyH Try.prog .any ops Q S fuel (listed.setIfInBounds i true) (a.put (some N) v1) w1)
    (hs : AllReadyH Try.prog .any ops Q S fuel listed a W rs) : AllReadyH Try.prog .any ops Q S fuel listed a W (i :: rs) := by
  obtain ⟨o, ho, hw, hd, hop⟩ := operG hi
  refine AllReadyH.cons ho (fun K hK => ?_) hs
  refine Kd.R_append_rows_step (Kc := K) Kd.string base hw (.tmp s) (.tmp x) 45 9 (.string ⟨#[]⟩) 16 hop Try.underlying45 infoT rfl (by decide) (by decide) v l ys A m c (fun _ => True) (fun _ => False) hs0 hx HO HR (fun _ _ hk => hk) (fun _ hk => hk.elim) (fun _ _ => trivial) HB hbase (by omega) (fun v1 w1 h1 h2 h3 _ => ?_)
  rw [hd]
  exact hK.out _ _ (h v1 w1 h1 h2 h3).1 (fun _ => (h v1 w1 h1 h2 h3).2)
theorem cons_callC (i : Nat) {N : Tmp} {f : FuncId} {fn : Func} {c : Tmp} {xs : Array Operand} {ts : Array TypeId} (hi : (ops[i]?).map (fun o => (Region.wanted o (yielded ops a.tmps), o.dst, o.op)) = some (true, some N, .call { callee := .value (.tmp c), args := xs, argTypes := ts }))
    (hf : Try.prog.funcs[f]? = some fn) (hname : (fn.name == "runtime.NumGoroutine") = false) (hb : fn.body.isSome = true) (fr : Array Value) (hc : a.eval (.tmp c) = .func (.func f) #[] fr) (args : Array Value) (hargs : xs.map a.eval = args)
    (h : Calls Try.prog f (args ++ fr) W fun e w' => ∃ v, e = .returned v ∧ S w' ∧ wpAnyH Try.prog .any ops Q S fuel (listed.setIfInBounds i true) (a.put (some N) v) w')
    (hs : AllReadyH Try.prog .any ops Q S fuel listed a W rs) : AllReadyH Try.prog .any ops Q S fuel listed a W (i :: rs) := by
  obtain ⟨o, ho, hw, hd, hop⟩ := operG hi
  refine AllReadyH.cons ho (fun K hK => ?_) hs
  have he := enters_ hf hname hb (args ++ fr) W
  have hg := call_ (P := Try.prog) (ops := ops) (Q := Q) (K := K) f (args ++ fr) hw hd (w := W) (by
    unfold execOp
    simp [hop, resolve, Deferred.ofValue, invoke, hc, hargs, he]) (h.mono fun e w' ⟨v, he, hS, hwp⟩ => ⟨v, he, hK.out _ _ hS (fun _ => hwp)⟩)
  rw [hd]
  exact hg
end
end Go.Proofs.Ytehnogggokfcaaa.Ev
