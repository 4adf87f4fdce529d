/- What waited is given back in order, just if it was neither spoilt nor dirty; there is never more of it than may be: where what comes in is of bulk at most 1048576 (the second form: the first one is false by size). -/
import Derived.Test.YtkamejnccmapkaaRows
import Derived.Test.YtkamejnccmapkaaLaw37c
import Derived.Test.YtkamejnccmapkaaYOpens
import Derived.WalkKit
import Derived.ProofKit
import Derived.OpenShut
import Derived.ShutString
import Derived.ChangeOld
import Derived.Below
import Derived.SizedLaws
import Derived.JoinedCond
import Derived.Deep.CondSized
namespace Go.Proofs.Ytkamejnccmapkaa.multiOrder
open Go.ChangeShapes Go.WideShapes Go.ChangeAt Go.RowKit Go.Deep Go.Proofs.Ytkamejnccmapkaa.X Go.Proofs.Ytkamejnccmapkaa.Y Go.Proofs.Ytkamejnccmapkaa.Mu Go.Proofs.YtkamejnccmapkaaW.PrintWords Go.Proofs.YtkamejnccmapkaaW.PrintLast Go.Proofs.YtkamejnccmapkaaW.PrintMore
open Go.ChangeMaps (open_string shut_string)
set_option linter.unusedVariables false
/-- What reads as data of type t is of this kind, so bounded, and no more than its bulk. -/
def OpensB {α : Type} (P : Program) (d : Kd α) (t : TypeId) (m : α → Nat) : Prop :=
  ∀ (H : Type) (enc : TypeId × Value → H) (W : World) (fuel : Nat) (cs : List Value) (x : DataW H × List MemPlace),
    DataW.trod enc P W 0 (fun _ => true) true fuel t cs = some x → (∀ n ∈ DataW.weights P t x.1, n ≤ reachBytes) → ∃ a : α, d.K W a cs ∧ m a ≤ Rows.uptoBulk x.1
theorem opensB_string {P : Program} {t : TypeId} (ht : P.underlying t = some .string) : OpensB P Kd.string t (fun s => s.size + 1) := by
  intro H enc W fuel cs x h hs
  obtain ⟨s, rfl, rfl, _⟩ := DataW.trod_string ht h
  refine ⟨s, rfl, ?_⟩
  simp only [Rows.uptoBulk]
  rw [Array.length_toList]
  exact Nat.le_refl _
theorem bulk_append {H : Type} (l r : List (DataW H)) : Rows.uptoBulkAll (l ++ r) = Rows.uptoBulkAll l + Rows.uptoBulkAll r := by
  induction l with
  | nil => simp [Rows.uptoBulkAll]
  | cons x l ih => simp only [List.cons_append, Rows.uptoBulkAll, ih]; omega
def sumM {α : Type} (m : α → Nat) : List α → Nat
  | [] => 0
  | x :: xs => m x + sumM m xs
theorem sumM_append {α : Type} (m : α → Nat) (l r : List α) : sumM m (l ++ r) = sumM m l + sumM m r := by
  induction l with
  | nil => exact (Nat.zero_add _).symm
  | cons x l ih => show m x + sumM m (l ++ r) = m x + sumM m l + sumM m r; omega
theorem opensB_slice {α : Type} {P : Program} {d : Kd α} {t e : TypeId} {m : α → Nat} (ht : P.underlying t = some (.slice e)) (hc : P.cellsOf e = d.sz) (he : OpensB P d e m) :
    OpensB P (Kd.slice e d) t (fun l => sumM m l + 1) := by
  intro H enc W fuel cs x h hs
  rcases open_slice ht h with ⟨rfl, hx⟩ | ⟨a, len, cap, mm, n, D, Pl, rfl, _, hl, hm, hmm, hxx, hx⟩
  · refine ⟨[], ⟨none, 0, rfl, Nat.le_refl _, rfl, by simp, fun h => absurd h (by simp)⟩, ?_⟩
    show 0 + 1 ≤ _
    cases x.1 with
    | lit l => cases l <;> simp [Rows.uptoBulk]
    | nil => simp [Rows.uptoBulk]
    | ptr d => simp [Rows.uptoBulk]
    | slice elems spare => simp [Rows.uptoBulk]
    | agg parts => simp [Rows.uptoBulk]
    | iface t d => simp [Rows.uptoBulk]
    | map entries => simp [Rows.uptoBulk]
    | held h => simp [Rows.uptoBulk]
  · have hm2 : mm = cap := by simpa using hmm
    subst hm2
    subst hxx
    have hw : ∀ i, i < len → ∀ k ∈ DataW.weights P e (D i), k ≤ reachBytes := fun i hi k hk => hs k (by
      simp only [DataW.weights, ht, List.mem_cons, List.mem_append]
      exact .inr (.inl (weights_mem_all (List.mem_map.2 ⟨i, List.mem_range.2 hi, rfl⟩) k hk)))
    have hall : ∀ i, i < len → ∃ y : α, (∃ c, c.length = d.sz ∧ d.K W y c ∧ ∀ j u, c[j]? = some u → W.cell? (a.add (i * d.sz + j)) = some u) ∧ m y ≤ Rows.uptoBulk (D i) := by
      intro i hi
      obtain ⟨c, hcs, htr⟩ := hx i (by omega)
      obtain ⟨y, hK, hWF⟩ := he H enc W n c (D i, Pl i) htr (hw i hi)
      rw [hc] at hcs
      obtain ⟨h1, h2⟩ := cells_at hcs
      refine ⟨y, ⟨c, h1, hK, fun j u hu => ?_⟩, hWF⟩
      have := h2 j u hu
      rwa [Addr.add_add] at this
    have hex : ∀ len', len' ≤ len → ∃ ys : List α, ys.length = len' ∧ sumM m ys ≤ Rows.uptoBulkAll ((List.range len').map D) ∧ ∀ j y, ys[j]? = some y → ∃ c, c.length = d.sz ∧ d.K W y c ∧ ∀ i u, c[i]? = some u → W.cell? (a.add (j * d.sz + i)) = some u := by
      intro len'
      induction len' with
      | zero => intro _; exact ⟨[], rfl, Nat.zero_le _, fun j y hy => by simp at hy⟩
      | succ k ih =>
        intro hk
        obtain ⟨ys, hy1, hy3, hy2⟩ := ih (by omega)
        obtain ⟨y, hy, hyb⟩ := hall k (by omega)
        refine ⟨ys ++ [y], by simp [hy1], ?_, fun j z hz => ?_⟩
        · rw [List.range_succ, List.map_append, bulk_append, sumM_append]
          show sumM m ys + (m y + 0) ≤ _ + (Rows.uptoBulk (D k) + 0)
          omega
        · rcases Nat.lt_trichotomy j k with hj | hj | hj
          · exact hy2 j z (by rwa [List.getElem?_append_left (by omega)] at hz)
          · subst hj
            rw [List.getElem?_append_right (by omega), hy1, Nat.sub_self] at hz
            obtain rfl : y = z := by simpa using hz
            exact hy
          · rw [List.getElem?_eq_none (by simp [hy1]; omega)] at hz
            cases hz
    obtain ⟨ys, hy1, hy3, hy2⟩ := hex len (Nat.le_refl _)
    refine ⟨ys, ⟨some a, mm, by rw [hy1], by omega, rfl, by simp only [maxLen] at hm; omega, fun _ => ⟨a, rfl, fun j p hp => hy2 j p hp⟩⟩, ?_⟩
    simp only [Rows.uptoBulk]
    omega
theorem sum_csize (c : List ByteArray) : sumM (fun s : ByteArray => s.size + 1) c = csize c := by
  induction c with
  | nil => rfl
  | cons x xs ih => show x.size + 1 + sumM _ xs = 1 + x.size + csize xs; rw [ih]; omega
theorem sum_tot (l : List (List ByteArray)) : sumM (fun c : List ByteArray => sumM (fun s : ByteArray => s.size + 1) c + 1) l = tot l + l.length := by
  induction l with
  | nil => rfl
  | cons x xs ih =>
    show sumM (fun s : ByteArray => s.size + 1) x + 1 + sumM _ xs = csize x + tot xs + (xs.length + 1)
    rw [ih, sum_csize]
    omega
theorem arg_openB {α : Type} {P : Program} {d : Kd α} {t : TypeId} {m : α → Nat} {H : Type} {enc : TypeId × Value → H} {W : World} {v : Value} {dw : DataW H} {ps : List MemPlace} {ts : List TypeId} {ds : List (DataW H)}
    (ho : OpensB P d t m) (hsz : (DataW.weightsEach P ts ds).all (· ≤ reachBytes) = true) {j : Nat} (hj : ts[j]? = some t) (hd : ds[j]? = some dw) (h : DataW.Trod enc P W 0 (fun _ => true) true t v dw ps) :
    ∃ a, d.K W a v.cells.toList ∧ m a ≤ Rows.uptoBulk dw := by
  obtain ⟨fuel, hf⟩ := h
  exact ho H enc W fuel _ _ hf fun n hn => by simpa using List.all_eq_true.1 hsz n (DataW.weights_mem_each hj hd n hn)
theorem own : ownKnob Try.prog.godebug = none := by kernel_rfl
theorem laidOut : laidOutB Try.prog = true := by kernel_rfl
theorem order_calls (A : Option Addr) (c : Nat) (l : List (List ByteArray)) (bad dirty : Bool) (W : World) (h : Kd.C (Kd.slice 9 Kd.string) W A l.length l) (hc : l.length ≤ c) (hb : tot l + l.length + 1 ≤ 1048576) :
    Calls Try.prog 3 #[.slice A l.length c, .bool bad, .bool dirty] W fun e w' => e = .returned (.bool true) ∧ Below W.heap.size W w' := by
  obtain ⟨cs, h2, h3⟩ := cont_of_C h hc
  cases dirty with
  | true => exact morder_true A _ c cs l bad W h2 h3 (by omega) (by omega)
  | false => exact morder_false A _ c cs l bad W h2 h3 (by omega) (by omega)
set_option maxRecDepth 100000 in
theorem lifted (os : Os) (started : os.Started) (H : Type) (enc : TypeId × Value → H) (F : Stop.Interp) :
    ReturnsInHanded {} Try.checked os 3 .any ((Rows.OpenSpec.upto Rows.multiOrderSpec).pre6 enc Try.prog Try.f3 Rows.multiOrderUptoRow.domain false) (((Rows.OpenSpec.upto Rows.multiOrderSpec).at F).post enc Try.prog Try.f3 false true false false) := by
  refine returnsInHanded_of_cond_sized (C := Try.checked) (s := Rows.OpenSpec.upto Rows.multiOrderSpec) (k := Rows.uptoSmall) rfl own started (by kernel_rfl) Try.func3
    (OpenSpec.witness (enc := enc) (C := Try.checked) (s := Rows.OpenSpec.upto Rows.multiOrderSpec) (k := Rows.uptoSmall) rfl false ⟨#[], #[.slice none 0 0, .bool false, .bool false], []⟩ 8 (by kernel_rfl) (by kernel_rfl) (by kernel_rfl)
      (x := ([.nil, .lit (.bool false), .lit (.bool false)], [], [])) (by kernel_rfl) rfl (by kernel_rfl)) ?_
  intro W base args ds gs before hval0 hW hcnd hk0 hsz0 _
  have hsz : (DataW.weightsEach Try.prog (Try.f3.params.toList ++ Rows.multiOrderSpec.plain.varTypes Try.prog) (ds ++ gs)).all (· ≤ reachBytes) = true := hsz0
  have hval : ∀ (j : Nat) t v, Try.f3.params[j]? = some t → args[j]? = some v → Value.okWide Try.prog W .any base t v := hval0
  have hW' := hW
  obtain ⟨p, q, hA0, hV, rfl, hfz, hnd⟩ := hW
  have hA : DataW.TrodAll enc Try.prog W 0 (fun _ => true) true Try.f3.params.toList args.toList ds p := hA0
  rw [Try.params3] at hA hval hsz
  obtain ⟨v0, vs0, d0, ds0, p0, q0, hargs, rfl, rfl, h0, r0⟩ := trodAll_cons hA
  obtain ⟨v1, vs1, d1, ds1, p1, q1, rfl, rfl, rfl, h1, r1⟩ := trodAll_cons r0
  obtain ⟨v2, vs2, d2, ds2, p2, q2, rfl, rfl, rfl, h2, r2⟩ := trodAll_cons r1
  obtain ⟨rfl, rfl, rfl⟩ := trodAll_nil r2
  obtain rfl : args = #[v0, v1, v2] := by cases args; simp_all
  obtain ⟨rfl, rfl⟩ := trodVars_none hV
  have hbk : Rows.uptoBulk d0 ≤ 1048576 := by
    have h := of_decide_eq_true hk0
    simp only [List.cons_append, Rows.uptoBulkAll] at h
    omega
  have k0 := h0
  have lt0 : ∀ x ∈ p0, x.block < W.heap.size := by obtain ⟨m, hm⟩ := k0; exact DataW.trod_lt m _ _ _ hm
  obtain ⟨z0, e0, w0⟩ := arg_openB (opensB_slice (t := 22) (e := 23) (d := Kd.slice 9 Kd.string) Try.underlying22 (by kernel_rfl) (opensB_slice (t := 23) (e := 9) (d := Kd.string) Try.underlying23 (by kernel_rfl) (opensB_string Try.underlying9))) hsz (j := 0) rfl rfl h0
  obtain ⟨cs0, hcs0, e0⟩ : ∃ cs, v0.cells.toList = cs ∧ (Kd.slice 23 (Kd.slice 9 Kd.string)).K W z0 cs := ⟨_, rfl, e0⟩
  obtain ⟨Az0, cz0, rfl, hcz0, hrz0⟩ := e0
  obtain rfl := one_slice Try.underlying22 (hval 0 22 v0 rfl rfl) hcs0
  have k1 := h1
  have lt1 : ∀ x ∈ p1, x.block < W.heap.size := by obtain ⟨m, hm⟩ := k1; exact DataW.trod_lt m _ _ _ hm
  obtain ⟨z1, e1, w1⟩ := arg_open (opens_bool Try.underlying4) hsz (j := 1) rfl rfl h1
  obtain ⟨cs1, hcs1, e1⟩ : ∃ cs, v1.cells.toList = cs ∧ Kd.bool.K W z1 cs := ⟨_, rfl, e1⟩
  obtain rfl := e1
  obtain rfl := one_bool Try.underlying4 (hval 1 4 v1 rfl rfl) hcs1
  have k2 := h2
  have lt2 : ∀ x ∈ p2, x.block < W.heap.size := by obtain ⟨m, hm⟩ := k2; exact DataW.trod_lt m _ _ _ hm
  obtain ⟨z2, e2, w2⟩ := arg_open (opens_bool Try.underlying4) hsz (j := 2) rfl rfl h2
  obtain ⟨cs2, hcs2, e2⟩ : ∃ cs, v2.cells.toList = cs ∧ Kd.bool.K W z2 cs := ⟨_, rfl, e2⟩
  obtain rfl := e2
  obtain rfl := one_bool Try.underlying4 (hval 2 4 v2 rfl rfl) hcs2
  clear hA0 hval0 hsz0 hsz hk0
  have hb : tot z0 + z0.length + 1 ≤ 1048576 := by
    have h : sumM (fun c : List ByteArray => sumM (fun s : ByteArray => s.size + 1) c + 1) z0 + 1 ≤ 1048576 := Nat.le_trans w0 hbk
    rw [sum_tot] at h
    omega
  refine (order_calls Az0 cz0 z0 z1 z2 W hrz0 hcz0 hb).mono fun e W' he => ?_
  obtain ⟨rfl, bel⟩ := he
  exact ⟨_, rfl, _, _, _, [], _, [], hW', trodAll_mk1 (shut_bool Try.underlying4 _), (trodAll_cons_mk (Below.trod laidOut (by kernel_rfl) (of_decide_eq_true (by kernel_rfl)) k0 bel lt0) (trodAll_cons_mk (Below.trod laidOut (by kernel_rfl) (of_decide_eq_true (by kernel_rfl)) k1 bel lt1) (trodAll_cons_mk (Below.trod laidOut (by kernel_rfl) (of_decide_eq_true (by kernel_rfl)) k2 bel lt2) trodAll_mk0))), rfl, bel.frame _, fun h => by cases h⟩
theorem over : Rows.multiOrderUptoRow.holds Try.pinned (Rows.OpenSpec.upto Rows.multiOrderSpec) :=
  OpenClaim.holds_of_cond 3 Try.f3 rfl rfl rfl rfl rfl rfl rfl ⟨rfl, rfl, rfl, rfl, rfl⟩ rfl rfl rfl rfl rfl (by kernel_rfl) Try.func3 (by kernel_rfl)
    (of_decide_eq_true (by kernel_rfl)) (by unfold Func.isWrapper; first | (rw [if_pos (by decide +kernel)]; kernel_rfl) | (rw [if_neg (by decide +kernel)]; exact ⟨rfl, rfl⟩))
    (fun os started H enc _ F => lifted os started H enc F)
theorem proved : Rows.MultiOrderUptoSaid := over
#print axioms proved
end Go.Proofs.Ytkamejnccmapkaa.multiOrder
namespace Go.Proofs.Ytkamejnccmapkaa
/-- The row, under a short name, for the claim. -/
theorem multiOrderUpto_holds : Rows.MultiOrderUptoSaid := multiOrder.proved
end Go.Proofs.Ytkamejnccmapkaa
