/- How an argument that can be read as data is, in the printed words: one law a shape of type. No program in sight. -/
import Derived.Test.YtehnogggokfcaaaWA
import Derived.SizedLaws
import Derived.Deep.Slices
import Derived.ChangeArms
import Derived.WideShapes
import Derived.OpenShut
namespace Go.Proofs.Ytehnogggokfcaaa.Y
open Go.RowKit Go.Deep Go.Proofs.YtehnogggokfcaaaW.PrintWords
set_option linter.unusedVariables false

def Opens {α : Type} (P : Program) (d : Kd α) (t : TypeId) (WF : α → Prop) : Prop :=
  ∀ (H : Type) (enc : TypeId × Value → H) (W : World) (fuel : Nat) (cs : List Value) (x : DataW H × List MemPlace),
    DataW.trod enc P W 0 (fun _ => true) true fuel t cs = some x → (∀ n ∈ DataW.weights P t x.1, n ≤ reachBytes) → ∃ a : α, d.K W a cs ∧ WF a
theorem opens_int {P : Program} {t : TypeId} {k : IntKind} (ht : P.underlying t = some (.int k)) : Opens P (Kd.int k) t (fun a => (Lit.int k a).wf = true) := by
  intro H enc W fuel cs x h _
  obtain ⟨n, rfl, _, hw⟩ := DataW.trod_int ht h
  exact ⟨n, rfl, hw⟩
theorem opens_string {P : Program} {t : TypeId} (ht : P.underlying t = some .string) : Opens P Kd.string t (fun s => s.size ≤ 140737488351232) := by
  intro H enc W fuel cs x h hs
  obtain ⟨s, rfl, rfl, _⟩ := DataW.trod_string ht h
  refine ⟨s, rfl, ?_⟩
  have := hs s.data.toList.length (by simp [DataW.weights])
  rw [Array.length_toList] at this
  exact this
theorem weights_mem_all {H : Type} {P : Program} {e : TypeId} : ∀ {ds : List (DataW H)} {d : DataW H}, d ∈ ds → ∀ n ∈ d.weights P e, n ∈ DataW.weightsAll P e ds
  | d0 :: ds, d, hd, n, hn => by
    simp only [DataW.weightsAll, List.mem_append]
    rcases List.mem_cons.1 hd with rfl | hd
    · exact .inl hn
    · exact .inr (weights_mem_all hd n hn)
theorem cells_at {w : World} {a : Addr} {n : Nat} {cs : List Value} (h : w.cells? 0 a n = some cs) : cs.length = n ∧ ∀ i u, cs[i]? = some u → w.cell? (a.add i) = some u := by
  unfold World.cells? at h
  rw [if_pos (Nat.zero_le _)] at h
  have h1 := mapM_some_length h
  rw [List.length_range] at h1
  refine ⟨h1, fun i u hu => ?_⟩
  have hi : i < n := by
    have h2 := (List.getElem?_eq_some_iff.1 hu).1
    omega
  rw [mapM_some_get h i i (by simp [hi]), hu]
theorem opens_slice {α : Type} {P : Program} {d : Kd α} {t e : TypeId} {WF : α → Prop} (ht : P.underlying t = some (.slice e)) (hc : P.cellsOf e = d.sz) {B : Nat} (hB : P.bytesOf e = B) (he : Opens P d e WF) :
    Opens P (Kd.slice e d) t (fun l => l.length * B ≤ 140737488351232 ∧ ∀ x ∈ l, WF x) := by
  intro H enc W fuel cs x h hs
  rcases open_slice ht h with ⟨rfl, _⟩ | ⟨a, len, cap, m, n, D, Pl, rfl, _, hl, hm, hmm, rfl, hx⟩
  · exact ⟨[], ⟨none, 0, rfl, Nat.le_refl _, rfl, by simp, fun h => absurd h (by simp)⟩, by simp, by simp⟩
  · have hm2 : m = cap := by simpa using hmm
    subst hm2
    have hw : ∀ i, i < len → ∀ k ∈ DataW.weights P e (D i), k ≤ reachBytes := fun i hi k hk => hs k (by
      simp only [DataW.weights, ht, List.mem_cons, List.mem_append]
      exact .inr (.inl (weights_mem_all (List.mem_map.2 ⟨i, List.mem_range.2 hi, rfl⟩) k hk)))
    have hall : ∀ i, i < len → ∃ y : α, (∃ c, c.length = d.sz ∧ d.K W y c ∧ ∀ j u, c[j]? = some u → W.cell? (a.add (i * d.sz + j)) = some u) ∧ WF y := by
      intro i hi
      obtain ⟨c, hcs, htr⟩ := hx i (by omega)
      obtain ⟨y, hK, hWF⟩ := he H enc W n c (D i, Pl i) htr (hw i hi)
      rw [hc] at hcs
      obtain ⟨h1, h2⟩ := cells_at hcs
      refine ⟨y, ⟨c, h1, hK, fun j u hu => ?_⟩, hWF⟩
      have := h2 j u hu
      rwa [Addr.add_add] at this
    have hex : ∀ len', len' ≤ len → ∃ ys : List α, ys.length = len' ∧ ∀ j y, ys[j]? = some y → (∃ c, c.length = d.sz ∧ d.K W y c ∧ ∀ i u, c[i]? = some u → W.cell? (a.add (j * d.sz + i)) = some u) ∧ WF y := by
      intro len'
      induction len' with
      | zero => intro _; exact ⟨[], rfl, fun j y hy => by simp at hy⟩
      | succ k ih =>
        intro hk
        obtain ⟨ys, hy1, hy2⟩ := ih (by omega)
        obtain ⟨y, hy⟩ := hall k (by omega)
        refine ⟨ys ++ [y], by simp [hy1], fun j z hz => ?_⟩
        rcases Nat.lt_trichotomy j k with hj | hj | hj
        · exact hy2 j z (by rwa [List.getElem?_append_left (by omega)] at hz)
        · subst hj
          rw [List.getElem?_append_right (by omega), hy1, Nat.sub_self] at hz
          obtain rfl : y = z := by simpa using hz
          exact hy
        · rw [List.getElem?_eq_none (by simp [hy1]; omega)] at hz
          cases hz
    obtain ⟨ys, hy1, hy2⟩ := hex len (Nat.le_refl _)
    refine ⟨ys, ⟨some a, m, by rw [hy1], by omega, rfl, by simp only [maxLen] at hm; omega, fun _ => ⟨a, rfl, fun j p hp => (hy2 j p hp).1⟩⟩, ?_, fun y hy => ?_⟩
    · have := hs ((len + (m - len)) * P.bytesOf e) (by simp [DataW.weights, ht])
      rw [hB] at this
      rw [hy1]
      exact Nat.le_trans (Nat.mul_le_mul_right _ (by omega)) this
    · obtain ⟨j, hj⟩ := List.mem_iff_getElem?.1 hy
      exact (hy2 j y hj).2
theorem field_open {α : Type} {P : Program} {d : Kd α} {t ft : TypeId} {WF : α → Prop} {fs : Array Field} {H : Type} {enc : TypeId × Value → H} {W : World} {n : Nat} {cs : List Value} {xs : List (DataW H × List MemPlace)}
    (ht : P.underlying t = some (.struct fs)) (ho : Opens P d ft WF) (hlen : xs.length = fs.size)
    (hf : ∀ (i : Nat) (f : Field), fs[i]? = some f → DataW.trod enc P W 0 (fun _ => true) true n f.type ((cs.drop f.offset).take (P.cellsOf f.type)) = xs[i]?)
    (i : Nat) {f : Field} (hi : fs[i]? = some f) (hft : f.type = ft) (hs : ∀ m ∈ DataW.weights P t (DataW.agg (xs.map (·.1)) : DataW H), m ≤ reachBytes) :
    ∃ a, d.K W a ((cs.drop f.offset).take (P.cellsOf f.type)) ∧ WF a := by
  subst hft
  have hlt : i < xs.length := by rw [hlen]; exact (Array.getElem?_eq_some_iff.1 hi).1
  have h1 := hf i f hi
  rw [List.getElem?_eq_getElem hlt] at h1
  refine ho H enc W n _ _ h1 fun m hm => hs m ?_
  simp only [DataW.weights, ht]
  refine DataW.weights_mem_each (j := i) (t := f.type) (d := xs[i].1) ?_ (by simp [hlt]) m hm
  rw [List.getElem?_map, Array.getElem?_toList, hi]
  rfl
theorem K_last {α : Type} {d : Kd α} {W : World} {a : α} {cs : List Value} {o s : Nat} (h : d.K W a ((cs.drop o).take s)) (hl : cs.length = o + s) : d.K W a (cs.drop o) := by
  rwa [List.take_of_length_le (by rw [List.length_drop]; omega)] at h
theorem K_pair {α β : Type} {a : Kd α} {b : Kd β} {W : World} {x : α} {y : β} {cs : List Value} {o s : Nat} (h : a.K W x ((cs.drop o).take s)) (k : b.K W y (cs.drop (o + s))) : (Kd.pair a b).K W (x, y) (cs.drop o) :=
  ⟨(cs.drop o).take s, (cs.drop o).drop s, (List.take_append_drop _ _).symm, h, by rw [List.drop_drop]; exact k⟩
theorem arg_open {α : Type} {P : Program} {d : Kd α} {t : TypeId} {WF : α → Prop} {H : Type} {enc : TypeId × Value → H} {W : World} {v : Value} {dw : DataW H} {ps : List MemPlace} {ts : List TypeId} {ds : List (DataW H)}
    (ho : Opens P d t WF) (hsz : (DataW.weightsEach P ts ds).all (· ≤ reachBytes) = true) {j : Nat} (hj : ts[j]? = some t) (hd : ds[j]? = some dw) (h : DataW.Trod enc P W 0 (fun _ => true) true t v dw ps) :
    ∃ a, d.K W a v.cells.toList ∧ WF a := by
  obtain ⟨fuel, hf⟩ := h
  exact ho H enc W fuel _ _ hf fun n hn => by simpa using List.all_eq_true.1 hsz n (DataW.weights_mem_each hj hd n hn)
section
variable {P : Program} {w : World} {r : Reach} {base : Nat} {t : TypeId} {v u : Value}
open Go.WideShapes
end
theorem agg_of {ar : Array Value} {l : List Value} (h : (Value.agg ar).cells.toList = l) : ar = l.toArray := by
  subst h
  simp [Value.cells]
end Go.Proofs.Ytehnogggokfcaaa.Y
