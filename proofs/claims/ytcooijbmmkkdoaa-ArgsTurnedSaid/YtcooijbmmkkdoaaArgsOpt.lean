/- What args.Options and the document's come to. No memory. -/
import Derived.Test.YtcooijbmmkkdoaaArgs
import Derived.Test.YtcooijbmmkkdoaaX3
import Derived.Test.YtcooijbmmkkdoaaX4
import Derived.Test.YtcooijbmmkkdoaaX5
import Derived.Test.YtcooijbmmkkdoaaX10
namespace Go.Proofs.Ytcooijbmmkkdoaa.Pure
open Go.RowKit Go.Proofs.YtcooijbmmkkdoaaW.PrintWords Go.Proofs.YtcooijbmmkkdoaaW.PrintMore Go.Proofs.Ytcooijbmmkkdoaa.Y Go.Proofs.Ytcooijbmmkkdoaa.X
set_option linter.unusedVariables false
set_option linter.unusedSimpArgs false

/-- The first place of a name. -/
def idx (t : ByteArray) : List ByteArray → Nat → Option Nat
  | [], _ => none
  | p :: r, j => if p = t then some j else idx t r (j + 1)
theorem idx_range (t : ByteArray) : ∀ (r : List ByteArray) (j i : Nat), idx t r j = some i → j ≤ i ∧ i < j + r.length
  | [], j, i, h => by simp [idx] at h
  | p :: r, j, i, h => by
    rw [idx] at h
    split at h
    · have := Option.some.inj h; simp; omega
    · have := idx_range t r (j + 1) i h
      simp; omega
/-- What the names are: what stands ahead, and how many arguments each has. -/
structure Names (names pre : List ByteArray) (cnt : List Nat) : Prop where
  len : names.length = pre.length
  clen : cnt.length = pre.length
  few : pre.length ≤ 100
  size : ∀ j (h : j < names.length), 3 ≤ (names[j]).size ∧ (names[j]).size ≤ 100
  ahead : ∀ j (h : j < names.length) (h' : j < pre.length), (names[j]).extract 0 ((names[j]).size - 2) = pre[j]
  count : ∀ j (h : j < names.length) (h' : j < cnt.length), (bt names[j] (wrap64 (((names[j]).size : Int) - 1)) - 48) % 256 = (cnt[j] : Int)
  small : ∀ j (h : j < cnt.length), cnt[j] ≤ 200
theorem fits_is {names pre : List ByteArray} {cnt : List Nat} (N : Names names pre cnt) (j : Nat) (h : j < names.length) (h' : j < pre.length) (t : ByteArray) : args_fits.f names[j] t = some (decide (pre[j] = t)) := by
  have hs := N.size j h
  unfold args_fits.f
  rw [if_pos (by omega), if_pos (by omega), N.ahead j h h']
def idxI (o : Option Nat) : Int := match o with | none => -1 | some j => (j : Int)
theorem index_l {names pre : List ByteArray} {cnt : List Nat} (N : Names names pre cnt) (t : ByteArray) : ∀ n j, pre.length - j ≤ n → j ≤ pre.length → Ev (fun k => slices_IndexFunc_string_string.l0 k names t (names.length : Int) (j : Int)) (idxI (idx t (pre.drop j) j)) := by
  intro n
  have hlen := N.len
  have hfew := N.few
  have hfin : ∀ j, j ≤ pre.length → ¬ j < pre.length → Ev (fun k => slices_IndexFunc_string_string.l0 k names t (names.length : Int) (j : Int)) (idxI (idx t (pre.drop j) j)) := by
    intro j h2 hj
    rw [List.drop_of_length_le (by omega)]
    refine ev_round ?_
    simp only [slices_IndexFunc_string_string.l0]
    exact ev_neg (by omega) (ev_some rfl)
  induction n with
  | zero => intro j h1 h2; exact hfin j h2 (by omega)
  | succ n ih =>
    intro j h1 h2
    by_cases hj : j < pre.length
    · rw [List.drop_eq_getElem_cons hj, idx]
      refine ev_round ?_
      simp only [slices_IndexFunc_string_string.l0]
      rw [rdOf_nat _ names j (by omega), w1 j (by omega)]
      refine ev_pos (by omega) (ev_pos (by omega) (ev_pos (by omega) (ev_bind0 (fits_is N j (by omega) hj t) ?_)))
      by_cases hc : pre[j] = t
      · rw [if_pos hc]
        exact ev_pos (decide_eq_true hc) (ev_some rfl)
      · rw [if_neg hc]
        exact ev_neg (by simpa using hc) (ih (j + 1) (by omega) (by omega))
    · exact hfin j h2 hj
theorem index_ev {names pre : List ByteArray} {cnt : List Nat} (N : Names names pre cnt) (t : ByteArray) : Ev (fun k => slices_IndexFunc_string_string.f k names t) (idxI (idx t pre 0)) := index_l N t pre.length 0 (by omega) (by omega)
/-- The options of arguments. -/
def optL (pre : List ByteArray) (cnt : List Nat) (l : List ByteArray) (out : List S38) : Option (List S38) :=
  match l with
  | [] => some out
  | a :: r => match idx (up a) pre 0 with
    | none => none
    | some j => if (out.getD j z38).f0 = true then none else if r.length < cnt.getD j 0 then none else optL pre cnt (r.drop (cnt.getD j 0)) (out.set j ⟨true, r.take (cnt.getD j 0)⟩)
termination_by l.length
decreasing_by simp; omega
theorem optL_nil (pre cnt out) : optL pre cnt [] out = some out := by rw [optL]
theorem optL_none (pre cnt a r out) (h : idx (up a) pre 0 = none) : optL pre cnt (a :: r) out = none := by rw [optL, h]
theorem optL_some (pre cnt a r out) (j : Nat) (h : idx (up a) pre 0 = some j) : optL pre cnt (a :: r) out = if (out.getD j z38).f0 = true then none else if r.length < cnt.getD j 0 then none else optL pre cnt (r.drop (cnt.getD j 0)) (out.set j ⟨true, r.take (cnt.getD j 0)⟩) := by
  rw [optL, h]
def resO (o : Option (List S38)) : List S38 × Bool := match o with | none => ([], false) | some out => (out, true)
theorem clone_is (l : List ByteArray) (h : l.length ≤ 1000000) : slices_Clone_string_string.f l = some l := by
  unfold slices_Clone_string_string.f
  simp only [Option.bind_some, List.length_nil, Nat.zero_add, List.nil_append]
  rw [if_pos (by omega)]
theorem opt_l {names pre : List ByteArray} {cnt : List Nat} (N : Names names pre cnt) : ∀ n (l : List ByteArray), l.length ≤ n → l.length ≤ 100 → (∀ s ∈ l, s.size ≤ 300) → ∀ out : List S38, out.length = pre.length →
    Ev (fun k => args_Options.l0 k l names out) (resO (optL pre cnt l out)) := by
  intro n
  have hlen := N.len
  have hcl := N.clen
  have hfew := N.few
  induction n with
  | zero =>
    intro l hl h1 h2 out ho
    obtain rfl : l = [] := List.length_eq_zero_iff.1 (by omega)
    rw [optL_nil]
    refine ev_round ?_
    simp only [args_Options.l0]
    exact ev_neg (by simp) (ev_some rfl)
  | succ n ih =>
    intro l hl h1 h2 out ho
    cases l with
    | nil =>
      rw [optL_nil]
      refine ev_round ?_
      simp only [args_Options.l0]
      exact ev_neg (by simp) (ev_some rfl)
    | cons a r =>
      simp only [List.length_cons] at hl h1
      have ha := h2 a (by simp)
      have hr0 : rdOf ByteArray.empty (a :: r) 0 = a := rdOf_nat _ (a :: r) 0 (by simp)
      refine ev_round ?_
      simp only [args_Options.l0]
      rw [hr0]
      refine ev_pos (by simp) (ev_pos (by simp) (ev_bind0 (upper_is a (by omega)) (ev_bind (index_ev N (up a)) ?_)))
      have hj1t : ∀ x : Int, Ev (fun k => args_Options.j1 k (a :: r) names out x true) ([], false) := by
        intro x
        refine ev_round ?_
        simp only [args_Options.j1]
        exact ev_pos (by trivial) (ev_some rfl)
      cases hi : idx (up a) pre 0 with
      | none =>
        rw [optL_none _ _ _ _ _ hi]
        exact ev_pos (by simp [idxI]) (hj1t _)
      | some j =>
        obtain ⟨_, hj⟩ := idx_range _ _ _ _ hi
        rw [Nat.zero_add] at hj
        have hjn : j < names.length := by omega
        have hjc : j < cnt.length := by omega
        have hsz := N.size j hjn
        have hct := N.count j hjn hjc
        have hsm := N.small j hjc
        have hgd : cnt.getD j 0 = cnt[j] := by rw [List.getD_eq_getElem?_getD, List.getElem?_eq_getElem hjc]; rfl
        rw [optL_some _ _ _ _ _ j hi, hgd]
        have hrd : rd_T38 out ((j : Nat) : Int) = out.getD j z38 := rfl
        refine ev_neg (by simp [idxI]) (ev_pos (by simp [idxI]) (ev_pos (by simp only [idxI]; omega) ?_))
        simp only [idxI]
        rw [hrd]
        by_cases hf : (out.getD j z38).f0 = true
        · rw [if_pos hf, hf]
          exact hj1t _
        · rw [if_neg hf]
          have hf' : (out.getD j z38).f0 = false := by simpa using hf
          rw [hf']
          have hw : wrap64 (((names[j]).size : Int) - 1) = ((names[j]).size : Int) - 1 := w64 (by omega) (by omega)
          refine ev_round ?_
          simp only [args_Options.j1]
          rw [rdOf_nat _ names j hjn, hct, hw]
          refine ev_neg (by decide) (ev_pos (by omega) (ev_pos (by omega) (ev_pos (by omega) (ev_pos (by omega) ?_))))
          by_cases hc : r.length < cnt[j]
          · rw [if_pos hc]
            exact ev_pos (by simp; omega) (ev_some rfl)
          · rw [if_neg hc]
            have e1 : ((1 : Int) + (cnt[j] : Int)).toNat = cnt[j] + 1 := by omega
            have e2 : ((a :: r).take (cnt[j] + 1)).drop 1 = r.take cnt[j] := by simp
            have e3 : (a :: r).drop (cnt[j] + 1) = r.drop cnt[j] := by simp
            rw [e1, e2, e3]
            refine ev_neg (by simp; omega) (ev_pos (by omega) (ev_pos (by simp; omega) (ev_bind0 (clone_is _ (by simp; omega)) (ev_pos (by omega) (ev_pos (by omega) ?_)))))
            simp only [Int.toNat_natCast]
            exact ih (r.drop cnt[j]) (by simp; omega) (by simp; omega) (fun s hs => h2 s (List.mem_cons_of_mem _ (List.mem_of_mem_drop hs))) _ (by simp; omega)
theorem opt_ev {names pre : List ByteArray} {cnt : List Nat} (N : Names names pre cnt) (l : List ByteArray) (h1 : l.length ≤ 100) (h2 : ∀ s ∈ l, s.size ≤ 300) : Ev (fun k => args_Options.f k l names) (resO (optL pre cnt l (List.replicate pre.length z38))) := by
  have hfew := N.few
  have hlen := N.len
  unfold args_Options.f
  simp only [Int.toNat_natCast]
  rw [hlen]
  exact ev_pos (by omega) (ev_pos (by omega) (opt_l N l.length l (Nat.le_refl _) h1 h2 _ (by simp)))
theorem wadd (i c : Nat) (h : i + c ≤ 4000000000) : wrap64 ((i : Int) + (c : Int)) = ((i + c : Nat) : Int) := by
  rw [w64 (by omega) (by omega)]; omega
theorem wadd1 (i c : Nat) (h : i + c ≤ 4000000000) : wrap64 ((i : Int) + wrap64 (1 + (c : Int))) = ((i + 1 + c : Nat) : Int) := by
  rw [w64 (i := 1 + (c : Int)) (by omega) (by omega), w64 (by omega) (by omega)]; omega
theorem ropt_l {names pre : List ByteArray} {cnt : List Nat} (N : Names names pre cnt) (l : List ByteArray) (h1 : l.length ≤ 100) (h2 : ∀ s ∈ l, s.size ≤ 300) (cI : List Int) (hcI : cI = cnt.map (fun n : Nat => (n : Int))) : ∀ n i, l.length - i ≤ n → i ≤ l.length → ∀ out : List S38, out.length = pre.length →
    Ev (fun k => mewsref29_Options.l0 k l pre cI out (i : Int)) (resO (optL pre cnt (l.drop i) out)) := by
  intro n
  have hlen := N.len
  have hcl := N.clen
  have hfew := N.few
  have hfin : ∀ i, i ≤ l.length → ¬ i < l.length → ∀ out : List S38, Ev (fun k => mewsref29_Options.l0 k l pre cI out (i : Int)) (resO (optL pre cnt (l.drop i) out)) := by
    intro i h3 hi out
    rw [List.drop_of_length_le (by omega), optL_nil]
    refine ev_round ?_
    simp only [mewsref29_Options.l0]
    exact ev_neg (by omega) (ev_some rfl)
  induction n with
  | zero => intro i h3 h4 out ho; exact hfin i h4 (by omega) out
  | succ n ih =>
    intro i h3 h4 out ho
    by_cases hi : i < l.length
    · have ha := h2 l[i] (List.getElem_mem hi)
      rw [List.drop_eq_getElem_cons hi]
      have hrl : (l.drop (i + 1)).length = l.length - (i + 1) := by simp
      -- the search
      have hsearch : ∀ m j, pre.length - j ≤ m → j ≤ pre.length → idx (up l[i]) pre 0 = idx (up l[i]) (pre.drop j) j → Ev (fun k => mewsref29_Options.l1 k l pre cI out (i : Int) (j : Int)) (resO (optL pre cnt (l[i] :: l.drop (i + 1)) out)) := by
        intro m
        have hend : ∀ j, j ≤ pre.length → ¬ j < pre.length → idx (up l[i]) pre 0 = idx (up l[i]) (pre.drop j) j → Ev (fun k => mewsref29_Options.l1 k l pre cI out (i : Int) (j : Int)) (resO (optL pre cnt (l[i] :: l.drop (i + 1)) out)) := by
          intro j h5 hj hix
          rw [List.drop_of_length_le (by omega)] at hix
          rw [optL_none _ _ _ _ _ hix]
          refine ev_round ?_
          simp only [mewsref29_Options.l1]
          exact ev_neg (by omega) (ev_pos (by omega) (ev_some rfl))
        induction m with
        | zero => intro j h5 h6 hix; exact hend j h6 (by omega) hix
        | succ m ihm =>
          intro j h5 h6 hix
          by_cases hj : j < pre.length
          · rw [List.drop_eq_getElem_cons hj, idx] at hix
            refine ev_round ?_
            simp only [mewsref29_Options.l1]
            rw [rdOf_nat _ l i hi, rdOf_nat _ pre j hj]
            refine ev_pos (by omega) (ev_pos (by omega) (ev_pos (by omega) (ev_pos (by omega) (ev_bind (rupper_ev l[i] (by omega)) ?_))))
            by_cases hc : pre[j] = up l[i]
            · rw [if_pos hc] at hix
              have hjc : j < cnt.length := by omega
              have hsm := N.small j hjc
              have hgd : cnt.getD j 0 = cnt[j] := by rw [List.getD_eq_getElem?_getD, List.getElem?_eq_getElem hjc]; rfl
              have hrdc : rd cI ((j : Nat) : Int) = (cnt[j] : Int) := by
                rw [hcI, rd_nat _ j (by simpa using hjc)]; simp
              have hcl2 : cI.length = cnt.length := by rw [hcI]; simp
              rw [optL_some _ _ _ _ _ j hix, hgd, hrdc]
              clear hrdc hgd hcI
              have hrd : rd_T38 out ((j : Nat) : Int) = out.getD j z38 := rfl
              rw [hrd]
              clear hrd
              refine ev_pos (by rw [hc]) (ev_neg (by omega) (ev_pos (by omega) ?_))
              by_cases hf : (out.getD j z38).f0 = true
              · rw [if_pos hf]
                exact ev_pos hf (ev_some rfl)
              · rw [if_neg hf]
                rw [wadd1 i cnt[j] (by omega), wadd i cnt[j] (by omega), w1 i (by omega), wadd (i + 1) cnt[j] (by omega)]
                simp only [Int.toNat_natCast]
                refine ev_neg hf (ev_pos (by omega) ?_)
                by_cases hq : (l.drop (i + 1)).length < cnt[j]
                · rw [if_pos hq]
                  exact ev_pos (by omega) (ev_some rfl)
                · rw [if_neg hq]
                  have e5 : (l.take (i + 1 + cnt[j])).drop (i + 1) = (l.drop (i + 1)).take cnt[j] := by
                    rw [List.drop_take]; congr 1; omega
                  have e6 : (l.drop (i + 1)).drop cnt[j] = l.drop (i + 1 + cnt[j]) := by rw [List.drop_drop]
                  rw [e5, e6, List.nil_append]
                  have hlt : ((l.drop (i + 1)).take cnt[j]).length ≤ 100 := by simp; omega
                  exact ev_neg (by omega) (ev_pos (by omega) (ev_pos (by omega) (ev_pos (by omega) (ev_pos (by simp only [List.length_nil]; omega) (ih (i + 1 + cnt[j]) (by omega) (by omega) _ (by simp; omega))))))
            · rw [if_neg hc] at hix
              rw [w1 j (by omega)]
              exact ev_neg (fun h => hc (ba_eq h)) (ihm (j + 1) (by omega) (by omega) hix)
          · exact hend j h6 hj hix
      refine ev_round ?_
      simp only [mewsref29_Options.l0]
      exact ev_pos (by omega) (hsearch pre.length 0 (by omega) (by omega) (by rw [List.drop_zero]))
    · exact hfin i h4 hi out
theorem ropt_ev {names pre : List ByteArray} {cnt : List Nat} (N : Names names pre cnt) (l : List ByteArray) (h1 : l.length ≤ 100) (h2 : ∀ s ∈ l, s.size ≤ 300) (cI : List Int) (hcI : cI = cnt.map (fun n : Nat => (n : Int))) : Ev (fun k => mewsref29_Options.f k l pre cI) (resO (optL pre cnt l (List.replicate pre.length z38))) := by
  have hfew := N.few
  unfold mewsref29_Options.f
  simp only [Int.toNat_natCast]
  have := ropt_l N l h1 h2 cI hcI l.length 0 (by omega) (by omega) (List.replicate pre.length z38) (by simp)
  rw [List.drop_zero] at this
  exact ev_pos (by omega) (ev_pos (by omega) this)
def nm4 : List ByteArray := [⟨#[78, 88, 32, 48]⟩, ⟨#[71, 84, 32, 48]⟩, ⟨#[76, 73, 77, 73, 84, 32, 50]⟩, ⟨#[77, 65, 84, 67, 72, 32, 49]⟩]
def pr4 : List ByteArray := [⟨#[78, 88]⟩, ⟨#[71, 84]⟩, ⟨#[76, 73, 77, 73, 84]⟩, ⟨#[77, 65, 84, 67, 72]⟩]
theorem names4 : Names nm4 pr4 [0, 0, 2, 1] where
  len := rfl
  clen := rfl
  few := by decide
  size := by decide +kernel
  ahead := by decide +kernel
  count := by decide +kernel
  small := by decide
theorem names0 : Names [] [] [] where
  len := rfl
  clen := rfl
  few := by decide
  size := fun j h => by simp at h
  ahead := fun j h => by simp at h
  count := fun j h => by simp at h
  small := fun j h => by simp at h
theorem same2_l (a : List ByteArray) (hl : a.length ≤ 1000000000) : ∀ (n j : Nat), a.length - j ≤ n → j ≤ a.length → Ev (fun k => mewsref02_Same.l0 k a a (j : Int)) true := by
  intro n
  have hfin : ∀ j, ¬ j < a.length → Ev (fun k => mewsref02_Same.l0 k a a (j : Int)) true := by
    intro j hj
    refine ev_round ?_
    simp only [mewsref02_Same.l0]
    exact ev_neg (by omega) (ev_some rfl)
  induction n with
  | zero => intro j h1 h2; exact hfin j (by omega)
  | succ n ih =>
    intro j h1 h2
    by_cases hj : j < a.length
    · refine ev_round ?_
      simp only [mewsref02_Same.l0]
      rw [w1 j (by omega)]
      exact ev_pos (by omega) (ev_pos (by omega) (ev_pos (by omega) (ev_pos (by trivial) (ih (j + 1) (by omega) (by omega)))))
    · exact hfin j hj
theorem same2_ev (a : List ByteArray) (hl : a.length ≤ 1000000000) : Ev (fun k => mewsref02_Same.f k a a) true := by
  unfold mewsref02_Same.f
  exact ev_pos rfl (same2_l a hl a.length 0 (by omega) (by omega))
theorem optL_ok (pre : List ByteArray) (cnt : List Nat) : ∀ n (l : List ByteArray), l.length ≤ n → l.length ≤ 100 → ∀ out : List S38, (∀ x ∈ out, x.f1.length ≤ 1000000) → ∀ out', optL pre cnt l out = some out' → out'.length = out.length ∧ ∀ x ∈ out', x.f1.length ≤ 1000000
  | n, [], hn, hl, out, ho, out', h => by
    rw [optL_nil] at h
    obtain rfl := Option.some.inj h
    exact ⟨rfl, ho⟩
  | 0, a :: r, hn, hl, out, ho, out', h => by simp at hn
  | n + 1, a :: r, hn, hl, out, ho, out', h => by
    simp only [List.length_cons] at hn hl
    cases hi : idx (up a) pre 0 with
    | none => rw [optL_none _ _ _ _ _ hi] at h; cases h
    | some j =>
      rw [optL_some _ _ _ _ _ j hi] at h
      split at h
      · cases h
      · split at h
        · cases h
        · have := optL_ok pre cnt n _ (by simp; omega) (by simp; omega) _ (by
            intro x hx
            rcases List.mem_or_eq_of_mem_set hx with hx | rfl
            · exact ho x hx
            · simp; omega) out' h
          simp only [List.length_set] at this
          exact this
end Go.Proofs.Ytcooijbmmkkdoaa.Pure
