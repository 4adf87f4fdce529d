/- For all lists of texts, either answer and all numbers: what a call of the SCAN family asks for, or what it is answered, is the document's (ArgsScans returns true); no condition beyond what the statement itself reads. -/
import Derived.Test.YtcooijbmmkkdoaaArgsOpt
import Derived.Test.YtcooijbmmkkdoaaYNumRef
import Derived.Test.YtcooijbmmkkdoaaXDArgsScans
import Derived.Test.YtcooijbmmkkdoaaX20
import Derived.Test.YtcooijbmmkkdoaaX21
import Derived.Test.YtcooijbmmkkdoaaX22
import Derived.Test.YtcooijbmmkkdoaaX23
import Derived.Test.YtcooijbmmkkdoaaX24
namespace Go.Proofs.Ytcooijbmmkkdoaa.Pure
open Go.RowKit Go.Proofs.YtcooijbmmkkdoaaW.PrintWords Go.Proofs.YtcooijbmmkkdoaaW.PrintMore Go.Proofs.Ytcooijbmmkkdoaa.Y Go.Proofs.Ytcooijbmmkkdoaa.X
set_option linter.unusedVariables false
set_option linter.unusedSimpArgs false

abbrev Sc := Int × Bool × ByteArray × Int × ByteArray × ByteArray
def noB : ByteArray := ⟨#[]⟩
def eSyn : ByteArray := ⟨#[69, 82, 82, 32, 115, 121, 110, 116, 97, 120, 32, 101, 114, 114, 111, 114]⟩
def eInt : ByteArray := ⟨#[69, 82, 82, 32, 118, 97, 108, 117, 101, 32, 105, 115, 32, 110, 111, 116, 32, 97, 110, 32, 105, 110, 116, 101, 103, 101, 114, 32, 111, 114, 32, 111, 117, 116, 32, 111, 102, 32, 114, 97, 110, 103, 101]⟩
def eCur : ByteArray := ⟨#[69, 82, 82, 32, 105, 110, 118, 97, 108, 105, 100, 32, 99, 117, 114, 115, 111, 114]⟩
def errR (e : ByteArray) : Sc := (0, false, noB, 0, noB, e)
def arg0 (x : S38) : ByteArray := rdOf ByteArray.empty x.f1 0
def kindR (ks : Bool) (o : List S38) : ByteArray := if ks then (if (rd_T38 o 2).f0 = true then arg0 (rd_T38 o 2) else noB) else noB
def jR (ks : Bool) (o : List S38) (cur : Int) (m : Bool) (g : ByteArray) : Sc :=
  if (rd_T38 o 1).f0 = true then (if (parseP (arg0 (rd_T38 o 1)).data.toList).2 = true then (if (parseP (arg0 (rd_T38 o 1)).data.toList).1 < 1 then errR eSyn else (cur, m, g, mn (parseP (arg0 (rd_T38 o 1)).data.toList).1 1000, kindR ks o, noB)) else errR eInt) else (cur, m, g, 10, kindR ks o, noB)
/-- What options must be, to be read so. -/
structure Good (ks : Bool) (o : List S38) : Prop where
  two : 2 ≤ o.length
  three : ks = true → 3 ≤ o.length
  one : ∀ j : Nat, j < o.length → (rd_T38 o (j : Int)).f0 = true → (rd_T38 o (j : Int)).f1.length = 1 ∧ ∀ s ∈ (rd_T38 o (j : Int)).f1, s.size ≤ 300
theorem arg0_size (x : S38) (h : x.f1.length = 1) (hs : ∀ s ∈ x.f1, s.size ≤ 300) : (arg0 x).size ≤ 300 := by
  unfold arg0
  have h0 : 0 < x.f1.length := by omega
  have e := rdOf_nat ByteArray.empty x.f1 0 h0
  have e' : rdOf ByteArray.empty x.f1 0 = x.f1[0] := e
  rw [e']
  exact hs _ (List.getElem_mem h0)
theorem tail_ev (ks : Bool) (o : List S38) (h : Good ks o) (cur : Int) (m : Bool) (g : ByteArray) (c : Int) :
    Ev (fun k => if ks = true then (if 2 < (o.length : Int) then (if (rd_T38 o 2).f0 = true then (if 0 < (((rd_T38 o 2).f1).length : Int) then (some (cur, m, g, c, rdOf ByteArray.empty ((rd_T38 o 2).f1) 0, noB)) else (none)) else (some (cur, m, g, c, noB, noB))) else (none)) else (some (cur, m, g, c, noB, noB))) (cur, m, g, c, kindR ks o, noB) := by
  unfold kindR
  cases ks with
  | false => exact ev_neg (by decide) (ev_some rfl)
  | true =>
    have h3 := h.three rfl
    refine ev_pos rfl (ev_pos (by omega) ?_)
    by_cases hf : (rd_T38 o 2).f0 = true
    · have h1 := (h.one 2 (by omega) hf).1
      have h1' : (rd_T38 o 2).f1.length = 1 := h1
      simp only [if_true]
      exact ev_pos hf (ev_pos (by omega) (ev_some (by rw [if_pos hf]; rfl)))
    · simp only [if_true]
      exact ev_neg hf (ev_some (by rw [if_neg hf]))
theorem j2_ev (ks : Bool) (o : List S38) (h : Good ks o) (cur : Int) (m : Bool) (g : ByteArray) : Ev (fun k => args_Scanning.j2 k ks o cur m g 10 noB) (jR ks o cur m g) := by
  have h2 := h.two
  refine ev_round ?_
  simp only [args_Scanning.j2]
  unfold jR
  refine ev_pos (by omega) ?_
  by_cases hf : (rd_T38 o 1).f0 = true
  · have h1 := (h.one 1 (by omega) hf).1
    have h1' : (rd_T38 o 1).f1.length = 1 := h1
    simp only [if_pos hf]
    refine ev_pos (by omega) (ev_bind (parse_ev (arg0 (rd_T38 o 1))) ?_)
    generalize parseP (arg0 (rd_T38 o 1)).data.toList = p
    obtain ⟨n, ok⟩ := p
    cases ok with
    | false => exact ev_neg (by simp) (ev_some rfl)
    | true =>
      simp only [if_true]
      by_cases hn : n < 1
      · simp only [if_pos hn]
        exact ev_some rfl
      · simp only [if_neg hn]
        exact tail_ev ks o h cur m g (mn n 1000)
  · simp only [if_neg hf]
    exact tail_ev ks o h cur m g 10
theorem rj2_ev (ks : Bool) (o : List S38) (h : Good ks o) (cur : Int) (m : Bool) (g : ByteArray) : Ev (fun k => mewsref29_Scanning.j2 k ks o cur m g 10 noB) (jR ks o cur m g) := by
  have h2 := h.two
  refine ev_round ?_
  simp only [mewsref29_Scanning.j2]
  unfold jR
  refine ev_pos (by omega) ?_
  by_cases hf : (rd_T38 o 1).f0 = true
  · have h1 := h.one 1 (by omega) hf
    have h1' : (rd_T38 o 1).f1.length = 1 := h1.1
    have hsz := arg0_size (rd_T38 o 1) h1' h1.2
    simp only [if_pos hf]
    refine ev_pos (by omega) (ev_bind (ref_parse_ev (arg0 (rd_T38 o 1)) (by omega)) ?_)
    generalize parseP (arg0 (rd_T38 o 1)).data.toList = p
    obtain ⟨n, ok⟩ := p
    cases ok with
    | false => exact ev_neg (by simp) (ev_some rfl)
    | true =>
      simp only [if_true]
      by_cases hn : n < 1
      · simp only [if_pos hn]
        exact ev_some rfl
      · simp only [if_neg hn]
        by_cases hq : n > 1000
        · have : mn n 1000 = 1000 := by unfold mn; rw [if_pos hq]
          rw [this]
          exact ev_pos hq (tail_ev ks o h cur m g 1000)
        · have : mn n 1000 = n := by unfold mn; rw [if_neg hq]
          rw [this]
          exact ev_neg hq (tail_ev ks o h cur m g n)
  · simp only [if_neg hf]
    exact tail_ev ks o h cur m g 10
/-- What comes of the options. -/
def optR (ks : Bool) (cur : Int) (o : Option (List S38)) : Sc := match o with
  | none => errR eSyn
  | some o => jR ks o cur (rd_T38 o 0).f0 (if (rd_T38 o 0).f0 = true then arg0 (rd_T38 o 0) else noB)
theorem optL_good (pre : List ByteArray) (cnt : List Nat) : ∀ n (l : List ByteArray), l.length ≤ n → (∀ s ∈ l, s.size ≤ 300) → ∀ out : List S38, (∀ j : Nat, (out.getD j z38).f0 = true → (out.getD j z38).f1.length = cnt.getD j 0 ∧ ∀ s ∈ (out.getD j z38).f1, s.size ≤ 300) → ∀ out', optL pre cnt l out = some out' → out'.length = out.length ∧ (∀ j : Nat, (out'.getD j z38).f0 = true → (out'.getD j z38).f1.length = cnt.getD j 0 ∧ ∀ s ∈ (out'.getD j z38).f1, s.size ≤ 300)
  | n, [], hn, hl, out, ho, out', h => by
    rw [optL_nil] at h
    obtain rfl := Option.some.inj h
    exact ⟨rfl, ho⟩
  | 0, a :: r, hn, hl, out, ho, out', h => by simp at hn
  | n + 1, a :: r, hn, hl, out, ho, out', h => by
    simp only [List.length_cons] at hn
    cases hi : idx (up a) pre 0 with
    | none => rw [optL_none _ _ _ _ _ hi] at h; cases h
    | some j =>
      rw [optL_some _ _ _ _ _ j hi] at h
      split at h
      · cases h
      · split at h
        · cases h
        · rename_i hq
          have := optL_good pre cnt n _ (by simp; omega) (fun s hs => hl s (List.mem_cons_of_mem _ (List.mem_of_mem_drop hs))) _ (by
            intro i hf
            by_cases hij : j = i
            · subst hij
              by_cases hjl : j < out.length
              · have e : (out.set j ⟨true, r.take (cnt.getD j 0)⟩).getD j z38 = ⟨true, r.take (cnt.getD j 0)⟩ := by
                  rw [List.getD_eq_getElem?_getD, List.getElem?_set_self hjl]; rfl
                rw [e]
                refine ⟨by show (r.take (cnt.getD j 0)).length = cnt.getD j 0; rw [List.length_take]; omega, fun s hs => hl s (List.mem_cons_of_mem _ (List.mem_of_mem_take hs))⟩
              · rw [List.set_eq_of_length_le (by omega)] at hf ⊢
                exact ho j hf
            · have e : (out.set j ⟨true, r.take (cnt.getD j 0)⟩).getD i z38 = out.getD i z38 := by
                rw [List.getD_eq_getElem?_getD, List.getElem?_set_ne hij, ← List.getD_eq_getElem?_getD]
              rw [e] at hf ⊢
              exact ho i hf) out' h
          rw [List.length_set] at this
          exact this
theorem good_of (ks : Bool) (pre : List ByteArray) (cnt : List Nat) (hc : ∀ j, j < pre.length → cnt.getD j 0 = 1) (h2 : 2 ≤ pre.length) (h3 : ks = true → 3 ≤ pre.length) (l : List ByteArray) (hl : ∀ s ∈ l, s.size ≤ 300) (o : List S38) (h : optL pre cnt l (List.replicate pre.length z38) = some o) : Good ks o := by
  obtain ⟨q1, q2⟩ := optL_good pre cnt l.length l (Nat.le_refl _) hl _ (by
    intro j hf
    rw [List.getD_eq_getElem?_getD, List.getElem?_replicate] at hf
    split at hf <;> simp [z38] at hf) o h
  rw [List.length_replicate] at q1
  refine ⟨by omega, fun h => by have := h3 h; omega, fun j hj hf => ?_⟩
  obtain ⟨g1, g2⟩ := q2 j hf
  rw [hc j (by omega)] at g1
  exact ⟨g1, g2⟩
theorem j1_ev {names pre : List ByteArray} {cnt : List Nat} (N : Names names pre cnt) (ks : Bool) (hc : ∀ j, j < pre.length → cnt.getD j 0 = 1) (h2 : 2 ≤ pre.length) (h3 : ks = true → 3 ≤ pre.length) (l : List ByteArray) (h0 : 1 ≤ l.length) (h1 : l.length ≤ 100) (hl : ∀ s ∈ l, s.size ≤ 300) (n : Int) : Ev (fun k => args_Scanning.j1 k l ks n names) (optR ks (IntKind.u64.wrap n) (optL pre cnt (l.drop 1) (List.replicate pre.length z38))) := by
  have hl' : ∀ s ∈ l.drop 1, s.size ≤ 300 := fun s hs => hl s (List.mem_of_mem_drop hs)
  refine ev_round ?_
  simp only [args_Scanning.j1]
  refine ev_pos (by omega) (ev_bind (opt_ev N (l.drop 1) (by simp; omega) hl') ?_)
  cases ho : optL pre cnt (l.drop 1) (List.replicate pre.length z38) with
  | none => exact ev_neg (by simp [resO]) (ev_some rfl)
  | some o =>
    have hg := good_of ks pre cnt hc h2 h3 (l.drop 1) hl' o ho
    have hg2 := hg.two
    simp only [resO, optR]
    refine ev_pos (by trivial) (ev_pos (by omega) ?_)
    by_cases hf : (rd_T38 o 0).f0 = true
    · have h1' : (rd_T38 o 0).f1.length = 1 := (hg.one 0 (by omega) hf).1
      simp only [if_pos hf]
      rw [show jR ks o (IntKind.u64.wrap n) (rd_T38 o 0).f0 (arg0 (rd_T38 o 0)) = jR ks o (IntKind.u64.wrap n) true (arg0 (rd_T38 o 0)) by rw [hf]]
      exact ev_pos hf (ev_pos (by omega) (j2_ev ks o hg _ true _))
    · have hf' : (rd_T38 o 0).f0 = false := by simpa using hf
      simp only [if_neg hf]
      rw [show jR ks o (IntKind.u64.wrap n) (rd_T38 o 0).f0 noB = jR ks o (IntKind.u64.wrap n) false noB by rw [hf']]
      exact ev_neg hf (j2_ev ks o hg _ false _)
theorem rj1_ev {names pre : List ByteArray} {cnt : List Nat} (N : Names names pre cnt) (cI : List Int) (hcI : cI = cnt.map (fun n : Nat => (n : Int))) (ks : Bool) (hc : ∀ j, j < pre.length → cnt.getD j 0 = 1) (h2 : 2 ≤ pre.length) (h3 : ks = true → 3 ≤ pre.length) (l : List ByteArray) (h0 : 1 ≤ l.length) (h1 : l.length ≤ 100) (hl : ∀ s ∈ l, s.size ≤ 300) (n : Int) : Ev (fun k => mewsref29_Scanning.j1 k l ks n pre cI) (optR ks (IntKind.u64.wrap n) (optL pre cnt (l.drop 1) (List.replicate pre.length z38))) := by
  have hl' : ∀ s ∈ l.drop 1, s.size ≤ 300 := fun s hs => hl s (List.mem_of_mem_drop hs)
  refine ev_round ?_
  simp only [mewsref29_Scanning.j1]
  refine ev_pos (by omega) (ev_bind (ropt_ev N (l.drop 1) (by simp; omega) hl' cI hcI) ?_)
  cases ho : optL pre cnt (l.drop 1) (List.replicate pre.length z38) with
  | none => exact ev_neg (by simp [resO]) (ev_some rfl)
  | some o =>
    have hg := good_of ks pre cnt hc h2 h3 (l.drop 1) hl' o ho
    have hg2 := hg.two
    simp only [resO, optR]
    refine ev_pos (by trivial) (ev_pos (by omega) ?_)
    by_cases hf : (rd_T38 o 0).f0 = true
    · have h1' : (rd_T38 o 0).f1.length = 1 := (hg.one 0 (by omega) hf).1
      simp only [if_pos hf]
      exact ev_pos hf (ev_pos (by omega) (rj2_ev ks o hg _ _ _))
    · simp only [if_neg hf]
      exact ev_neg hf (rj2_ev ks o hg _ _ _)
def sn2 : List ByteArray := [⟨#[77, 65, 84, 67, 72, 32, 49]⟩, ⟨#[67, 79, 85, 78, 84, 32, 49]⟩]
def sp2 : List ByteArray := [⟨#[77, 65, 84, 67, 72]⟩, ⟨#[67, 79, 85, 78, 84]⟩]
def sn3 : List ByteArray := [⟨#[77, 65, 84, 67, 72, 32, 49]⟩, ⟨#[67, 79, 85, 78, 84, 32, 49]⟩, ⟨#[84, 89, 80, 69, 32, 49]⟩]
def sp3 : List ByteArray := [⟨#[77, 65, 84, 67, 72]⟩, ⟨#[67, 79, 85, 78, 84]⟩, ⟨#[84, 89, 80, 69]⟩]
theorem nm2 : Names sn2 sp2 [1, 1] where
  len := rfl
  clen := rfl
  few := by decide
  size := by decide +kernel
  ahead := by decide +kernel
  count := by decide +kernel
  small := by decide
theorem nm3 : Names sn3 sp3 [1, 1, 1] where
  len := rfl
  clen := rfl
  few := by decide
  size := by decide +kernel
  ahead := by decide +kernel
  count := by decide +kernel
  small := by decide
/-- What a call asks for, when its cursor is read. -/
def scanP (ks : Bool) (r : List ByteArray) (p : Int × Bool) : Sc := if p.2 = true ∧ ¬ p.1 < 0 then (if ks then optR ks (IntKind.u64.wrap p.1) (optL sp3 [1, 1, 1] r (List.replicate sp3.length z38)) else optR ks (IntKind.u64.wrap p.1) (optL sp2 [1, 1] r (List.replicate sp2.length z38))) else errR eCur
/-- What a call asks for. -/
def scanR (ks : Bool) (l : List ByteArray) : Sc := match l with
  | [] => errR eCur
  | a :: r => scanP ks r (parseP a.data.toList)
theorem scan_ev (ks : Bool) (l : List ByteArray) (h1 : l.length ≤ 100) (hl : ∀ s ∈ l, s.size ≤ 300) : Ev (fun k => args_Scanning.f k l ks) (scanR ks l) := by
  unfold args_Scanning.f
  cases l with
  | nil => exact ev_pos rfl (ev_some rfl)
  | cons a r =>
    have hr0 : rdOf ByteArray.empty (a :: r) 0 = a := rdOf_nat _ (a :: r) 0 (by simp)
    have hbad : ∀ n, Ev (fun k => args_Scanning.j0 k (a :: r) ks n true) (errR eCur) := by
      intro n
      refine ev_round ?_
      simp only [args_Scanning.j0]
      exact ev_pos (by trivial) (ev_some rfl)
    refine ev_neg (by simp; omega) (ev_pos (by simp) ?_)
    rw [hr0]
    refine ev_bind (parse_ev a) ?_
    show Ev _ (scanP ks r (parseP a.data.toList))
    generalize parseP a.data.toList = p
    obtain ⟨n, ok⟩ := p
    unfold scanP
    cases ok with
    | false => simp only [Bool.false_eq_true, false_and, if_false]; exact hbad n
    | true =>
      simp only [true_and, if_true]
      by_cases hn : n < 0
      · rw [if_neg (fun h => h hn), decide_eq_true hn]
        exact hbad n
      · rw [if_pos hn, decide_eq_false hn]
        refine ev_round ?_
        simp only [args_Scanning.j0]
        refine ev_neg (by decide) (ev_bind0 rfl ?_)
        cases ks with
        | true => exact ev_pos rfl (ev_pos (by decide) (j1_ev nm3 true (by decide) (by decide) (fun _ => by decide) (a :: r) (by simp) h1 hl n))
        | false => exact ev_neg (by decide) (j1_ev nm2 false (by decide) (by decide) (fun h => by cases h) (a :: r) (by simp) h1 hl n)
theorem rscan_ev (ks : Bool) (l : List ByteArray) (h1 : l.length ≤ 100) (hl : ∀ s ∈ l, s.size ≤ 300) : Ev (fun k => mewsref29_Scanning.f k l ks) (scanR ks l) := by
  unfold mewsref29_Scanning.f
  cases l with
  | nil => exact ev_pos rfl (ev_some rfl)
  | cons a r =>
    have hr0 : rdOf ByteArray.empty (a :: r) 0 = a := rdOf_nat _ (a :: r) 0 (by simp)
    have ha := hl a (by simp)
    have hbad : ∀ n, Ev (fun k => mewsref29_Scanning.j0 k (a :: r) ks n true) (errR eCur) := by
      intro n
      refine ev_round ?_
      simp only [mewsref29_Scanning.j0]
      exact ev_pos (by trivial) (ev_some rfl)
    refine ev_neg (by simp; omega) (ev_pos (by simp) ?_)
    rw [hr0]
    refine ev_bind (ref_parse_ev a (by omega)) ?_
    show Ev _ (scanP ks r (parseP a.data.toList))
    generalize parseP a.data.toList = p
    obtain ⟨n, ok⟩ := p
    unfold scanP
    cases ok with
    | false => simp only [Bool.false_eq_true, false_and, if_false]; exact hbad n
    | true =>
      simp only [true_and, if_true]
      by_cases hn : n < 0
      · rw [if_neg (fun h => h hn), decide_eq_true hn]
        exact hbad n
      · rw [if_pos hn, decide_eq_false hn]
        refine ev_round ?_
        simp only [mewsref29_Scanning.j0]
        refine ev_neg (by decide) ?_
        cases ks with
        | true => exact ev_pos rfl (rj1_ev nm3 [1, 1, 1] rfl true (by decide) (by decide) (fun _ => by decide) (a :: r) (by simp) h1 hl n)
        | false => exact ev_neg (by decide) (rj1_ev nm2 [1, 1] rfl false (by decide) (by decide) (fun h => by cases h) (a :: r) (by simp) h1 hl n)
theorem fault_eq (a : Int) : mewsref29_Fault.f a = args_Fault.f a := rfl
theorem fault_is (a : Int) : ∃ s, args_Fault.f a = some (2, 0, s, []) := by
  unfold args_Fault.f
  repeat (first | exact ⟨_, rfl⟩ | split)
theorem same3_ev (s : ByteArray) : Ev (fun k => mewsref03_Same.f k 2 0 s [] 2 0 s []) true := by
  refine ev_round ?_
  simp only [mewsref03_Same.f]
  refine ev_pos (by trivial) (ev_pos (by trivial) (ev_pos (by trivial) (ev_round ?_)))
  simp only [mewsref03_Same.j0]
  refine ev_neg (by simp) (ev_round ?_)
  simp only [mewsref03_Same.l0]
  exact ev_neg (by simp) (ev_some rfl)
theorem ArgsScans : mewslaw29_ArgsScans.PureX := by
  intro l ks e hl he
  refine Ev.rounds (r := true) ?_
  unfold mewslaw29_ArgsScans.f
  obtain ⟨b, hb, hb2⟩ := far_ev l (by have := hl.1; omega)
  refine ev_bind hb ?_
  cases b with
  | true => exact ev_pos rfl (ev_bind alive_ev (ev_some rfl))
  | false =>
    obtain ⟨g1, g2⟩ := hb2 rfl
    obtain ⟨s, hs⟩ := fault_is e
    refine ev_neg (by decide) (ev_bind (scan_ev ks l g1 g2) (ev_bind (rscan_ev ks l g1 g2) ?_))
    generalize scanR ks l = R
    exact ev_pos (by simp) (ev_pos rfl (ev_bind0 hs (ev_bind0 ((fault_eq e).trans hs) (ev_bind (same3_ev s) (ev_pos rfl (ev_bind alive_ev (ev_some rfl)))))))
end Go.Proofs.Ytcooijbmmkkdoaa.Pure
