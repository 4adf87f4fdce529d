/- For all texts s and t: s quoted is plain, and is matched by s alone; if t is a plain pattern it is matched by its bytes alone (GlobAlone returns true); no condition beyond what the statement itself reads. -/
import Derived.Test.YtncdoanemfnjjaaGlobMatch
import Derived.Test.YtncdoanemfnjjaaX1
import Derived.Test.YtncdoanemfnjjaaX4
import Derived.Test.YtncdoanemfnjjaaX5
import Derived.Test.YtncdoanemfnjjaaX6
import Derived.Test.YtncdoanemfnjjaaX7
import Derived.Test.YtncdoanemfnjjaaX10
namespace Go.Proofs.Ytncdoanemfnjjaa.Pure
open Go.RowKit Go.Proofs.YtncdoanemfnjjaaW.PrintWords Go.Proofs.YtncdoanemfnjjaaW.PrintMore Go.Proofs.Ytncdoanemfnjjaa.Y Go.Proofs.Ytncdoanemfnjjaa.X Go.Proofs.Ytncdoanemfnjjaa.Gl
set_option linter.unusedVariables false
set_option linter.unusedSimpArgs false

theorem alive_ev : Ev (fun k => mewslaw02_alive.f k) true := Ev.of mewslaw02_alive.mono (k := 60) (by decide +kernel)
theorem far_ev (l : List ByteArray) (hl : l.length ≤ 140737488351232) : Ev (fun k => mewslaw02_far.f k l) (l.any (fun s => decide (300 < s.size)) || decide (100 < l.length)) := by
  unfold mewslaw02_far.f
  have h : ∀ d i, i + d = l.length → Ev (fun k => mewslaw02_far.l0 k l l (l.length : Int) (i : Int)) ((l.drop i).any (fun s => decide (300 < s.size)) || decide (100 < l.length)) := by
    intro d
    induction d with
    | zero =>
      intro i hi
      refine ev_round ?_
      simp only [mewslaw02_far.l0]
      refine ev_neg (by omega) (ev_some ?_)
      rw [List.drop_of_length_le (by omega)]
      simp only [List.any_nil, Bool.false_or, decide_eq_decide]
      omega
    | succ d ih =>
      intro i hi
      have hlt : i < l.length := by omega
      refine ev_round ?_
      simp only [mewslaw02_far.l0]
      refine ev_pos (by omega) (ev_pos (by omega) (ev_pos (by omega) ?_))
      rw [rdOf_nat _ l i hlt, List.drop_eq_getElem_cons hlt]
      refine ev_ite (fun c => ev_some ?_) (fun c => ?_)
      · simp only [List.any_cons]
        rw [decide_eq_true (show 300 < (l[i]).size by omega)]
        rfl
      · simp only [List.any_cons]
        rw [decide_eq_false (show ¬ 300 < (l[i]).size by omega), Bool.false_or, w64 (by omega) (by omega)]
        exact ih (i + 1) (by omega)
  simpa using h l.length 0 (by omega)
def sp (a : UInt8) : Bool := decide (a = 42) || decide (a = 63) || decide (a = 91) || decide (a = 92)
/-- The bytes of a plain pattern. -/
def plainL : List UInt8 → Option (List UInt8)
  | [] => some []
  | [a] => if a ≠ 92 ∧ sp a = true then none else some [a]
  | a :: d :: r => if a = 92 then (plainL r).map (d :: ·) else if sp a = true then none else (plainL (d :: r)).map (a :: ·)
def quoteL (l : List UInt8) : List UInt8 := l.flatMap fun c => if sp c = true then [92, c] else [c]
theorem sp_no {a : UInt8} (h : ¬ sp a = true) : a ≠ 42 ∧ a ≠ 63 ∧ a ≠ 91 ∧ a ≠ 92 := by
  unfold sp at h
  simp only [Bool.or_eq_true, decide_eq_true_eq, not_or] at h
  exact ⟨h.1.1.1, h.1.1.2, h.1.2, h.2⟩
theorem oneP_plain {a : UInt8} (h : ¬ sp a = true) (r : List UInt8) (c : UInt8) : oneP a r c = (a == c, r) := by
  obtain ⟨h1, h2, h3, h4⟩ := sp_no h
  unfold oneP
  rw [if_neg h2, if_neg h3, if_neg h4]
theorem mt_byte {a d : UInt8} {r r' : List UInt8} (ha : a ≠ 42) (h : ∀ c, oneP a r c = (d == c, r')) (t : List UInt8) : Mt (a :: r) t ↔ ∃ t', t = d :: t' ∧ Mt r' t' := by
  have hn : nextR a r = r' := by unfold nextR; rw [h]
  match t with
  | [] => exact ⟨fun hm => absurd hm (mt_some_text ha), by rintro ⟨t', h, _⟩; cases h⟩
  | c :: t =>
    rw [mt_one ha, h, hn]
    constructor
    · rintro ⟨h1, h2⟩
      have : d = c := by simpa using h1
      subst this
      exact ⟨t, rfl, h2⟩
    · rintro ⟨t', e, h2⟩
      injection e with e1 e2
      subst e1; subst e2
      exact ⟨by simp, h2⟩
theorem plain_mt : ∀ (n : Nat) (u b : List UInt8), u.length ≤ n → plainL u = some b → ∀ t, Mt u t ↔ t = b := by
  intro n
  induction n with
  | zero =>
    intro u b hn h t
    rw [List.length_eq_zero_iff.1 (by omega : u.length = 0)] at h ⊢
    have : b = [] := by simpa [plainL] using h.symm
    rw [this]
    exact mt_nil_pat
  | succ n ih =>
    intro u b hn h t
    match u with
    | [] =>
      have : b = [] := by simpa [plainL] using h.symm
      rw [this]
      exact mt_nil_pat
    | [a] =>
      simp only [plainL] at h
      split at h
      · cases h
      · rename_i hc
        have hb : b = [a] := by simpa using h.symm
        subst hb
        by_cases h92 : a = 92
        · subst h92
          rw [mt_byte (d := 92) (r' := []) (by decide) (fun c => rfl)]
          constructor
          · rintro ⟨t', rfl, h⟩; rw [mt_nil_pat.1 h]
          · rintro rfl; exact ⟨[], rfl, Mt.nil⟩
        · have hs : ¬ sp a = true := fun h => hc ⟨h92, h⟩
          rw [mt_byte (sp_no hs).1 (oneP_plain hs [])]
          constructor
          · rintro ⟨t', rfl, h⟩; rw [mt_nil_pat.1 h]
          · rintro rfl; exact ⟨[], rfl, Mt.nil⟩
    | a :: d :: r =>
      simp only [plainL] at h
      simp only [List.length_cons] at hn
      split at h
      · rename_i h92
        subst h92
        obtain ⟨b', hb', hb⟩ := Option.map_eq_some_iff.1 h
        subst hb
        rw [mt_byte (d := d) (r' := r) (by decide) (fun c => rfl)]
        constructor
        · rintro ⟨t', rfl, h⟩; rw [(ih r b' (by omega) hb' t').1 h]
        · rintro rfl; exact ⟨b', rfl, (ih r b' (by omega) hb' b').2 rfl⟩
      · split at h
        · cases h
        · rename_i h92 hs
          obtain ⟨b', hb', hb⟩ := Option.map_eq_some_iff.1 h
          subst hb
          rw [mt_byte (sp_no hs).1 (oneP_plain hs (d :: r))]
          constructor
          · rintro ⟨t', rfl, h⟩; rw [(ih (d :: r) b' (by simp; omega) hb' t').1 h]
          · rintro rfl; exact ⟨b', rfl, (ih (d :: r) b' (by simp; omega) hb' b').2 rfl⟩
theorem plain_quote : ∀ l : List UInt8, plainL (quoteL l) = some l
  | [] => rfl
  | c :: l => by
    have ih := plain_quote l
    unfold quoteL at ih ⊢
    rw [List.flatMap_cons]
    by_cases hc : sp c = true
    · rw [if_pos hc]
      simp only [List.cons_append, List.nil_append, plainL]
      rw [if_pos (by first | rfl | trivial), ih]
      rfl
    · rw [if_neg hc]
      have h92 := (sp_no hc).2.2.2
      simp only [List.cons_append, List.nil_append]
      match hq : (l.flatMap fun c => if sp c = true then [92, c] else [c]) with
      | [] =>
        rw [hq] at ih
        simp only [plainL] at ih ⊢
        have : l = [] := by simpa using ih.symm
        rw [if_neg (fun h => hc h.2), this]
      | d :: r =>
        rw [hq] at ih
        simp only [plainL]
        rw [if_neg h92, if_neg hc, ih]
        rfl
theorem special_is (c : UInt8) : glob_special.f (c.toNat : Int) = some (sp c) := by
  unfold glob_special.f sp
  by_cases h1 : c = 42
  · subst h1; rfl
  have n1 : ¬ ((c.toNat : Int) = 42) := fun he => h1 ((byte_eq' c 42).1 he)
  rw [if_neg n1, decide_eq_false h1]
  by_cases h2 : c = 63
  · subst h2; rfl
  have n2 : ¬ ((c.toNat : Int) = 63) := fun he => h2 ((byte_eq' c 63).1 he)
  rw [if_neg n2, decide_eq_false h2]
  by_cases h3 : c = 91
  · subst h3; rfl
  have n3 : ¬ ((c.toNat : Int) = 91) := fun he => h3 ((byte_eq' c 91).1 he)
  rw [if_neg n3, decide_eq_false h3]
  have h5 : ((c.toNat : Int) == 92) = (c == 92) := byte_eq c 92
  rw [h5]
  congr 1
def ints (l : List UInt8) : List Int := l.map fun c => (c.toNat : Int)
theorem strOf_ints (l : List UInt8) : strOfNums (ints l) = ⟨l.toArray⟩ := by
  refine ba_ext ?_
  rw [strOf_data]
  simp [ints, Function.comp_def]
theorem ints_snoc (l : List UInt8) (c : UInt8) : ints l ++ [(c.toNat : Int)] = ints (l ++ [c]) := by simp [ints]
theorem ints_length (l : List UInt8) : (ints l).length = l.length := by simp [ints]
theorem quote_ev (s : ByteArray) (hs : s.size ≤ 1000) : Ev (fun k => glob_Quote.f k s) ⟨(quoteL s.data.toList).toArray⟩ := by
  unfold glob_Quote.f
  have hlen := ba_size s
  have hq : ∀ i, (quoteL (s.data.toList.take i)).length ≤ 2 * i := by
    intro i
    have : ∀ l : List UInt8, (quoteL l).length ≤ 2 * l.length := by
      intro l
      unfold quoteL
      induction l with
      | nil => simp
      | cons c l ih =>
        rw [List.flatMap_cons, List.length_append, List.length_cons]
        split
        · simp only [List.length_cons, List.length_nil]; omega
        · simp only [List.length_cons, List.length_nil]; omega
    exact Nat.le_trans (this _) (by rw [List.length_take]; omega)
  refine ev_up (g := fun k i => glob_Quote.l0 k s (ints (quoteL (s.data.toList.take i))) (s.size : Int) (i : Int)) s.size ?_ (fun i hi h => ?_) 0 (by omega)
  · refine ev_round ?_
    simp only [glob_Quote.l0]
    refine ev_neg (by omega) (ev_some ?_)
    rw [strOf_ints, List.take_of_length_le (by omega)]
  · refine ev_round ?_
    simp only [glob_Quote.l0]
    refine ev_pos (by omega) (ev_pos (by omega) (ev_pos (by omega) ?_))
    rw [bt_nat s i hi]
    have hqi := hq i
    have hlt : i < s.data.toList.length := by omega
    have e : s.data.toList.take (i + 1) = s.data.toList.take i ++ [s.data.toList[i]'hlt] := List.take_succ_eq_append_getElem hlt
    rw [e] at h
    have eq : ∀ c, quoteL (s.data.toList.take i ++ [c]) = quoteL (s.data.toList.take i) ++ (if sp c = true then [92, c] else [c]) := by intro c; unfold quoteL; rw [List.flatMap_append]; simp
    rw [eq] at h
    refine ev_bind0 (special_is _) (ev_ite (fun hc => ?_) (fun hc => ?_))
    · rw [if_pos hc] at h
      refine ev_pos (by rw [ints_length]; omega) (ev_bind0 rfl (ev_pos (by rw [List.length_append, ints_length]; simp; omega) ?_))
      rw [w64 (by omega) (by omega), show (92 : Int) = ((92 : UInt8).toNat : Int) from rfl, ints_snoc, ints_snoc, List.append_assoc]
      exact h
    · rw [if_neg hc] at h
      refine ev_pos (by rw [ints_length]; omega) ?_
      rw [w64 (by omega) (by omega), ints_snoc]
      exact h
/-- What glob.Plain tells. -/
def plainR (acc : List UInt8) (o : Option (List UInt8)) : ByteArray × Bool := match o with | none => (⟨#[]⟩, false) | some b => (⟨(acc ++ b).toArray⟩, true)
theorem plain_loop (p : ByteArray) (hp : p.size ≤ 1000) : ∀ (n : Nat) (u acc : List UInt8), u.length ≤ n → u <:+ p.data.toList → acc.length + u.length ≤ 1000 →
    Ev (fun k => glob_Plain.l0 k p (ints acc) (pos p u)) (plainR acc (plainL u)) := by
  intro n
  induction n with
  | zero =>
    intro u acc hn hu ha
    rw [List.length_eq_zero_iff.1 (by omega : u.length = 0)]
    refine ev_round ?_
    simp only [glob_Plain.l0]
    refine ev_neg (by simp [pos]) (ev_some ?_)
    simp only [plainL, plainR]
    rw [strOf_ints, List.append_nil]
  | succ n ih =>
    intro u acc hn hu ha
    have hpb : p.size ≤ 140737488351232 := by omega
    match u with
    | [] =>
      refine ev_round ?_
      simp only [glob_Plain.l0]
      refine ev_neg (by simp [pos]) (ev_some ?_)
      simp only [plainL, plainR]
      rw [strOf_ints, List.append_nil]
    | [a] =>
      obtain ⟨hlt, hat, hr⟩ := pos_at p hu
      have h1 : pos p [a] < (p.size : Int) := by unfold pos; omega
      have h0 : 0 ≤ pos p [a] := by unfold pos; omega
      have hb : Aside0 (bt p (pos p [a]) = (a.toNat : Int)) := ⟨by unfold pos; rw [bt_nat p _ hlt, hat]⟩
      have hps := Aside0.mk (pos_succ p hpb hu)
      have hpe : pos p [] = (p.size : Int) := by simp [pos]
      simp only [List.length_cons, List.length_nil] at ha
      have hend : ∀ acc' : List UInt8, Ev (fun k => glob_Plain.l0 k p (ints acc') (pos p [])) (⟨acc'.toArray⟩, true) := by
        intro acc'
        refine ev_round ?_
        simp only [glob_Plain.l0]
        refine ev_neg (by rw [hpe]; omega) (ev_some ?_)
        rw [strOf_ints]
      refine ev_round ?_
      simp only [glob_Plain.l0]
      refine ev_pos h1 (ev_pos h0 ?_)
      rw [hb.out, hps.out, hpe, decide_eq_false (Int.lt_irrefl _)]
      suffices J : Ev (fun k => glob_Plain.j1 k p (ints acc) (pos p [a]) (a.toNat : Int) false) (plainR acc (plainL [a])) from ev_ite (fun _ => J) (fun _ => J)
      refine ev_round ?_
      simp only [glob_Plain.j1]
      refine ev_neg (by decide) (ev_bind0 (special_is a) ?_)
      simp only [plainL]
      refine ev_ite (fun hc => ev_ite (fun h92 => ev_pos (by rw [ints_length]; omega) ?_) (fun h92 => ev_some ?_)) (fun hc => ev_pos (by rw [ints_length]; omega) ?_)
      · rw [if_neg (fun h => h.1 ((byte_eq' a 92).1 h92)), hps.out, ints_snoc]
        exact hend _
      · rw [if_pos ⟨fun he => h92 (by rw [he]; rfl), hc⟩]; rfl
      · rw [if_neg (fun h => hc h.2), hps.out, ints_snoc]
        exact hend _
    | a :: d :: r =>
      obtain ⟨hlt, hat, hr⟩ := pos_at p hu
      have hu1 := (List.suffix_cons a (d :: r)).trans hu
      obtain ⟨hlt1, hat1, hr1⟩ := pos_at p hu1
      have h1 : pos p (a :: d :: r) < (p.size : Int) := by unfold pos; omega
      have h0 : 0 ≤ pos p (a :: d :: r) := by unfold pos; omega
      have h11 : pos p (d :: r) < (p.size : Int) := by unfold pos; omega
      have h10 : 0 ≤ pos p (d :: r) := by unfold pos; omega
      have hb : Aside0 (bt p (pos p (a :: d :: r)) = (a.toNat : Int)) := ⟨by unfold pos; rw [bt_nat p _ hlt, hat]⟩
      have hb1 : Aside0 (bt p (pos p (d :: r)) = (d.toNat : Int)) := ⟨by unfold pos; rw [bt_nat p _ hlt1, hat1]⟩
      have hps := Aside0.mk (pos_succ p hpb hu)
      have hps1 := Aside0.mk (pos_succ p hpb hu1)
      simp only [List.length_cons] at ha hn
      refine ev_round ?_
      simp only [glob_Plain.l0]
      refine ev_pos h1 (ev_pos h0 ?_)
      rw [hb.out, hps.out, decide_eq_true h11]
      simp only [plainL]
      refine ev_ite (fun h92 => ?_) (fun h92 => ?_)
      · have h92' : a = 92 := (byte_eq' a 92).1 h92
        rw [if_pos h92']
        refine ev_round ?_
        simp only [glob_Plain.j1]
        refine ev_pos (by first | rfl | trivial) ?_
        rw [hps.out]
        refine ev_pos h10 (ev_pos h11 (ev_pos (by rw [ints_length]; omega) ?_))
        rw [hb1.out, hps1.out, ints_snoc]
        have := ih r (acc ++ [d]) (by omega) ((List.suffix_cons d r).trans hu1) (by simp; omega)
        have e : plainR (acc ++ [d]) (plainL r) = plainR acc ((plainL r).map (d :: ·)) := by
          cases plainL r with
          | none => rfl
          | some b => simp [plainR]
        rw [e] at this
        exact this
      · have h92' : a ≠ 92 := fun he => h92 (by rw [he]; rfl)
        rw [if_neg h92']
        refine ev_round ?_
        simp only [glob_Plain.j1]
        refine ev_neg (by decide) (ev_bind0 (special_is a) ?_)
        refine ev_ite (fun hc => ev_neg h92 (ev_some ?_)) (fun hc => ev_pos (by rw [ints_length]; omega) ?_)
        · rw [if_pos hc]; rfl
        · rw [if_neg hc, hps.out, ints_snoc]
          have := ih (d :: r) (acc ++ [a]) (by simp; omega) hu1 (by simp; omega)
          have e : plainR (acc ++ [a]) (plainL (d :: r)) = plainR acc ((plainL (d :: r)).map (a :: ·)) := by
            cases plainL (d :: r) with
            | none => rfl
            | some b => simp [plainR]
          rw [e] at this
          exact this
theorem plain_ev (p : ByteArray) (hp : p.size ≤ 1000) : Ev (fun k => glob_Plain.f k p) (plainR [] (plainL p.data.toList)) := by
  unfold glob_Plain.f
  have := plain_loop p hp p.data.toList.length p.data.toList [] (Nat.le_refl _) (List.suffix_refl _) (by rw [← ba_size]; simp; omega)
  have e : pos p p.data.toList = 0 := by unfold pos; rw [← ba_size]; simp
  rw [e] at this
  exact this
theorem quote_size (s : ByteArray) (hs : s.size ≤ 300) : (⟨(quoteL s.data.toList).toArray⟩ : ByteArray).size ≤ 600 := by
  rw [ba_size]
  have : ∀ l : List UInt8, (quoteL l).length ≤ 2 * l.length := by
    intro l
    unfold quoteL
    induction l with
    | nil => simp
    | cons c l ih =>
      rw [List.flatMap_cons, List.length_append, List.length_cons]
      split
      · simp only [List.length_cons, List.length_nil]; omega
      · simp only [List.length_cons, List.length_nil]; omega
  have := this s.data.toList
  rw [← ba_size] at this
  simp only
  omega
theorem plain_len : ∀ (n : Nat) (u b : List UInt8), u.length ≤ n → plainL u = some b → b.length ≤ u.length := by
  intro n
  induction n with
  | zero =>
    intro u b hn h
    have hu : u = [] := List.length_eq_zero_iff.1 (by omega)
    subst hu
    have hb : b = [] := by simpa [plainL] using h.symm
    rw [hb]
    exact Nat.le_refl _
  | succ n ih =>
    intro u b hn h
    match u with
    | [] =>
      have hb : b = [] := by simpa [plainL] using h.symm
      rw [hb]
      exact Nat.le_refl _
    | [a] =>
      simp only [plainL] at h
      split at h
      · cases h
      · have hb : b = [a] := by simpa using h.symm
        rw [hb]
        exact Nat.le_refl _
    | a :: d :: r =>
      simp only [plainL] at h
      simp only [List.length_cons] at hn ⊢
      split at h
      · obtain ⟨b', hb', rfl⟩ := Option.map_eq_some_iff.1 h
        have := ih r b' (by omega) hb'
        simp only [List.length_cons]
        omega
      · split at h
        · cases h
        · obtain ⟨b', hb', rfl⟩ := Option.map_eq_some_iff.1 h
          have := ih (d :: r) b' (by simp only [List.length_cons]; omega) hb'
          simp only [List.length_cons] at this ⊢
          omega
theorem GlobAlone : mewslaw02_GlobAlone.PureX := by
  intro s t hs ht
  refine Ev.rounds (r := true) ?_
  unfold mewslaw02_GlobAlone.f
  refine ev_bind (far_ev [s, t] (by simp)) (ev_ite (fun _ => ev_bind alive_ev (ev_some rfl)) (fun hfar => ?_))
  have h2 : s.size ≤ 300 ∧ t.size ≤ 300 := by
    simp only [List.any_cons, List.any_nil, Bool.or_eq_true, decide_eq_true_eq, not_or] at hfar
    omega
  obtain ⟨q, hq⟩ : ∃ q : ByteArray, q = ⟨(quoteL s.data.toList).toArray⟩ := ⟨_, rfl⟩
  have hqs : q.size ≤ 600 := by rw [hq]; exact quote_size s h2.1
  have hqd : q.data.toList = quoteL s.data.toList := by rw [hq]
  have hquote := quote_ev s (by omega)
  rw [← hq] at hquote
  have hplain := plain_ev q (by omega)
  rw [hqd, plain_quote] at hplain
  have hback : (⟨([] ++ s.data.toList).toArray⟩ : ByteArray) = s := ba_ext (by simp)
  simp only [plainR] at hplain
  rw [hback] at hplain
  have hmt := plain_mt _ q.data.toList s.data.toList (Nat.le_refl _) (by rw [hqd]; exact plain_quote _)
  obtain ⟨b1, hb1, hb1'⟩ := match_ev q t (by omega) ht
  obtain ⟨b2, hb2, hb2'⟩ := match_ev q s (by omega) hs
  rw [hmt] at hb1' hb2'
  have hb2t : b2 = true := hb2'.2 rfl
  have hb1e : b1 = (s.toList == t.toList) := by
    rw [Bool.eq_iff_iff, hb1', beq_iff_eq, ba_toList, ba_toList]
    exact eq_comm
  refine ev_bind hquote (ev_bind hplain (ev_pos rfl (ev_pos rfl (ev_bind hquote (ev_bind hb1 (ev_neg (by rw [hb1e]; simp) (ev_bind hquote (ev_bind hb2 ?_))))))))
  rw [hb2t]
  refine ev_round ?_
  simp only [mewslaw02_GlobAlone.j0]
  refine ev_neg (by decide) (ev_bind (plain_ev t (by omega)) ?_)
  cases hp : plainL t.data.toList with
  | none => exact ev_neg (by simp [plainR]) (ev_bind alive_ev (ev_some rfl))
  | some b =>
    have hmt2 := plain_mt _ t.data.toList b (Nat.le_refl _) hp
    have hbl : b.length ≤ 300 := by
      have := plain_len _ _ b (Nat.le_refl _) hp
      rw [← ba_size] at this
      omega
    obtain ⟨c1, hc1, hc1'⟩ := match_ev t s ht hs
    obtain ⟨c2, hc2, hc2'⟩ := match_ev t ⟨b.toArray⟩ ht (by rw [ba_size]; simp only; omega)
    rw [hmt2] at hc1' hc2'
    have e2 : c2 = true := hc2'.2 (by simp)
    have e1 : c1 = (s.toList == (⟨b.toArray⟩ : ByteArray).toList) := by
      rw [Bool.eq_iff_iff, hc1', beq_iff_eq, ba_toList, ba_toList]
    refine ev_pos (by simp [plainR]) (ev_bind hc1 (ev_pos (by rw [e1]; simp [plainR]) ?_))
    have hc2'' : Ev (fun k => glob_Match.f k t (plainR [] (some b)).1) c2 := hc2
    exact ev_bind hc2'' (ev_pos e2 (ev_bind alive_ev (ev_some rfl)))
end Go.Proofs.Ytncdoanemfnjjaa.Pure
