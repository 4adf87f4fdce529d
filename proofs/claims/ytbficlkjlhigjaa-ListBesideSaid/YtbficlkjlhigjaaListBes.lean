/- The contracts of list.Beside and of the document's Beside, walked by hand. -/
import Derived.Test.YtbficlkjlhigjaaListRef
import Derived.Test.YtbficlkjlhigjaaDqSt
import Derived.Test.YtbficlkjlhigjaaX7
import Derived.Test.YtbficlkjlhigjaaX9
namespace Go.Proofs.Ytbficlkjlhigjaa.Dq
open Go.RowKit Go.Proofs.YtbficlkjlhigjaaW.PrintWords Go.Proofs.YtbficlkjlhigjaaW.PrintMore Go.Proofs.YtbficlkjlhigjaaW.PrintLast Go.Proofs.Ytbficlkjlhigjaa.X Go.Proofs.Ytbficlkjlhigjaa.Y
set_option linter.unusedVariables false
set_option linter.unusedSimpArgs false
attribute [local go_sem ↓] Go.wp_at_zero Go.wp_at_succ
/-- The first place of a text, or the list's length. -/
def fidx (p : ByteArray) : List ByteArray → Nat
  | [] => 0
  | x :: xs => if x = p then 0 else fidx p xs + 1
theorem fidx_le (p : ByteArray) (l : List ByteArray) : fidx p l ≤ l.length := by
  induction l with
  | nil => exact Nat.le_refl _
  | cons x xs ih =>
    show (if x = p then 0 else fidx p xs + 1) ≤ xs.length + 1
    split <;> omega
/-- What a list is once a text has been put beside the first one that is another. -/
def besF (before : Bool) (p s : ByteArray) : List ByteArray → List ByteArray
  | [] => []
  | x :: xs => if x = p then (if before then s :: x :: xs else x :: s :: xs) else x :: besF before p s xs
def besI (before : Bool) (p s : ByteArray) (l : List ByteArray) : Int := if fidx p l < l.length then (l.length : Int) + 1 else -1
theorem besF_none (before : Bool) (p s : ByteArray) (l : List ByteArray) (h : ¬ fidx p l < l.length) : besF before p s l = l := by
  induction l with
  | nil => rfl
  | cons x xs ih =>
    by_cases hx : x = p
    · exfalso
      apply h
      show (if x = p then 0 else fidx p xs + 1) < xs.length + 1
      rw [if_pos hx]
      omega
    · have h2 : ¬ fidx p xs < xs.length := by
        intro c
        apply h
        show (if x = p then 0 else fidx p xs + 1) < xs.length + 1
        rw [if_neg hx]
        omega
      show (if x = p then _ else x :: besF before p s xs) = x :: xs
      rw [if_neg hx, ih h2]
theorem besF_len (before : Bool) (p s : ByteArray) (l : List ByteArray) (h : fidx p l < l.length) : (besF before p s l).length = l.length + 1 := by
  induction l with
  | nil => exact absurd h (Nat.not_lt_zero _)
  | cons x xs ih =>
    by_cases hx : x = p
    · show (if x = p then (if before then s :: x :: xs else x :: s :: xs) else x :: besF before p s xs).length = _
      rw [if_pos hx]
      cases before <;> simp
    · have h2 : fidx p xs < xs.length := by
        have h : (if x = p then 0 else fidx p xs + 1) < xs.length + 1 := h
        rw [if_neg hx] at h
        omega
      show (if x = p then _ else x :: besF before p s xs).length = _
      rw [if_neg hx]
      simp [ih h2]
theorem besF_ins (before : Bool) (p s : ByteArray) (l : List ByteArray) (h : fidx p l < l.length) : l.take (fidx p l + (if before then 0 else 1)) ++ s :: l.drop (fidx p l + (if before then 0 else 1)) = besF before p s l := by
  induction l with
  | nil => exact absurd h (Nat.not_lt_zero _)
  | cons x xs ih =>
    by_cases hx : x = p
    · have e : fidx p (x :: xs) = 0 := by show (if x = p then 0 else fidx p xs + 1) = 0; rw [if_pos hx]
      rw [e]
      show _ = (if x = p then (if before then s :: x :: xs else x :: s :: xs) else x :: besF before p s xs)
      rw [if_pos hx]
      cases before <;> rfl
    · have e : fidx p (x :: xs) = fidx p xs + 1 := by show (if x = p then 0 else fidx p xs + 1) = _; rw [if_neg hx]
      have h2 : fidx p xs < xs.length := by
        rw [e] at h
        simp at h
        exact h
      rw [e]
      show _ = (if x = p then (if before then s :: x :: xs else x :: s :: xs) else x :: besF before p s xs)
      rw [if_neg hx, ← ih h2, show fidx p xs + 1 + (if before then 0 else 1) = (fidx p xs + (if before then 0 else 1)) + 1 by omega]
      rfl
theorem index_ev (l : List ByteArray) (p : ByteArray) (hl : l.length ≤ 1000000) : Ev (fun q => slices_Index_string_string.f q l p) (if fidx p l < l.length then (fidx p l : Int) else -1) := by
  have key : ∀ d i, i + d = l.length → Ev (fun q => slices_Index_string_string.l0 q l p (l.length : Int) (i : Int)) (if fidx p (l.drop i) < d then ((i + fidx p (l.drop i) : Nat) : Int) else -1) := by
    intro d
    induction d with
    | zero =>
      intro i hi
      obtain rfl : i = l.length := by omega
      refine ev_round ?_
      show Ev (fun q => if (l.length : Int) < (l.length : Int) then (if 0 ≤ (l.length : Int) then (if (l.length : Int) < (l.length : Int) then (if p.toList = (rdOf ByteArray.empty l (l.length : Int)).toList then (some (l.length : Int)) else (slices_Index_string_string.l0 q l p (l.length : Int) (wrap64 ((l.length : Int) + 1)))) else (none)) else (none)) else (some (-1))) _
      exact ev_neg (by omega) (ev_some (by rw [if_neg (by omega)]))
    | succ d ih =>
      intro i hi
      obtain ⟨x, hx, hd⟩ := drop_cons (show i < l.length by omega)
      have e1 : wrap64 ((i : Int) + 1) = ((i + 1 : Nat) : Int) := by unfold wrap64; omega
      have hr := rdOf_getD l i x hx
      rw [hd]
      refine ev_round ?_
      show Ev (fun q => if (i : Int) < (l.length : Int) then (if 0 ≤ (i : Int) then (if (i : Int) < (l.length : Int) then (if p.toList = (rdOf ByteArray.empty l (i : Int)).toList then (some (i : Int)) else (slices_Index_string_string.l0 q l p (l.length : Int) (wrap64 ((i : Int) + 1)))) else (none)) else (none)) else (some (-1))) _
      rw [e1, hr]
      refine ev_pos (by omega) (ev_pos (by omega) (ev_pos (by omega) ?_))
      by_cases hxp : x = p
      · have e : fidx p (x :: l.drop (i + 1)) = 0 := by show (if x = p then 0 else _) = 0; rw [if_pos hxp]
        refine ev_pos (by rw [hxp]) (ev_some ?_)
        rw [e, if_pos (by omega)]
        simp
      · have e : fidx p (x :: l.drop (i + 1)) = fidx p (l.drop (i + 1)) + 1 := by show (if x = p then 0 else _) = _; rw [if_neg hxp]
        refine ev_neg (fun h => hxp (ba_eq h.symm)) ?_
        have := ih (i + 1) (by omega)
        rw [e]
        have e2 : (if fidx p (l.drop (i + 1)) + 1 < d + 1 then ((i + (fidx p (l.drop (i + 1)) + 1) : Nat) : Int) else -1) = (if fidx p (l.drop (i + 1)) < d then ((i + 1 + fidx p (l.drop (i + 1)) : Nat) : Int) else -1) := by
          by_cases c : fidx p (l.drop (i + 1)) < d
          · rw [if_pos c, if_pos (by omega)]
            congr 1
            omega
          · rw [if_neg c, if_neg (by omega)]
        rw [e2]
        exact this
  have := key l.length 0 (Nat.zero_add _)
  rw [List.drop_zero, Nat.zero_add] at this
  exact this
theorem index_calls (v : Value) (l : List ByteArray) (p : ByteArray) (w : World) (h : Rd w v l) (hl : l.length ≤ 1000000) :
    Calls Try.prog 32 #[v, .string p] w fun e w' => e = .returned (.int .i64 (if fidx p l < l.length then (fidx p l : Int) else -1)) ∧ Drawn0 w w' := by
  obtain ⟨A, c, rfl, hc, hr⟩ := h
  obtain ⟨K, hK⟩ := index_ev l p hl
  exact slices_Index_string_string.calls K A c l p _ w (C_of_readsOf hr) hc (hK K (Nat.le_refl _))
set_option maxHeartbeats 4000000 in
set_option maxRecDepth 100000 in
theorem beside_calls {w W : World} {B g : Nat} {l : List ByteArray} (before : Bool) (p s : ByteArray) (h : St w B g l W) (hl : l.length ≤ 1000000) :
    Calls Try.prog 21 #[.pointer (some ⟨g, 0, none⟩), .bool before, .string p, .string s] W fun e W' => e = .returned (.int .i64 (besI before p s l)) ∧ St w B g (besF before p s l) W' := by
  have H := Aside0.mk h
  have HL := Aside0.mk hl
  have HI := Aside0.mk (show ∀ v W, Rd W v l → _ from fun v W h => index_calls v l p W h hl)
  by_cases c : fidx p l < l.length
  · have eI : besI before p s l = (l.length : Int) + 1 := by unfold besI; rw [if_pos c]
    have HF := Aside0.mk (besF_ins before p s l c)
    have HN := Aside0.mk (besF_len before p s l c)
    rw [eI]
    rw [if_pos c] at HI
    obtain ⟨i, hi⟩ : ∃ i, i = fidx p l := ⟨_, rfl⟩
    rw [← hi] at HI HF
    have hi9 : (i : Int) ≤ 1000000 := by omega
    have hil : i < l.length := by omega
    have hINS := fun (W : World) (hs : St w B g l W) => hs.insert ((i + (if before then 0 else 1) : Nat) : Int) s (by omega)
    have hok : (0 : Int) ≤ ((i + (if before then 0 else 1) : Nat) : Int) ∧ ((i + (if before then 0 else 1) : Nat) : Int) ≤ (l.length : Int) := by split <;> omega
    simp only [decide_eq_true hok, if_pos hok, Int.toNat_natCast] at hINS
    rw [HF.out] at hINS
    have c1 : decide ((i : Int) < 0) = false := decide_eq_false (by omega)
    cases before with
    | true =>
      replace hINS : ∀ (W : World), St w B g l W → Calls Try.prog 33 #[.pointer (some ⟨g, 0, none⟩), .int .i64 (i : Int), .string s] W (fun e W' => e = .returned (.bool true) ∧ St w B g (besF true p s l) W' ∧ KeepT W W') := hINS
      have HINS := Aside0.mk hINS
      clear hINS hok c hi h hl eI hil
      go_enter Try.func21, Try.ntmps21
      go_wp2_with (first | (go_at_call 14; (with_reducible refine Calls.mono H.out.all ?_); rintro e w1 ⟨v1, rfl, hr1, hb1, -⟩; have HR1 := Aside0.mk hr1; have H1 := Aside0.mk (H.out.below hb1); clear hr1 hb1) | (go_at_call 32; (with_reducible refine Calls.mono (HI.out _ _ HR1.out) ?_); rintro e w2 ⟨rfl, hd⟩; have H2 := Aside0.mk (H1.out.below hd.below); clear hd) | (go_at_call 33; (with_reducible refine Calls.mono (HINS.out _ H2.out) ?_); rintro e w3 ⟨rfl, h3, -⟩; have H3 := Aside0.mk h3; clear h3) | (go_at_call 17; (with_reducible refine Calls.mono H3.out.len ?_); rintro e w' ⟨rfl, rfl⟩))
      go_ret
      rw [HN.out]
      exact ⟨by simp, H3.out⟩
    | false =>
      replace hINS : ∀ (W : World), St w B g l W → Calls Try.prog 33 #[.pointer (some ⟨g, 0, none⟩), .int .i64 ((i : Int) + 1), .string s] W (fun e W' => e = .returned (.bool true) ∧ St w B g (besF false p s l) W' ∧ KeepT W W') := hINS
      have HINS := Aside0.mk hINS
      have hw1 : IntKind.i64.wrap ((i : Int) + 1) = (i : Int) + 1 := by rw [IntKind.wrap_i64]; omega
      clear hINS hok c hi h hl eI hil
      go_enter Try.func21, Try.ntmps21
      go_wp2_with (first | (go_at_call 14; (with_reducible refine Calls.mono H.out.all ?_); rintro e w1 ⟨v1, rfl, hr1, hb1, -⟩; have HR1 := Aside0.mk hr1; have H1 := Aside0.mk (H.out.below hb1); clear hr1 hb1) | (go_at_call 32; (with_reducible refine Calls.mono (HI.out _ _ HR1.out) ?_); rintro e w2 ⟨rfl, hd⟩; have H2 := Aside0.mk (H1.out.below hd.below); clear hd) | (go_at_call 33; (with_reducible refine Calls.mono (HINS.out _ H2.out) ?_); rintro e w3 ⟨rfl, h3, -⟩; have H3 := Aside0.mk h3; clear h3) | (go_at_call 17; (with_reducible refine Calls.mono H3.out.len ?_); rintro e w' ⟨rfl, rfl⟩))
      go_ret
      rw [HN.out]
      exact ⟨by simp, H3.out⟩
  · have eI : besI before p s l = -1 := by unfold besI; rw [if_neg c]
    rw [eI, besF_none before p s l c]
    rw [if_neg c] at HI
    clear c h hl eI
    go_enter Try.func21, Try.ntmps21
    go_wp2_with (first | (go_at_call 14; (with_reducible refine Calls.mono H.out.all ?_); rintro e w1 ⟨v1, rfl, hr1, hb1, -⟩; have HR1 := Aside0.mk hr1; have H1 := Aside0.mk (H.out.below hb1); clear hr1 hb1) | (go_at_call 32; (with_reducible refine Calls.mono (HI.out _ _ HR1.out) ?_); rintro e w2 ⟨rfl, hd⟩; have H2 := Aside0.mk (H1.out.below hd.below); clear hd))
    go_ret
    exact ⟨rfl, H2.out⟩
theorem equal_ev (l : List ByteArray) (hl : l.length ≤ 1000000) : Ev (fun q => slices_Equal_string_string.f q l l) true := by
  have key := ev_up (g := fun q k => slices_Equal_string_string.l0 q l l (l.length : Int) (k : Int)) (r := true) l.length ?_ ?_ 0 (Nat.zero_le _)
  · show Ev (fun q => if (l.length : Int) = (l.length : Int) then (slices_Equal_string_string.l0 q l l (l.length : Int) 0) else (some false)) true
    exact ev_pos rfl key
  · refine ev_round ?_
    show Ev (fun q => if (l.length : Int) < (l.length : Int) then _ else some true) _
    exact ev_neg (by omega) (ev_some rfl)
  · intro k hk ih
    have e1 : wrap64 ((k : Int) + 1) = ((k + 1 : Nat) : Int) := by unfold wrap64; omega
    refine ev_round ?_
    show Ev (fun q => if (k : Int) < (l.length : Int) then (if 0 ≤ (k : Int) then (if (k : Int) < (l.length : Int) then (if (k : Int) < (l.length : Int) then (if (rdOf ByteArray.empty l (k : Int)).toList = (rdOf ByteArray.empty l (k : Int)).toList then (slices_Equal_string_string.l0 q l l (l.length : Int) (wrap64 ((k : Int) + 1))) else (some false)) else (none)) else (none)) else (none)) else (some true)) true
    rw [e1]
    exact ev_pos (by omega) (ev_pos (by omega) (ev_pos (by omega) (ev_pos (by omega) (ev_pos rfl ih))))
theorem lsame_calls {w W : World} {B g g' : Nat} {l : List ByteArray} (h : St w B g l W) (h' : St w B g' l W) (hl : l.length ≤ 1000000) :
    Calls Try.prog 23 #[.pointer (some ⟨g, 0, none⟩), .pointer (some ⟨g', 0, none⟩)] W fun e W' => e = .returned (.bool true) ∧ Below W.heap.size W W' := by
  have H := Aside0.mk h
  have H' := Aside0.mk h'
  have HL := Aside0.mk hl
  clear h h' hl
  go_enter Try.func23, Try.ntmps23
  go_wp2_with fail
  go_at_call 14
  with_reducible refine Calls.mono H.out.all ?_
  rintro e w1 ⟨v1, rfl, hr1, hb1, -⟩
  have H1 := Aside0.mk (H'.out.below hb1)
  have HR1 := Aside0.mk hr1
  have HB1 := Aside0.mk hb1
  clear hr1 hb1
  go_wp2_with fail
  go_at_call 14
  with_reducible refine Calls.mono H1.out.all ?_
  rintro e w2 ⟨v2, rfl, hr2, hb2, -⟩
  have HR2 := Aside0.mk hr2
  have HR12 := Aside0.mk (HR1.out.below hb2)
  have HB2 := Aside0.mk (HB1.out.trans (hb2.mono HB1.out.size))
  clear hr2 hb2
  go_wp2_with fail
  go_at_call 34
  have hn : Calls Try.prog 34 #[v1, v2] w2 (fun e w' => e = .returned (.bool true) ∧ Drawn0 w2 w') := by
    obtain ⟨A, c, rfl, hc, hr⟩ := HR12.out
    obtain ⟨A', c', rfl, hc', hr'⟩ := HR2.out
    obtain ⟨K, hK⟩ := equal_ev l HL.out
    exact slices_Equal_string_string.calls K A c l A' c' l true w2 (C_of_readsOf hr) hc (C_of_readsOf hr') hc' (hK K (Nat.le_refl _))
  with_reducible refine Calls.mono hn ?_
  clear hn
  rintro e w3 ⟨rfl, hd⟩
  have HB3 := Aside0.mk (HB2.out.trans (hd.below.mono HB2.out.size))
  clear hd
  go_wp2
  go_ret
  exact ⟨rfl, HB3.out⟩
theorem St.newRd {w W : World} {B : Nat} {v : Value} {l : List ByteArray} (hB : Below B w W) (hs : B ≤ W.heap.size) (hr : Rd W v l) (hl : l.length < 1048576) :
    Calls Try.prog 10 #[v] W fun e W' => ∃ g, e = .returned (.pointer (some ⟨g, 0, none⟩)) ∧ St w B g l W' ∧ Below W.heap.size W W' := by
  obtain ⟨A, c, rfl, hc, hr⟩ := hr
  refine (St.new hB hs hr hl).mono fun e W' he => ?_
  obtain ⟨g, rfl, _, h, hb⟩ := he
  exact ⟨g, rfl, h, hb⟩
/-- What is still to come of a list. -/
def restF (before : Bool) (p s : ByteArray) (met : Bool) (l : List ByteArray) : List ByteArray := if met then l else besF before p s l
def RelB (w : World) (l : List ByteArray) (before : Bool) (p s : ByteArray) (v10 v11 v12 : Value) (wr : World) : Prop :=
  ∃ (k : Nat) (met : Bool) (out : List ByteArray), k ≤ l.length ∧ v12 = .int .i64 (k : Int) ∧ v11 = .bool met ∧ wr.ownsRow w.heap.size 9 1 v10 out.length (encs Value.string out) ∧ Below w.heap.size w wr ∧ out.length ≤ 2 * k ∧
    besF before p s l = out ++ restF before p s met (l.drop k) ∧ decide (fidx p l < l.length) = (met || decide (fidx p (l.drop k) < (l.drop k).length))
set_option maxHeartbeats 8000000 in
set_option maxRecDepth 100000 in
theorem rbeside_calls (v : Value) (l : List ByteArray) (before : Bool) (p s : ByteArray) (w : World) (h : Rd w v l) (hl : l.length ≤ 1000000) :
    Calls Try.prog 22 #[v, .bool before, .string p, .string s] w fun e w' => ∃ v', e = .returned (.tuple #[v', .int .i64 (besI before p s l)]) ∧ Rd w' v' (besF before p s l) ∧ Below w.heap.size w w' := by
  have H := Aside0.mk h
  obtain ⟨A, cp, rfl, hcp, hr⟩ := h
  have HR := Aside0.mk hr
  have HL := Aside0.mk hl
  obtain ⟨n, hn⟩ : ∃ n, n = l.length := ⟨_, rfl⟩
  rw [← hn] at H HR ⊢
  have Hn := Aside0.mk hn
  clear hn hr hcp hl
  go_enter Try.func22, Try.ntmps22
  go_wp2_with fail
  go_loopw [10, 11, 12] (fun v10 v11 v12 wr => RelB w l before p s v10 v11 v12 wr) (fun _ _ v12 _ => n - (intOf v12).toNat)
  case atStart => exact ⟨0, false, [], Nat.zero_le _, rfl, rfl, own_nil _ _ _ _, Below.refl _ _, Nat.le_refl _, rfl, rfl⟩
  case round =>
    obtain ⟨k, met, out, hkn, rfl, rfl, hown, hbr, hol, hF, hM⟩ := hrel
    obtain ⟨Ao, co, e9⟩ := own_slice hown
    subst e9
    have hCs := hbr.size
    by_cases hlt : k < n
    · have hkl : k < l.length := by rw [← Hn.out]; exact hlt
      have e1 : decide ((k : Int) < (n : Int)) = true := decide_eq_true (by omega)
      have e2 : decide (k < n) = true := decide_eq_true hlt
      have hrl := HR.out.below hbr
      obtain ⟨adl, rfl, hcl2⟩ := hrl.2.2 (by omega)
      have xl := hcl2 k hlt
      obtain ⟨x, hx, hd⟩ := drop_cons hkl
      have hxx : l.getD k ByteArray.empty = x := by rw [List.getD_eq_getElem?_getD, hx]; rfl
      rw [hxx] at xl
      have HKx := Aside0.mk (show ∀ W, Below w.heap.size w W → W.cell? (adl.add k) = some (.string x) from fun W hb => by
        have hq := HR.out.below hb
        obtain ⟨ad2, e2, hc2⟩ := hq.2.2 (by omega)
        cases e2
        have h2 := hc2 k hlt
        rw [hxx] at h2
        exact h2)
      have i0 : (0 : Int) ≤ (k : Int) := Int.natCast_nonneg _
      have i1 : (k : Int) < (n : Int) := by omega
      have i2 := eq_true i1
      have hk9 : (k : Int) ≤ 1000000 := by have := HL.out; omega
      have HOWN := Aside0.mk hown
      have HBR := Aside0.mk hbr
      have HCS := Aside0.mk hCs
      have Hlt := Aside0.mk hlt
      have HKL := Aside0.mk hkl
      rw [hd] at hF hM
      have HF := Aside0.mk hF
      have HM := Aside0.mk hM
      have HOL := Aside0.mk (show out.length ≤ 2000000 by have := HL.out; omega)
      have HO2 := Aside0.mk hol
      clear hown hbr hCs hlt hkl hrl hcl2 hx hd hxx hF hM hol hkn
      cases met with
      | true =>
        go_wp2_with (first | (at_builtin; refine wp_app rfl (.tmp 38) (.tmp 43) (by rfl) w w.heap.size (.slice Ao out.length co) (out) [x] (some ⟨wr.heap.size, 0, none⟩) 1 1 (by rfl) (by rfl) (HOWN.out.alloc _) (reads_one wr x) (HBR.out.alloc HCS.out _) (by have := HCS.out; simp; omega) (by have := HOL.out; first | omega | (simp; omega)) ?_; intro va wa hOa hBa hsa; have HOa := Aside0.mk hOa; have HBa := Aside0.mk hBa; have HSa := Aside0.mk hsa; clear hOa hBa hsa))
        go_roundw
        case rel =>
          refine ⟨k + 1, true, out ++ [x], HKL.out, by simp, rfl, HOa.out, HBa.out, by have := HO2.out; simp; omega, ?_, ?_⟩
          · rw [HF.out]
            show out ++ (x :: l.drop (k + 1)) = (out ++ [x]) ++ l.drop (k + 1)
            simp
          · rw [HM.out]
            rfl
        case measure => have := Hlt.out; simp [intOf]; omega
      | false =>
        by_cases hxp : x = p
        · have f1 : (x.toList == p.toList) = true := by rw [hxp]; exact beq_self_eq_true _
          have HX := Aside0.mk hxp
          clear hxp
          cases before with
          | true =>
            go_wp2_with (first | (at_builtin; refine wp_app rfl (.tmp 34) (.tmp 36) (by rfl) w w.heap.size (.slice Ao out.length co) (out) [s] (some ⟨wr.heap.size, 0, none⟩) 1 1 (by rfl) (by rfl) (HOWN.out.alloc _) (reads_one wr s) (HBR.out.alloc HCS.out _) (by have := HCS.out; simp; omega) (by have := HOL.out; first | omega | (simp; omega)) ?_; intro va wa hOa hBa hsa; have HOa := Aside0.mk hOa; have HBa := Aside0.mk hBa; have HSa := Aside0.mk hsa; clear hOa hBa hsa; have xl2 := HKx.out _ HBa.out) | (at_builtin; refine wp_app rfl (.tmp 38) (.tmp 43) (by rfl) w w.heap.size va (out ++ [s]) [x] (some ⟨wa.heap.size, 0, none⟩) 1 1 (by rfl) (by rfl) (HOa.out.alloc _) (reads_one wa x) (HBa.out.alloc HSa.out _) (by have := HSa.out; simp; omega) (by have := HOL.out; first | omega | (simp; omega)) ?_; intro vb wb hOb hBb hsb; have HOb := Aside0.mk hOb; have HBb := Aside0.mk hBb; have HSb := Aside0.mk hsb; clear hOb hBb hsb))
            go_roundw
            case rel =>
              refine ⟨k + 1, true, out ++ [s] ++ [x], HKL.out, by simp, rfl, HOb.out, HBb.out, by have := HO2.out; simp; omega, ?_, ?_⟩
              · rw [HF.out]
                show out ++ (if x = p then s :: x :: l.drop (k + 1) else _) = (out ++ [s] ++ [x]) ++ l.drop (k + 1)
                rw [if_pos HX.out]
                simp
              · rw [HM.out]
                show decide ((if x = p then 0 else fidx p (l.drop (k + 1)) + 1) < (l.drop (k + 1)).length + 1) = true
                rw [if_pos HX.out]
                simp
            case measure => have := Hlt.out; simp [intOf]; omega
          | false =>
            go_wp2_with (first | (at_builtin; refine wp_app rfl (.tmp 38) (.tmp 43) (by rfl) w w.heap.size (.slice Ao out.length co) (out) [x] (some ⟨wr.heap.size, 0, none⟩) 1 1 (by rfl) (by rfl) (HOWN.out.alloc _) (reads_one wr x) (HBR.out.alloc HCS.out _) (by have := HCS.out; simp; omega) (by have := HOL.out; first | omega | (simp; omega)) ?_; intro va wa hOa hBa hsa; have HOa := Aside0.mk hOa; have HBa := Aside0.mk hBa; have HSa := Aside0.mk hsa; clear hOa hBa hsa) | (at_builtin; refine wp_app rfl (.tmp 50) (.tmp 52) (by rfl) w w.heap.size va (out ++ [x]) [s] (some ⟨wa.heap.size, 0, none⟩) 1 1 (by rfl) (by rfl) (HOa.out.alloc _) (reads_one wa s) (HBa.out.alloc HSa.out _) (by have := HSa.out; simp; omega) (by have := HOL.out; first | omega | (simp; omega)) ?_; intro vb wb hOb hBb hsb; have HOb := Aside0.mk hOb; have HBb := Aside0.mk hBb; have HSb := Aside0.mk hsb; clear hOb hBb hsb))
            go_roundw
            case rel =>
              refine ⟨k + 1, true, out ++ [x] ++ [s], HKL.out, by simp, rfl, HOb.out, HBb.out, by have := HO2.out; simp; omega, ?_, ?_⟩
              · rw [HF.out]
                show out ++ (if x = p then x :: s :: l.drop (k + 1) else _) = (out ++ [x] ++ [s]) ++ l.drop (k + 1)
                rw [if_pos HX.out]
                simp
              · rw [HM.out]
                show decide ((if x = p then 0 else fidx p (l.drop (k + 1)) + 1) < (l.drop (k + 1)).length + 1) = true
                rw [if_pos HX.out]
                simp
            case measure => have := Hlt.out; simp [intOf]; omega
        · have f1 : (x.toList == p.toList) = false := beq_eq_false_iff_ne.mpr (fun h => hxp (Go.Proofs.Ytbficlkjlhigjaa.Y.ba_eq h))
          have HX := Aside0.mk hxp
          clear hxp
          go_wp2_with (first | (at_builtin; refine wp_app rfl (.tmp 38) (.tmp 43) (by rfl) w w.heap.size (.slice Ao out.length co) (out) [x] (some ⟨wr.heap.size, 0, none⟩) 1 1 (by rfl) (by rfl) (HOWN.out.alloc _) (reads_one wr x) (HBR.out.alloc HCS.out _) (by have := HCS.out; simp; omega) (by have := HOL.out; first | omega | (simp; omega)) ?_; intro va wa hOa hBa hsa; have HOa := Aside0.mk hOa; have HBa := Aside0.mk hBa; have HSa := Aside0.mk hsa; clear hOa hBa hsa))
          go_roundw
          case rel =>
            refine ⟨k + 1, false, out ++ [x], HKL.out, by simp, rfl, HOa.out, HBa.out, by have := HO2.out; simp; omega, ?_, ?_⟩
            · rw [HF.out]
              show out ++ (if x = p then _ else x :: besF before p s (l.drop (k + 1))) = (out ++ [x]) ++ besF before p s (l.drop (k + 1))
              rw [if_neg HX.out]
              simp
            · rw [HM.out]
              show decide ((if x = p then 0 else fidx p (l.drop (k + 1)) + 1) < (l.drop (k + 1)).length + 1) = decide (fidx p (l.drop (k + 1)) < (l.drop (k + 1)).length)
              rw [if_neg HX.out]
              simp
          case measure => have := Hlt.out; simp [intOf]; omega
    · have hkl : ¬ k < l.length := by rw [← Hn.out]; exact hlt
      have e1 : decide ((k : Int) < (n : Int)) = false := decide_eq_false (by omega)
      have e2 : decide (k < n) = false := decide_eq_false hlt
      have hk : k = l.length := by omega
      rw [hk, List.drop_length] at hF hM
      have HOWN := Aside0.mk hown
      have HBR := Aside0.mk hbr
      cases met with
      | true =>
        have hc : fidx p l < l.length := by simpa using hM
        have HFO := Aside0.mk (show besF before p s l = out by rw [hF]; exact List.append_nil _)
        have HI := Aside0.mk (show besI before p s l = (out.length : Int) by unfold besI; rw [if_pos hc, ← HFO.out, besF_len before p s l hc]; simp)
        clear hlt hkl hk hF hM hown hbr hCs hol hkn hc
        go_wp2
        go_ret2
        rw [HI.out, HFO.out]
        exact ⟨_, rfl, rd_of_own HOWN.out, HBR.out⟩
      | false =>
        have hc : ¬ fidx p l < l.length := by simpa using hM
        have HFO := Aside0.mk (besF_none before p s l hc)
        have HI := Aside0.mk (show besI before p s l = -1 by unfold besI; rw [if_neg hc])
        clear hlt hkl hk hF hM hown hbr hCs hol hkn hc
        go_wp2
        go_ret2
        rw [HI.out, HFO.out]
        exact ⟨_, rfl, H.out.below HBR.out, HBR.out⟩
end Go.Proofs.Ytbficlkjlhigjaa.Dq
