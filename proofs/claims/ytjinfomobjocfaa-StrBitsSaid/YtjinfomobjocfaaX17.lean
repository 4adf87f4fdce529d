-- Written by wip/tool/xprint.py of this work (a front end of its own to the kit's printer): the functions of the seat Ytjinfomobjocfaa as plain Lean functions, and what the Go code's calls come to. Lean checks it.
import Derived.Test.YtjinfomobjocfaaX0
import Derived.Test.YtjinfomobjocfaaX5
import Derived.Test.YtjinfomobjocfaaX7
import Derived.Test.YtjinfomobjocfaaX15
namespace Go.Proofs.Ytjinfomobjocfaa.X
open Go.RowKit Go.Proofs.YtjinfomobjocfaaW.PrintWords Go.Proofs.YtjinfomobjocfaaW.PrintLast Go.Proofs.YtjinfomobjocfaaW.PrintMore
attribute [local go_sem] max2_int min2_int max_two min_two max_three min_three max_four min_four   -- for this text's walks alone
set_option linter.unusedVariables false
set_option linter.unusedSimpArgs false

/-! ### mewslaw20_StrBits: function 7 -/
def mewslaw20_StrBits.j0 : Nat → ByteArray → Int → Int → Int → Option (Bool)
  | 0, _, _, _, _ => none
  | k + 1, x0, x9, x10, x11 => (str_SetBit.f x0 x9 x11).bind fun bt214 => ((str_Bit.f bt214.1 x9).bind fun bt217 => ((str_Bit.f x0 x9).bind fun bt219 => ((str_Bit.f x0 x10).bind fun bt221 => ((str_Bit.f bt214.1 x10).bind fun bt223 => (if bt214.2.2 = 0 then (if bt217.2 = 0 then (if bt217.1 = x11 then (if bt214.2.1 = bt219.1 then (if x9 = x10 then ((str_Ones.f k bt214.1 0 (-1)).bind fun t225 => ((str_Ones.f k x0 0 (-1)).bind fun t226 => (if t225 = (wrap64 ((wrap64 (t226 + x11)) - bt214.2.1)) then ((mewslaw20_alive.f k).bind fun t227 => (some t227)) else (some false)))) else (if bt221.1 = bt223.1 then ((str_Ones.f k bt214.1 0 (-1)).bind fun t228 => ((str_Ones.f k x0 0 (-1)).bind fun t229 => (if t228 = (wrap64 ((wrap64 (t229 + x11)) - bt214.2.1)) then ((mewslaw20_alive.f k).bind fun t230 => (some t230)) else (some false)))) else (some false))) else (some false)) else (some false)) else (some false)) else (some false))))))
def mewslaw20_StrBits.f (k : Nat) (a0 : ByteArray) (a1 : Int) (a2 : Int) (a3 : Bool) : Option (Bool) := (mewslaw20_far.f a0 (⟨#[]⟩ : ByteArray) 0).bind fun t212 => (if t212 = true then ((mewslaw20_alive.f k).bind fun t213 => (some t213)) else (if a3 = true then (mewslaw20_StrBits.j0 k a0 (wrap64 (Int.tmod (IntKind.u64.wrap (a1)) 9000)) (wrap64 (Int.tmod (IntKind.u64.wrap (a2)) 9000)) 1) else (mewslaw20_StrBits.j0 k a0 (wrap64 (Int.tmod (IntKind.u64.wrap (a1)) 9000)) (wrap64 (Int.tmod (IntKind.u64.wrap (a2)) 9000)) 0)))
theorem mewslaw20_StrBits.mono_l : ∀ k, (∀ y0 y1 y2 y3, LeO (mewslaw20_StrBits.j0 k y0 y1 y2 y3) (mewslaw20_StrBits.j0 (k + 1) y0 y1 y2 y3))
  | 0 => fun _ _ _ _ r h => by simp [mewslaw20_StrBits.j0] at h
  | k + 1 => by
    have ih0 := mewslaw20_StrBits.mono_l k
    · intro y0 y1 y2 y3
      unfold mewslaw20_StrBits.j0
      repeat' first
      | (with_reducible exact ih0 _ _ _ _)
      | (with_reducible exact mewslaw20_alive.mono _)
      | (with_reducible exact str_Ones.mono _ _ _ _)
      | (with_reducible exact LeO.refl _)
      | (with_reducible exact LeO.none _)
      | (with_reducible refine LeO.ite ?_ ?_)
      | (with_reducible refine LeO.bind ?_ (fun _ => ?_))
      | exact ih0 _ _ _ _
      | exact mewslaw20_alive.mono _
      | exact str_Ones.mono _ _ _ _
      | exact LeO.none _
      | refine LeO.ite ?_ ?_
      | refine LeO.bind ?_ (fun _ => ?_)
theorem mewslaw20_StrBits.mono : ∀ a0 a1 a2 a3 k, LeO (mewslaw20_StrBits.f k a0 a1 a2 a3) (mewslaw20_StrBits.f (k + 1) a0 a1 a2 a3) := by
  intro a0 a1 a2 a3 k
  have ih0 := mewslaw20_StrBits.mono_l k
  unfold mewslaw20_StrBits.f
  repeat' first
      | (with_reducible exact ih0 _ _ _ _)
      | (with_reducible exact mewslaw20_alive.mono _)
      | (with_reducible exact str_Ones.mono _ _ _ _)
      | (with_reducible exact LeO.refl _)
      | (with_reducible exact LeO.none _)
      | (with_reducible refine LeO.ite ?_ ?_)
      | (with_reducible refine LeO.bind ?_ (fun _ => ?_))
      | exact ih0 _ _ _ _
      | exact mewslaw20_alive.mono _
      | exact str_Ones.mono _ _ _ _
      | exact LeO.none _
      | refine LeO.ite ?_ ?_
      | refine LeO.bind ?_ (fun _ => ?_)
set_option maxHeartbeats 8000000 in
set_option maxRecDepth 100000 in
theorem mewslaw20_StrBits.calls (k : Nat) (a0 : ByteArray) (a1 : Int) (a2 : Int) (a3 : Bool) (r : Bool) (w : World) (hr_ : Aside0 (r = true)) (h : mewslaw20_StrBits.f k a0 a1 a2 a3 = some r) :
    Calls Try.prog 7 #[.string a0, .int .i64 a1, .int .i64 a2, .bool a3] w fun e w' => e = .returned (.bool r) ∧ Below w.heap.size w w' := by
  have HB := Aside0.mk (Below.refl w.heap.size w)
  have H : ((mewslaw20_far.f a0 (⟨#[]⟩ : ByteArray) 0).bind fun t212 => (if t212 = true then ((mewslaw20_alive.f k).bind fun t213 => (some t213)) else (if a3 = true then (mewslaw20_StrBits.j0 k a0 (wrap64 (Int.tmod (IntKind.u64.wrap (a1)) 9000)) (wrap64 (Int.tmod (IntKind.u64.wrap (a2)) 9000)) 1) else (mewslaw20_StrBits.j0 k a0 (wrap64 (Int.tmod (IntKind.u64.wrap (a1)) 9000)) (wrap64 (Int.tmod (IntKind.u64.wrap (a2)) 9000)) 0)))) = some r := h
  clear h
  replace H := Option.bind_eq_some_iff.mp H
  obtain ⟨t212, A50, H⟩ := H
  replace H : (if t212 = true then ((mewslaw20_alive.f k).bind fun t213 => (some t213)) else (if a3 = true then (mewslaw20_StrBits.j0 k a0 (wrap64 (Int.tmod (IntKind.u64.wrap (a1)) 9000)) (wrap64 (Int.tmod (IntKind.u64.wrap (a2)) 9000)) 1) else (mewslaw20_StrBits.j0 k a0 (wrap64 (Int.tmod (IntKind.u64.wrap (a1)) 9000)) (wrap64 (Int.tmod (IntKind.u64.wrap (a2)) 9000)) 0))) = some r := H
  have A5 := Aside0.mk A50
  clear A50
  by_cases c6 : t212 = true
  · subst c6
    have H1 : ((mewslaw20_alive.f k).bind fun t213 => (some t213)) = some r := by rw [if_pos rfl] at H; exact H
    clear H
    have H := H1
    clear H1
    replace H := Option.bind_eq_some_iff.mp H
    obtain ⟨t213, A70, H⟩ := H
    replace H : (some t213) = some r := H
    have A7 := Aside0.mk A70
    clear A70
    obtain rfl := Option.some.inj H
    go_enter Try.func7, Try.ntmps7
    go_wp2_with (first | ((with_reducible refine gate_callee (f := 12) rfl ?_); refine goesL_ (some 24) rfl rfl Try.func12 (by kernel_rfl) rfl #[.string a0, .string (⟨#[]⟩ : ByteArray), .int .i64 0] rfl (by (try simp only [List.map_toArray, List.map_cons, List.map_nil]); first | done | rfl | (simp only [List.length_drop, List.length_take]; rfl)) ?_; (with_reducible refine (mewslaw20_far.calls a0 (⟨#[]⟩ : ByteArray) 0 true _ A5.out).mono ?_); rintro e w' ⟨rfl, ⟨nd, rfl⟩⟩; refine ⟨_, rfl, ?_⟩) | ((with_reducible refine gate_callee (f := 11) rfl ?_); refine goesL_ (some 25) rfl rfl Try.func11 (by kernel_rfl) rfl #[] rfl (by (try simp only [List.map_toArray, List.map_cons, List.map_nil]); first | done | rfl | (simp only [List.length_drop, List.length_take]; rfl)) ?_; (with_reducible refine (mewslaw20_alive.calls k  t213 _ A7.out).mono ?_); rintro e w8 ⟨rfl, hb⟩; refine ⟨_, rfl, ?_⟩; have n0_ := Aside0.mk (below_step (by repeat (first | (with_reducible first | exact HB.out | apply below_alloc | apply pw_below_drewN | apply below_drew1) | exact HB.out)) hb); clear HB; have HB := n0_; clear n0_; (try clear hb); (try clear hb2); (try clear hk); (try clear hi)))
    go_ret
    exact ⟨by first | rfl | (simp [errW_none, errW_some] <;> rfl) | (simp [*, errW_none, errW_some] <;> rfl), by repeat (first | (with_reducible first | exact HB.out | apply below_alloc | apply pw_below_drewN | apply below_drew1) | exact HB.out)⟩
  · replace c6 := Bool.eq_false_iff.mpr c6
    subst c6
    have H1 : (if a3 = true then (mewslaw20_StrBits.j0 k a0 (wrap64 (Int.tmod (IntKind.u64.wrap (a1)) 9000)) (wrap64 (Int.tmod (IntKind.u64.wrap (a2)) 9000)) 1) else (mewslaw20_StrBits.j0 k a0 (wrap64 (Int.tmod (IntKind.u64.wrap (a1)) 9000)) (wrap64 (Int.tmod (IntKind.u64.wrap (a2)) 9000)) 0)) = some r := by rw [if_neg (show ¬ (false = true) by decide)] at H; exact H
    clear H
    have H := H1
    clear H1
    have HC9 := Aside0.mk H
    clear H
    go_enter Try.func7, Try.ntmps7
    go_upto_if 34 with (first | ((with_reducible refine gate_callee (f := 12) rfl ?_); refine goesL_ (some 24) rfl rfl Try.func12 (by kernel_rfl) rfl #[.string a0, .string (⟨#[]⟩ : ByteArray), .int .i64 0] rfl (by (try simp only [List.map_toArray, List.map_cons, List.map_nil]); first | done | rfl | (simp only [List.length_drop, List.length_take]; rfl)) ?_; (with_reducible refine (mewslaw20_far.calls a0 (⟨#[]⟩ : ByteArray) 0 false _ A5.out).mono ?_); rintro e w' ⟨rfl, ⟨nd, rfl⟩⟩; refine ⟨_, rfl, ?_⟩))
    (try simp only [Act.put, List.setIfInBounds_toArray, List.set_cons_zero, List.set_cons_succ])
    go_cut [11] (fun v11 wc => ∃ (kq : Nat) (x11_8 : Int), v11 = .int .i64 x11_8 ∧ Aside0 (mewslaw20_StrBits.j0 kq a0 (wrap64 (Int.tmod (IntKind.u64.wrap (a1)) 9000)) (wrap64 (Int.tmod (IntKind.u64.wrap (a2)) 9000)) x11_8 = some r) ∧ Aside0 (kq ≤ k) ∧ Aside0 (Below w.heap.size w wc))
    case first =>
      have H := HC9.out
      clear HC9
      by_cases c10 : a3 = true
      · subst c10
        have H1 : (mewslaw20_StrBits.j0 k a0 (wrap64 (Int.tmod (IntKind.u64.wrap (a1)) 9000)) (wrap64 (Int.tmod (IntKind.u64.wrap (a2)) 9000)) 1) = some r := by rw [if_pos rfl] at H; exact H
        clear H
        have H := H1
        clear H1
        have H' := Aside0.mk H
        clear H
        go_wp2
        go_meet
        case rel => exact ⟨_, (1), (by first | rfl | (simp; done) | (simp [*]; done)), H', ⟨by first | omega | exact Nat.le_refl _⟩, ⟨by repeat (first | (with_reducible first | exact HB.out | apply below_alloc | apply pw_below_drewN | apply below_drew1) | exact HB.out)⟩⟩
      · replace c10 := Bool.eq_false_iff.mpr c10
        subst c10
        have H1 : (mewslaw20_StrBits.j0 k a0 (wrap64 (Int.tmod (IntKind.u64.wrap (a1)) 9000)) (wrap64 (Int.tmod (IntKind.u64.wrap (a2)) 9000)) 0) = some r := by rw [if_neg (show ¬ (false = true) by decide)] at H; exact H
        clear H
        have H := H1
        clear H1
        have H' := Aside0.mk H
        clear H
        go_wp2
        go_meet
        case rel => exact ⟨_, (0), (by first | rfl | (simp; done) | (simp [*]; done)), H', ⟨by first | omega | exact Nat.le_refl _⟩, ⟨by repeat (first | (with_reducible first | exact HB.out | apply below_alloc | apply pw_below_drewN | apply below_drew1) | exact HB.out)⟩⟩
    case rest =>
      clear HC9
      try clear c1
      try clear p2
      try clear c6
      try clear p6
      try clear c7
      try clear c10
      obtain ⟨kq, x11_8, rfl, HA, HJ8, HB⟩ := hcut
      cases kq with
      | zero => exact absurd HA.out (by simp [mewslaw20_StrBits.j0])
      | succ kj8 =>
        have H := HA.out
        clear HA
        simp only [mewslaw20_StrBits.j0] at H
        replace H := Option.bind_eq_some_iff.mp H
        obtain ⟨⟨t214, t215, t216⟩, A110, H⟩ := H
        replace H : ((str_Bit.f t214 (wrap64 (Int.tmod (IntKind.u64.wrap (a1)) 9000))).bind fun bt217 => ((str_Bit.f a0 (wrap64 (Int.tmod (IntKind.u64.wrap (a1)) 9000))).bind fun bt219 => ((str_Bit.f a0 (wrap64 (Int.tmod (IntKind.u64.wrap (a2)) 9000))).bind fun bt221 => ((str_Bit.f t214 (wrap64 (Int.tmod (IntKind.u64.wrap (a2)) 9000))).bind fun bt223 => (if t216 = 0 then (if bt217.2 = 0 then (if bt217.1 = x11_8 then (if t215 = bt219.1 then (if (wrap64 (Int.tmod (IntKind.u64.wrap (a1)) 9000)) = (wrap64 (Int.tmod (IntKind.u64.wrap (a2)) 9000)) then ((str_Ones.f kj8 t214 0 (-1)).bind fun t225 => ((str_Ones.f kj8 a0 0 (-1)).bind fun t226 => (if t225 = (wrap64 ((wrap64 (t226 + x11_8)) - t215)) then ((mewslaw20_alive.f kj8).bind fun t227 => (some t227)) else (some false)))) else (if bt221.1 = bt223.1 then ((str_Ones.f kj8 t214 0 (-1)).bind fun t228 => ((str_Ones.f kj8 a0 0 (-1)).bind fun t229 => (if t228 = (wrap64 ((wrap64 (t229 + x11_8)) - t215)) then ((mewslaw20_alive.f kj8).bind fun t230 => (some t230)) else (some false)))) else (some false))) else (some false)) else (some false)) else (some false)) else (some false)))))) = some r := H
        have A11 := Aside0.mk A110
        clear A110
        replace H := Option.bind_eq_some_iff.mp H
        obtain ⟨⟨t217, t218⟩, A120, H⟩ := H
        replace H : ((str_Bit.f a0 (wrap64 (Int.tmod (IntKind.u64.wrap (a1)) 9000))).bind fun bt219 => ((str_Bit.f a0 (wrap64 (Int.tmod (IntKind.u64.wrap (a2)) 9000))).bind fun bt221 => ((str_Bit.f t214 (wrap64 (Int.tmod (IntKind.u64.wrap (a2)) 9000))).bind fun bt223 => (if t216 = 0 then (if t218 = 0 then (if t217 = x11_8 then (if t215 = bt219.1 then (if (wrap64 (Int.tmod (IntKind.u64.wrap (a1)) 9000)) = (wrap64 (Int.tmod (IntKind.u64.wrap (a2)) 9000)) then ((str_Ones.f kj8 t214 0 (-1)).bind fun t225 => ((str_Ones.f kj8 a0 0 (-1)).bind fun t226 => (if t225 = (wrap64 ((wrap64 (t226 + x11_8)) - t215)) then ((mewslaw20_alive.f kj8).bind fun t227 => (some t227)) else (some false)))) else (if bt221.1 = bt223.1 then ((str_Ones.f kj8 t214 0 (-1)).bind fun t228 => ((str_Ones.f kj8 a0 0 (-1)).bind fun t229 => (if t228 = (wrap64 ((wrap64 (t229 + x11_8)) - t215)) then ((mewslaw20_alive.f kj8).bind fun t230 => (some t230)) else (some false)))) else (some false))) else (some false)) else (some false)) else (some false)) else (some false))))) = some r := H
        have A12 := Aside0.mk A120
        clear A120
        replace H := Option.bind_eq_some_iff.mp H
        obtain ⟨⟨t219, t220⟩, A130, H⟩ := H
        replace H : ((str_Bit.f a0 (wrap64 (Int.tmod (IntKind.u64.wrap (a2)) 9000))).bind fun bt221 => ((str_Bit.f t214 (wrap64 (Int.tmod (IntKind.u64.wrap (a2)) 9000))).bind fun bt223 => (if t216 = 0 then (if t218 = 0 then (if t217 = x11_8 then (if t215 = t219 then (if (wrap64 (Int.tmod (IntKind.u64.wrap (a1)) 9000)) = (wrap64 (Int.tmod (IntKind.u64.wrap (a2)) 9000)) then ((str_Ones.f kj8 t214 0 (-1)).bind fun t225 => ((str_Ones.f kj8 a0 0 (-1)).bind fun t226 => (if t225 = (wrap64 ((wrap64 (t226 + x11_8)) - t215)) then ((mewslaw20_alive.f kj8).bind fun t227 => (some t227)) else (some false)))) else (if bt221.1 = bt223.1 then ((str_Ones.f kj8 t214 0 (-1)).bind fun t228 => ((str_Ones.f kj8 a0 0 (-1)).bind fun t229 => (if t228 = (wrap64 ((wrap64 (t229 + x11_8)) - t215)) then ((mewslaw20_alive.f kj8).bind fun t230 => (some t230)) else (some false)))) else (some false))) else (some false)) else (some false)) else (some false)) else (some false)))) = some r := H
        have A13 := Aside0.mk A130
        clear A130
        replace H := Option.bind_eq_some_iff.mp H
        obtain ⟨⟨t221, t222⟩, A140, H⟩ := H
        replace H : ((str_Bit.f t214 (wrap64 (Int.tmod (IntKind.u64.wrap (a2)) 9000))).bind fun bt223 => (if t216 = 0 then (if t218 = 0 then (if t217 = x11_8 then (if t215 = t219 then (if (wrap64 (Int.tmod (IntKind.u64.wrap (a1)) 9000)) = (wrap64 (Int.tmod (IntKind.u64.wrap (a2)) 9000)) then ((str_Ones.f kj8 t214 0 (-1)).bind fun t225 => ((str_Ones.f kj8 a0 0 (-1)).bind fun t226 => (if t225 = (wrap64 ((wrap64 (t226 + x11_8)) - t215)) then ((mewslaw20_alive.f kj8).bind fun t227 => (some t227)) else (some false)))) else (if t221 = bt223.1 then ((str_Ones.f kj8 t214 0 (-1)).bind fun t228 => ((str_Ones.f kj8 a0 0 (-1)).bind fun t229 => (if t228 = (wrap64 ((wrap64 (t229 + x11_8)) - t215)) then ((mewslaw20_alive.f kj8).bind fun t230 => (some t230)) else (some false)))) else (some false))) else (some false)) else (some false)) else (some false)) else (some false))) = some r := H
        have A14 := Aside0.mk A140
        clear A140
        replace H := Option.bind_eq_some_iff.mp H
        obtain ⟨⟨t223, t224⟩, A150, H⟩ := H
        replace H : (if t216 = 0 then (if t218 = 0 then (if t217 = x11_8 then (if t215 = t219 then (if (wrap64 (Int.tmod (IntKind.u64.wrap (a1)) 9000)) = (wrap64 (Int.tmod (IntKind.u64.wrap (a2)) 9000)) then ((str_Ones.f kj8 t214 0 (-1)).bind fun t225 => ((str_Ones.f kj8 a0 0 (-1)).bind fun t226 => (if t225 = (wrap64 ((wrap64 (t226 + x11_8)) - t215)) then ((mewslaw20_alive.f kj8).bind fun t227 => (some t227)) else (some false)))) else (if t221 = t223 then ((str_Ones.f kj8 t214 0 (-1)).bind fun t228 => ((str_Ones.f kj8 a0 0 (-1)).bind fun t229 => (if t228 = (wrap64 ((wrap64 (t229 + x11_8)) - t215)) then ((mewslaw20_alive.f kj8).bind fun t230 => (some t230)) else (some false)))) else (some false))) else (some false)) else (some false)) else (some false)) else (some false)) = some r := H
        have A15 := Aside0.mk A150
        clear A150
        by_cases c16 : t216 = 0
        · rw [if_pos c16] at H
          have c16b0 : (t216 == 0) = true := beq_iff_eq.mpr c16
          have c16b1 : (t216 != 0) = false := bne_eq_false_iff_eq.mpr c16
          clear c16
          by_cases c17 : t218 = 0
          · rw [if_pos c17] at H
            have c17b0 : (t218 == 0) = true := beq_iff_eq.mpr c17
            have c17b1 : (t218 != 0) = false := bne_eq_false_iff_eq.mpr c17
            clear c17
            by_cases c18 : t217 = x11_8
            · rw [if_pos c18] at H
              have c18b0 : (t217 == x11_8) = true := beq_iff_eq.mpr c18
              have c18b1 : (t217 != x11_8) = false := bne_eq_false_iff_eq.mpr c18
              clear c18
              by_cases c19 : t215 = t219
              · rw [if_pos c19] at H
                have c19b0 : (t215 == t219) = true := beq_iff_eq.mpr c19
                have c19b1 : (t215 != t219) = false := bne_eq_false_iff_eq.mpr c19
                clear c19
                by_cases c20 : (wrap64 (Int.tmod (IntKind.u64.wrap (a1)) 9000)) = (wrap64 (Int.tmod (IntKind.u64.wrap (a2)) 9000))
                · rw [if_pos c20] at H
                  have c20b0 : ((wrap64 (Int.tmod (IntKind.u64.wrap (a1)) 9000)) == (wrap64 (Int.tmod (IntKind.u64.wrap (a2)) 9000))) = true := beq_iff_eq.mpr c20
                  have c20b1 : ((wrap64 (Int.tmod (IntKind.u64.wrap (a1)) 9000)) != (wrap64 (Int.tmod (IntKind.u64.wrap (a2)) 9000))) = false := bne_eq_false_iff_eq.mpr c20
                  clear c20
                  replace H := Option.bind_eq_some_iff.mp H
                  obtain ⟨t225, A210, H⟩ := H
                  replace H : ((str_Ones.f kj8 a0 0 (-1)).bind fun t226 => (if t225 = (wrap64 ((wrap64 (t226 + x11_8)) - t215)) then ((mewslaw20_alive.f kj8).bind fun t227 => (some t227)) else (some false))) = some r := H
                  have A21 := Aside0.mk A210
                  clear A210
                  replace H := Option.bind_eq_some_iff.mp H
                  obtain ⟨t226, A220, H⟩ := H
                  replace H : (if t225 = (wrap64 ((wrap64 (t226 + x11_8)) - t215)) then ((mewslaw20_alive.f kj8).bind fun t227 => (some t227)) else (some false)) = some r := H
                  have A22 := Aside0.mk A220
                  clear A220
                  by_cases c23 : t225 = (wrap64 ((wrap64 (t226 + x11_8)) - t215))
                  · rw [if_pos c23] at H
                    have c23b0 : (t225 == (wrap64 ((wrap64 (t226 + x11_8)) - t215))) = true := beq_iff_eq.mpr c23
                    have c23b1 : (t225 != (wrap64 ((wrap64 (t226 + x11_8)) - t215))) = false := bne_eq_false_iff_eq.mpr c23
                    clear c23
                    replace H := Option.bind_eq_some_iff.mp H
                    obtain ⟨t227, A240, H⟩ := H
                    replace H : (some t227) = some r := H
                    have A24 := Aside0.mk A240
                    clear A240
                    obtain rfl := Option.some.inj H
                    go_wp2_with (first | ((with_reducible refine gate_callee (f := 22) rfl ?_); refine goesL_ (some 39) rfl rfl Try.func22 (by kernel_rfl) rfl #[.string a0, .int .i64 (wrap64 (Int.tmod (IntKind.u64.wrap (a1)) 9000)), .int .i64 x11_8] rfl (by (try simp only [List.map_toArray, List.map_cons, List.map_nil]); first | done | rfl | (simp only [List.length_drop, List.length_take]; rfl)) ?_; (with_reducible refine (str_SetBit.calls a0 (wrap64 (Int.tmod (IntKind.u64.wrap (a1)) 9000)) x11_8 t214 t215 t216 _ A11.out).mono ?_); rintro e w25 ⟨rfl, hb⟩; refine ⟨_, rfl, ?_⟩; have n0_ := Aside0.mk (below_step (by repeat (first | (with_reducible first | exact HB.out | apply below_alloc | apply pw_below_drewN | apply below_drew1) | exact HB.out)) hb); clear HB; have HB := n0_; clear n0_; (try clear hb); (try clear hb2); (try clear hk); (try clear hi)) | ((with_reducible refine gate_callee (f := 20) rfl ?_); refine goesL_ (some 46) rfl rfl Try.func20 (by kernel_rfl) rfl #[.string t214, .int .i64 (wrap64 (Int.tmod (IntKind.u64.wrap (a1)) 9000))] rfl (by (try simp only [List.map_toArray, List.map_cons, List.map_nil]); first | done | rfl | (simp only [List.length_drop, List.length_take]; rfl)) ?_; (with_reducible refine (str_Bit.calls t214 (wrap64 (Int.tmod (IntKind.u64.wrap (a1)) 9000)) t217 t218 _ A12.out).mono ?_); rintro e w' ⟨rfl, ⟨nd, rfl⟩⟩; refine ⟨_, rfl, ?_⟩) | ((with_reducible refine gate_callee (f := 20) rfl ?_); refine goesL_ (some 52) rfl rfl Try.func20 (by kernel_rfl) rfl #[.string a0, .int .i64 (wrap64 (Int.tmod (IntKind.u64.wrap (a1)) 9000))] rfl (by (try simp only [List.map_toArray, List.map_cons, List.map_nil]); first | done | rfl | (simp only [List.length_drop, List.length_take]; rfl)) ?_; (with_reducible refine (str_Bit.calls a0 (wrap64 (Int.tmod (IntKind.u64.wrap (a1)) 9000)) t219 t220 _ A13.out).mono ?_); rintro e w' ⟨rfl, ⟨nd, rfl⟩⟩; refine ⟨_, rfl, ?_⟩) | ((with_reducible refine gate_callee (f := 20) rfl ?_); refine goesL_ (some 58) rfl rfl Try.func20 (by kernel_rfl) rfl #[.string a0, .int .i64 (wrap64 (Int.tmod (IntKind.u64.wrap (a2)) 9000))] rfl (by (try simp only [List.map_toArray, List.map_cons, List.map_nil]); first | done | rfl | (simp only [List.length_drop, List.length_take]; rfl)) ?_; (with_reducible refine (str_Bit.calls a0 (wrap64 (Int.tmod (IntKind.u64.wrap (a2)) 9000)) t221 t222 _ A14.out).mono ?_); rintro e w' ⟨rfl, ⟨nd, rfl⟩⟩; refine ⟨_, rfl, ?_⟩) | ((with_reducible refine gate_callee (f := 20) rfl ?_); refine goesL_ (some 64) rfl rfl Try.func20 (by kernel_rfl) rfl #[.string t214, .int .i64 (wrap64 (Int.tmod (IntKind.u64.wrap (a2)) 9000))] rfl (by (try simp only [List.map_toArray, List.map_cons, List.map_nil]); first | done | rfl | (simp only [List.length_drop, List.length_take]; rfl)) ?_; (with_reducible refine (str_Bit.calls t214 (wrap64 (Int.tmod (IntKind.u64.wrap (a2)) 9000)) t223 t224 _ A15.out).mono ?_); rintro e w' ⟨rfl, ⟨nd, rfl⟩⟩; refine ⟨_, rfl, ?_⟩) | (go_at_call 24; (with_reducible refine (str_Ones.calls kj8 t214 0 (-1) t225 _ A21.out).mono ?_); rintro e w26 ⟨rfl, hb⟩; have n0_ := Aside0.mk (below_step (by repeat (first | (with_reducible first | exact HB.out | apply below_alloc | apply pw_below_drewN | apply below_drew1) | exact HB.out)) hb); clear HB; have HB := n0_; clear n0_; (try clear hb); (try clear hb2); (try clear hk); (try clear hi)) | (go_at_call 24; (with_reducible refine (str_Ones.calls kj8 a0 0 (-1) t226 _ A22.out).mono ?_); rintro e w27 ⟨rfl, hb⟩; have n0_ := Aside0.mk (below_step (by repeat (first | (with_reducible first | exact HB.out | apply below_alloc | apply pw_below_drewN | apply below_drew1) | exact HB.out)) hb); clear HB; have HB := n0_; clear n0_; (try clear hb); (try clear hb2); (try clear hk); (try clear hi)) | (go_at_call 11; (with_reducible refine (mewslaw20_alive.calls kj8  t227 _ A24.out).mono ?_); rintro e w28 ⟨rfl, hb⟩; have n0_ := Aside0.mk (below_step (by repeat (first | (with_reducible first | exact HB.out | apply below_alloc | apply pw_below_drewN | apply below_drew1) | exact HB.out)) hb); clear HB; have HB := n0_; clear n0_; (try clear hb); (try clear hb2); (try clear hk); (try clear hi)))
                    go_ret
                    exact ⟨by first | rfl | (simp [errW_none, errW_some] <;> rfl) | (simp [*, errW_none, errW_some] <;> rfl), by repeat (first | (with_reducible first | exact HB.out | apply below_alloc | apply pw_below_drewN | apply below_drew1) | exact HB.out)⟩
                  · rw [if_neg c23] at H
                    have c23b0 : (t225 == (wrap64 ((wrap64 (t226 + x11_8)) - t215))) = false := beq_eq_false_iff_ne.mpr c23
                    have c23b1 : (t225 != (wrap64 ((wrap64 (t226 + x11_8)) - t215))) = true := bne_iff_ne.mpr c23
                    exact absurd ((Option.some.inj H).trans hr_.out) (by decide)
                · rw [if_neg c20] at H
                  have c20b0 : ((wrap64 (Int.tmod (IntKind.u64.wrap (a1)) 9000)) == (wrap64 (Int.tmod (IntKind.u64.wrap (a2)) 9000))) = false := beq_eq_false_iff_ne.mpr c20
                  have c20b1 : ((wrap64 (Int.tmod (IntKind.u64.wrap (a1)) 9000)) != (wrap64 (Int.tmod (IntKind.u64.wrap (a2)) 9000))) = true := bne_iff_ne.mpr c20
                  by_cases c29 : t221 = t223
                  · rw [if_pos c29] at H
                    have c29b0 : (t221 == t223) = true := beq_iff_eq.mpr c29
                    have c29b1 : (t221 != t223) = false := bne_eq_false_iff_eq.mpr c29
                    clear c29
                    replace H := Option.bind_eq_some_iff.mp H
                    obtain ⟨t228, A300, H⟩ := H
                    replace H : ((str_Ones.f kj8 a0 0 (-1)).bind fun t229 => (if t228 = (wrap64 ((wrap64 (t229 + x11_8)) - t215)) then ((mewslaw20_alive.f kj8).bind fun t230 => (some t230)) else (some false))) = some r := H
                    have A30 := Aside0.mk A300
                    clear A300
                    replace H := Option.bind_eq_some_iff.mp H
                    obtain ⟨t229, A310, H⟩ := H
                    replace H : (if t228 = (wrap64 ((wrap64 (t229 + x11_8)) - t215)) then ((mewslaw20_alive.f kj8).bind fun t230 => (some t230)) else (some false)) = some r := H
                    have A31 := Aside0.mk A310
                    clear A310
                    by_cases c32 : t228 = (wrap64 ((wrap64 (t229 + x11_8)) - t215))
                    · rw [if_pos c32] at H
                      have c32b0 : (t228 == (wrap64 ((wrap64 (t229 + x11_8)) - t215))) = true := beq_iff_eq.mpr c32
                      have c32b1 : (t228 != (wrap64 ((wrap64 (t229 + x11_8)) - t215))) = false := bne_eq_false_iff_eq.mpr c32
                      clear c32
                      replace H := Option.bind_eq_some_iff.mp H
                      obtain ⟨t230, A330, H⟩ := H
                      replace H : (some t230) = some r := H
                      have A33 := Aside0.mk A330
                      clear A330
                      obtain rfl := Option.some.inj H
                      go_wp2_with (first | ((with_reducible refine gate_callee (f := 22) rfl ?_); refine goesL_ (some 39) rfl rfl Try.func22 (by kernel_rfl) rfl #[.string a0, .int .i64 (wrap64 (Int.tmod (IntKind.u64.wrap (a1)) 9000)), .int .i64 x11_8] rfl (by (try simp only [List.map_toArray, List.map_cons, List.map_nil]); first | done | rfl | (simp only [List.length_drop, List.length_take]; rfl)) ?_; (with_reducible refine (str_SetBit.calls a0 (wrap64 (Int.tmod (IntKind.u64.wrap (a1)) 9000)) x11_8 t214 t215 t216 _ A11.out).mono ?_); rintro e w34 ⟨rfl, hb⟩; refine ⟨_, rfl, ?_⟩; have n0_ := Aside0.mk (below_step (by repeat (first | (with_reducible first | exact HB.out | apply below_alloc | apply pw_below_drewN | apply below_drew1) | exact HB.out)) hb); clear HB; have HB := n0_; clear n0_; (try clear hb); (try clear hb2); (try clear hk); (try clear hi)) | ((with_reducible refine gate_callee (f := 20) rfl ?_); refine goesL_ (some 46) rfl rfl Try.func20 (by kernel_rfl) rfl #[.string t214, .int .i64 (wrap64 (Int.tmod (IntKind.u64.wrap (a1)) 9000))] rfl (by (try simp only [List.map_toArray, List.map_cons, List.map_nil]); first | done | rfl | (simp only [List.length_drop, List.length_take]; rfl)) ?_; (with_reducible refine (str_Bit.calls t214 (wrap64 (Int.tmod (IntKind.u64.wrap (a1)) 9000)) t217 t218 _ A12.out).mono ?_); rintro e w' ⟨rfl, ⟨nd, rfl⟩⟩; refine ⟨_, rfl, ?_⟩) | ((with_reducible refine gate_callee (f := 20) rfl ?_); refine goesL_ (some 52) rfl rfl Try.func20 (by kernel_rfl) rfl #[.string a0, .int .i64 (wrap64 (Int.tmod (IntKind.u64.wrap (a1)) 9000))] rfl (by (try simp only [List.map_toArray, List.map_cons, List.map_nil]); first | done | rfl | (simp only [List.length_drop, List.length_take]; rfl)) ?_; (with_reducible refine (str_Bit.calls a0 (wrap64 (Int.tmod (IntKind.u64.wrap (a1)) 9000)) t219 t220 _ A13.out).mono ?_); rintro e w' ⟨rfl, ⟨nd, rfl⟩⟩; refine ⟨_, rfl, ?_⟩) | ((with_reducible refine gate_callee (f := 20) rfl ?_); refine goesL_ (some 58) rfl rfl Try.func20 (by kernel_rfl) rfl #[.string a0, .int .i64 (wrap64 (Int.tmod (IntKind.u64.wrap (a2)) 9000))] rfl (by (try simp only [List.map_toArray, List.map_cons, List.map_nil]); first | done | rfl | (simp only [List.length_drop, List.length_take]; rfl)) ?_; (with_reducible refine (str_Bit.calls a0 (wrap64 (Int.tmod (IntKind.u64.wrap (a2)) 9000)) t221 t222 _ A14.out).mono ?_); rintro e w' ⟨rfl, ⟨nd, rfl⟩⟩; refine ⟨_, rfl, ?_⟩) | ((with_reducible refine gate_callee (f := 20) rfl ?_); refine goesL_ (some 64) rfl rfl Try.func20 (by kernel_rfl) rfl #[.string t214, .int .i64 (wrap64 (Int.tmod (IntKind.u64.wrap (a2)) 9000))] rfl (by (try simp only [List.map_toArray, List.map_cons, List.map_nil]); first | done | rfl | (simp only [List.length_drop, List.length_take]; rfl)) ?_; (with_reducible refine (str_Bit.calls t214 (wrap64 (Int.tmod (IntKind.u64.wrap (a2)) 9000)) t223 t224 _ A15.out).mono ?_); rintro e w' ⟨rfl, ⟨nd, rfl⟩⟩; refine ⟨_, rfl, ?_⟩) | (go_at_call 24; (with_reducible refine (str_Ones.calls kj8 t214 0 (-1) t228 _ A30.out).mono ?_); rintro e w35 ⟨rfl, hb⟩; have n0_ := Aside0.mk (below_step (by repeat (first | (with_reducible first | exact HB.out | apply below_alloc | apply pw_below_drewN | apply below_drew1) | exact HB.out)) hb); clear HB; have HB := n0_; clear n0_; (try clear hb); (try clear hb2); (try clear hk); (try clear hi)) | (go_at_call 24; (with_reducible refine (str_Ones.calls kj8 a0 0 (-1) t229 _ A31.out).mono ?_); rintro e w36 ⟨rfl, hb⟩; have n0_ := Aside0.mk (below_step (by repeat (first | (with_reducible first | exact HB.out | apply below_alloc | apply pw_below_drewN | apply below_drew1) | exact HB.out)) hb); clear HB; have HB := n0_; clear n0_; (try clear hb); (try clear hb2); (try clear hk); (try clear hi)) | (go_at_call 11; (with_reducible refine (mewslaw20_alive.calls kj8  t230 _ A33.out).mono ?_); rintro e w37 ⟨rfl, hb⟩; have n0_ := Aside0.mk (below_step (by repeat (first | (with_reducible first | exact HB.out | apply below_alloc | apply pw_below_drewN | apply below_drew1) | exact HB.out)) hb); clear HB; have HB := n0_; clear n0_; (try clear hb); (try clear hb2); (try clear hk); (try clear hi)))
                      go_ret
                      exact ⟨by first | rfl | (simp [errW_none, errW_some] <;> rfl) | (simp [*, errW_none, errW_some] <;> rfl), by repeat (first | (with_reducible first | exact HB.out | apply below_alloc | apply pw_below_drewN | apply below_drew1) | exact HB.out)⟩
                    · rw [if_neg c32] at H
                      have c32b0 : (t228 == (wrap64 ((wrap64 (t229 + x11_8)) - t215))) = false := beq_eq_false_iff_ne.mpr c32
                      have c32b1 : (t228 != (wrap64 ((wrap64 (t229 + x11_8)) - t215))) = true := bne_iff_ne.mpr c32
                      exact absurd ((Option.some.inj H).trans hr_.out) (by decide)
                  · rw [if_neg c29] at H
                    have c29b0 : (t221 == t223) = false := beq_eq_false_iff_ne.mpr c29
                    have c29b1 : (t221 != t223) = true := bne_iff_ne.mpr c29
                    exact absurd ((Option.some.inj H).trans hr_.out) (by decide)
              · rw [if_neg c19] at H
                have c19b0 : (t215 == t219) = false := beq_eq_false_iff_ne.mpr c19
                have c19b1 : (t215 != t219) = true := bne_iff_ne.mpr c19
                exact absurd ((Option.some.inj H).trans hr_.out) (by decide)
            · rw [if_neg c18] at H
              have c18b0 : (t217 == x11_8) = false := beq_eq_false_iff_ne.mpr c18
              have c18b1 : (t217 != x11_8) = true := bne_iff_ne.mpr c18
              exact absurd ((Option.some.inj H).trans hr_.out) (by decide)
          · rw [if_neg c17] at H
            have c17b0 : (t218 == 0) = false := beq_eq_false_iff_ne.mpr c17
            have c17b1 : (t218 != 0) = true := bne_iff_ne.mpr c17
            exact absurd ((Option.some.inj H).trans hr_.out) (by decide)
        · rw [if_neg c16] at H
          have c16b0 : (t216 == 0) = false := beq_eq_false_iff_ne.mpr c16
          have c16b1 : (t216 != 0) = true := bne_iff_ne.mpr c16
          exact absurd ((Option.some.inj H).trans hr_.out) (by decide)

end Go.Proofs.Ytjinfomobjocfaa.X
