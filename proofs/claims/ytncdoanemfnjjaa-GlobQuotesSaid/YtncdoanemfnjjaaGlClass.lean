/- The document's class, walked by hand. -/
import Derived.Test.YtncdoanemfnjjaaGlMem
import Derived.Test.YtncdoanemfnjjaaGlItem
namespace Go.Proofs.Ytncdoanemfnjjaa.Gl
open Go.RowKit Go.Proofs.YtncdoanemfnjjaaW.PrintWords Go.Proofs.YtncdoanemfnjjaaW.PrintMore Go.Proofs.YtncdoanemfnjjaaW.PrintLast Go.Proofs.Ytncdoanemfnjjaa.Y
set_option linter.unusedVariables false
set_option linter.unusedSimpArgs false
/-- The bytes between two. -/
def fillH (h : Nat → Bool) (lo j : Nat) : Nat → Bool := fun c => h c || (decide (lo ≤ c) && decide (c < j))
def flipH (h : Nat → Bool) (j : Nat) : Nat → Bool := fun c => if c < j then !h c else h c
theorem fill_step (h : Nat → Bool) (lo j : Nat) (hj : lo ≤ j) : updH (fillH h lo j) j true = fillH h lo (j + 1) := by
  funext c
  unfold updH fillH
  by_cases e : c = j
  · subst e
    rw [if_pos rfl, decide_eq_true hj, decide_eq_true (Nat.lt_succ_self c)]; simp
  · rw [if_neg e]
    congr 2
    by_cases h2 : c < j
    · rw [decide_eq_true h2, decide_eq_true (by omega)]
    · rw [decide_eq_false h2, decide_eq_false (by omega)]
theorem fill_none (h : Nat → Bool) (lo : Nat) : fillH h lo lo = h := by
  funext c
  unfold fillH
  by_cases h1 : lo ≤ c
  · rw [decide_eq_false (show ¬ c < lo by omega)]; simp
  · rw [decide_eq_false h1]; simp
theorem flip_step (h : Nat → Bool) (j : Nat) : updH (flipH h j) j (!h j) = flipH h (j + 1) := by
  funext c
  unfold updH flipH
  by_cases e : c = j
  · subst e
    rw [if_pos rfl, if_pos (Nat.lt_succ_self c)]
  · rw [if_neg e]
    by_cases h2 : c < j
    · rw [if_pos h2, if_pos (by omega)]
    · rw [if_neg h2, if_neg (by omega)]
theorem flip_none (h : Nat → Bool) : flipH h 0 = h := by funext c; unfold flipH; rw [if_neg (by omega)]
/-- The loop over a class's items. -/
def RelI (w : World) (p : ByteArray) (g4 g6 i0 : Nat) (v : Value) (wr : World) : Prop := ∃ (j : Nat) (h : Nat → Bool), v = .int .i64 j ∧ j ≤ p.size ∧ PB wr g4 0 noH ∧ PB wr g6 3 h ∧ (∀ c : UInt8, clsI c (h c.toNat) (p.data.toList.drop j) = clsI c false (p.data.toList.drop i0)) ∧ Below w.heap.size w wr
def RelF (w : World) (g4 g6 : Nat) (h : Nat → Bool) (lo hi : Nat) (v : Value) (wr : World) : Prop := ∃ m : Nat, v = .int .i64 m ∧ lo ≤ m ∧ m ≤ hi + 1 ∧ PB wr g4 0 noH ∧ PB wr g6 3 (fillH h lo m) ∧ Below w.heap.size w wr
def RelT (w : World) (g4 g6 : Nat) (h : Nat → Bool) (tn : Bool) (v : Value) (wr : World) : Prop := ∃ m : Nat, v = .int .i64 m ∧ m ≤ 256 ∧ (tn = false → m = 0) ∧ PB wr g4 0 noH ∧ PB wr g6 3 (flipH h m) ∧ Below w.heap.size w wr
theorem fill_in (h : Nat → Bool) (lo hi : Nat) (c : Nat) : fillH h lo (hi + 1) c = (h c || inN lo hi c) := by
  unfold fillH inN
  congr 2
  by_cases h1 : c ≤ hi
  · rw [decide_eq_true h1, decide_eq_true (by omega)]
  · rw [decide_eq_false h1, decide_eq_false (by omega)]
/-- How a class ends: what has been met, turned or not. -/
theorem cls_end {p : ByteArray} {i i0 j : Nat} {tn : Bool} {h : Nat → Bool} (hc : ∀ c : UInt8, clsP (p.data.toList.drop i) c = ((clsI c false (p.data.toList.drop i0)).1 != tn, (clsI c false (p.data.toList.drop i0)).2))
    (hr : ∀ c : UInt8, clsI c (h c.toNat) (p.data.toList.drop j) = clsI c false (p.data.toList.drop i0)) (he : p.data.toList.drop j = [] ∨ ∃ r, p.data.toList.drop j = 93 :: r) :
    (∀ c : UInt8, (clsP (p.data.toList.drop i) c).1 = (h c.toNat != tn)) ∧ p.data.toList.drop (j + 1) = (clsP (p.data.toList.drop i) 0).2 := by
  have hd : p.data.toList.drop (j + 1) = (p.data.toList.drop j).tail := by rw [List.tail_drop]
  have key : ∀ c : UInt8, clsI c (h c.toNat) (p.data.toList.drop j) = (h c.toNat, (p.data.toList.drop j).tail) := by
    intro c
    rcases he with he | ⟨r, he⟩
    · rw [he]; rfl
    · rw [he]
      match r with
      | [] => rfl
      | [d] => simp [clsI]
      | d :: b :: r => simp [clsI]
  refine ⟨fun c => ?_, ?_⟩
  · rw [hc, ← hr, key]
  · rw [hd, hc, ← hr, key]
set_option maxHeartbeats 4000000 in
set_option maxRecDepth 100000 in
theorem class_calls (p : ByteArray) (hp : p.size ≤ 1000000) (i : Nat) (hi : i ≤ p.size) (w : World) :
    Calls Try.prog 22 #[.string p, .int .i64 i] w fun e w' => ∃ j : Nat, e = .returned (.tuple #[.agg (pcA 3 (fun c => (clsP (p.data.toList.drop i) (UInt8.ofNat c)).1)), .int .i64 j]) ∧ j ≤ p.size + 1 ∧ p.data.toList.drop j = (clsP (p.data.toList.drop i) 0).2 ∧ Below w.heap.size w w' := by
  have hu := Try.underlying42
  have hu40 := Try.underlying40
  have BB := Aside0.mk (Below.refl w.heap.size w)
  by_cases hlt0 : i < p.size
  · obtain ⟨a0, r0, hd0⟩ : ∃ a r, p.data.toList.drop i = a :: r := ⟨_, _, drop_at p i hlt0⟩
    have hpa0 : p[i]'hlt0 = a0 := by have := (drop_at (s := p) i hlt0).symm.trans hd0; injection this
    have hd1 := (at_drop hd0).2.2.1
    by_cases h94 : a0 = 94
    · have hq0 : (((p[i]'hlt0).toNat : Int) == 94) = true := by rw [hpa0, h94]; rfl
      have HC := Aside0.mk (show ∀ c : UInt8, clsP (p.data.toList.drop i) c = ((clsI c false (p.data.toList.drop (i + 1))).1 != true, (clsI c false (p.data.toList.drop (i + 1))).2) from fun c => by rw [hd0, h94, hd1]; rfl)
      have ei : IntKind.i64.wrap ((i : Int) + 1) = ((i + 1 : Nat) : Int) := by rw [IntKind.wrap_i64]; omega
      clear hd0 hpa0 h94 hd1
      go_enter Try.func22, Try.ntmps22
      go_wp2_with (first | ((with_reducible refine gate_dst (N := 4) rfl ?_); refine ev_allocP rfl (N := 4) rfl rfl ?_; intro g4 hg w1 hbox hb; have G4 := Aside0.mk (show w.heap.size ≤ g4 from by rw [hg]; exact BB.out.size); have T_ := Aside0.mk (below_tr BB.out hb); clear BB; have BB := T_; clear T_; have P4 := Aside0.mk hbox; clear hbox hb hg) | ((with_reducible refine gate_dst (N := 13) rfl ?_); refine ev_buildP3 rfl rfl ?_) | ((with_reducible refine gate_dst (N := 6) rfl ?_); refine ev_allocP rfl (N := 6) rfl rfl ?_; intro g6 hg w2 hbox hb; have G6 := Aside0.mk (show w.heap.size ≤ g6 from by rw [hg]; exact BB.out.size); have NE := Aside0.mk (show g4 ≠ g6 from by rw [hg]; exact Nat.ne_of_lt (blk_lt P4.out)); have T_ := Aside0.mk (P4.out.below hb); clear P4; have P4 := T_; clear T_; have T_ := Aside0.mk (below_tr BB.out hb); clear BB; have BB := T_; clear T_; have P6 := Aside0.mk hbox; clear hbox hb hg) | ((with_reducible refine gate_store (t := 42) (p := 6) rfl ?_); refine ev_storeP rfl rfl (p := 6) (s := 13) rfl rfl rfl P6.out ?_; intro w3 hw; have T_ := Aside0.mk (show PB w3 g4 0 noH from by rw [hw]; unfold PB; rw [setCells_other NE.out]; exact P4.out); clear P4; have P4 := T_; clear T_; have T_ := Aside0.mk (show Below w.heap.size w w3 from by rw [hw]; exact setCells_below G6.out _ _ _ BB.out); clear BB; have BB := T_; clear T_; have T_ := Aside0.mk (show PB w3 g6 3 noH from by rw [hw]; exact P6.out.over); clear P6; have P6 := T_; clear T_; clear hw))
      go_loopw [1] (fun v1 wr => RelI w p g4 g6 (i + 1) v1 wr) (fun v1 _ => p.size - (intOf v1).toNat)
      case atStart => exact ⟨i + 1, noH, rfl, by omega, P4.out, P6.out, fun c => rfl, BB.out⟩
      case round =>
        clear P4 P6 BB
        obtain ⟨j, h, rfl, hj, hp4, hp6, hcl, hb⟩ := hrel
        have P4 := Aside0.mk hp4
        have P6 := Aside0.mk hp6
        have BB := Aside0.mk hb
        have HCL := Aside0.mk hcl
        clear hp4 hp6 hb hcl
        by_cases hlt : j < p.size
        · obtain ⟨a, r, hd⟩ : ∃ a r, p.data.toList.drop j = a :: r := ⟨_, _, drop_at p j hlt⟩
          have hpa : p[j]'hlt = a := by have := (drop_at (s := p) j hlt).symm.trans hd; injection this
          by_cases h93 : a = 93
          · have hq : (((p[j]'hlt).toNat : Int) == 93) = true := by rw [hpa, h93]; rfl
            have hq2 : (((p[j]'hlt).toNat : Int) != 93) = false := by rw [bne, hq]; rfl
            have HEND := Aside0.mk (show p.data.toList.drop j = [] ∨ ∃ r, p.data.toList.drop j = 93 :: r from .inr ⟨r, by rw [hd, h93]⟩)
            clear hd hpa h93
            have HE := Aside0.mk (cls_end HC.out HCL.out HEND.out)
            clear HCL HEND HC
            go_wp2_with fail
            go_loopw [12] (fun v12 wr => RelT w g4 g6 h true v12 wr) (fun v12 _ => 256 - (intOf v12).toNat)
            case atStart => exact ⟨0, rfl, by omega, fun _ => rfl, P4.out, by rw [flip_none]; exact P6.out, BB.out⟩
            case round =>
              clear P4 P6 BB
              obtain ⟨m, rfl, hm, hm0, hp4, hp6, hb⟩ := hrel
              have P4 := Aside0.mk hp4
              have P6 := Aside0.mk hp6
              have BB := Aside0.mk hb
              clear hp4 hp6 hb
              by_cases hlt : m < 256
              · have q0 : (m : Int) < 256 := by omega
                have q1 : (0 : Int) ≤ (m : Int) := Int.natCast_nonneg _
                have q2 := P6.out.has m hlt
                have q3 := P6.out.free (1 + m)
                have q4 : decide ((m : Int) < 256) = true := decide_eq_true q0
                have q5 : IntKind.i64.wrap ((m : Int) + 1) = ((m + 1 : Nat) : Int) := by rw [IntKind.wrap_i64]; omega
                have HM := Aside0.mk hlt
                clear hm0 hm
                go_wp2_with (first | ((with_reducible refine gate_store (t := 4) (p := 70) rfl ?_); refine store_event2 (w1 := wr.setCell ⟨g6, 1 + m, none⟩ (.bool (!flipH h m m))) ?hg ?hn ?hr ?_; (case hg => rfl); (case hn => rfl); (case hr => first | (go_simp; done) | (go_simp; rfl)); intro wn hW; have T_ := Aside0.mk (show PB wn g4 0 noH from by rw [hW]; unfold PB; rw [heap_set_other NE.out]; exact P4.out); clear P4; have P4 := T_; clear T_; have T_ := Aside0.mk (show Below w.heap.size w wn from by rw [hW]; exact below_set BB.out G6.out); clear BB; have BB := T_; clear T_; have T_ := Aside0.mk (show PB wn g6 3 (flipH h (m + 1)) from by rw [hW]; exact (by have e_ := P6.out.set m HM.out (!flipH h m m); rw [show (!flipH h m m) = !h m from by unfold flipH; rw [if_neg (Nat.lt_irrefl m)]] at e_ ⊢; rw [flip_step] at e_; exact e_)); clear P6; have P6 := T_; clear T_; clear hW q2 q3))
                go_roundw
                case rel => exact ⟨m + 1, by simp, by omega, by simp, P4.out, P6.out, BB.out⟩
                case measure => have := HM.out; simp [intOf]; omega
              · have hm2 : m = 256 := by omega
                subst hm2
                have q0 : ¬ (((256 : Nat) : Int) < 256) := by omega
                have e1_ : IntKind.i64.wrap ((j : Int) + 1) = ((j + 1 : Nat) : Int) := by rw [IntKind.wrap_i64]; omega
                go_wp2_with (first | ((with_reducible refine gate_dst (N := 71) rfl ?_); refine ev_loadP rfl (p := 6) rfl rfl P6.out ?_) | ((with_reducible refine gate_store (t := 42) (p := 4) rfl ?_); refine ev_storeP rfl rfl (p := 4) (s := 71) rfl rfl rfl P4.out ?_; intro wz hw; have T_ := Aside0.mk (show PB wz g4 3 (flipH h 256) from by rw [hw]; exact P4.out.over); clear P4; have P4 := T_; clear T_; have T_ := Aside0.mk (show Below w.heap.size w wz from by rw [hw]; exact setCells_below G4.out _ _ _ BB.out); clear BB; have BB := T_; clear T_; clear hw))
                refine bodyPost_ret (results_ct rfl _ _ g4 42 (pcA 3 (flipH h 256)) (0, 0) _ rfl P4.out Try.underlying42 rfl (by rw [pcA_size]; exact sizeP)) rfl ?_
                have hcg : ∀ c, c < 256 → (flipH h 256) c = (fun c => (clsP (p.data.toList.drop i) (UInt8.ofNat c)).1) c := by
                  intro c hc
                  have := HE.out.1 (UInt8.ofNat c)
                  rw [show (UInt8.ofNat c).toNat = c by simp [Nat.mod_eq_of_lt hc]] at this
                  show flipH h 256 c = (clsP (p.data.toList.drop i) (UInt8.ofNat c)).1
                  unfold flipH
                  rw [if_pos hc, this]; simp
                exact ⟨j + 1, by rw [pcA_congr hcg]; rfl, by omega, HE.out.2, BB.out⟩
          · have hne : ¬ ((a.toNat : Int) = 93) := fun e => h93 ((nat_is a 93 (by decide)).1 e)
            have hq : (((p[j]'hlt).toNat : Int) == 93) = false := by rw [hpa]; exact beq_eq_false_iff_ne.2 hne
            have hq2 : (((p[j]'hlt).toNat : Int) != 93) = true := by rw [bne, hq]; rfl
            obtain ⟨t1, t2, t3, t4⟩ := item_pos a r
            obtain ⟨lo, hlo⟩ : ∃ lo, lo = (itemN (a :: r)).1 := ⟨_, rfl⟩
            obtain ⟨hi_, hhi⟩ : ∃ hi_, hi_ = (itemN (a :: r)).2.1 := ⟨_, rfl⟩
            obtain ⟨us, hus⟩ : ∃ us, us = (itemN (a :: r)).2.2 := ⟨_, rfl⟩
            have IT := Aside0.mk (fun W => item_con hp hd W)
            have CI := Aside0.mk (fun (c : UInt8) has => clsI_item c has a r h93)
            have HD := Aside0.mk hd
            have hsz := (at_drop hd).2.2.2
            simp only [List.length_cons] at t2
            rw [← hlo, ← hhi, ← hus] at IT CI
            rw [← hlo, ← hhi] at t3
            rw [← hus] at t1 t2
            rw [← hhi] at t4
            have HJ := Aside0.mk (show j + us ≤ p.size by omega)
            have HU := Aside0.mk t1
            clear hd hpa h93 hne hlo hhi hus t1 t2 hsz
            go_wp2_with fail
            go_at_call 23
            with_reducible refine Calls.mono (IT.out _) ?_
            rintro e w5 ⟨rfl, hb⟩
            have T_ := Aside0.mk (P4.out.below hb); clear P4; have P4 := T_; clear T_
            have T_ := Aside0.mk (P6.out.below hb); clear P6; have P6 := T_; clear T_
            have T_ := Aside0.mk (below_tr BB.out hb); clear BB; have BB := T_; clear T_
            clear hb IT
            have hlo2 : lo < 256 := by omega
            go_wp2_with fail
            go_loopw [11] (fun v11 wr => RelF w g4 g6 h lo hi_ v11 wr) (fun v11 _ => 256 - (intOf v11).toNat)
            case atStart => exact ⟨lo, by first | rfl | (simp; done), Nat.le_refl _, by omega, P4.out, by rw [fill_none]; exact P6.out, BB.out⟩
            case round =>
              clear P4 P6 BB
              obtain ⟨m, rfl, hm1, hm2, hp4, hp6, hb⟩ := hrel
              have P4 := Aside0.mk hp4
              have P6 := Aside0.mk hp6
              have BB := Aside0.mk hb
              clear hp4 hp6 hb
              by_cases hle : m ≤ hi_
              · have q0 : (m : Int) < 256 := by omega
                have q1 : (0 : Int) ≤ (m : Int) := Int.natCast_nonneg _
                have hm256 : m < 256 := by omega
                have q2 := P6.out.has m hm256
                have q3 := P6.out.free (1 + m)
                have q4 : decide ((m : Int) ≤ (hi_ : Int)) = true := decide_eq_true (by omega)
                have q6 : (m : Int) ≤ (hi_ : Int) := by omega
                have q5 : IntKind.i64.wrap ((m : Int) + 1) = ((m + 1 : Nat) : Int) := by rw [IntKind.wrap_i64]; omega
                have HM := Aside0.mk hm256
                have HM1 := Aside0.mk hm1
                have HLE := Aside0.mk hle
                clear hm1 hm2
                go_wp2_with (first | ((with_reducible refine gate_store (t := 4) (p := 54) rfl ?_); refine store_event2 (w1 := wr.setCell ⟨g6, 1 + m, none⟩ (.bool true)) ?hg ?hn ?hr ?_; (case hg => rfl); (case hn => rfl); (case hr => first | (go_simp; done) | (go_simp; rfl)); intro wn hW; have T_ := Aside0.mk (show PB wn g4 0 noH from by rw [hW]; unfold PB; rw [heap_set_other NE.out]; exact P4.out); clear P4; have P4 := T_; clear T_; have T_ := Aside0.mk (show Below w.heap.size w wn from by rw [hW]; exact below_set BB.out G6.out); clear BB; have BB := T_; clear T_; have T_ := Aside0.mk (show PB wn g6 3 (fillH h lo (m + 1)) from by rw [hW]; exact (by rw [← fill_step h lo m HM1.out]; exact P6.out.set m HM.out true)); clear P6; have P6 := T_; clear T_; clear hW q2 q3))
                go_roundw
                case rel => exact ⟨m + 1, by simp, by have := HM1.out; omega, by have := HLE.out; omega, P4.out, P6.out, BB.out⟩
                case measure => have := HM.out; simp [intOf]; omega
              · have hm3 : m = hi_ + 1 := by omega
                subst hm3
                have q6 : ¬ (((hi_ + 1 : Nat) : Int) ≤ (hi_ : Int)) := by omega
                have q4 : decide (((hi_ + 1 : Nat) : Int) ≤ (hi_ : Int)) = false := decide_eq_false q6
                clear hm1 hm2 hle
                go_wp2_with fail
                go_roundw
                case rel => exact ⟨j + us, fillH h lo (hi_ + 1), by simp, HJ.out, P4.out, P6.out, fun c => by rw [fill_in, ← List.drop_drop, HD.out, ← CI.out, ← HD.out]; exact HCL.out c, BB.out⟩
                case measure => have := HJ.out; have := HU.out; simp [intOf]; omega
        · have HEND := Aside0.mk (show p.data.toList.drop j = [] ∨ ∃ r, p.data.toList.drop j = 93 :: r from .inl (drop_end p j (by omega)))
          have HE := Aside0.mk (cls_end HC.out HCL.out HEND.out)
          clear HCL HEND HC
          go_wp2_with fail
          go_loopw [12] (fun v12 wr => RelT w g4 g6 h true v12 wr) (fun v12 _ => 256 - (intOf v12).toNat)
          case atStart => exact ⟨0, rfl, by omega, fun _ => rfl, P4.out, by rw [flip_none]; exact P6.out, BB.out⟩
          case round =>
            clear P4 P6 BB
            obtain ⟨m, rfl, hm, hm0, hp4, hp6, hb⟩ := hrel
            have P4 := Aside0.mk hp4
            have P6 := Aside0.mk hp6
            have BB := Aside0.mk hb
            clear hp4 hp6 hb
            by_cases hlt : m < 256
            · have q0 : (m : Int) < 256 := by omega
              have q1 : (0 : Int) ≤ (m : Int) := Int.natCast_nonneg _
              have q2 := P6.out.has m hlt
              have q3 := P6.out.free (1 + m)
              have q4 : decide ((m : Int) < 256) = true := decide_eq_true q0
              have q5 : IntKind.i64.wrap ((m : Int) + 1) = ((m + 1 : Nat) : Int) := by rw [IntKind.wrap_i64]; omega
              have HM := Aside0.mk hlt
              clear hm0 hm
              go_wp2_with (first | ((with_reducible refine gate_store (t := 4) (p := 70) rfl ?_); refine store_event2 (w1 := wr.setCell ⟨g6, 1 + m, none⟩ (.bool (!flipH h m m))) ?hg ?hn ?hr ?_; (case hg => rfl); (case hn => rfl); (case hr => first | (go_simp; done) | (go_simp; rfl)); intro wn hW; have T_ := Aside0.mk (show PB wn g4 0 noH from by rw [hW]; unfold PB; rw [heap_set_other NE.out]; exact P4.out); clear P4; have P4 := T_; clear T_; have T_ := Aside0.mk (show Below w.heap.size w wn from by rw [hW]; exact below_set BB.out G6.out); clear BB; have BB := T_; clear T_; have T_ := Aside0.mk (show PB wn g6 3 (flipH h (m + 1)) from by rw [hW]; exact (by have e_ := P6.out.set m HM.out (!flipH h m m); rw [show (!flipH h m m) = !h m from by unfold flipH; rw [if_neg (Nat.lt_irrefl m)]] at e_ ⊢; rw [flip_step] at e_; exact e_)); clear P6; have P6 := T_; clear T_; clear hW q2 q3))
              go_roundw
              case rel => exact ⟨m + 1, by simp, by omega, by simp, P4.out, P6.out, BB.out⟩
              case measure => have := HM.out; simp [intOf]; omega
            · have hm2 : m = 256 := by omega
              subst hm2
              have q0 : ¬ (((256 : Nat) : Int) < 256) := by omega
              have e1_ : IntKind.i64.wrap ((j : Int) + 1) = ((j + 1 : Nat) : Int) := by rw [IntKind.wrap_i64]; omega
              go_wp2_with (first | ((with_reducible refine gate_dst (N := 71) rfl ?_); refine ev_loadP rfl (p := 6) rfl rfl P6.out ?_) | ((with_reducible refine gate_store (t := 42) (p := 4) rfl ?_); refine ev_storeP rfl rfl (p := 4) (s := 71) rfl rfl rfl P4.out ?_; intro wz hw; have T_ := Aside0.mk (show PB wz g4 3 (flipH h 256) from by rw [hw]; exact P4.out.over); clear P4; have P4 := T_; clear T_; have T_ := Aside0.mk (show Below w.heap.size w wz from by rw [hw]; exact setCells_below G4.out _ _ _ BB.out); clear BB; have BB := T_; clear T_; clear hw))
              refine bodyPost_ret (results_ct rfl _ _ g4 42 (pcA 3 (flipH h 256)) (0, 0) _ rfl P4.out Try.underlying42 rfl (by rw [pcA_size]; exact sizeP)) rfl ?_
              have hcg : ∀ c, c < 256 → (flipH h 256) c = (fun c => (clsP (p.data.toList.drop i) (UInt8.ofNat c)).1) c := by
                intro c hc
                have := HE.out.1 (UInt8.ofNat c)
                rw [show (UInt8.ofNat c).toNat = c by simp [Nat.mod_eq_of_lt hc]] at this
                show flipH h 256 c = (clsP (p.data.toList.drop i) (UInt8.ofNat c)).1
                unfold flipH
                rw [if_pos hc, this]; simp
              exact ⟨j + 1, by rw [pcA_congr hcg]; rfl, by omega, HE.out.2, BB.out⟩
    · have hne0 : ¬ ((a0.toNat : Int) = 94) := fun e => h94 ((nat_is a0 94 (by decide)).1 e)
      have hq0 : (((p[i]'hlt0).toNat : Int) == 94) = false := by rw [hpa0]; exact beq_eq_false_iff_ne.2 hne0
      have HC := Aside0.mk (show ∀ c : UInt8, clsP (p.data.toList.drop i) c = ((clsI c false (p.data.toList.drop (i))).1 != false, (clsI c false (p.data.toList.drop (i))).2) from fun c => by rw [hd0]; unfold clsP; rw [if_neg (fun e => h94 (by simpa using e))])
      clear hd0 hpa0 h94 hne0 hd1
      go_enter Try.func22, Try.ntmps22
      go_wp2_with (first | ((with_reducible refine gate_dst (N := 4) rfl ?_); refine ev_allocP rfl (N := 4) rfl rfl ?_; intro g4 hg w1 hbox hb; have G4 := Aside0.mk (show w.heap.size ≤ g4 from by rw [hg]; exact BB.out.size); have T_ := Aside0.mk (below_tr BB.out hb); clear BB; have BB := T_; clear T_; have P4 := Aside0.mk hbox; clear hbox hb hg) | ((with_reducible refine gate_dst (N := 13) rfl ?_); refine ev_buildP3 rfl rfl ?_) | ((with_reducible refine gate_dst (N := 6) rfl ?_); refine ev_allocP rfl (N := 6) rfl rfl ?_; intro g6 hg w2 hbox hb; have G6 := Aside0.mk (show w.heap.size ≤ g6 from by rw [hg]; exact BB.out.size); have NE := Aside0.mk (show g4 ≠ g6 from by rw [hg]; exact Nat.ne_of_lt (blk_lt P4.out)); have T_ := Aside0.mk (P4.out.below hb); clear P4; have P4 := T_; clear T_; have T_ := Aside0.mk (below_tr BB.out hb); clear BB; have BB := T_; clear T_; have P6 := Aside0.mk hbox; clear hbox hb hg) | ((with_reducible refine gate_store (t := 42) (p := 6) rfl ?_); refine ev_storeP rfl rfl (p := 6) (s := 13) rfl rfl rfl P6.out ?_; intro w3 hw; have T_ := Aside0.mk (show PB w3 g4 0 noH from by rw [hw]; unfold PB; rw [setCells_other NE.out]; exact P4.out); clear P4; have P4 := T_; clear T_; have T_ := Aside0.mk (show Below w.heap.size w w3 from by rw [hw]; exact setCells_below G6.out _ _ _ BB.out); clear BB; have BB := T_; clear T_; have T_ := Aside0.mk (show PB w3 g6 3 noH from by rw [hw]; exact P6.out.over); clear P6; have P6 := T_; clear T_; clear hw))
      go_loopw [1] (fun v1 wr => RelI w p g4 g6 (i) v1 wr) (fun v1 _ => p.size - (intOf v1).toNat)
      case atStart => exact ⟨i, noH, rfl, by omega, P4.out, P6.out, fun c => rfl, BB.out⟩
      case round =>
        clear P4 P6 BB
        obtain ⟨j, h, rfl, hj, hp4, hp6, hcl, hb⟩ := hrel
        have P4 := Aside0.mk hp4
        have P6 := Aside0.mk hp6
        have BB := Aside0.mk hb
        have HCL := Aside0.mk hcl
        clear hp4 hp6 hb hcl
        by_cases hlt : j < p.size
        · obtain ⟨a, r, hd⟩ : ∃ a r, p.data.toList.drop j = a :: r := ⟨_, _, drop_at p j hlt⟩
          have hpa : p[j]'hlt = a := by have := (drop_at (s := p) j hlt).symm.trans hd; injection this
          by_cases h93 : a = 93
          · have hq : (((p[j]'hlt).toNat : Int) == 93) = true := by rw [hpa, h93]; rfl
            have hq2 : (((p[j]'hlt).toNat : Int) != 93) = false := by rw [bne, hq]; rfl
            have HEND := Aside0.mk (show p.data.toList.drop j = [] ∨ ∃ r, p.data.toList.drop j = 93 :: r from .inr ⟨r, by rw [hd, h93]⟩)
            clear hd hpa h93
            have HE := Aside0.mk (cls_end HC.out HCL.out HEND.out)
            clear HCL HEND HC
            go_wp2_with fail
            go_loopw [12] (fun v12 wr => RelT w g4 g6 h false v12 wr) (fun v12 _ => 256 - (intOf v12).toNat)
            case atStart => exact ⟨0, rfl, by omega, fun _ => rfl, P4.out, by rw [flip_none]; exact P6.out, BB.out⟩
            case round =>
              clear P4 P6 BB
              obtain ⟨m, rfl, hm, hm0, hp4, hp6, hb⟩ := hrel
              have P4 := Aside0.mk hp4
              have P6 := Aside0.mk hp6
              have BB := Aside0.mk hb
              clear hp4 hp6 hb
              have hm0 : m = 0 := hm0 rfl
              subst hm0
              have e1_ : IntKind.i64.wrap ((j : Int) + 1) = ((j + 1 : Nat) : Int) := by rw [IntKind.wrap_i64]; omega
              go_wp2_with (first | ((with_reducible refine gate_dst (N := 71) rfl ?_); refine ev_loadP rfl (p := 6) rfl rfl P6.out ?_) | ((with_reducible refine gate_store (t := 42) (p := 4) rfl ?_); refine ev_storeP rfl rfl (p := 4) (s := 71) rfl rfl rfl P4.out ?_; intro wz hw; have T_ := Aside0.mk (show PB wz g4 3 (flipH h 0) from by rw [hw]; exact P4.out.over); clear P4; have P4 := T_; clear T_; have T_ := Aside0.mk (show Below w.heap.size w wz from by rw [hw]; exact setCells_below G4.out _ _ _ BB.out); clear BB; have BB := T_; clear T_; clear hw))
              refine bodyPost_ret (results_ct rfl _ _ g4 42 (pcA 3 (flipH h 0)) (0, 0) _ rfl P4.out Try.underlying42 rfl (by rw [pcA_size]; exact sizeP)) rfl ?_
              have hcg : ∀ c, c < 256 → (flipH h 0) c = (fun c => (clsP (p.data.toList.drop i) (UInt8.ofNat c)).1) c := by
                intro c hc
                have := HE.out.1 (UInt8.ofNat c)
                rw [show (UInt8.ofNat c).toNat = c by simp [Nat.mod_eq_of_lt hc]] at this
                show flipH h 0 c = (clsP (p.data.toList.drop i) (UInt8.ofNat c)).1
                rw [flip_none, this]; simp
              exact ⟨j + 1, by rw [pcA_congr hcg]; rfl, by omega, HE.out.2, BB.out⟩
          · have hne : ¬ ((a.toNat : Int) = 93) := fun e => h93 ((nat_is a 93 (by decide)).1 e)
            have hq : (((p[j]'hlt).toNat : Int) == 93) = false := by rw [hpa]; exact beq_eq_false_iff_ne.2 hne
            have hq2 : (((p[j]'hlt).toNat : Int) != 93) = true := by rw [bne, hq]; rfl
            obtain ⟨t1, t2, t3, t4⟩ := item_pos a r
            obtain ⟨lo, hlo⟩ : ∃ lo, lo = (itemN (a :: r)).1 := ⟨_, rfl⟩
            obtain ⟨hi_, hhi⟩ : ∃ hi_, hi_ = (itemN (a :: r)).2.1 := ⟨_, rfl⟩
            obtain ⟨us, hus⟩ : ∃ us, us = (itemN (a :: r)).2.2 := ⟨_, rfl⟩
            have IT := Aside0.mk (fun W => item_con hp hd W)
            have CI := Aside0.mk (fun (c : UInt8) has => clsI_item c has a r h93)
            have HD := Aside0.mk hd
            have hsz := (at_drop hd).2.2.2
            simp only [List.length_cons] at t2
            rw [← hlo, ← hhi, ← hus] at IT CI
            rw [← hlo, ← hhi] at t3
            rw [← hus] at t1 t2
            rw [← hhi] at t4
            have HJ := Aside0.mk (show j + us ≤ p.size by omega)
            have HU := Aside0.mk t1
            clear hd hpa h93 hne hlo hhi hus t1 t2 hsz
            go_wp2_with fail
            go_at_call 23
            with_reducible refine Calls.mono (IT.out _) ?_
            rintro e w5 ⟨rfl, hb⟩
            have T_ := Aside0.mk (P4.out.below hb); clear P4; have P4 := T_; clear T_
            have T_ := Aside0.mk (P6.out.below hb); clear P6; have P6 := T_; clear T_
            have T_ := Aside0.mk (below_tr BB.out hb); clear BB; have BB := T_; clear T_
            clear hb IT
            have hlo2 : lo < 256 := by omega
            go_wp2_with fail
            go_loopw [11] (fun v11 wr => RelF w g4 g6 h lo hi_ v11 wr) (fun v11 _ => 256 - (intOf v11).toNat)
            case atStart => exact ⟨lo, by first | rfl | (simp; done), Nat.le_refl _, by omega, P4.out, by rw [fill_none]; exact P6.out, BB.out⟩
            case round =>
              clear P4 P6 BB
              obtain ⟨m, rfl, hm1, hm2, hp4, hp6, hb⟩ := hrel
              have P4 := Aside0.mk hp4
              have P6 := Aside0.mk hp6
              have BB := Aside0.mk hb
              clear hp4 hp6 hb
              by_cases hle : m ≤ hi_
              · have q0 : (m : Int) < 256 := by omega
                have q1 : (0 : Int) ≤ (m : Int) := Int.natCast_nonneg _
                have hm256 : m < 256 := by omega
                have q2 := P6.out.has m hm256
                have q3 := P6.out.free (1 + m)
                have q4 : decide ((m : Int) ≤ (hi_ : Int)) = true := decide_eq_true (by omega)
                have q6 : (m : Int) ≤ (hi_ : Int) := by omega
                have q5 : IntKind.i64.wrap ((m : Int) + 1) = ((m + 1 : Nat) : Int) := by rw [IntKind.wrap_i64]; omega
                have HM := Aside0.mk hm256
                have HM1 := Aside0.mk hm1
                have HLE := Aside0.mk hle
                clear hm1 hm2
                go_wp2_with (first | ((with_reducible refine gate_store (t := 4) (p := 54) rfl ?_); refine store_event2 (w1 := wr.setCell ⟨g6, 1 + m, none⟩ (.bool true)) ?hg ?hn ?hr ?_; (case hg => rfl); (case hn => rfl); (case hr => first | (go_simp; done) | (go_simp; rfl)); intro wn hW; have T_ := Aside0.mk (show PB wn g4 0 noH from by rw [hW]; unfold PB; rw [heap_set_other NE.out]; exact P4.out); clear P4; have P4 := T_; clear T_; have T_ := Aside0.mk (show Below w.heap.size w wn from by rw [hW]; exact below_set BB.out G6.out); clear BB; have BB := T_; clear T_; have T_ := Aside0.mk (show PB wn g6 3 (fillH h lo (m + 1)) from by rw [hW]; exact (by rw [← fill_step h lo m HM1.out]; exact P6.out.set m HM.out true)); clear P6; have P6 := T_; clear T_; clear hW q2 q3))
                go_roundw
                case rel => exact ⟨m + 1, by simp, by have := HM1.out; omega, by have := HLE.out; omega, P4.out, P6.out, BB.out⟩
                case measure => have := HM.out; simp [intOf]; omega
              · have hm3 : m = hi_ + 1 := by omega
                subst hm3
                have q6 : ¬ (((hi_ + 1 : Nat) : Int) ≤ (hi_ : Int)) := by omega
                have q4 : decide (((hi_ + 1 : Nat) : Int) ≤ (hi_ : Int)) = false := decide_eq_false q6
                clear hm1 hm2 hle
                go_wp2_with fail
                go_roundw
                case rel => exact ⟨j + us, fillH h lo (hi_ + 1), by simp, HJ.out, P4.out, P6.out, fun c => by rw [fill_in, ← List.drop_drop, HD.out, ← CI.out, ← HD.out]; exact HCL.out c, BB.out⟩
                case measure => have := HJ.out; have := HU.out; simp [intOf]; omega
        · have HEND := Aside0.mk (show p.data.toList.drop j = [] ∨ ∃ r, p.data.toList.drop j = 93 :: r from .inl (drop_end p j (by omega)))
          have HE := Aside0.mk (cls_end HC.out HCL.out HEND.out)
          clear HCL HEND HC
          go_wp2_with fail
          go_loopw [12] (fun v12 wr => RelT w g4 g6 h false v12 wr) (fun v12 _ => 256 - (intOf v12).toNat)
          case atStart => exact ⟨0, rfl, by omega, fun _ => rfl, P4.out, by rw [flip_none]; exact P6.out, BB.out⟩
          case round =>
            clear P4 P6 BB
            obtain ⟨m, rfl, hm, hm0, hp4, hp6, hb⟩ := hrel
            have P4 := Aside0.mk hp4
            have P6 := Aside0.mk hp6
            have BB := Aside0.mk hb
            clear hp4 hp6 hb
            have hm0 : m = 0 := hm0 rfl
            subst hm0
            have e1_ : IntKind.i64.wrap ((j : Int) + 1) = ((j + 1 : Nat) : Int) := by rw [IntKind.wrap_i64]; omega
            go_wp2_with (first | ((with_reducible refine gate_dst (N := 71) rfl ?_); refine ev_loadP rfl (p := 6) rfl rfl P6.out ?_) | ((with_reducible refine gate_store (t := 42) (p := 4) rfl ?_); refine ev_storeP rfl rfl (p := 4) (s := 71) rfl rfl rfl P4.out ?_; intro wz hw; have T_ := Aside0.mk (show PB wz g4 3 (flipH h 0) from by rw [hw]; exact P4.out.over); clear P4; have P4 := T_; clear T_; have T_ := Aside0.mk (show Below w.heap.size w wz from by rw [hw]; exact setCells_below G4.out _ _ _ BB.out); clear BB; have BB := T_; clear T_; clear hw))
            refine bodyPost_ret (results_ct rfl _ _ g4 42 (pcA 3 (flipH h 0)) (0, 0) _ rfl P4.out Try.underlying42 rfl (by rw [pcA_size]; exact sizeP)) rfl ?_
            have hcg : ∀ c, c < 256 → (flipH h 0) c = (fun c => (clsP (p.data.toList.drop i) (UInt8.ofNat c)).1) c := by
              intro c hc
              have := HE.out.1 (UInt8.ofNat c)
              rw [show (UInt8.ofNat c).toNat = c by simp [Nat.mod_eq_of_lt hc]] at this
              show flipH h 0 c = (clsP (p.data.toList.drop i) (UInt8.ofNat c)).1
              rw [flip_none, this]; simp
            exact ⟨j + 1, by rw [pcA_congr hcg]; rfl, by omega, HE.out.2, BB.out⟩
  · have HC := Aside0.mk (show ∀ c : UInt8, clsP (p.data.toList.drop i) c = ((clsI c false (p.data.toList.drop (i))).1 != false, (clsI c false (p.data.toList.drop (i))).2) from fun c => by rw [drop_end p i (by omega)]; rfl)
    go_enter Try.func22, Try.ntmps22
    go_wp2_with (first | ((with_reducible refine gate_dst (N := 4) rfl ?_); refine ev_allocP rfl (N := 4) rfl rfl ?_; intro g4 hg w1 hbox hb; have G4 := Aside0.mk (show w.heap.size ≤ g4 from by rw [hg]; exact BB.out.size); have T_ := Aside0.mk (below_tr BB.out hb); clear BB; have BB := T_; clear T_; have P4 := Aside0.mk hbox; clear hbox hb hg) | ((with_reducible refine gate_dst (N := 13) rfl ?_); refine ev_buildP3 rfl rfl ?_) | ((with_reducible refine gate_dst (N := 6) rfl ?_); refine ev_allocP rfl (N := 6) rfl rfl ?_; intro g6 hg w2 hbox hb; have G6 := Aside0.mk (show w.heap.size ≤ g6 from by rw [hg]; exact BB.out.size); have NE := Aside0.mk (show g4 ≠ g6 from by rw [hg]; exact Nat.ne_of_lt (blk_lt P4.out)); have T_ := Aside0.mk (P4.out.below hb); clear P4; have P4 := T_; clear T_; have T_ := Aside0.mk (below_tr BB.out hb); clear BB; have BB := T_; clear T_; have P6 := Aside0.mk hbox; clear hbox hb hg) | ((with_reducible refine gate_store (t := 42) (p := 6) rfl ?_); refine ev_storeP rfl rfl (p := 6) (s := 13) rfl rfl rfl P6.out ?_; intro w3 hw; have T_ := Aside0.mk (show PB w3 g4 0 noH from by rw [hw]; unfold PB; rw [setCells_other NE.out]; exact P4.out); clear P4; have P4 := T_; clear T_; have T_ := Aside0.mk (show Below w.heap.size w w3 from by rw [hw]; exact setCells_below G6.out _ _ _ BB.out); clear BB; have BB := T_; clear T_; have T_ := Aside0.mk (show PB w3 g6 3 noH from by rw [hw]; exact P6.out.over); clear P6; have P6 := T_; clear T_; clear hw))
    go_loopw [1] (fun v1 wr => RelI w p g4 g6 (i) v1 wr) (fun v1 _ => p.size - (intOf v1).toNat)
    case atStart => exact ⟨i, noH, rfl, by omega, P4.out, P6.out, fun c => rfl, BB.out⟩
    case round =>
      clear P4 P6 BB
      obtain ⟨j, h, rfl, hj, hp4, hp6, hcl, hb⟩ := hrel
      have P4 := Aside0.mk hp4
      have P6 := Aside0.mk hp6
      have BB := Aside0.mk hb
      have HCL := Aside0.mk hcl
      clear hp4 hp6 hb hcl
      by_cases hlt : j < p.size
      · obtain ⟨a, r, hd⟩ : ∃ a r, p.data.toList.drop j = a :: r := ⟨_, _, drop_at p j hlt⟩
        have hpa : p[j]'hlt = a := by have := (drop_at (s := p) j hlt).symm.trans hd; injection this
        by_cases h93 : a = 93
        · have hq : (((p[j]'hlt).toNat : Int) == 93) = true := by rw [hpa, h93]; rfl
          have hq2 : (((p[j]'hlt).toNat : Int) != 93) = false := by rw [bne, hq]; rfl
          have HEND := Aside0.mk (show p.data.toList.drop j = [] ∨ ∃ r, p.data.toList.drop j = 93 :: r from .inr ⟨r, by rw [hd, h93]⟩)
          clear hd hpa h93
          have HE := Aside0.mk (cls_end HC.out HCL.out HEND.out)
          clear HCL HEND HC
          go_wp2_with fail
          go_loopw [12] (fun v12 wr => RelT w g4 g6 h false v12 wr) (fun v12 _ => 256 - (intOf v12).toNat)
          case atStart => exact ⟨0, rfl, by omega, fun _ => rfl, P4.out, by rw [flip_none]; exact P6.out, BB.out⟩
          case round =>
            clear P4 P6 BB
            obtain ⟨m, rfl, hm, hm0, hp4, hp6, hb⟩ := hrel
            have P4 := Aside0.mk hp4
            have P6 := Aside0.mk hp6
            have BB := Aside0.mk hb
            clear hp4 hp6 hb
            have hm0 : m = 0 := hm0 rfl
            subst hm0
            have e1_ : IntKind.i64.wrap ((j : Int) + 1) = ((j + 1 : Nat) : Int) := by rw [IntKind.wrap_i64]; omega
            go_wp2_with (first | ((with_reducible refine gate_dst (N := 71) rfl ?_); refine ev_loadP rfl (p := 6) rfl rfl P6.out ?_) | ((with_reducible refine gate_store (t := 42) (p := 4) rfl ?_); refine ev_storeP rfl rfl (p := 4) (s := 71) rfl rfl rfl P4.out ?_; intro wz hw; have T_ := Aside0.mk (show PB wz g4 3 (flipH h 0) from by rw [hw]; exact P4.out.over); clear P4; have P4 := T_; clear T_; have T_ := Aside0.mk (show Below w.heap.size w wz from by rw [hw]; exact setCells_below G4.out _ _ _ BB.out); clear BB; have BB := T_; clear T_; clear hw))
            refine bodyPost_ret (results_ct rfl _ _ g4 42 (pcA 3 (flipH h 0)) (0, 0) _ rfl P4.out Try.underlying42 rfl (by rw [pcA_size]; exact sizeP)) rfl ?_
            have hcg : ∀ c, c < 256 → (flipH h 0) c = (fun c => (clsP (p.data.toList.drop i) (UInt8.ofNat c)).1) c := by
              intro c hc
              have := HE.out.1 (UInt8.ofNat c)
              rw [show (UInt8.ofNat c).toNat = c by simp [Nat.mod_eq_of_lt hc]] at this
              show flipH h 0 c = (clsP (p.data.toList.drop i) (UInt8.ofNat c)).1
              rw [flip_none, this]; simp
            exact ⟨j + 1, by rw [pcA_congr hcg]; rfl, by omega, HE.out.2, BB.out⟩
        · have hne : ¬ ((a.toNat : Int) = 93) := fun e => h93 ((nat_is a 93 (by decide)).1 e)
          have hq : (((p[j]'hlt).toNat : Int) == 93) = false := by rw [hpa]; exact beq_eq_false_iff_ne.2 hne
          have hq2 : (((p[j]'hlt).toNat : Int) != 93) = true := by rw [bne, hq]; rfl
          obtain ⟨t1, t2, t3, t4⟩ := item_pos a r
          obtain ⟨lo, hlo⟩ : ∃ lo, lo = (itemN (a :: r)).1 := ⟨_, rfl⟩
          obtain ⟨hi_, hhi⟩ : ∃ hi_, hi_ = (itemN (a :: r)).2.1 := ⟨_, rfl⟩
          obtain ⟨us, hus⟩ : ∃ us, us = (itemN (a :: r)).2.2 := ⟨_, rfl⟩
          have IT := Aside0.mk (fun W => item_con hp hd W)
          have CI := Aside0.mk (fun (c : UInt8) has => clsI_item c has a r h93)
          have HD := Aside0.mk hd
          have hsz := (at_drop hd).2.2.2
          simp only [List.length_cons] at t2
          rw [← hlo, ← hhi, ← hus] at IT CI
          rw [← hlo, ← hhi] at t3
          rw [← hus] at t1 t2
          rw [← hhi] at t4
          have HJ := Aside0.mk (show j + us ≤ p.size by omega)
          have HU := Aside0.mk t1
          clear hd hpa h93 hne hlo hhi hus t1 t2 hsz
          go_wp2_with fail
          go_at_call 23
          with_reducible refine Calls.mono (IT.out _) ?_
          rintro e w5 ⟨rfl, hb⟩
          have T_ := Aside0.mk (P4.out.below hb); clear P4; have P4 := T_; clear T_
          have T_ := Aside0.mk (P6.out.below hb); clear P6; have P6 := T_; clear T_
          have T_ := Aside0.mk (below_tr BB.out hb); clear BB; have BB := T_; clear T_
          clear hb IT
          have hlo2 : lo < 256 := by omega
          go_wp2_with fail
          go_loopw [11] (fun v11 wr => RelF w g4 g6 h lo hi_ v11 wr) (fun v11 _ => 256 - (intOf v11).toNat)
          case atStart => exact ⟨lo, by first | rfl | (simp; done), Nat.le_refl _, by omega, P4.out, by rw [fill_none]; exact P6.out, BB.out⟩
          case round =>
            clear P4 P6 BB
            obtain ⟨m, rfl, hm1, hm2, hp4, hp6, hb⟩ := hrel
            have P4 := Aside0.mk hp4
            have P6 := Aside0.mk hp6
            have BB := Aside0.mk hb
            clear hp4 hp6 hb
            by_cases hle : m ≤ hi_
            · have q0 : (m : Int) < 256 := by omega
              have q1 : (0 : Int) ≤ (m : Int) := Int.natCast_nonneg _
              have hm256 : m < 256 := by omega
              have q2 := P6.out.has m hm256
              have q3 := P6.out.free (1 + m)
              have q4 : decide ((m : Int) ≤ (hi_ : Int)) = true := decide_eq_true (by omega)
              have q6 : (m : Int) ≤ (hi_ : Int) := by omega
              have q5 : IntKind.i64.wrap ((m : Int) + 1) = ((m + 1 : Nat) : Int) := by rw [IntKind.wrap_i64]; omega
              have HM := Aside0.mk hm256
              have HM1 := Aside0.mk hm1
              have HLE := Aside0.mk hle
              clear hm1 hm2
              go_wp2_with (first | ((with_reducible refine gate_store (t := 4) (p := 54) rfl ?_); refine store_event2 (w1 := wr.setCell ⟨g6, 1 + m, none⟩ (.bool true)) ?hg ?hn ?hr ?_; (case hg => rfl); (case hn => rfl); (case hr => first | (go_simp; done) | (go_simp; rfl)); intro wn hW; have T_ := Aside0.mk (show PB wn g4 0 noH from by rw [hW]; unfold PB; rw [heap_set_other NE.out]; exact P4.out); clear P4; have P4 := T_; clear T_; have T_ := Aside0.mk (show Below w.heap.size w wn from by rw [hW]; exact below_set BB.out G6.out); clear BB; have BB := T_; clear T_; have T_ := Aside0.mk (show PB wn g6 3 (fillH h lo (m + 1)) from by rw [hW]; exact (by rw [← fill_step h lo m HM1.out]; exact P6.out.set m HM.out true)); clear P6; have P6 := T_; clear T_; clear hW q2 q3))
              go_roundw
              case rel => exact ⟨m + 1, by simp, by have := HM1.out; omega, by have := HLE.out; omega, P4.out, P6.out, BB.out⟩
              case measure => have := HM.out; simp [intOf]; omega
            · have hm3 : m = hi_ + 1 := by omega
              subst hm3
              have q6 : ¬ (((hi_ + 1 : Nat) : Int) ≤ (hi_ : Int)) := by omega
              have q4 : decide (((hi_ + 1 : Nat) : Int) ≤ (hi_ : Int)) = false := decide_eq_false q6
              clear hm1 hm2 hle
              go_wp2_with fail
              go_roundw
              case rel => exact ⟨j + us, fillH h lo (hi_ + 1), by simp, HJ.out, P4.out, P6.out, fun c => by rw [fill_in, ← List.drop_drop, HD.out, ← CI.out, ← HD.out]; exact HCL.out c, BB.out⟩
              case measure => have := HJ.out; have := HU.out; simp [intOf]; omega
      · have HEND := Aside0.mk (show p.data.toList.drop j = [] ∨ ∃ r, p.data.toList.drop j = 93 :: r from .inl (drop_end p j (by omega)))
        have HE := Aside0.mk (cls_end HC.out HCL.out HEND.out)
        clear HCL HEND HC
        go_wp2_with fail
        go_loopw [12] (fun v12 wr => RelT w g4 g6 h false v12 wr) (fun v12 _ => 256 - (intOf v12).toNat)
        case atStart => exact ⟨0, rfl, by omega, fun _ => rfl, P4.out, by rw [flip_none]; exact P6.out, BB.out⟩
        case round =>
          clear P4 P6 BB
          obtain ⟨m, rfl, hm, hm0, hp4, hp6, hb⟩ := hrel
          have P4 := Aside0.mk hp4
          have P6 := Aside0.mk hp6
          have BB := Aside0.mk hb
          clear hp4 hp6 hb
          have hm0 : m = 0 := hm0 rfl
          subst hm0
          have e1_ : IntKind.i64.wrap ((j : Int) + 1) = ((j + 1 : Nat) : Int) := by rw [IntKind.wrap_i64]; omega
          go_wp2_with (first | ((with_reducible refine gate_dst (N := 71) rfl ?_); refine ev_loadP rfl (p := 6) rfl rfl P6.out ?_) | ((with_reducible refine gate_store (t := 42) (p := 4) rfl ?_); refine ev_storeP rfl rfl (p := 4) (s := 71) rfl rfl rfl P4.out ?_; intro wz hw; have T_ := Aside0.mk (show PB wz g4 3 (flipH h 0) from by rw [hw]; exact P4.out.over); clear P4; have P4 := T_; clear T_; have T_ := Aside0.mk (show Below w.heap.size w wz from by rw [hw]; exact setCells_below G4.out _ _ _ BB.out); clear BB; have BB := T_; clear T_; clear hw))
          refine bodyPost_ret (results_ct rfl _ _ g4 42 (pcA 3 (flipH h 0)) (0, 0) _ rfl P4.out Try.underlying42 rfl (by rw [pcA_size]; exact sizeP)) rfl ?_
          have hcg : ∀ c, c < 256 → (flipH h 0) c = (fun c => (clsP (p.data.toList.drop i) (UInt8.ofNat c)).1) c := by
            intro c hc
            have := HE.out.1 (UInt8.ofNat c)
            rw [show (UInt8.ofNat c).toNat = c by simp [Nat.mod_eq_of_lt hc]] at this
            show flipH h 0 c = (clsP (p.data.toList.drop i) (UInt8.ofNat c)).1
            rw [flip_none, this]; simp
          exact ⟨j + 1, by rw [pcA_congr hcg]; rfl, by omega, HE.out.2, BB.out⟩
end Go.Proofs.Ytncdoanemfnjjaa.Gl
