/- The document's Match, walked by hand. -/
import Derived.Test.YtncdoanemfnjjaaGlPartsW
import Derived.Deep.RegionHeld3
namespace Go.Proofs.Ytncdoanemfnjjaa.Gl
open Go.RowKit Go.Proofs.YtncdoanemfnjjaaW.PrintWords Go.Proofs.YtncdoanemfnjjaaW.PrintMore Go.Proofs.YtncdoanemfnjjaaW.PrintLast Go.Proofs.Ytncdoanemfnjjaa.Y
set_option linter.unusedVariables false
set_option linter.unusedSimpArgs false
/-- The table before a part's round, and what of the next one is done. -/
def tabK (s : List UInt8) (L : List PV) (k : Nat) : Nat → Bool := (L.take k).foldl (stepF s) (fun i => i == 0)
theorem tab_succ (s : List UInt8) (L : List PV) (k : Nat) (hk : k < L.length) : tabK s L (k + 1) = stepF s (tabK s L k) (L[k]'hk) := by
  unfold tabK
  rw [List.take_add_one, List.getElem?_eq_getElem hk]
  show (L.take k ++ [L[k]]).foldl _ _ = _
  rw [List.foldl_append]; rfl
def doneF (F : Nat → Bool) (i : Nat) : Nat → Bool := fun j => if j < i then F j else false
theorem done_step (F : Nat → Bool) (i : Nat) : updH (doneF F i) i (F i) = doneF F (i + 1) := by
  funext j
  unfold updH doneF
  by_cases h : j = i
  · subst h; rw [if_pos rfl, if_pos (Nat.lt_succ_self j)]
  · rw [if_neg h]
    by_cases h2 : j < i
    · rw [if_pos h2, if_pos (by omega)]
    · rw [if_neg h2, if_neg (by omega)]
theorem done_skip (F : Nat → Bool) (i : Nat) (h : F i = false) : doneF F i = doneF F (i + 1) := by
  funext j
  unfold doneF
  by_cases h2 : j < i
  · rw [if_pos h2, if_pos (by omega)]
  · rw [if_neg h2]
    by_cases h3 : j < i + 1
    · have : j = i := by omega
      subst this
      rw [if_pos h3, h]
    · rw [if_neg h3]
theorem done_zero (F : Nat → Bool) : doneF F 0 = noH := by funext j; unfold doneF noH; rw [if_neg (by omega)]
def RelM (w : World) (s : ByteArray) (v6 : Value) (L : List PV) (v5 v7 : Value) (wr : World) : Prop := ∃ (k g5 : Nat), v7 = .int .i64 k ∧ v5 = .slice (some ⟨g5, 0, none⟩) (s.size + 1) (s.size + 1) ∧ k ≤ L.length ∧ w.heap.size ≤ g5 ∧ BR wr g5 (s.size + 1) (tabK s.data.toList L k) ∧ OwnP wr w.heap.size v6 L ∧ Below w.heap.size w wr
def RelN (w wk : World) (s : ByteArray) (v6 : Value) (L : List PV) (g5 g8 : Nat) (f F : Nat → Bool) (v9 : Value) (wr : World) : Prop := ∃ i : Nat, v9 = .int .i64 i ∧ i ≤ s.size + 1 ∧ BR wr g5 (s.size + 1) f ∧ BR wr g8 (s.size + 1) (doneF F i) ∧ OwnP wr w.heap.size v6 L ∧ Below wk.heap.size wk wr
theorem isT {b : Bool} (h : b = true) : b = true := h
set_option maxHeartbeats 4000000 in
set_option maxRecDepth 100000 in
theorem rmatch_calls (p s : ByteArray) (hp : p.size ≤ 1000000) (hs : s.size ≤ 1000000) (w : World) :
    Calls Try.prog 10 #[.string p, .string s] w fun e w' => e = .returned (.bool (matchL p.data.toList s.data.toList)) ∧ Below w.heap.size w w' := by
  have hu := Try.underlying42
  have hu40 := Try.underlying40
  have hu37 := Try.underlying37
  have hu38 := Try.underlying38
  have en : IntKind.i64.wrap ((s.size : Int) + 1) = ((s.size : Int) + 1) := by rw [IntKind.wrap_i64]; omega
  have BB := Aside0.mk (Below.refl w.heap.size w)
  go_enter Try.func10, Try.ntmps10
  have x0 : (0 : Int) < (s.size : Int) + 1 := by omega
  go_wp2_with (first | ((with_reducible refine gate_dst (N := 13) rfl ?_); refine ev_makeB rfl (N := 13) (x := 12) (y := 12) rfl rfl (s.size + 1) rfl rfl (by omega) ?_; intro g5 hg w1 hbox hb; have G5 := Aside0.mk (show w.heap.size ≤ g5 from by rw [hg]; exact BB.out.size); have T_ := Aside0.mk (below_tr BB.out hb); clear BB; have BB := T_; clear T_; have R5 := Aside0.mk hbox; have q2 := R5.out.at 0 (Nat.succ_pos _); have q3 := R5.out.free 0; clear hbox hb hg) | ((with_reducible refine gate_store (t := 4) (p := 15) rfl ?_); refine store_event2 (w1 := w1.setCell ⟨g5, 0, none⟩ (.bool true)) ?hg ?hn ?hr ?_; (case hg => rfl); (case hn => rfl); (case hr => first | (go_simp; done) | (go_simp; rfl)); intro w2 hW; have T_ := Aside0.mk (show Below w.heap.size w w2 from by rw [hW]; exact below_set BB.out G5.out); clear BB; have BB := T_; clear T_; have T_ := Aside0.mk (show BR w2 g5 (s.size + 1) (fun i => i == 0) from by rw [hW]; exact (R5.out.set 0 true).congr (fun i _ => by unfold updH noH; by_cases h : i = 0; (subst h; rfl); (rw [if_neg h, beq_eq_false_iff_ne.2 h]))); clear R5; have R5 := T_; clear T_; clear hW q2 q3))
  go_at_call 19
  with_reducible refine Calls.mono (parts_calls p hp _) ?_
  rintro e w3 ⟨v6, rfl, ho, hb⟩
  have R5' := Aside0.mk (R5.out.below hb)
  have BB' := Aside0.mk (below_tr BB.out hb)
  have BS := Aside0.mk BB.out.size
  clear R5 BB
  obtain ⟨L, hLd⟩ : ∃ L, L = partsL p.data.toList := ⟨_, rfl⟩
  rw [← hLd] at ho
  have HLD := Aside0.mk hLd
  have HO := Aside0.mk (show OwnP w3 w.heap.size v6 L from Kd.R_lower ho BS.out)
  clear ho hb hLd
  obtain ⟨A, c, hv⟩ := HO.out.slice
  subst hv
  obtain ⟨n, hn⟩ : ∃ n, n = L.length := ⟨_, rfl⟩
  have HN := Aside0.mk hn
  rw [← hn] at HO
  clear hn
  have HNB := Aside0.mk (show n ≤ 1000000000 from by rw [HN.out, HLD.out]; exact Nat.le_trans (parts_len _ _ (Nat.le_refl _)) (by rw [← ba_size]; omega))
  go_wp2_with fail
  go_loopw [5, 7] (fun v5 v7 wr => RelM w s (.slice A n c) L v5 v7 wr) (fun _ v7 _ => n - (intOf v7).toNat)
  case atStart => exact ⟨0, g5, rfl, rfl, Nat.zero_le _, G5.out, R5'.out, HO.out, BB'.out⟩
  case round =>
    clear HO R5' BB' G5
    obtain ⟨k, g, rfl, rfl, hk, hg, hr5, ho, hb⟩ := hrel
    have HO := Aside0.mk ho
    have R5 := Aside0.mk hr5
    have BB := Aside0.mk hb
    have G5 := Aside0.mk hg
    clear ho hr5 hb hg
    by_cases hlt : k < n
    · have hbig : n ≤ 1000000000 := HNB.out
      have e1 : ((k : Int) < (n : Int)) := by omega
      have hkl : k < L.length := by rw [← HN.out]; exact hlt
      have hk0 : (0 : Int) ≤ (k : Int) := Int.natCast_nonneg _
      have ek : IntKind.i64.wrap ((k : Int) + 1) = ((k : Int) + 1) := by rw [IntKind.wrap_i64]; omega
      obtain ⟨gl, hA, _, _⟩ := HO.out.at k hkl
      subst hA
      obtain ⟨F, hF⟩ : ∃ F, F = tabK s.data.toList L (k + 1) := ⟨_, rfl⟩
      obtain ⟨f, hf⟩ : ∃ f, f = tabK s.data.toList L k := ⟨_, rfl⟩
      obtain ⟨pk, hpk⟩ : ∃ pk, pk = L[k]'hkl := ⟨_, rfl⟩
      have HSF := Aside0.mk (show F = stepF s.data.toList f pk from by rw [hF, hf, hpk]; exact tab_succ _ _ _ hkl)
      rw [← hf] at R5
      have HKD := Aside0.mk (show pk.1 = 1 ∨ pk.1 = 2 ∨ pk.1 = 3 ∨ pk.1 = 4 from by rw [hpk]; exact parts_kind _ _ (Nat.le_refl _) _ (by rw [← HLD.out]; exact List.getElem_mem _))
      have HF := Aside0.mk hF
      have HAT := Aside0.mk (fun (W : World) (h : OwnP W w.heap.size (.slice (some ⟨gl, 0, none⟩) n c) L) => (show W.cell? ⟨gl, k * 257, none⟩ = some (.int .i64 pk.1) ∧ ∀ d, d < 256 → W.cell? ⟨gl, k * 257 + 1 + d, none⟩ = some (.bool (pk.2 d)) from by obtain ⟨g_, e_, h1, h2⟩ := h.at k hkl; injection e_ with e_; injection e_ with e_; subst e_; rw [hpk]; exact ⟨h1, h2⟩))
      clear hF hf hpk
      go_wp2_with (first | ((with_reducible refine gate_dst (N := 27) rfl ?_); refine ev_makeB rfl (N := 27) (x := 26) (y := 26) rfl rfl (s.size + 1) rfl rfl (by omega) ?_; intro g8 hg w5 hbox hb; have NE := Aside0.mk (show g ≠ g8 from by rw [hg]; exact Nat.ne_of_lt (blk_lt R5.out)); have G8 := Aside0.mk (show wr.heap.size ≤ g8 from by rw [hg]; exact Nat.le_refl _); have BK := Aside0.mk hb; have T_ := Aside0.mk (R5.out.below hb); clear R5; have R5 := T_; clear T_; have T_ := Aside0.mk (HO.out.below hb); clear HO; have HO := T_; clear T_; have R8 := Aside0.mk hbox; clear hbox hb hg))
      obtain ⟨wk, hwk⟩ : ∃ wk, wk = wr := ⟨_, rfl⟩
      subst hwk
      go_loopw [9] (fun v9 wq => RelN w wk s (.slice (some ⟨gl, 0, none⟩) n c) L g g8 f F v9 wq) (fun v9 _ => s.size + 2 - (intOf v9).toNat)
      case atStart => exact ⟨0, rfl, Nat.zero_le _, R5.out, by rw [done_zero]; exact R8.out, HO.out, BK.out⟩
      case round =>
        clear R5 R8 HO BK
        obtain ⟨i, rfl, hi, hr5, hr8, ho, hb⟩ := hrel
        have HO := Aside0.mk ho
        have R5 := Aside0.mk hr5
        have R8 := Aside0.mk hr8
        have BK := Aside0.mk hb
        clear ho hr5 hr8 hb
        by_cases hle : i ≤ s.size
        · have i1 : (i : Int) ≤ (s.size : Int) := by omega
          have i2 : (0 : Int) ≤ (i : Int) := Int.natCast_nonneg _
          have i3 : (i : Int) < (s.size : Int) + 1 := by omega
          have i4 : IntKind.i64.wrap ((i : Int) + 1) = ((i : Int) + 1) := by rw [IntKind.wrap_i64]; omega
          have HLE := Aside0.mk hle
          obtain ⟨c0, _⟩ := HAT.out _ HO.out
          have q2 := R8.out.at i (by omega)
          have q3 := R8.out.free i
          have q5 := R5.out.at i (by omega)
          by_cases hk1 : pk.1 = 1
          · have d1 : (pk.1 == 1) = true := by rw [hk1]; rfl
            have d2 : decide (pk.1 = 1) = true := decide_eq_true hk1
            have HR := Aside0.mk (show F = runF f from by rw [HSF.out]; unfold stepF; rw [if_pos hk1])
            cases hfi : f i with
            | true =>
              rw [hfi] at q5
              have HV := Aside0.mk (show F i = true from by rw [HR.out]; exact (runF_iff f i).2 ⟨i, Nat.le_refl _, hfi⟩)
              go_wp2_with (first | ((with_reducible refine gate_store (t := 4) (p := 58) rfl ?_); refine store_event2 (w1 := wr.setCell ⟨g8, i, none⟩ (.bool (true))) ?hg ?hn ?hr ?_; (case hg => rfl); (case hn => rfl); (case hr => first | (go_simp; done) | (go_simp; rfl)); intro w7 hW; have T_ := Aside0.mk (show OwnP w7 w.heap.size _ L from by rw [hW]; exact own_else HO.out R8.out); clear HO; have HO := T_; clear T_; have T_ := Aside0.mk (show Below wk.heap.size wk w7 from by rw [hW]; exact below_set BK.out G8.out); clear BK; have BK := T_; clear T_; have T_ := Aside0.mk (show BR w7 g (s.size + 1) f from by rw [hW]; exact R5.out.other NE.out _); clear R5; have R5 := T_; clear T_; have T_ := Aside0.mk (show BR w7 g8 (s.size + 1) (doneF F (i + 1)) from by rw [hW, ← done_step, HV.out]; exact R8.out.set i (true)); clear R8; have R8 := T_; clear T_; clear hW))
              go_roundw
              case rel => exact ⟨i + 1, by simp, by have := HLE.out; omega, R5.out, R8.out, HO.out, BK.out⟩
              case measure => have := HLE.out; simp [intOf] <;> omega
            | false =>
              rw [hfi] at q5
              by_cases hi0 : i = 0
              · subst hi0
                have z1 : ¬ ((0 : Int) < ((0 : Nat) : Int)) := by omega
                have HV := Aside0.mk (show F 0 = false from by rw [HR.out]; exact hfi)
                go_wp2_with (first | ((with_reducible refine gate_store (t := 4) (p := 58) rfl ?_); refine store_event2 (w1 := wr.setCell ⟨g8, 0, none⟩ (.bool (false))) ?hg ?hn ?hr ?_; (case hg => rfl); (case hn => rfl); (case hr => first | (go_simp; done) | (go_simp; rfl)); intro w7 hW; have T_ := Aside0.mk (show OwnP w7 w.heap.size _ L from by rw [hW]; exact own_else HO.out R8.out); clear HO; have HO := T_; clear T_; have T_ := Aside0.mk (show Below wk.heap.size wk w7 from by rw [hW]; exact below_set BK.out G8.out); clear BK; have BK := T_; clear T_; have T_ := Aside0.mk (show BR w7 g (s.size + 1) f from by rw [hW]; exact R5.out.other NE.out _); clear R5; have R5 := T_; clear T_; have T_ := Aside0.mk (show BR w7 g8 (s.size + 1) (doneF F (0 + 1)) from by rw [hW, ← done_step, HV.out]; exact R8.out.set 0 (false)); clear R8; have R8 := T_; clear T_; clear hW))
                go_roundw
                case rel => exact ⟨0 + 1, by simp, by have := HLE.out; omega, R5.out, R8.out, HO.out, BK.out⟩
                case measure => have := HLE.out; simp [intOf] <;> omega
              · obtain ⟨j, hj⟩ : ∃ j, i = j + 1 := ⟨i - 1, by omega⟩
                subst hj
                have z1 : (0 : Int) < ((j + 1 : Nat) : Int) := by omega
                have z2 : IntKind.i64.wrap (((j + 1 : Nat) : Int) - 1) = (j : Int) := by rw [IntKind.wrap_i64]; omega
                have z3 : (j : Int) < (s.size : Int) + 1 := by omega
                have z4 : (0 : Int) ≤ (j : Int) := Int.natCast_nonneg _
                have z5 := R8.out.at j (by omega)
                rw [show doneF F (j + 1) j = F j from by unfold doneF; rw [if_pos (Nat.lt_succ_self j)]] at z5
                have HV := Aside0.mk (show F (j + 1) = F j from by rw [HR.out]; show (f (j + 1) || runF f j) = runF f j; rw [hfi, Bool.false_or])
                go_wp2_with (first | ((with_reducible refine gate_store (t := 4) (p := 58) rfl ?_); refine store_event2 (w1 := wr.setCell ⟨g8, j + 1, none⟩ (.bool (F j))) ?hg ?hn ?hr ?_; (case hg => rfl); (case hn => rfl); (case hr => first | (go_simp; done) | (go_simp; rfl)); intro w7 hW; have T_ := Aside0.mk (show OwnP w7 w.heap.size _ L from by rw [hW]; exact own_else HO.out R8.out); clear HO; have HO := T_; clear T_; have T_ := Aside0.mk (show Below wk.heap.size wk w7 from by rw [hW]; exact below_set BK.out G8.out); clear BK; have BK := T_; clear T_; have T_ := Aside0.mk (show BR w7 g (s.size + 1) f from by rw [hW]; exact R5.out.other NE.out _); clear R5; have R5 := T_; clear T_; have T_ := Aside0.mk (show BR w7 g8 (s.size + 1) (doneF F (j + 1 + 1)) from by rw [hW, ← done_step, HV.out]; exact R8.out.set (j + 1) (F j)); clear R8; have R8 := T_; clear T_; clear hW))
                go_roundw
                case rel => exact ⟨j + 1 + 1, by simp, by have := HLE.out; omega, R5.out, R8.out, HO.out, BK.out⟩
                case measure => have := HLE.out; simp [intOf] <;> omega
          · have d1 : (pk.1 == 1) = false := beq_eq_false_iff_ne.2 hk1
            have d2 : decide (pk.1 = 1) = false := decide_eq_false hk1
            by_cases hi0 : i = 0
            · subst hi0
              have z1 : ¬ ((0 : Int) < ((0 : Nat) : Int)) := by omega
              have HV := Aside0.mk (show F 0 = false from by rw [HSF.out]; unfold stepF; rw [if_neg hk1])
              go_wp2_with fail
              go_roundw
              case rel => exact ⟨0 + 1, by simp, by have := HLE.out; omega, R5.out, by rw [← done_skip F (0) HV.out]; exact R8.out, HO.out, BK.out⟩
              case measure => have := HLE.out; simp [intOf] <;> omega
            · obtain ⟨j, hj⟩ : ∃ j, i = j + 1 := ⟨i - 1, by omega⟩
              subst hj
              have z1 : (0 : Int) < ((j + 1 : Nat) : Int) := by omega
              have z2 : IntKind.i64.wrap (((j + 1 : Nat) : Int) - 1) = (j : Int) := by rw [IntKind.wrap_i64]; omega
              have z3 : (j : Int) < (s.size : Int) + 1 := by omega
              have z4 : (0 : Int) ≤ (j : Int) := Int.natCast_nonneg _
              have z5 := R5.out.at j (by omega)
              have hjs : j < s.size := by omega
              have z6 : (j : Int) < (s.size : Int) := by omega
              have HV0 := Aside0.mk (show F (j + 1) = (f j && hits pk (s.data.toList.getD j 0)) from by rw [HSF.out]; unfold stepF; rw [if_neg hk1])
              cases hfj : f j with
              | false =>
                rw [hfj] at z5
                have HV := Aside0.mk (show F (j + 1) = false from by rw [HV0.out, hfj]; rfl)
                go_wp2_with fail
                go_roundw
                case rel => exact ⟨j + 1 + 1, by simp, by have := HLE.out; omega, R5.out, by rw [← done_skip F (j + 1) HV.out]; exact R8.out, HO.out, BK.out⟩
                case measure => have := HLE.out; simp [intOf] <;> omega
              | true =>
                rw [hfj] at z5
                have HSJ := Aside0.mk (show s.data.toList.getD j 0 = (s[j]'hjs) from by rw [List.getD_eq_getElem?_getD, List.getElem?_eq_getElem (by rw [← ba_size]; exact hjs)]; rfl)
                obtain ⟨_, c1⟩ := HAT.out _ HO.out
                have c2 := c1 (s[j]'hjs).toNat (UInt8.toNat_lt _)
                have x3 : (((s[j]'hjs).toNat : Nat) : Int) < 256 := by have := UInt8.toNat_lt (s[j]'hjs); omega
                have x4 : (0 : Int) ≤ (((s[j]'hjs).toNat : Nat) : Int) := Int.natCast_nonneg _
                clear c1
                have HGL := Aside0.mk (own_apart HO.out R8.out)
                have HKS := HKD.out
                rcases HKS with hk2 | hk2 | hk2 | hk2
                · exact absurd hk2 hk1
                · have HV := Aside0.mk (show F (j + 1) = true from by rw [HV0.out, hfj, HSJ.out]; unfold hits; rw [hk2]; rfl)
                  rw [hk2] at c0 d1 d2
                  have C0 := Aside0.mk c0
                  have C2 := Aside0.mk c2
                  have Q2 := Aside0.mk q2
                  have Q3 := Aside0.mk q3
                  have d3 : ((2 : Int) == 1) = false := rfl
                  have w1_ : ((j + 1 : Nat) : Int) - 1 = (j : Int) := by omega
                  have w2_ : IntKind.i64.wrap (j : Int) = (j : Int) := by rw [IntKind.wrap_i64]; omega
                  have w3_ : ¬ ((j : Int) + 1 < 0) := by omega
                  have w4_ : (0 : Int) ≤ (j : Int) + 1 := by omega
                  have w5_ : (j : Int) + 1 < (s.size : Int) + 1 := by omega
                  go_wp2_with fail
                  clear c0 c2 q2 q3 z5 q5
                  refine region_drew (fun W_ => W_.cell? ⟨gl, k * 257, none⟩ = some (.int .i64 2) ∧ W_.cell? ⟨gl, k * 257 + 1 + (s[j]'hjs).toNat, none⟩ = some (.bool (pk.2 (s[j]'hjs).toNat))) (by kernel_rfl) (fun d1_ hb_ => ?_)
                  have DR := Aside0.mk hb_
                  refine ⟨⟨cell_below C0.out hb_, cell_below C2.out hb_⟩, fun hHeld => ?_⟩
                  clear hb_
                  refine wpAnyH_take (i := 0) (v := (.slice (some ⟨g8, 0, none⟩) (s.size + 1) (s.size + 1))) rfl (by kernel_rfl) (by kernel_rfl) (by kernel_rfl) (fun _ _ _ h => h) (Or.inl ⟨by kernel_rfl, ?_⟩) (by assumption) ?_
                  · intro W_ hSw
                    obtain ⟨s0, s1⟩ := hSw
                    first | (go_simp; done) | (go_simp; with_reducible rfl) | (go_simp; rfl)
                  try simp only [Act.put, List.setIfInBounds_toArray, List.set_cons_zero, List.set_cons_succ]
                  refine wpAnyH_take (i := 1) (v := (.int .i64 ((j + 1 : Nat) : Int))) rfl (by kernel_rfl) (by kernel_rfl) (by kernel_rfl) (fun _ _ _ h => h) (Or.inl ⟨by kernel_rfl, ?_⟩) (by assumption) ?_
                  · intro W_ hSw
                    obtain ⟨s0, s1⟩ := hSw
                    first | (go_simp; done) | (go_simp; with_reducible rfl) | (go_simp; rfl)
                  try simp only [Act.put, List.setIfInBounds_toArray, List.set_cons_zero, List.set_cons_succ]
                  refine wpAnyH_take (i := 2) (v := (.slice (some ⟨gl, 0, none⟩) L.length c)) rfl (by kernel_rfl) (by kernel_rfl) (by kernel_rfl) (fun _ _ _ h => h) (Or.inl ⟨by kernel_rfl, ?_⟩) (by assumption) ?_
                  · intro W_ hSw
                    obtain ⟨s0, s1⟩ := hSw
                    first | (go_simp; done) | (go_simp; with_reducible rfl) | (go_simp; rfl)
                  try simp only [Act.put, List.setIfInBounds_toArray, List.set_cons_zero, List.set_cons_succ]
                  refine wpAnyH_take (i := 3) (v := (.int .i64 (k : Int))) rfl (by kernel_rfl) (by kernel_rfl) (by kernel_rfl) (fun _ _ _ h => h) (Or.inl ⟨by kernel_rfl, ?_⟩) (by assumption) ?_
                  · intro W_ hSw
                    obtain ⟨s0, s1⟩ := hSw
                    first | (go_simp; done) | (go_simp; with_reducible rfl) | (go_simp; rfl)
                  try simp only [Act.put, List.setIfInBounds_toArray, List.set_cons_zero, List.set_cons_succ]
                  refine wpAnyH_take (i := 4) (v := (.pointer (some ⟨gl, k * 257, none⟩))) rfl (by kernel_rfl) (by kernel_rfl) (by kernel_rfl) (fun _ _ _ h => h) (Or.inl ⟨by kernel_rfl, ?_⟩) (by assumption) ?_
                  · intro W_ hSw
                    obtain ⟨s0, s1⟩ := hSw
                    first | (go_simp; done) | (go_simp; with_reducible rfl) | (go_simp; rfl)
                  try simp only [Act.put, List.setIfInBounds_toArray, List.set_cons_zero, List.set_cons_succ]
                  refine wpAnyH_take (i := 5) (v := (.pointer (some ⟨gl, k * 257, none⟩))) rfl (by kernel_rfl) (by kernel_rfl) (by kernel_rfl) (fun _ _ _ h => h) (Or.inl ⟨by kernel_rfl, ?_⟩) (by assumption) ?_
                  · intro W_ hSw
                    obtain ⟨s0, s1⟩ := hSw
                    first | (go_simp; done) | (go_simp; with_reducible rfl) | (go_simp; rfl)
                  try simp only [Act.put, List.setIfInBounds_toArray, List.set_cons_zero, List.set_cons_succ]
                  refine wpAnyH_take (i := 6) (v := (.int .i64 2)) rfl (by kernel_rfl) (by kernel_rfl) (by kernel_rfl) (fun _ _ _ h => h) (Or.inl ⟨by kernel_rfl, ?_⟩) (by assumption) ?_
                  · intro W_ hSw
                    obtain ⟨s0, s1⟩ := hSw
                    first | (go_simp; done) | (go_simp; with_reducible rfl) | (go_simp; rfl)
                  try simp only [Act.put, List.setIfInBounds_toArray, List.set_cons_zero, List.set_cons_succ]
                  refine wpAnyH_take (i := 7) (v := (.bool true)) rfl (by kernel_rfl) (by kernel_rfl) (by kernel_rfl) (fun _ _ _ h => h) (Or.inl ⟨by kernel_rfl, ?_⟩) (by assumption) ?_
                  · intro W_ hSw
                    obtain ⟨s0, s1⟩ := hSw
                    first | (go_simp; done) | (go_simp; with_reducible rfl) | (go_simp; rfl)
                  try simp only [Act.put, List.setIfInBounds_toArray, List.set_cons_zero, List.set_cons_succ]
                  refine wpAnyH_take (i := 8) (v := (.bool true)) rfl (by kernel_rfl) (by kernel_rfl) (by kernel_rfl) (fun _ _ _ h => h) (Or.inl ⟨by kernel_rfl, ?_⟩) (by assumption) ?_
                  · intro W_ hSw
                    obtain ⟨s0, s1⟩ := hSw
                    first | (go_simp; done) | (go_simp; with_reducible rfl) | (go_simp; rfl)
                  try simp only [Act.put, List.setIfInBounds_toArray, List.set_cons_zero, List.set_cons_succ]
                  refine wpAnyH_take (i := 9) (v := undef) rfl (by kernel_rfl) (by kernel_rfl) (by kernel_rfl) (fun _ _ _ h => h) (Or.inr ⟨by kernel_rfl, rfl⟩) (by assumption) ?_
                  try simp only [Act.put, List.setIfInBounds_toArray, List.set_cons_zero, List.set_cons_succ]
                  refine wpAnyH_take (i := 10) (v := undef) rfl (by kernel_rfl) (by kernel_rfl) (by kernel_rfl) (fun _ _ _ h => h) (Or.inr ⟨by kernel_rfl, rfl⟩) (by assumption) ?_
                  try simp only [Act.put, List.setIfInBounds_toArray, List.set_cons_zero, List.set_cons_succ]
                  refine wpAnyH_take (i := 11) (v := undef) rfl (by kernel_rfl) (by kernel_rfl) (by kernel_rfl) (fun _ _ _ h => h) (Or.inr ⟨by kernel_rfl, rfl⟩) (by assumption) ?_
                  try simp only [Act.put, List.setIfInBounds_toArray, List.set_cons_zero, List.set_cons_succ]
                  refine wpAnyH_take (i := 12) (v := undef) rfl (by kernel_rfl) (by kernel_rfl) (by kernel_rfl) (fun _ _ _ h => h) (Or.inr ⟨by kernel_rfl, rfl⟩) (by assumption) ?_
                  try simp only [Act.put, List.setIfInBounds_toArray, List.set_cons_zero, List.set_cons_succ]
                  refine wpAnyH_take (i := 13) (v := undef) rfl (by kernel_rfl) (by kernel_rfl) (by kernel_rfl) (fun _ _ _ h => h) (Or.inr ⟨by kernel_rfl, rfl⟩) (by assumption) ?_
                  try simp only [Act.put, List.setIfInBounds_toArray, List.set_cons_zero, List.set_cons_succ]
                  refine wpAnyH_take (i := 14) (v := undef) rfl (by kernel_rfl) (by kernel_rfl) (by kernel_rfl) (fun _ _ _ h => h) (Or.inr ⟨by kernel_rfl, rfl⟩) (by assumption) ?_
                  try simp only [Act.put, List.setIfInBounds_toArray, List.set_cons_zero, List.set_cons_succ]
                  refine wpAnyH_take (i := 15) (v := undef) rfl (by kernel_rfl) (by kernel_rfl) (by kernel_rfl) (fun _ _ _ h => h) (Or.inr ⟨by kernel_rfl, rfl⟩) (by assumption) ?_
                  try simp only [Act.put, List.setIfInBounds_toArray, List.set_cons_zero, List.set_cons_succ]
                  refine wpAnyH_take (i := 16) (v := undef) rfl (by kernel_rfl) (by kernel_rfl) (by kernel_rfl) (fun _ _ _ h => h) (Or.inr ⟨by kernel_rfl, rfl⟩) (by assumption) ?_
                  try simp only [Act.put, List.setIfInBounds_toArray, List.set_cons_zero, List.set_cons_succ]
                  refine wpAnyH_take (i := 17) (v := undef) rfl (by kernel_rfl) (by kernel_rfl) (by kernel_rfl) (fun _ _ _ h => h) (Or.inr ⟨by kernel_rfl, rfl⟩) (by assumption) ?_
                  try simp only [Act.put, List.setIfInBounds_toArray, List.set_cons_zero, List.set_cons_succ]
                  refine wpAnyH_take (i := 18) (v := undef) rfl (by kernel_rfl) (by kernel_rfl) (by kernel_rfl) (fun _ _ _ h => h) (Or.inr ⟨by kernel_rfl, rfl⟩) (by assumption) ?_
                  try simp only [Act.put, List.setIfInBounds_toArray, List.set_cons_zero, List.set_cons_succ]
                  refine wpAnyH_take (i := 19) (v := (.bool (true))) rfl (by kernel_rfl) (by kernel_rfl) (by kernel_rfl) (fun _ _ _ h => h) (Or.inl ⟨by kernel_rfl, ?_⟩) (by assumption) ?_
                  · intro W_ hSw
                    obtain ⟨s0, s1⟩ := hSw
                    first | (go_simp; done) | (go_simp; with_reducible rfl) | (go_simp; rfl)
                  try simp only [Act.put, List.setIfInBounds_toArray, List.set_cons_zero, List.set_cons_succ]
                  refine wpAnyH_take (i := 20) (v := (.pointer (some ⟨g8, j + 1, none⟩))) rfl (by kernel_rfl) (by kernel_rfl) (by kernel_rfl) (fun _ _ _ h => h) (Or.inl ⟨by kernel_rfl, ?_⟩) (by assumption) ?_
                  · intro W_ hSw
                    obtain ⟨s0, s1⟩ := hSw
                    first | (go_simp; done) | (go_simp; with_reducible rfl) | (go_simp; rfl)
                  try simp only [Act.put, List.setIfInBounds_toArray, List.set_cons_zero, List.set_cons_succ]
                  refine next_setB 21 (p := 89) (s := 88) (g := g8) (x := j + 1) (b := true) (c := doneF F (j + 1) (j + 1)) (by kernel_rfl) (by kernel_rfl) (by kernel_rfl) (by kernel_rfl) (cell_below Q2.out DR.out) ((R8.out.below DR.out).free _) (fun w8 hW => ⟨by rw [hW]; exact keep14 HGL.out hHeld, ?_⟩)
                  refine wpAnyH_done (by kernel_rfl) ?_ _
                  have HW := Aside0.mk hW
                  clear hW hHeld
                  go_wp2_with fail
                  go_roundw
                  case rel => exact ⟨j + 1 + 1, by simp, by have := HLE.out; omega, by rw [HW.out]; exact (R5.out.below DR.out).other NE.out _, by rw [HW.out, ← done_step, HV.out]; exact (R8.out.below DR.out).set (j + 1) _, by rw [HW.out]; exact own_else (HO.out.below DR.out) (R8.out.below DR.out), by rw [HW.out]; exact below_set (below_tr BK.out DR.out) G8.out⟩
                  case measure => have := HLE.out; simp [intOf] <;> omega
                · have HV := Aside0.mk (show F (j + 1) = pk.2 (s[j]'hjs).toNat from by rw [HV0.out, hfj, HSJ.out]; unfold hits; rw [hk2]; rfl)
                  rw [hk2] at c0 d1 d2
                  have C0 := Aside0.mk c0
                  have C2 := Aside0.mk c2
                  have Q2 := Aside0.mk q2
                  have Q3 := Aside0.mk q3
                  have d3 : ((3 : Int) == 1) = false := rfl
                  have w1_ : ((j + 1 : Nat) : Int) - 1 = (j : Int) := by omega
                  have w2_ : IntKind.i64.wrap (j : Int) = (j : Int) := by rw [IntKind.wrap_i64]; omega
                  have w3_ : ¬ ((j : Int) + 1 < 0) := by omega
                  have w4_ : (0 : Int) ≤ (j : Int) + 1 := by omega
                  have w5_ : (j : Int) + 1 < (s.size : Int) + 1 := by omega
                  go_wp2_with fail
                  clear c0 c2 q2 q3 z5 q5
                  refine region_drew (fun W_ => W_.cell? ⟨gl, k * 257, none⟩ = some (.int .i64 3) ∧ W_.cell? ⟨gl, k * 257 + 1 + (s[j]'hjs).toNat, none⟩ = some (.bool (pk.2 (s[j]'hjs).toNat))) (by kernel_rfl) (fun d1_ hb_ => ?_)
                  have DR := Aside0.mk hb_
                  refine ⟨⟨cell_below C0.out hb_, cell_below C2.out hb_⟩, fun hHeld => ?_⟩
                  clear hb_
                  refine wpAnyH_take (i := 0) (v := (.slice (some ⟨g8, 0, none⟩) (s.size + 1) (s.size + 1))) rfl (by kernel_rfl) (by kernel_rfl) (by kernel_rfl) (fun _ _ _ h => h) (Or.inl ⟨by kernel_rfl, ?_⟩) (by assumption) ?_
                  · intro W_ hSw
                    obtain ⟨s0, s1⟩ := hSw
                    first | (go_simp; done) | (go_simp; with_reducible rfl) | (go_simp; rfl)
                  try simp only [Act.put, List.setIfInBounds_toArray, List.set_cons_zero, List.set_cons_succ]
                  refine wpAnyH_take (i := 1) (v := (.int .i64 ((j + 1 : Nat) : Int))) rfl (by kernel_rfl) (by kernel_rfl) (by kernel_rfl) (fun _ _ _ h => h) (Or.inl ⟨by kernel_rfl, ?_⟩) (by assumption) ?_
                  · intro W_ hSw
                    obtain ⟨s0, s1⟩ := hSw
                    first | (go_simp; done) | (go_simp; with_reducible rfl) | (go_simp; rfl)
                  try simp only [Act.put, List.setIfInBounds_toArray, List.set_cons_zero, List.set_cons_succ]
                  refine wpAnyH_take (i := 2) (v := (.slice (some ⟨gl, 0, none⟩) L.length c)) rfl (by kernel_rfl) (by kernel_rfl) (by kernel_rfl) (fun _ _ _ h => h) (Or.inl ⟨by kernel_rfl, ?_⟩) (by assumption) ?_
                  · intro W_ hSw
                    obtain ⟨s0, s1⟩ := hSw
                    first | (go_simp; done) | (go_simp; with_reducible rfl) | (go_simp; rfl)
                  try simp only [Act.put, List.setIfInBounds_toArray, List.set_cons_zero, List.set_cons_succ]
                  refine wpAnyH_take (i := 3) (v := (.int .i64 (k : Int))) rfl (by kernel_rfl) (by kernel_rfl) (by kernel_rfl) (fun _ _ _ h => h) (Or.inl ⟨by kernel_rfl, ?_⟩) (by assumption) ?_
                  · intro W_ hSw
                    obtain ⟨s0, s1⟩ := hSw
                    first | (go_simp; done) | (go_simp; with_reducible rfl) | (go_simp; rfl)
                  try simp only [Act.put, List.setIfInBounds_toArray, List.set_cons_zero, List.set_cons_succ]
                  refine wpAnyH_take (i := 4) (v := (.pointer (some ⟨gl, k * 257, none⟩))) rfl (by kernel_rfl) (by kernel_rfl) (by kernel_rfl) (fun _ _ _ h => h) (Or.inl ⟨by kernel_rfl, ?_⟩) (by assumption) ?_
                  · intro W_ hSw
                    obtain ⟨s0, s1⟩ := hSw
                    first | (go_simp; done) | (go_simp; with_reducible rfl) | (go_simp; rfl)
                  try simp only [Act.put, List.setIfInBounds_toArray, List.set_cons_zero, List.set_cons_succ]
                  refine wpAnyH_take (i := 5) (v := (.pointer (some ⟨gl, k * 257, none⟩))) rfl (by kernel_rfl) (by kernel_rfl) (by kernel_rfl) (fun _ _ _ h => h) (Or.inl ⟨by kernel_rfl, ?_⟩) (by assumption) ?_
                  · intro W_ hSw
                    obtain ⟨s0, s1⟩ := hSw
                    first | (go_simp; done) | (go_simp; with_reducible rfl) | (go_simp; rfl)
                  try simp only [Act.put, List.setIfInBounds_toArray, List.set_cons_zero, List.set_cons_succ]
                  refine wpAnyH_take (i := 6) (v := (.int .i64 3)) rfl (by kernel_rfl) (by kernel_rfl) (by kernel_rfl) (fun _ _ _ h => h) (Or.inl ⟨by kernel_rfl, ?_⟩) (by assumption) ?_
                  · intro W_ hSw
                    obtain ⟨s0, s1⟩ := hSw
                    first | (go_simp; done) | (go_simp; with_reducible rfl) | (go_simp; rfl)
                  try simp only [Act.put, List.setIfInBounds_toArray, List.set_cons_zero, List.set_cons_succ]
                  refine wpAnyH_take (i := 7) (v := (.bool false)) rfl (by kernel_rfl) (by kernel_rfl) (by kernel_rfl) (fun _ _ _ h => h) (Or.inl ⟨by kernel_rfl, ?_⟩) (by assumption) ?_
                  · intro W_ hSw
                    obtain ⟨s0, s1⟩ := hSw
                    first | (go_simp; done) | (go_simp; with_reducible rfl) | (go_simp; rfl)
                  try simp only [Act.put, List.setIfInBounds_toArray, List.set_cons_zero, List.set_cons_succ]
                  refine wpAnyH_take (i := 8) (v := (.bool false)) rfl (by kernel_rfl) (by kernel_rfl) (by kernel_rfl) (fun _ _ _ h => h) (Or.inl ⟨by kernel_rfl, ?_⟩) (by assumption) ?_
                  · intro W_ hSw
                    obtain ⟨s0, s1⟩ := hSw
                    first | (go_simp; done) | (go_simp; with_reducible rfl) | (go_simp; rfl)
                  try simp only [Act.put, List.setIfInBounds_toArray, List.set_cons_zero, List.set_cons_succ]
                  refine wpAnyH_take (i := 9) (v := (.slice (some ⟨gl, 0, none⟩) L.length c)) rfl (by kernel_rfl) (by kernel_rfl) (by kernel_rfl) (fun _ _ _ h => h) (Or.inl ⟨by kernel_rfl, ?_⟩) (by assumption) ?_
                  · intro W_ hSw
                    obtain ⟨s0, s1⟩ := hSw
                    first | (go_simp; done) | (go_simp; with_reducible rfl) | (go_simp; rfl)
                  try simp only [Act.put, List.setIfInBounds_toArray, List.set_cons_zero, List.set_cons_succ]
                  refine wpAnyH_take (i := 10) (v := (.int .i64 (k : Int))) rfl (by kernel_rfl) (by kernel_rfl) (by kernel_rfl) (fun _ _ _ h => h) (Or.inl ⟨by kernel_rfl, ?_⟩) (by assumption) ?_
                  · intro W_ hSw
                    obtain ⟨s0, s1⟩ := hSw
                    first | (go_simp; done) | (go_simp; with_reducible rfl) | (go_simp; rfl)
                  try simp only [Act.put, List.setIfInBounds_toArray, List.set_cons_zero, List.set_cons_succ]
                  refine wpAnyH_take (i := 11) (v := (.string s)) rfl (by kernel_rfl) (by kernel_rfl) (by kernel_rfl) (fun _ _ _ h => h) (Or.inl ⟨by kernel_rfl, ?_⟩) (by assumption) ?_
                  · intro W_ hSw
                    obtain ⟨s0, s1⟩ := hSw
                    first | (go_simp; done) | (go_simp; with_reducible rfl) | (go_simp; rfl)
                  try simp only [Act.put, List.setIfInBounds_toArray, List.set_cons_zero, List.set_cons_succ]
                  refine wpAnyH_take (i := 12) (v := (.int .i64 ((j + 1 : Nat) : Int))) rfl (by kernel_rfl) (by kernel_rfl) (by kernel_rfl) (fun _ _ _ h => h) (Or.inl ⟨by kernel_rfl, ?_⟩) (by assumption) ?_
                  · intro W_ hSw
                    obtain ⟨s0, s1⟩ := hSw
                    first | (go_simp; done) | (go_simp; with_reducible rfl) | (go_simp; rfl)
                  try simp only [Act.put, List.setIfInBounds_toArray, List.set_cons_zero, List.set_cons_succ]
                  refine wpAnyH_take (i := 13) (v := (.int .i64 (j : Int))) rfl (by kernel_rfl) (by kernel_rfl) (by kernel_rfl) (fun _ _ _ h => h) (Or.inl ⟨by kernel_rfl, ?_⟩) (by assumption) ?_
                  · intro W_ hSw
                    obtain ⟨s0, s1⟩ := hSw
                    first | (go_simp; done) | (go_simp; with_reducible rfl) | (go_simp; rfl)
                  try simp only [Act.put, List.setIfInBounds_toArray, List.set_cons_zero, List.set_cons_succ]
                  refine wpAnyH_take (i := 14) (v := (.int .u8 (((s[j]'hjs).toNat : Nat) : Int))) rfl (by kernel_rfl) (by kernel_rfl) (by kernel_rfl) (fun _ _ _ h => h) (Or.inl ⟨by kernel_rfl, ?_⟩) (by assumption) ?_
                  · intro W_ hSw
                    obtain ⟨s0, s1⟩ := hSw
                    first | (go_simp; done) | (go_simp; with_reducible rfl) | (go_simp; rfl)
                  try simp only [Act.put, List.setIfInBounds_toArray, List.set_cons_zero, List.set_cons_succ]
                  refine wpAnyH_take (i := 15) (v := (.pointer (some ⟨gl, k * 257, none⟩))) rfl (by kernel_rfl) (by kernel_rfl) (by kernel_rfl) (fun _ _ _ h => h) (Or.inl ⟨by kernel_rfl, ?_⟩) (by assumption) ?_
                  · intro W_ hSw
                    obtain ⟨s0, s1⟩ := hSw
                    first | (go_simp; done) | (go_simp; with_reducible rfl) | (go_simp; rfl)
                  try simp only [Act.put, List.setIfInBounds_toArray, List.set_cons_zero, List.set_cons_succ]
                  refine wpAnyH_take (i := 16) (v := (.pointer (some ⟨gl, k * 257 + 1, none⟩))) rfl (by kernel_rfl) (by kernel_rfl) (by kernel_rfl) (fun _ _ _ h => h) (Or.inl ⟨by kernel_rfl, ?_⟩) (by assumption) ?_
                  · intro W_ hSw
                    obtain ⟨s0, s1⟩ := hSw
                    first | (go_simp; done) | (go_simp; with_reducible rfl) | (go_simp; rfl)
                  try simp only [Act.put, List.setIfInBounds_toArray, List.set_cons_zero, List.set_cons_succ]
                  refine wpAnyH_take (i := 17) (v := (.pointer (some ⟨gl, k * 257 + 1 + (s[j]'hjs).toNat, none⟩))) rfl (by kernel_rfl) (by kernel_rfl) (by kernel_rfl) (fun _ _ _ h => h) (Or.inl ⟨by kernel_rfl, ?_⟩) (by assumption) ?_
                  · intro W_ hSw
                    obtain ⟨s0, s1⟩ := hSw
                    first | (go_simp; done) | (go_simp; with_reducible rfl) | (go_simp; rfl)
                  try simp only [Act.put, List.setIfInBounds_toArray, List.set_cons_zero, List.set_cons_succ]
                  refine wpAnyH_take (i := 18) (v := (.bool (pk.2 (s[j]'hjs).toNat))) rfl (by kernel_rfl) (by kernel_rfl) (by kernel_rfl) (fun _ _ _ h => h) (Or.inl ⟨by kernel_rfl, ?_⟩) (by assumption) ?_
                  · intro W_ hSw
                    obtain ⟨s0, s1⟩ := hSw
                    first | (go_simp; done) | (go_simp; with_reducible rfl) | (go_simp; rfl)
                  try simp only [Act.put, List.setIfInBounds_toArray, List.set_cons_zero, List.set_cons_succ]
                  refine wpAnyH_take (i := 19) (v := (.bool (pk.2 (s[j]'hjs).toNat))) rfl (by kernel_rfl) (by kernel_rfl) (by kernel_rfl) (fun _ _ _ h => h) (Or.inl ⟨by kernel_rfl, ?_⟩) (by assumption) ?_
                  · intro W_ hSw
                    obtain ⟨s0, s1⟩ := hSw
                    first | (go_simp; done) | (go_simp; with_reducible rfl) | (go_simp; rfl)
                  try simp only [Act.put, List.setIfInBounds_toArray, List.set_cons_zero, List.set_cons_succ]
                  refine wpAnyH_take (i := 20) (v := (.pointer (some ⟨g8, j + 1, none⟩))) rfl (by kernel_rfl) (by kernel_rfl) (by kernel_rfl) (fun _ _ _ h => h) (Or.inl ⟨by kernel_rfl, ?_⟩) (by assumption) ?_
                  · intro W_ hSw
                    obtain ⟨s0, s1⟩ := hSw
                    first | (go_simp; done) | (go_simp; with_reducible rfl) | (go_simp; rfl)
                  try simp only [Act.put, List.setIfInBounds_toArray, List.set_cons_zero, List.set_cons_succ]
                  refine next_setB 21 (p := 89) (s := 88) (g := g8) (x := j + 1) (b := pk.2 (s[j]'hjs).toNat) (c := doneF F (j + 1) (j + 1)) (by kernel_rfl) (by kernel_rfl) (by kernel_rfl) (by kernel_rfl) (cell_below Q2.out DR.out) ((R8.out.below DR.out).free _) (fun w8 hW => ⟨by rw [hW]; exact keep14 HGL.out hHeld, ?_⟩)
                  refine wpAnyH_done (by kernel_rfl) ?_ _
                  have HW := Aside0.mk hW
                  clear hW hHeld
                  go_wp2_with fail
                  go_roundw
                  case rel => exact ⟨j + 1 + 1, by simp, by have := HLE.out; omega, by rw [HW.out]; exact (R5.out.below DR.out).other NE.out _, by rw [HW.out, ← done_step, HV.out]; exact (R8.out.below DR.out).set (j + 1) _, by rw [HW.out]; exact own_else (HO.out.below DR.out) (R8.out.below DR.out), by rw [HW.out]; exact below_set (below_tr BK.out DR.out) G8.out⟩
                  case measure => have := HLE.out; simp [intOf] <;> omega
                · have HV := Aside0.mk (show F (j + 1) = pk.2 (s[j]'hjs).toNat from by rw [HV0.out, hfj, HSJ.out]; unfold hits; rw [hk2]; rfl)
                  rw [hk2] at c0 d1 d2
                  have C0 := Aside0.mk c0
                  have C2 := Aside0.mk c2
                  have Q2 := Aside0.mk q2
                  have Q3 := Aside0.mk q3
                  have d3 : ((4 : Int) == 1) = false := rfl
                  have w1_ : ((j + 1 : Nat) : Int) - 1 = (j : Int) := by omega
                  have w2_ : IntKind.i64.wrap (j : Int) = (j : Int) := by rw [IntKind.wrap_i64]; omega
                  have w3_ : ¬ ((j : Int) + 1 < 0) := by omega
                  have w4_ : (0 : Int) ≤ (j : Int) + 1 := by omega
                  have w5_ : (j : Int) + 1 < (s.size : Int) + 1 := by omega
                  go_wp2_with fail
                  clear c0 c2 q2 q3 z5 q5
                  refine region_drew (fun W_ => W_.cell? ⟨gl, k * 257, none⟩ = some (.int .i64 4) ∧ W_.cell? ⟨gl, k * 257 + 1 + (s[j]'hjs).toNat, none⟩ = some (.bool (pk.2 (s[j]'hjs).toNat))) (by kernel_rfl) (fun d1_ hb_ => ?_)
                  have DR := Aside0.mk hb_
                  refine ⟨⟨cell_below C0.out hb_, cell_below C2.out hb_⟩, fun hHeld => ?_⟩
                  clear hb_
                  refine wpAnyH_take (i := 0) (v := (.slice (some ⟨g8, 0, none⟩) (s.size + 1) (s.size + 1))) rfl (by kernel_rfl) (by kernel_rfl) (by kernel_rfl) (fun _ _ _ h => h) (Or.inl ⟨by kernel_rfl, ?_⟩) (by assumption) ?_
                  · intro W_ hSw
                    obtain ⟨s0, s1⟩ := hSw
                    first | (go_simp; done) | (go_simp; with_reducible rfl) | (go_simp; rfl)
                  try simp only [Act.put, List.setIfInBounds_toArray, List.set_cons_zero, List.set_cons_succ]
                  refine wpAnyH_take (i := 1) (v := (.int .i64 ((j + 1 : Nat) : Int))) rfl (by kernel_rfl) (by kernel_rfl) (by kernel_rfl) (fun _ _ _ h => h) (Or.inl ⟨by kernel_rfl, ?_⟩) (by assumption) ?_
                  · intro W_ hSw
                    obtain ⟨s0, s1⟩ := hSw
                    first | (go_simp; done) | (go_simp; with_reducible rfl) | (go_simp; rfl)
                  try simp only [Act.put, List.setIfInBounds_toArray, List.set_cons_zero, List.set_cons_succ]
                  refine wpAnyH_take (i := 2) (v := (.slice (some ⟨gl, 0, none⟩) L.length c)) rfl (by kernel_rfl) (by kernel_rfl) (by kernel_rfl) (fun _ _ _ h => h) (Or.inl ⟨by kernel_rfl, ?_⟩) (by assumption) ?_
                  · intro W_ hSw
                    obtain ⟨s0, s1⟩ := hSw
                    first | (go_simp; done) | (go_simp; with_reducible rfl) | (go_simp; rfl)
                  try simp only [Act.put, List.setIfInBounds_toArray, List.set_cons_zero, List.set_cons_succ]
                  refine wpAnyH_take (i := 3) (v := (.int .i64 (k : Int))) rfl (by kernel_rfl) (by kernel_rfl) (by kernel_rfl) (fun _ _ _ h => h) (Or.inl ⟨by kernel_rfl, ?_⟩) (by assumption) ?_
                  · intro W_ hSw
                    obtain ⟨s0, s1⟩ := hSw
                    first | (go_simp; done) | (go_simp; with_reducible rfl) | (go_simp; rfl)
                  try simp only [Act.put, List.setIfInBounds_toArray, List.set_cons_zero, List.set_cons_succ]
                  refine wpAnyH_take (i := 4) (v := (.pointer (some ⟨gl, k * 257, none⟩))) rfl (by kernel_rfl) (by kernel_rfl) (by kernel_rfl) (fun _ _ _ h => h) (Or.inl ⟨by kernel_rfl, ?_⟩) (by assumption) ?_
                  · intro W_ hSw
                    obtain ⟨s0, s1⟩ := hSw
                    first | (go_simp; done) | (go_simp; with_reducible rfl) | (go_simp; rfl)
                  try simp only [Act.put, List.setIfInBounds_toArray, List.set_cons_zero, List.set_cons_succ]
                  refine wpAnyH_take (i := 5) (v := (.pointer (some ⟨gl, k * 257, none⟩))) rfl (by kernel_rfl) (by kernel_rfl) (by kernel_rfl) (fun _ _ _ h => h) (Or.inl ⟨by kernel_rfl, ?_⟩) (by assumption) ?_
                  · intro W_ hSw
                    obtain ⟨s0, s1⟩ := hSw
                    first | (go_simp; done) | (go_simp; with_reducible rfl) | (go_simp; rfl)
                  try simp only [Act.put, List.setIfInBounds_toArray, List.set_cons_zero, List.set_cons_succ]
                  refine wpAnyH_take (i := 6) (v := (.int .i64 4)) rfl (by kernel_rfl) (by kernel_rfl) (by kernel_rfl) (fun _ _ _ h => h) (Or.inl ⟨by kernel_rfl, ?_⟩) (by assumption) ?_
                  · intro W_ hSw
                    obtain ⟨s0, s1⟩ := hSw
                    first | (go_simp; done) | (go_simp; with_reducible rfl) | (go_simp; rfl)
                  try simp only [Act.put, List.setIfInBounds_toArray, List.set_cons_zero, List.set_cons_succ]
                  refine wpAnyH_take (i := 7) (v := (.bool false)) rfl (by kernel_rfl) (by kernel_rfl) (by kernel_rfl) (fun _ _ _ h => h) (Or.inl ⟨by kernel_rfl, ?_⟩) (by assumption) ?_
                  · intro W_ hSw
                    obtain ⟨s0, s1⟩ := hSw
                    first | (go_simp; done) | (go_simp; with_reducible rfl) | (go_simp; rfl)
                  try simp only [Act.put, List.setIfInBounds_toArray, List.set_cons_zero, List.set_cons_succ]
                  refine wpAnyH_take (i := 8) (v := (.bool false)) rfl (by kernel_rfl) (by kernel_rfl) (by kernel_rfl) (fun _ _ _ h => h) (Or.inl ⟨by kernel_rfl, ?_⟩) (by assumption) ?_
                  · intro W_ hSw
                    obtain ⟨s0, s1⟩ := hSw
                    first | (go_simp; done) | (go_simp; with_reducible rfl) | (go_simp; rfl)
                  try simp only [Act.put, List.setIfInBounds_toArray, List.set_cons_zero, List.set_cons_succ]
                  refine wpAnyH_take (i := 9) (v := (.slice (some ⟨gl, 0, none⟩) L.length c)) rfl (by kernel_rfl) (by kernel_rfl) (by kernel_rfl) (fun _ _ _ h => h) (Or.inl ⟨by kernel_rfl, ?_⟩) (by assumption) ?_
                  · intro W_ hSw
                    obtain ⟨s0, s1⟩ := hSw
                    first | (go_simp; done) | (go_simp; with_reducible rfl) | (go_simp; rfl)
                  try simp only [Act.put, List.setIfInBounds_toArray, List.set_cons_zero, List.set_cons_succ]
                  refine wpAnyH_take (i := 10) (v := (.int .i64 (k : Int))) rfl (by kernel_rfl) (by kernel_rfl) (by kernel_rfl) (fun _ _ _ h => h) (Or.inl ⟨by kernel_rfl, ?_⟩) (by assumption) ?_
                  · intro W_ hSw
                    obtain ⟨s0, s1⟩ := hSw
                    first | (go_simp; done) | (go_simp; with_reducible rfl) | (go_simp; rfl)
                  try simp only [Act.put, List.setIfInBounds_toArray, List.set_cons_zero, List.set_cons_succ]
                  refine wpAnyH_take (i := 11) (v := (.string s)) rfl (by kernel_rfl) (by kernel_rfl) (by kernel_rfl) (fun _ _ _ h => h) (Or.inl ⟨by kernel_rfl, ?_⟩) (by assumption) ?_
                  · intro W_ hSw
                    obtain ⟨s0, s1⟩ := hSw
                    first | (go_simp; done) | (go_simp; with_reducible rfl) | (go_simp; rfl)
                  try simp only [Act.put, List.setIfInBounds_toArray, List.set_cons_zero, List.set_cons_succ]
                  refine wpAnyH_take (i := 12) (v := (.int .i64 ((j + 1 : Nat) : Int))) rfl (by kernel_rfl) (by kernel_rfl) (by kernel_rfl) (fun _ _ _ h => h) (Or.inl ⟨by kernel_rfl, ?_⟩) (by assumption) ?_
                  · intro W_ hSw
                    obtain ⟨s0, s1⟩ := hSw
                    first | (go_simp; done) | (go_simp; with_reducible rfl) | (go_simp; rfl)
                  try simp only [Act.put, List.setIfInBounds_toArray, List.set_cons_zero, List.set_cons_succ]
                  refine wpAnyH_take (i := 13) (v := (.int .i64 (j : Int))) rfl (by kernel_rfl) (by kernel_rfl) (by kernel_rfl) (fun _ _ _ h => h) (Or.inl ⟨by kernel_rfl, ?_⟩) (by assumption) ?_
                  · intro W_ hSw
                    obtain ⟨s0, s1⟩ := hSw
                    first | (go_simp; done) | (go_simp; with_reducible rfl) | (go_simp; rfl)
                  try simp only [Act.put, List.setIfInBounds_toArray, List.set_cons_zero, List.set_cons_succ]
                  refine wpAnyH_take (i := 14) (v := (.int .u8 (((s[j]'hjs).toNat : Nat) : Int))) rfl (by kernel_rfl) (by kernel_rfl) (by kernel_rfl) (fun _ _ _ h => h) (Or.inl ⟨by kernel_rfl, ?_⟩) (by assumption) ?_
                  · intro W_ hSw
                    obtain ⟨s0, s1⟩ := hSw
                    first | (go_simp; done) | (go_simp; with_reducible rfl) | (go_simp; rfl)
                  try simp only [Act.put, List.setIfInBounds_toArray, List.set_cons_zero, List.set_cons_succ]
                  refine wpAnyH_take (i := 15) (v := (.pointer (some ⟨gl, k * 257, none⟩))) rfl (by kernel_rfl) (by kernel_rfl) (by kernel_rfl) (fun _ _ _ h => h) (Or.inl ⟨by kernel_rfl, ?_⟩) (by assumption) ?_
                  · intro W_ hSw
                    obtain ⟨s0, s1⟩ := hSw
                    first | (go_simp; done) | (go_simp; with_reducible rfl) | (go_simp; rfl)
                  try simp only [Act.put, List.setIfInBounds_toArray, List.set_cons_zero, List.set_cons_succ]
                  refine wpAnyH_take (i := 16) (v := (.pointer (some ⟨gl, k * 257 + 1, none⟩))) rfl (by kernel_rfl) (by kernel_rfl) (by kernel_rfl) (fun _ _ _ h => h) (Or.inl ⟨by kernel_rfl, ?_⟩) (by assumption) ?_
                  · intro W_ hSw
                    obtain ⟨s0, s1⟩ := hSw
                    first | (go_simp; done) | (go_simp; with_reducible rfl) | (go_simp; rfl)
                  try simp only [Act.put, List.setIfInBounds_toArray, List.set_cons_zero, List.set_cons_succ]
                  refine wpAnyH_take (i := 17) (v := (.pointer (some ⟨gl, k * 257 + 1 + (s[j]'hjs).toNat, none⟩))) rfl (by kernel_rfl) (by kernel_rfl) (by kernel_rfl) (fun _ _ _ h => h) (Or.inl ⟨by kernel_rfl, ?_⟩) (by assumption) ?_
                  · intro W_ hSw
                    obtain ⟨s0, s1⟩ := hSw
                    first | (go_simp; done) | (go_simp; with_reducible rfl) | (go_simp; rfl)
                  try simp only [Act.put, List.setIfInBounds_toArray, List.set_cons_zero, List.set_cons_succ]
                  refine wpAnyH_take (i := 18) (v := (.bool (pk.2 (s[j]'hjs).toNat))) rfl (by kernel_rfl) (by kernel_rfl) (by kernel_rfl) (fun _ _ _ h => h) (Or.inl ⟨by kernel_rfl, ?_⟩) (by assumption) ?_
                  · intro W_ hSw
                    obtain ⟨s0, s1⟩ := hSw
                    first | (go_simp; done) | (go_simp; with_reducible rfl) | (go_simp; rfl)
                  try simp only [Act.put, List.setIfInBounds_toArray, List.set_cons_zero, List.set_cons_succ]
                  refine wpAnyH_take (i := 19) (v := (.bool (pk.2 (s[j]'hjs).toNat))) rfl (by kernel_rfl) (by kernel_rfl) (by kernel_rfl) (fun _ _ _ h => h) (Or.inl ⟨by kernel_rfl, ?_⟩) (by assumption) ?_
                  · intro W_ hSw
                    obtain ⟨s0, s1⟩ := hSw
                    first | (go_simp; done) | (go_simp; with_reducible rfl) | (go_simp; rfl)
                  try simp only [Act.put, List.setIfInBounds_toArray, List.set_cons_zero, List.set_cons_succ]
                  refine wpAnyH_take (i := 20) (v := (.pointer (some ⟨g8, j + 1, none⟩))) rfl (by kernel_rfl) (by kernel_rfl) (by kernel_rfl) (fun _ _ _ h => h) (Or.inl ⟨by kernel_rfl, ?_⟩) (by assumption) ?_
                  · intro W_ hSw
                    obtain ⟨s0, s1⟩ := hSw
                    first | (go_simp; done) | (go_simp; with_reducible rfl) | (go_simp; rfl)
                  try simp only [Act.put, List.setIfInBounds_toArray, List.set_cons_zero, List.set_cons_succ]
                  refine next_setB 21 (p := 89) (s := 88) (g := g8) (x := j + 1) (b := pk.2 (s[j]'hjs).toNat) (c := doneF F (j + 1) (j + 1)) (by kernel_rfl) (by kernel_rfl) (by kernel_rfl) (by kernel_rfl) (cell_below Q2.out DR.out) ((R8.out.below DR.out).free _) (fun w8 hW => ⟨by rw [hW]; exact keep14 HGL.out hHeld, ?_⟩)
                  refine wpAnyH_done (by kernel_rfl) ?_ _
                  have HW := Aside0.mk hW
                  clear hW hHeld
                  go_wp2_with fail
                  go_roundw
                  case rel => exact ⟨j + 1 + 1, by simp, by have := HLE.out; omega, by rw [HW.out]; exact (R5.out.below DR.out).other NE.out _, by rw [HW.out, ← done_step, HV.out]; exact (R8.out.below DR.out).set (j + 1) _, by rw [HW.out]; exact own_else (HO.out.below DR.out) (R8.out.below DR.out), by rw [HW.out]; exact below_set (below_tr BK.out DR.out) G8.out⟩
                  case measure => have := HLE.out; simp [intOf] <;> omega
        · have hi2 : i = s.size + 1 := by omega
          subst hi2
          have i1 : ¬ (((s.size + 1 : Nat) : Int) ≤ (s.size : Int)) := by omega
          go_wp2_with fail
          go_roundw
          case rel => exact ⟨k + 1, g8, by simp, rfl, by have := HN.out; omega, Nat.le_trans BB.out.size G8.out, by rw [← HF.out]; exact R8.out.congr (fun i_ hi_ => by unfold doneF; rw [if_pos hi_]), HO.out, below_tr BB.out BK.out⟩
          case measure => simp [intOf] <;> omega
    · have hkn : k = n := by have := HN.out; omega
      subst hkn
      have e1 : ¬ ((k : Int) < (L.length : Int)) := by have := HN.out; omega
      have e2 : ¬ (k < L.length) := by have := HN.out; omega
      have z5 := R5.out.at s.size (Nat.lt_succ_self _)
      have z6 : (s.size : Int) < (s.size : Int) + 1 := by omega
      have z7 : (0 : Int) ≤ (s.size : Int) := Int.natCast_nonneg _
      go_wp2_with fail
      go_ret
      refine ⟨?_, BB.out⟩
      unfold matchL
      rw [← HLD.out]
      have e_ : tabK s.data.toList L k = L.foldl (stepF s.data.toList) (fun i => i == 0) := by unfold tabK; rw [HN.out, List.take_length]
      rw [← e_, ← ba_size]
      rfl
end Go.Proofs.Ytncdoanemfnjjaa.Gl
