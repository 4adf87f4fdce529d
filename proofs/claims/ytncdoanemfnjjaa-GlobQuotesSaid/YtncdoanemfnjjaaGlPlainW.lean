/- The document's Plain and All, walked by hand. -/
import Derived.Test.YtncdoanemfnjjaaGlMatchW
import Derived.Test.YtncdoanemfnjjaaGlPlain
import Derived.Test.YtncdoanemfnjjaaX0
namespace Go.Proofs.Ytncdoanemfnjjaa.Gl
open Go.RowKit Go.Proofs.YtncdoanemfnjjaaW.PrintWords Go.Proofs.YtncdoanemfnjjaaW.PrintMore Go.Proofs.YtncdoanemfnjjaaW.PrintLast Go.Proofs.Ytncdoanemfnjjaa.Y Go.Proofs.Ytncdoanemfnjjaa.X Go.Proofs.Ytncdoanemfnjjaa.Pure
set_option linter.unusedVariables false
set_option linter.unusedSimpArgs false
/-- A row of bytes of one's own; one of texts. -/
def OwnB (W : World) (base : Nat) (v : Value) (l : List UInt8) : Prop := (Kd.int .u8).R 5 W base (fun _ => True) v (ints l)
def OwnS (W : World) (base : Nat) (v : Value) (l : List ByteArray) : Prop := Kd.string.R 9 W base (fun _ => True) v l
theorem OwnP.over {W w1 : World} {b b' : Nat} {u v : Value} {L : List PV} {l : List UInt8} (h : OwnP W b u L) (hv : OwnB W b' v l) (hg : W.grownBy w1 v.ownBlock) : OwnP w1 b u L :=
  Kd.R_over h hv (by intro q hq; rcases List.mem_cons.1 hq with rfl | hq; (exact (by decide : (42 : Nat) ≠ 5)); (cases hq)) hg
def keepB (h : Nat → Bool) (c : Nat) : List UInt8 := ((List.range c).filter h).map UInt8.ofNat
theorem keepB_step (h : Nat → Bool) (c : Nat) : keepB h (c + 1) = keepB h c ++ (if h c = true then [UInt8.ofNat c] else []) := by
  unfold keepB
  rw [List.range_succ, List.filter_append, List.map_append]
  congr 1
  by_cases hc : h c = true
  · rw [if_pos hc, List.filter_cons, if_pos hc]; rfl
  · rw [if_neg hc, List.filter_cons, if_neg hc]; rfl
theorem keepB_len (h : Nat → Bool) (c : Nat) : (keepB h c).length ≤ c := by
  unfold keepB
  rw [List.length_map]
  exact Nat.le_trans (List.length_filter_le _ _) (by rw [List.length_range]; exact Nat.le_refl _)
def RelP1 (w : World) (v4 : Value) (L : List PV) (v5 v6 : Value) (wr : World) : Prop := ∃ (k : Nat) (bs : List UInt8), v6 = .int .i64 k ∧ k ≤ L.length ∧ bs.length ≤ 256 * k ∧ OwnB wr w.heap.size v5 bs ∧ plainK L = (plainK (L.drop k)).map (bs ++ ·) ∧ OwnP wr w.heap.size v4 L ∧ Below w.heap.size w wr
def RelP2 (w : World) (v4 : Value) (L : List PV) (bs : List UInt8) (h : Nat → Bool) (v5 v7 : Value) (wr : World) : Prop := ∃ (c : Nat), v7 = .int .i64 c ∧ c ≤ 256 ∧ OwnB wr w.heap.size v5 (bs ++ keepB h c) ∧ OwnP wr w.heap.size v4 L ∧ Below w.heap.size w wr
theorem plainK_at (L : List PV) (k : Nat) (hk : k < L.length) (h4 : (L[k]'hk).1 = 4) : plainK (L.drop k) = (plainK (L.drop (k + 1))).map (bytesP (L[k]'hk) ++ ·) := by
  rw [List.drop_eq_getElem_cons hk, plainK, if_pos h4]
theorem plainK_no (L : List PV) (k : Nat) (hk : k < L.length) (h4 : (L[k]'hk).1 ≠ 4) : plainK (L.drop k) = none := by
  rw [List.drop_eq_getElem_cons hk, plainK, if_neg h4]
theorem ints_app1 (bs : List UInt8) (d : Nat) (hd : d < 256) : ints (bs ++ [UInt8.ofNat d]) = ints bs ++ [(d : Int)] := by
  unfold ints
  rw [List.map_append]
  congr 1
  show [((UInt8.ofNat d).toNat : Int)] = [(d : Int)]
  rw [show (UInt8.ofNat d).toNat = d by simp [Nat.mod_eq_of_lt hd]]
theorem str_at {W : World} {A : Option Addr} {l : List ByteArray} (h : Kd.C Kd.string W A l.length l) (i : Nat) (hi : i < l.length) : ∃ ad, A = some ad ∧ W.cell? (ad.add i) = some (.string (l[i]'hi)) := by
  obtain ⟨_, _, h3⟩ := h
  obtain ⟨ad, hA, hj⟩ := h3 (by omega)
  obtain ⟨cs, hcl, hK, hcc⟩ := hj i (l[i]'hi) (List.getElem?_eq_getElem hi)
  have hK : cs = [.string (l[i]'hi)] := hK
  subst hK
  have := hcc 0 _ rfl
  exact ⟨ad, hA, by simpa [show Kd.string.sz = 1 from rfl] using this⟩
set_option maxHeartbeats 4000000 in
set_option maxRecDepth 100000 in
theorem rplain_calls (p : ByteArray) (hp : p.size ≤ 1000) (w : World) :
    Calls Try.prog 13 #[.string p] w fun e w' => e = .returned (.tuple #[.string (plainR [] (plainL p.data.toList)).1, .bool (plainR [] (plainL p.data.toList)).2]) ∧ Below w.heap.size w w' := by
  have hu := Try.underlying42
  have hu40 := Try.underlying40
  have hu38 := Try.underlying38
  have BB := Aside0.mk (Below.refl w.heap.size w)
  go_enter Try.func13, Try.ntmps13
  go_wp2_with fail
  go_at_call 19
  with_reducible refine Calls.mono (parts_calls p (by omega) _) ?_
  rintro e w3 ⟨v6, rfl, ho, hb⟩
  have BB' := Aside0.mk (below_tr BB.out hb)
  have BS := Aside0.mk BB.out.size
  clear BB
  obtain ⟨L, hLd⟩ : ∃ L, L = partsL p.data.toList := ⟨_, rfl⟩
  rw [← hLd] at ho
  have HPK := Aside0.mk (show plainK L = plainL p.data.toList from by rw [hLd]; exact plainK_is _ _ (Nat.le_refl _))
  have HKD := Aside0.mk (show ∀ q ∈ L, q.1 = 1 ∨ q.1 = 2 ∨ q.1 = 3 ∨ q.1 = 4 from by rw [hLd]; exact parts_kind _ _ (Nat.le_refl _))
  have HLN := Aside0.mk (show L.length ≤ 1000 from by rw [hLd]; exact Nat.le_trans (parts_len _ _ (Nat.le_refl _)) (by rw [← ba_size]; omega))
  have HO := Aside0.mk (show OwnP w3 w.heap.size v6 L from Kd.R_lower ho BS.out)
  clear ho hb hLd
  obtain ⟨A, c, hv⟩ := HO.out.slice
  subst hv
  go_wp2_with fail
  go_loopw [5, 6] (fun v5 v6 wr => RelP1 w (.slice A L.length c) L v5 v6 wr) (fun _ v6 _ => L.length - (intOf v6).toNat)
  case atStart => exact ⟨0, [], rfl, Nat.zero_le _, Nat.le_refl _, Kd.R_nil _ _ _ _ _, by rw [List.drop_zero]; cases plainK L <;> rfl, HO.out, BB'.out⟩
  case round =>
    clear HO BB'
    obtain ⟨k, bs, rfl, hk, hbl, hob, hpk, ho, hb⟩ := hrel
    have HO := Aside0.mk ho
    have HB5 := Aside0.mk hob
    have BB := Aside0.mk hb
    have HPL := Aside0.mk hpk
    have HBL := Aside0.mk hbl
    clear ho hob hb hpk hbl
    by_cases hlt : k < L.length
    · have e1 : ((k : Int) < (L.length : Int)) := by omega
      have hk0 : (0 : Int) ≤ (k : Int) := Int.natCast_nonneg _
      have ek : IntKind.i64.wrap ((k : Int) + 1) = ((k : Int) + 1) := by have := HLN.out; rw [IntKind.wrap_i64]; omega
      obtain ⟨gl, hA, c0, _⟩ := HO.out.at k hlt
      subst hA
      obtain ⟨pk, hpk⟩ : ∃ pk, pk = L[k]'hlt := ⟨_, rfl⟩
      rw [← hpk] at c0
      have hks := HKD.out pk (by rw [hpk]; exact List.getElem_mem _)
      have HAT := Aside0.mk (fun (W : World) (h : OwnP W w.heap.size (.slice (some ⟨gl, 0, none⟩) L.length c) L) => (show ∀ d, d < 256 → W.cell? ⟨gl, k * 257 + 1 + d, none⟩ = some (.bool (pk.2 d)) from by obtain ⟨g_, e_, h1, h2⟩ := h.at k hlt; injection e_ with e_; injection e_ with e_; subst e_; rw [hpk]; exact h2))
      have HP4 := Aside0.mk (fun h => (show plainK (L.drop k) = (plainK (L.drop (k + 1))).map (bytesP pk ++ ·) from by rw [hpk]; exact plainK_at L k hlt (by rw [← hpk]; exact h)))
      have HPN := Aside0.mk (fun h => plainK_no L k hlt (by rw [← hpk]; exact h))
      have HLT := Aside0.mk hlt
      clear hpk
      rcases hks with hk2 | hk2 | hk2 | hk2
      · rw [hk2] at c0
        have HPN2 := Aside0.mk (HPN.out (by rw [hk2]; decide))
        have d3 : ((1 : Int) == 4) = false := rfl
        go_wp2_with fail
        go_ret2
        refine ⟨?_, BB.out⟩
        rw [← HPK.out, HPL.out, HPN2.out]
        rfl
      · rw [hk2] at c0
        have HPN2 := Aside0.mk (HPN.out (by rw [hk2]; decide))
        have d3 : ((2 : Int) == 4) = false := rfl
        go_wp2_with fail
        go_ret2
        refine ⟨?_, BB.out⟩
        rw [← HPK.out, HPL.out, HPN2.out]
        rfl
      · rw [hk2] at c0
        have HPN2 := Aside0.mk (HPN.out (by rw [hk2]; decide))
        have d3 : ((3 : Int) == 4) = false := rfl
        go_wp2_with fail
        go_ret2
        refine ⟨?_, BB.out⟩
        rw [← HPK.out, HPL.out, HPN2.out]
        rfl
      · rw [hk2] at c0
        have d3 : ((4 : Int) == 4) = true := rfl
        have HP5 := Aside0.mk (HP4.out hk2)
        go_wp2_with fail
        go_loopw [5, 7] (fun v5 v7 wq => RelP2 w (.slice (some ⟨gl, 0, none⟩) L.length c) L bs pk.2 v5 v7 wq) (fun _ v7 _ => 256 - (intOf v7).toNat)
        case atStart => exact ⟨0, rfl, by omega, by rw [show keepB pk.2 0 = [] from rfl, List.append_nil]; exact HB5.out, HO.out, BB.out⟩
        case round =>
          clear HB5 HO BB c0
          obtain ⟨d, rfl, hd, hob, ho, hb⟩ := hrel
          have HO := Aside0.mk ho
          have HB5 := Aside0.mk hob
          have BB := Aside0.mk hb
          clear ho hob hb
          by_cases hd2 : d < 256
          · have q0 : (d : Int) < 256 := by omega
            have q1 : (0 : Int) ≤ (d : Int) := Int.natCast_nonneg _
            have q2 := HAT.out _ HO.out d hd2
            have q5 : IntKind.i64.wrap ((d : Int) + 1) = ((d : Int) + 1) := by rw [IntKind.wrap_i64]; omega
            have q6 : IntKind.u8.wrap (d : Int) = (d : Int) := by show (d : Int) % 256 = (d : Int); omega
            have HD := Aside0.mk hd2
            cases hh : pk.2 d with
            | false =>
              rw [hh] at q2
              go_wp2_with fail
              go_roundw
              case rel => exact ⟨d + 1, by simp, by have := HD.out; omega, by rw [keepB_step, if_neg (by rw [hh]; decide), List.append_nil]; exact HB5.out, HO.out, BB.out⟩
              case measure => have := HD.out; simp [intOf] <;> omega
            | true =>
              rw [hh] at q2
              have HH := Aside0.mk hh
              have LEN := Aside0.mk (show ((ints (bs ++ keepB pk.2 d)).length + 1) * 1 ≤ 140737488355328 from by have h1 := keepB_len pk.2 d; have h2 := HBL.out; have h3 := HLN.out; rw [ints_length, List.length_append]; omega)
              go_wp2_with (first | ((with_reducible refine gate_builtin (b := .append) (xs := #[.tmp 33, .tmp 36]) rfl ?_); at_builtin; refine Kd.R_append (Kd.int .u8) (w0 := w) w.heap.size rfl (.tmp 33) (.tmp 36) 43 5 (.int .u8 0) 1 rfl Try.underlying43 info5 rfl (by decide) (by omega) _ (ints (bs ++ keepB pk.2 d)) (d : Int) [.int .u8 (d : Int)] (fun _ => True) (fun _ => False) rfl rfl ?aP (fun _ hk => hk.elim) (fun _ _ => trivial) HB5.out BB.out BB.out.size ?aL ?_; (case aP => exact rfl); (case aL => exact LEN.out); intro v9 w9 hR hB hG hat; have T_ := Aside0.mk (HO.out.over HB5.out hG); clear HO; have HO := T_; clear T_; clear HB5; have HB5 := Aside0.mk (show OwnB w9 w.heap.size v9 (bs ++ keepB pk.2 (d + 1)) from by rw [keepB_step, if_pos HH.out, ← List.append_assoc]; unfold OwnB; rw [ints_app1 _ _ HD.out]; exact hR); clear BB; have BB := Aside0.mk hB; clear hR hB hG hat))
              go_roundw
              case rel => exact ⟨d + 1, by simp, by have := HD.out; omega, HB5.out, HO.out, BB.out⟩
              case measure => have := HD.out; simp [intOf] <;> omega
          · have hd3 : d = 256 := by omega
            subst hd3
            have q0 : ¬ (((256 : Nat) : Int) < 256) := by omega
            go_wp2_with fail
            go_roundw
            case rel => exact ⟨k + 1, bs ++ bytesP pk, by simp, by have := HLT.out; omega, by have h1 := keepB_len pk.2 256; have h2 := HBL.out; rw [List.length_append]; show bs.length + (keepB pk.2 256).length ≤ _; omega, HB5.out, by rw [HPL.out, HP5.out]; cases plainK (L.drop (k + 1)) with | none => rfl | some x => simp, HO.out, BB.out⟩
            case measure => have := HLT.out; simp [intOf] <;> omega
    · have hkn : k = L.length := by omega
      have e1 : ¬ ((k : Int) < (L.length : Int)) := by omega
      have hstr := own_string (P := Try.prog) (src := 43) (dst := 9) Try.underlying43 Try.underlying5 Try.underlying9 (Kd.own_of_R HB5.out)
      go_wp2_with fail
      go_ret2
      refine ⟨?_, BB.out⟩
      rw [← HPK.out, HPL.out, hkn, List.drop_length]
      show _ = Ending.returned (.tuple #[.string (⟨(([] : List UInt8) ++ (bs ++ [])).toArray⟩ : ByteArray), .bool true])
      rw [List.nil_append, List.append_nil, ← strOf_ints]
      rfl
def RelA (w : World) (p : ByteArray) (l : List ByteArray) (v5 v6 : Value) (wr : World) : Prop := ∃ i : Nat, v6 = .int .i64 i ∧ i ≤ l.length ∧ OwnS wr w.heap.size v5 ((l.take i).filter (fun s => matchL p.data.toList s.data.toList)) ∧ Below w.heap.size w wr
set_option maxHeartbeats 4000000 in
set_option maxRecDepth 100000 in
theorem rall_calls (p : ByteArray) (hp : p.size ≤ 1000) (l : List ByteArray) (hl : l.length ≤ 1000) (hs : ∀ s ∈ l, s.size ≤ 1000) (A : Option Addr) (c : Nat) (hc : l.length ≤ c) (w : World) (hr : Kd.C Kd.string w A l.length l) :
    Calls Try.prog 17 #[.string p, .slice A l.length c] w fun e w' => ∃ v, e = .returned v ∧ OwnS w' w.heap.size v (l.filter (fun s => matchL p.data.toList s.data.toList)) ∧ Below w.heap.size w w' := by
  have HR := Aside0.mk hr
  have HS := Aside0.mk hs
  have HL := Aside0.mk hl
  clear hr hs hl
  go_enter Try.func17, Try.ntmps17
  go_wp2_with fail
  go_loopw [5, 6] (fun v5 v6 wr => RelA w p l v5 v6 wr) (fun _ v6 _ => l.length - (intOf v6).toNat)
  case atStart => exact ⟨0, rfl, Nat.zero_le _, Kd.R_nil _ _ _ _ _, Below.refl _ _⟩
  case round =>
    obtain ⟨i, rfl, hi, ho, hb⟩ := hrel
    have HO := Aside0.mk ho
    have BB := Aside0.mk hb
    clear ho hb
    by_cases hlt : i < l.length
    · have e1 : ((i : Int) < (l.length : Int)) := by omega
      have i0 : (0 : Int) ≤ (i : Int) := Int.natCast_nonneg _
      have ek : IntKind.i64.wrap ((i : Int) + 1) = ((i : Int) + 1) := by have := HL.out; rw [IntKind.wrap_i64]; omega
      have HLT := Aside0.mk hlt
      obtain ⟨s, hsd⟩ : ∃ s, s = l[i]'hlt := ⟨_, rfl⟩
      obtain ⟨ad, hA, hc0⟩ := str_at HR.out i hlt
      subst hA
      rw [← hsd] at hc0
      have hx := cell_below hc0 BB.out
      have HT := Aside0.mk (show l.take (i + 1) = l.take i ++ [s] from by rw [List.take_add_one, List.getElem?_eq_getElem hlt, ← hsd]; rfl)
      have HM := Aside0.mk (fun W => rmatch_calls p s (by omega) (by have := HS.out s (by rw [hsd]; exact List.getElem_mem _); omega) W)
      clear hsd
      obtain ⟨b, hbd⟩ : ∃ b, b = matchL p.data.toList s.data.toList := ⟨_, rfl⟩
      rw [← hbd] at HM
      have HBD := Aside0.mk hbd
      clear hbd hc0
      go_wp2_with fail
      go_at_call 10
      with_reducible refine Calls.mono (HM.out _) ?_
      rintro e w4 ⟨rfl, hb⟩
      have hx := cell_below hx hb
      have T_ := Aside0.mk ((show OwnS w4 w.heap.size _ _ from Kd.R_below HO.out hb))
      clear HO
      have HO := T_
      clear T_
      have T_ := Aside0.mk (below_tr BB.out hb)
      clear BB
      have BB := T_
      clear T_
      clear hb HM
      cases b with
      | false =>
        go_wp2_with fail
        go_roundw
        case rel => exact ⟨i + 1, by simp, by have := HLT.out; omega, by rw [HT.out, List.filter_append, List.filter_cons, if_neg (by rw [← HBD.out]; decide)]; simpa using HO.out, BB.out⟩
        case measure => have := HLT.out; simp [intOf] <;> omega
      | true =>
        have LEN := Aside0.mk (show (((l.take i).filter (fun s => matchL p.data.toList s.data.toList)).length + 1) * 16 ≤ 140737488355328 from by have h1 := List.length_filter_le (fun s => matchL p.data.toList s.data.toList) (l.take i); rw [List.length_take] at h1; have := HL.out; omega)
        go_wp2_with (first | ((with_reducible refine gate_builtin (b := .append) (xs := #[.tmp 19, .tmp 24]) rfl ?_); at_builtin; refine Kd.R_append Kd.string (w0 := w) w.heap.size rfl (.tmp 19) (.tmp 24) 29 9 (.string ⟨#[]⟩) 16 rfl Try.underlying29 info9 rfl (by decide) (by omega) _ ((l.take i).filter (fun s => matchL p.data.toList s.data.toList)) s [.string s] (fun _ => True) (fun _ => False) rfl rfl ?aP (fun _ hk => hk.elim) (fun _ _ => trivial) HO.out BB.out BB.out.size ?aL ?_; (case aP => exact rfl); (case aL => exact LEN.out); intro v9 w9 hR hB hG hat; clear HO; have HO := Aside0.mk (show OwnS w9 w.heap.size v9 ((l.take (i + 1)).filter (fun s => matchL p.data.toList s.data.toList)) from by rw [HT.out, List.filter_append, List.filter_cons, if_pos HBD.out.symm]; exact hR); clear BB; have BB := Aside0.mk hB; clear hR hB hG hat))
        go_roundw
        case rel => exact ⟨i + 1, by simp, by have := HLT.out; omega, HO.out, BB.out⟩
        case measure => have := HLT.out; simp [intOf] <;> omega
    · have e1 : ¬ ((i : Int) < (l.length : Int)) := by omega
      have HI := Aside0.mk (show l.take i = l from List.take_of_length_le (by omega))
      rw [HI.out] at HO
      go_wp2_with fail
      go_ret
      exact ⟨_, rfl, HO.out, BB.out⟩
end Go.Proofs.Ytncdoanemfnjjaa.Gl
