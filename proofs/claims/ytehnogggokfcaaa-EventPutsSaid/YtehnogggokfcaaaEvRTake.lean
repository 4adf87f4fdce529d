/- The document's event of a line (mewsref47.Take). -/
import Derived.Test.YtehnogggokfcaaaEvRk
namespace Go.Proofs.Ytehnogggokfcaaa.Ev
open Go.RowKit Go.Proofs.YtehnogggokfcaaaW.PrintWords Go.Proofs.YtehnogggokfcaaaW.PrintMore Go.Proofs.YtehnogggokfcaaaW.PrintLast Go.Proofs.Ytehnogggokfcaaa.Y Go.Proofs.Ytehnogggokfcaaa.X Go.Proofs.Ytehnogggokfcaaa.Pure Go.Proofs.Ytehnogggokfcaaa.LM
set_option linter.unusedVariables false
set_option linter.unusedSimpArgs false
attribute [local go_sem ↓] Go.wp_at_zero Go.wp_at_succ
def EK (k : Int) : Ec := ⟨k, 0, ⟨#[]⟩, 0, 0, ⟨#[]⟩, 0, 0, none, 0, 0⟩
def Rel1 (w : World) (g2 g6 gl : Nat) (l : List ByteArray) (ub : ByteArray) (wr : World) : Prop := ∃ i : Nat, 1 ≤ i ∧ i ≤ 8 ∧ (∀ j, 1 ≤ j → j < i → ub ≠ nm j) ∧ Rk w wr g2 g6 gl l (EK (i : Int))
def mzK (g6 : Nat) (wr : World) : Nat := match wr.cell? ⟨g6, 0, none⟩ with
  | some (.int _ i) => 9 - i.toNat
  | _ => 0
theorem mzK_is {wr : World} {g6 i : Nat} {k : IntKind} (h : wr.cell? ⟨g6, 0, none⟩ = some (.int k (i : Int))) : mzK g6 wr = 9 - i := by unfold mzK; rw [h]; simp
def Rel2 (w : World) (g2 g6 gl m K : Nat) (l a : List ByteArray) (f : List UInt8) (v8 v9 : Value) (wr : World) : Prop := ∃ (i : Nat) (p : S26 × Bool) (A : Option Addr) (n c : Nat), v9 = .int .i64 (i : Int) ∧ i ≤ m ∧ p = runP (f.take i) (a.take i) (k0 K, true) ∧ v8 = .bool p.2 ∧ n = p.1.f6.length ∧ n ≤ i ∧ Rk w wr g2 g6 gl l (ecN p.1 A n c) ∧ OwnL wr w.heap.size (.slice A n c) p.1.f6
theorem step_last121 (y : ByteArray) (pe : S26) (L0 : List S43) (q : S43) (hL : pe.f6 = L0 ++ [q]) {pb : Bool} : stepP 121 y (pe, pb) = (({ pe with f6 := L0 ++ [{ q with f1 := { q.f1 with f0 := y } }] } : S26), pb && true) := by
  simp [stepP, hL, setLast_snoc]
theorem step_last119 (y : ByteArray) (pe : S26) (L0 : List S43) (q : S43) (hL : pe.f6 = L0 ++ [q]) {pb : Bool} : stepP 119 y (pe, pb) = (({ pe with f6 := L0 ++ [{ q with f1 := { q.f1 with f1 := pv y } }] } : S26), pb && pk y) := by
  simp [stepP, hL, setLast_snoc]
set_option maxHeartbeats 40000000 in
set_option maxRecDepth 100000 in
theorem rtake_words (s wd : ByteArray) (a : List ByteArray) (m : Nat) (hm : m = a.length) (hm2 : m ≤ 1000000) (hs : s.size ≤ 1000000000) (hwd : wd.size ≤ 1000000) (hal : ∀ x ∈ a, x.size ≤ 1000000) (hsp : splitB s = some (wd :: a)) (R : S26 × Int) (hR : R = kindP (kindOf (up wd)) a) (w : World) : Calls Try.prog 13 #[.string s] w fun e w' => ∃ A c, e = .returned (.tuple #[.agg (ecL (ecOf R.1 A c)), .int .i64 R.2]) ∧ R.1.f6.length ≤ c ∧ Kd.C k43 w' A R.1.f6.length R.1.f6 ∧ Below w.heap.size w w' := by
  have hu := Try.underlying26
  obtain ⟨r1, r2, hr, -, hcon⟩ := split_c s (by omega)
  rw [hsp] at hr
  injection hr with hr1 hr2
  obtain rfl : r1 = wd :: a := hr1
  obtain rfl : r2 = true := hr2
  try clear hr1
  try clear hr2
  have HCON := Aside0.mk hcon
  have HM := Aside0.mk hm
  have HM2 := Aside0.mk hm2
  have HWD := Aside0.mk hwd
  have HAL := Aside0.mk hal
  have HR := Aside0.mk hR
  clear hcon hm hm2 hwd hal hR hsp
  have dd1 : decide (((m + 1 : Nat) : Int) = 0) = false := decide_eq_false (by omega)
  have dd2 : (((m + 1 : Nat) : Int) == 0) = false := beq_eq_false_iff_ne.2 (by omega)
  go_enter Try.func13, Try.ntmps13
  go_wp2_with (first | ((with_reducible refine gate_dst (N := 2) rfl ?_); refine box_event ?hg (N := 2) ?hd (cs := #[.int .i64 0, .int .i64 0, .string (⟨#[]⟩ : ByteArray), .int .i64 0, .int .i64 0, .string (⟨#[]⟩ : ByteArray), .int .i64 0, .int .i64 0, .slice none 0 0]) (t := 26) ?hr ?_; (case hd => rfl); (case hg => rfl); (case hr => first | (go_simp; done) | (go_simp; rfl)); intro g2 hg_ w1 hbox hb; have Gg2 := Aside0.mk hg_; have Eg2 := Aside0.mk (show EB w1 g2 Ec.z from hbox); have Bg2 := Aside0.mk hb; clear hbox hb hg_; ) | (go_at_call 30; (with_reducible refine Calls.mono (HCON.out _) ?_); rintro _ wx ⟨v0_, rfl, hOT, hb⟩; obtain ⟨gl, c1, hv, hc1, htx⟩ := hOT.txb (by simp); rw [List.length_cons, ← HM.out] at hv hc1; subst hv; have BX := Aside0.mk hb; have TX := Aside0.mk htx; clear hOT hb htx hc1) | ((with_reducible refine gate_dst (N := 6) rfl ?_); refine box_event ?hg (N := 6) ?hd (cs := #[.int .i64 0, .int .i64 0, .string (⟨#[]⟩ : ByteArray), .int .i64 0, .int .i64 0, .string (⟨#[]⟩ : ByteArray), .int .i64 0, .int .i64 0, .slice none 0 0]) (t := 26) ?hr ?_; (case hd => rfl); (case hg => rfl); (case hr => first | (go_simp; done) | (go_simp; rfl)); intro g6 hg_ w5 hbox hb; have G6 := Aside0.mk hg_; have E60 := Aside0.mk (show EB w5 g6 ⟨0, 0, ⟨#[]⟩, 0, 0, ⟨#[]⟩, 0, 0, none, 0, 0⟩ from hbox); have B60 := Aside0.mk hb; obtain ⟨u0, u1, u2, u3, u4, u5, u6, u7, u8⟩ := E60.out.cells; dsimp only at u0 u1 u2 u3 u4 u5 u6 u7 u8; obtain ⟨v0, v1, v2, v3, v4, v5, v6, v7, v8⟩ := E60.out.free; clear hbox hb hg_; ) | ((with_reducible refine gate_store (t := 26) (p := 6) rfl ?_); refine ev_store (w1 := (((((((((w5.setCell ⟨g6, 0, none⟩ (.int .i64 1)).setCell ⟨g6, 1, none⟩ (.int .i64 0)).setCell ⟨g6, 2, none⟩ (.string (⟨#[]⟩ : ByteArray))).setCell ⟨g6, 3, none⟩ (.int .i64 0)).setCell ⟨g6, 4, none⟩ (.int .i64 0)).setCell ⟨g6, 5, none⟩ (.string (⟨#[]⟩ : ByteArray))).setCell ⟨g6, 6, none⟩ (.int .i64 0)).setCell ⟨g6, 7, none⟩ (.int .i64 0)).setCell ⟨g6, 8, none⟩ (.slice none 0 0))) ?hg ?hn ?hr ?_; (case hg => rfl); (case hn => rfl); (case hr => first | (go_simp; done) | (go_simp; rfl)); intro w6 hW_; have HW6 := Aside0.mk hW_; clear hW_; clear u0 u1 u2 u3 u4 u5 u6 u7 u8 v0 v1 v2 v3 v4 v5 v6 v7 v8; have N26 := Aside0.mk (show g2 ≠ g6 from by have := Eg2.out.lt; have := BX.out.size; have := G6.out; omega); have HG2 := Aside0.mk (show w.heap.size ≤ g2 from Nat.le_of_eq Gg2.out.symm); have HG6 := Aside0.mk (show w.heap.size ≤ g6 from by have := Bg2.out.size; have := BX.out.size; have := G6.out; omega); have K0 := Aside0.mk (show Rk w w6 g2 g6 gl (wd :: a) (EK ((1 : Nat) : Int)) from by rw [HW6.out]; exact ⟨(w9_other N26.out ⟨1, 0, ⟨#[]⟩, 0, 0, ⟨#[]⟩, 0, 0, none, 0, 0⟩).trans ((Eg2.out.below BX.out).below B60.out), EB.put E60.out ⟨1, 0, ⟨#[]⟩, 0, 0, ⟨#[]⟩, 0, 0, none, 0, 0⟩, (TX.out.below B60.out).move (w9_other ((TX.out.below B60.out).ne E60.out (by decide)) ⟨1, 0, ⟨#[]⟩, 0, 0, ⟨#[]⟩, 0, 0, none, 0, 0⟩), N26.out, w9_below (below_all_ (below_all_ Bg2.out BX.out) B60.out) HG6.out ⟨1, 0, ⟨#[]⟩, 0, 0, ⟨#[]⟩, 0, 0, none, 0, 0⟩, HG2.out, HG6.out⟩); clear HW6 E60 B60 G6 BX TX Bg2 Eg2 Gg2))
  obtain ⟨ub, hub⟩ : ∃ ub, ub = up wd := ⟨_, rfl⟩
  have HUB := Aside0.mk hub
  clear hub dd1 dd2
  try simp only [Act.put, List.getElem_toArray, List.getElem_cons_succ, List.getElem_cons_zero, List.setIfInBounds_toArray, List.set_cons_zero, List.set_cons_succ]
  go_loopw [] (fun wr => Rel1 w g2 g6 gl (wd :: a) ub wr) (fun wr => mzK g6 wr)
  case atStart => exact ⟨1, Nat.le_refl _, by omega, fun j h1 h2 => absurd h2 (by omega), K0.out⟩
  case round =>
    clear K0
    obtain ⟨i, hi1, hi8, hno, hk_⟩ := hrel
    have KI := Aside0.mk hk_
    have HI1 := Aside0.mk hi1
    have HI8 := Aside0.mk hi8
    have HNO := Aside0.mk hno
    have MZ := Aside0.mk (mzK_is hk_.e6.cells.1)
    clear hk_ hi1 hi8 hno
    have d1 : decide ((i : Int) ≤ 8) = true := decide_eq_true (by have := HI8.out; omega)
    obtain ⟨nb, hnb⟩ : ∃ nb, nb = nm i := ⟨_, rfl⟩
    have HNB := Aside0.mk hnb
    clear hnb
    go_wp2_with fail
    refine region_drew (fun W_ => EB W_ g6 ⟨(i : Int), 0, ⟨#[]⟩, 0, 0, ⟨#[]⟩, 0, 0, none, 0, 0⟩ ∧ TxB W_ gl 0 (wd :: a)) (by kernel_rfl) (fun d_ hd_ he_ => ?_)
    have KD := Aside0.mk (KI.out.below hd_)
    clear hd_ he_
    refine ⟨⟨KD.out.e6, KD.out.tx⟩, fun hHeld => ?_⟩
    refine wpAnyH_take (i := 0) (v := .pointer (some ⟨g6, 0, none⟩)) rfl (by kernel_rfl) (by kernel_rfl) (by kernel_rfl) (fun _ _ _ h => h) (Or.inl ⟨by kernel_rfl, ?_⟩) (by assumption) ?_
    · intro W_ hSw
      obtain ⟨hs1, hs2⟩ := hSw
      obtain ⟨q0, -⟩ := EB.cells (e := ⟨(i : Int), 0, ⟨#[]⟩, 0, 0, ⟨#[]⟩, 0, 0, none, 0, 0⟩) hs1
      dsimp only at q0
      have q1 : W_.cell? ⟨gl, 0, none⟩ = some (.string wd) := hs2.at 0 (by simp)
      clear hs1 hs2
      skip
      first | (go_simp; done) | (go_simp; with_reducible rfl) | (go_simp; rfl)
    refine wpAnyH_take (i := 1) (v := .int .i64 (i : Int)) rfl (by kernel_rfl) (by kernel_rfl) (by kernel_rfl) (fun _ _ _ h => h) (Or.inl ⟨by kernel_rfl, ?_⟩) (by assumption) ?_
    · intro W_ hSw
      obtain ⟨hs1, hs2⟩ := hSw
      obtain ⟨q0, -⟩ := EB.cells (e := ⟨(i : Int), 0, ⟨#[]⟩, 0, 0, ⟨#[]⟩, 0, 0, none, 0, 0⟩) hs1
      dsimp only at q0
      have q1 : W_.cell? ⟨gl, 0, none⟩ = some (.string wd) := hs2.at 0 (by simp)
      clear hs1 hs2
      skip
      first | (go_simp; done) | (go_simp; with_reducible rfl) | (go_simp; rfl)
    refine wpAnyH_take (i := 2) (v := .bool true) rfl (by kernel_rfl) (by kernel_rfl) (by kernel_rfl) (fun _ _ _ h => h) (Or.inl ⟨by kernel_rfl, ?_⟩) (by assumption) ?_
    · intro W_ hSw
      obtain ⟨hs1, hs2⟩ := hSw
      obtain ⟨q0, -⟩ := EB.cells (e := ⟨(i : Int), 0, ⟨#[]⟩, 0, 0, ⟨#[]⟩, 0, 0, none, 0, 0⟩) hs1
      dsimp only at q0
      have q1 : W_.cell? ⟨gl, 0, none⟩ = some (.string wd) := hs2.at 0 (by simp)
      clear hs1 hs2
      skip
      first | (go_simp; done) | (go_simp; with_reducible rfl) | (go_simp; rfl)
    refine wpAnyH_take (i := 3) (v := .bool true) rfl (by kernel_rfl) (by kernel_rfl) (by kernel_rfl) (fun _ _ _ h => h) (Or.inl ⟨by kernel_rfl, ?_⟩) (by assumption) ?_
    · intro W_ hSw
      obtain ⟨hs1, hs2⟩ := hSw
      obtain ⟨q0, -⟩ := EB.cells (e := ⟨(i : Int), 0, ⟨#[]⟩, 0, 0, ⟨#[]⟩, 0, 0, none, 0, 0⟩) hs1
      dsimp only at q0
      have q1 : W_.cell? ⟨gl, 0, none⟩ = some (.string wd) := hs2.at 0 (by simp)
      clear hs1 hs2
      skip
      first | (go_simp; done) | (go_simp; with_reducible rfl) | (go_simp; rfl)
    refine wpAnyH_take (i := 4) (v := .pointer (some ⟨g6, 0, none⟩)) rfl (by kernel_rfl) (by kernel_rfl) (by kernel_rfl) (fun _ _ _ h => h) (Or.inl ⟨by kernel_rfl, ?_⟩) (by assumption) ?_
    · intro W_ hSw
      obtain ⟨hs1, hs2⟩ := hSw
      obtain ⟨q0, -⟩ := EB.cells (e := ⟨(i : Int), 0, ⟨#[]⟩, 0, 0, ⟨#[]⟩, 0, 0, none, 0, 0⟩) hs1
      dsimp only at q0
      have q1 : W_.cell? ⟨gl, 0, none⟩ = some (.string wd) := hs2.at 0 (by simp)
      clear hs1 hs2
      skip
      first | (go_simp; done) | (go_simp; with_reducible rfl) | (go_simp; rfl)
    refine wpAnyH_take (i := 5) (v := .int .i64 (i : Int)) rfl (by kernel_rfl) (by kernel_rfl) (by kernel_rfl) (fun _ _ _ h => h) (Or.inl ⟨by kernel_rfl, ?_⟩) (by assumption) ?_
    · intro W_ hSw
      obtain ⟨hs1, hs2⟩ := hSw
      obtain ⟨q0, -⟩ := EB.cells (e := ⟨(i : Int), 0, ⟨#[]⟩, 0, 0, ⟨#[]⟩, 0, 0, none, 0, 0⟩) hs1
      dsimp only at q0
      have q1 : W_.cell? ⟨gl, 0, none⟩ = some (.string wd) := hs2.at 0 (by simp)
      clear hs1 hs2
      skip
      first | (go_simp; done) | (go_simp; with_reducible rfl) | (go_simp; rfl)
    refine wpAnyH_take (i := 7) (v := .slice (some ⟨gl, 0, none⟩) (m + 1) c1) rfl (by kernel_rfl) (by kernel_rfl) (by kernel_rfl) (fun _ _ _ h => h) (Or.inl ⟨by kernel_rfl, ?_⟩) (by assumption) ?_
    · intro W_ hSw
      obtain ⟨hs1, hs2⟩ := hSw
      obtain ⟨q0, -⟩ := EB.cells (e := ⟨(i : Int), 0, ⟨#[]⟩, 0, 0, ⟨#[]⟩, 0, 0, none, 0, 0⟩) hs1
      dsimp only at q0
      have q1 : W_.cell? ⟨gl, 0, none⟩ = some (.string wd) := hs2.at 0 (by simp)
      clear hs1 hs2
      skip
      first | (go_simp; done) | (go_simp; with_reducible rfl) | (go_simp; rfl)
    refine wpAnyH_take (i := 8) (v := .pointer (some ⟨gl, 0, none⟩)) rfl (by kernel_rfl) (by kernel_rfl) (by kernel_rfl) (fun _ _ _ h => h) (Or.inl ⟨by kernel_rfl, ?_⟩) (by assumption) ?_
    · intro W_ hSw
      obtain ⟨hs1, hs2⟩ := hSw
      obtain ⟨q0, -⟩ := EB.cells (e := ⟨(i : Int), 0, ⟨#[]⟩, 0, 0, ⟨#[]⟩, 0, 0, none, 0, 0⟩) hs1
      dsimp only at q0
      have q1 : W_.cell? ⟨gl, 0, none⟩ = some (.string wd) := hs2.at 0 (by simp)
      clear hs1 hs2
      skip
      first | (go_simp; done) | (go_simp; with_reducible rfl) | (go_simp; rfl)
    refine wpAnyH_take (i := 9) (v := .string wd) rfl (by kernel_rfl) (by kernel_rfl) (by kernel_rfl) (fun _ _ _ h => h) (Or.inl ⟨by kernel_rfl, ?_⟩) (by assumption) ?_
    · intro W_ hSw
      obtain ⟨hs1, hs2⟩ := hSw
      obtain ⟨q0, -⟩ := EB.cells (e := ⟨(i : Int), 0, ⟨#[]⟩, 0, 0, ⟨#[]⟩, 0, 0, none, 0, 0⟩) hs1
      dsimp only at q0
      have q1 : W_.cell? ⟨gl, 0, none⟩ = some (.string wd) := hs2.at 0 (by simp)
      clear hs1 hs2
      skip
      first | (go_simp; done) | (go_simp; with_reducible rfl) | (go_simp; rfl)
    try simp only [Act.put, List.getElem_toArray, List.getElem_cons_succ, List.getElem_cons_zero, List.setIfInBounds_toArray, List.set_cons_zero, List.set_cons_succ]
    clear hHeld
    have cn_ := name_c i (by have := HI1.out; omega) HI8.out d_
    rw [← HNB.out] at cn_
    refine next_le (i := 6) (rs := []) (by kernel_rfl) ?_
    refine cons_callG 6 (N := 32) (xs := #[.tmp 31]) (ts := #[3]) (by kernel_rfl) Try.func19 (by kernel_rfl) rfl #[.int .i64 (i : Int)] (by kernel_rfl) ?_ AllReadyH.nil
    with_reducible refine Calls.mono (cn_) ?_
    rintro _ wa ⟨rfl, hb⟩
    have KA := Aside0.mk (KD.out.below hb)
    clear hb cn_
    have cu_ := rupper_c wd HWD.out wa
    rw [← HUB.out] at cu_
    refine ⟨_, rfl, ⟨KA.out.e6, KA.out.tx⟩, ?_⟩
    try simp only [Act.put, List.getElem_toArray, List.getElem_cons_succ, List.getElem_cons_zero, List.setIfInBounds_toArray, List.set_cons_zero, List.set_cons_succ]
    refine next_le (i := 10) (rs := []) (by kernel_rfl) ?_
    refine cons_callG 10 (N := 36) (xs := #[.tmp 35]) (ts := #[9]) (by kernel_rfl) Try.func31 (by kernel_rfl) rfl #[.string wd] (by kernel_rfl) ?_ AllReadyH.nil
    with_reducible refine Calls.mono (cu_) ?_
    rintro _ wb ⟨rfl, hb⟩
    have KB := Aside0.mk (KA.out.below hb)
    clear hb cu_
    refine ⟨_, rfl, ⟨KB.out.e6, KB.out.tx⟩, ?_⟩
    try simp only [Act.put, List.getElem_toArray, List.getElem_cons_succ, List.getElem_cons_zero, List.setIfInBounds_toArray, List.set_cons_zero, List.set_cons_succ]
    have hHeld : EB wb g6 ⟨(i : Int), 0, ⟨#[]⟩, 0, 0, ⟨#[]⟩, 0, 0, none, 0, 0⟩ ∧ TxB wb gl 0 (wd :: a) := ⟨KB.out.e6, KB.out.tx⟩
    by_cases hEq : nb = ub
    · have HK := Aside0.mk (show kindOf (up wd) = i from by rw [← HUB.out, ← hEq, HNB.out]; exact kind_nm2 ⟨i, by have := HI8.out; omega⟩ (by have := HI1.out; show i ≠ 0; omega))
      subst hEq
      refine wpAnyH_take (i := 11) (v := .bool false) rfl (by kernel_rfl) (by kernel_rfl) (by kernel_rfl) (fun _ _ _ h => h) (Or.inl ⟨by kernel_rfl, ?_⟩) (by assumption) ?_
      · intro W_ hSw
        clear hSw
        skip
        first | (go_simp; done) | (go_simp; with_reducible rfl) | (go_simp; rfl)
      refine wpAnyH_take (i := 12) (v := .bool false) rfl (by kernel_rfl) (by kernel_rfl) (by kernel_rfl) (fun _ _ _ h => h) (Or.inl ⟨by kernel_rfl, ?_⟩) (by assumption) ?_
      · intro W_ hSw
        clear hSw
        skip
        first | (go_simp; done) | (go_simp; with_reducible rfl) | (go_simp; rfl)
      try simp only [Act.put, List.getElem_toArray, List.getElem_cons_succ, List.getElem_cons_zero, List.setIfInBounds_toArray, List.set_cons_zero, List.set_cons_succ]
      clear hHeld d1
      refine wpAnyH_done (by kernel_rfl) ?_ _
      obtain ⟨u0, u1, u2, u3, u4, u5, u6, u7, u8⟩ := KB.out.e6.cells; dsimp only [EK] at u0 u1 u2 u3 u4 u5 u6 u7 u8; obtain ⟨v0, v1, v2, v3, v4, v5, v6, v7, v8⟩ := KB.out.e6.free; obtain ⟨p0, p1, p2, p3, p4, p5, p6, p7, p8⟩ := (show EB _ g2 ⟨0, 0, ⟨#[]⟩, 0, 0, ⟨#[]⟩, 0, 0, none, 0, 0⟩ from KB.out.e2).cells; dsimp only at p0 p1 p2 p3 p4 p5 p6 p7 p8; obtain ⟨r0, r1, r2, r3, r4, r5, r6, r7, r8⟩ := KB.out.e2.free
      have z1 : IntKind.i64.wrap (m : Int) = (m : Int) := by have := HM2.out; rw [IntKind.wrap_i64]; omega
      have z1b : wrap64 (m : Int) = (m : Int) := by have := HM2.out; unfold wrap64; omega
      have z3 : Int.tdiv (m : Int) 3 = ((m / 3 : Nat) : Int) := by rw [Int.tdiv_eq_ediv_of_nonneg (by omega)]; omega
      have z4 : IntKind.i64.wrap ((m / 3 : Nat) : Int) = ((m / 3 : Nat) : Int) := by have := HM2.out; rw [IntKind.wrap_i64]; omega
      have z4b : wrap64 ((m / 3 : Nat) : Int) = ((m / 3 : Nat) : Int) := by have := HM2.out; unfold wrap64; omega
      obtain ⟨f, hf⟩ : ∃ f, f = formP i (m / 3) := ⟨_, rfl⟩
      have HF := Aside0.mk hf
      obtain ⟨fb, hfb⟩ : ∃ fb, fb = ofL f := ⟨_, rfl⟩
      have HFB := Aside0.mk hfb
      obtain ⟨q3, hq3⟩ : ∃ q3, q3 = m / 3 := ⟨_, rfl⟩
      have HQ3 := Aside0.mk hq3
      rw [← hq3] at z3 z4 z4b
      have FC : ∀ w0, Calls Try.prog 20 #[.int .i64 (i : Int), .int .i64 (q3 : Int)] w0 fun e w' => e = .returned (.string fb) ∧ Below w0.heap.size w0 w' := fun w0 => by rw [hfb, hf, ← hq3]; exact form_c i q3 (by have := HI1.out; omega) HI8.out (by have := HM2.out; omega) w0
      have HFC := Aside0.mk FC
      clear FC hf hfb hq3
      by_cases hfs : fb.size = m
      · skip
        have HFS := Aside0.mk (show f.length = m from by rw [← ofL_size, ← HFB.out]; exact hfs)
        have HRR := Aside0.mk (show R = doneP (runP f a (k0 i, true)) from by
          rw [HR.out, HK.out]; unfold kindP
          rw [if_neg (by rintro (h | h); (have := HI1.out; omega); rw [(form_len i a.length (by have := HI1.out; omega) HI8.out).1 (by rw [← HM.out, ← HF.out]; exact HFS.out)] at h; cases h), ← HM.out, ← HF.out])
        have n1 : ((fb.size : Int) == (m : Int)) = true := by rw [hfs]; exact beq_self_eq_true _
        have n2 : decide ((fb.size : Int) = (m : Int)) = true := decide_eq_true (by rw [hfs])
        go_wp2_with (first | (go_at_call 20; (with_reducible refine Calls.mono (HFC.out _) ?_); rintro _ wf ⟨rfl, hb⟩; have KF := Aside0.mk (KB.out.below hb); clear hb u0 u1 u2 u3 u4 u5 u6 u7 u8 v0 v1 v2 v3 v4 v5 v6 v7 v8 p0 p1 p2 p3 p4 p5 p6 p7 p8 r0 r1 r2 r3 r4 r5 r6 r7 r8; obtain ⟨p0, p1, p2, p3, p4, p5, p6, p7, p8⟩ := (show EB _ g2 ⟨0, 0, ⟨#[]⟩, 0, 0, ⟨#[]⟩, 0, 0, none, 0, 0⟩ from KF.out.e2).cells; dsimp only at p0 p1 p2 p3 p4 p5 p6 p7 p8; obtain ⟨r0, r1, r2, r3, r4, r5, r6, r7, r8⟩ := KF.out.e2.free))
        clear p0 p1 p2 p3 p4 p5 p6 p7 p8 r0 r1 r2 r3 r4 r5 r6 r7 r8
        go_loopw [8, 9] (fun v8 v9 wr => Rel2 w g2 g6 gl m i (wd :: a) a f v8 v9 wr) (fun _ v9 _ => m - (intOf v9).toNat)
        case atStart => exact ⟨0, (k0 i, true), none, 0, 0, rfl, Nat.zero_le _, rfl, rfl, rfl, Nat.le_refl _, KF.out, OwnL.nil _ _⟩
        case round =>
          clear KF KB KA KD KI
          obtain ⟨j, p, A, n, c, rfl, hj, hp, rfl, hn, hnj, hk_, ho_⟩ := hrel
          have HJ := Aside0.mk hj
          have HP := Aside0.mk hp
          have HN := Aside0.mk hn
          have HNJ := Aside0.mk hnj
          have KP := Aside0.mk hk_
          have OP := Aside0.mk ho_
          clear hj hp hn hnj hk_ ho_
          by_cases hlt : j < m
          · have HLT := Aside0.mk hlt
            have e1 : ((j : Int) < (m : Int)) := by omega
            have e1' : ((j : Int) < (fb.size : Int)) := by omega
            have e2 : (0 : Int) ≤ (j : Int) := Int.natCast_nonneg _
            have hjs : j < fb.size := by omega
            have hjf : j < f.length := by have := HFS.out; omega
            have hja : j < a.length := by have := HM.out; omega
            obtain ⟨y, hy⟩ : ∃ y, y = a[j] := ⟨_, rfl⟩
            obtain ⟨sg, hsg⟩ : ∃ sg, sg = f[j] := ⟨_, rfl⟩
            have HST := Aside0.mk (show runP (f.take (j + 1)) (a.take (j + 1)) (k0 i, true) = stepP sg y p from by rw [runP_snoc f a _ j hjf hja, ← HP.out, hsg, hy])
            have HSG := Aside0.mk (show (sg = 104 ∨ sg = 110 ∨ sg = 115 ∨ sg = 116 ∨ sg = 102 ∨ sg = 107 ∨ sg = 122 ∨ sg = 120 ∨ sg = 121 ∨ sg = 119) ∧ ((sg = 121 ∨ sg = 119) → p.1.f6 ≠ []) from by
              have h9 := form_sign i (m / 3) (by have := HI1.out; omega) HI8.out a (by rw [← HM.out, ← HF.out]; exact HFS.out.symm) j (by rw [← HF.out]; exact hjf)
              rw [HP.out, hsg]
              simp only [← HF.out] at h9
              exact h9)
            have HY := Aside0.mk (show y.size ≤ 1000000 from by rw [hy]; exact HAL.out _ (List.getElem_mem _))
            have t1 : wr.cell? ⟨gl, j + 1, none⟩ = some (.string y) := by have h9 := KP.out.tx.at (j + 1) (by simp; omega); rw [Nat.zero_add] at h9; rw [h9, hy]; rfl
            have ea : (⟨gl, 0, none⟩ : Addr).add (j + 1) = ⟨gl, j + 1, none⟩ := by unfold Addr.add; split <;> simp_all
            have e3 : IntKind.i64.wrap ((j : Int) + 1) = (j : Int) + 1 := by have := HM2.out; rw [IntKind.wrap_i64]; omega
            have e4 : (0 : Int) ≤ (j : Int) + 1 := by omega
            have e5 : (j : Int) + 1 < (m : Int) + 1 := by omega
            have e6 : ((j : Int) + 1).toNat = j + 1 := by omega
            have e7 := eq_true e4
            have e8 := eq_true e5
            have e9 := eq_true e2
            have e10 := eq_true e1'
            have sgx : (fb[j]'hjs) = sg := by rw [hsg]; subst_vars; have h9 := HFB.out; subst h9; rfl
            clear hy hsg hlt hjf hja n1 n2
            rcases HSG.out.1 with rfl | rfl | rfl | rfl | rfl | rfl | rfl | rfl | rfl | rfl
            · obtain ⟨pe, pb⟩ := p
              obtain ⟨pv2, hpv⟩ : ∃ pv2, pv2 = pb := ⟨_, rfl⟩
              have HPV := Aside0.mk hpv
              clear hpv
              cases pb
              all_goals
                go_wp2_with (first | (go_at_call 32; (with_reducible refine Calls.mono (rparse_c y HY.out _) ?_); rintro _ wp ⟨rfl, hb⟩; have KQ := Aside0.mk (KP.out.below hb); have OQ := Aside0.mk (OP.out.below hb); clear hb t1; obtain ⟨u0, u1, u2, u3, u4, u5, u6, u7, u8⟩ := KQ.out.e6.cells; dsimp only [ecN, EK] at u0 u1 u2 u3 u4 u5 u6 u7 u8; obtain ⟨v0, v1, v2, v3, v4, v5, v6, v7, v8⟩ := KQ.out.e6.free; obtain ⟨p0, p1, p2, p3, p4, p5, p6, p7, p8⟩ := (show EB _ g2 ⟨0, 0, ⟨#[]⟩, 0, 0, ⟨#[]⟩, 0, 0, none, 0, 0⟩ from KQ.out.e2).cells; dsimp only at p0 p1 p2 p3 p4 p5 p6 p7 p8; obtain ⟨r0, r1, r2, r3, r4, r5, r6, r7, r8⟩ := KQ.out.e2.free) | ((with_reducible refine gate_store (t := 3) (p := 93) rfl ?_); refine ev_store (w1 := wp.setCell ⟨g6, 1, none⟩ (.int .i64 (pv y))) ?hg ?hn ?hr ?_; (case hg => rfl); (case hn => rfl); (case hr => first | (go_simp; done) | (go_simp; rfl)); intro wq hW_; have HWQ := Aside0.mk hW_; clear hW_; clear u0 u1 u2 u3 u4 u5 u6 u7 u8 v0 v1 v2 v3 v4 v5 v6 v7 v8 p0 p1 p2 p3 p4 p5 p6 p7 p8 r0 r1 r2 r3 r4 r5 r6 r7 r8; have KX := Aside0.mk (show Rk w wq g2 g6 gl (wd :: a) (ecN { pe with f1 := pv y } A n c) from by rw [HWQ.out]; exact KQ.out.set (KQ.out.e6.setH (pv y))); have OX := Aside0.mk (show OwnL wq w.heap.size (.slice A n c) pe.f6 from by rw [HWQ.out]; exact OQ.out.set KQ.out.e6 (by decide) _ _); clear HWQ))
                go_roundw
                case rel => exact ⟨j + 1, ({ pe with f1 := pv y }, pv2 && pk y), A, n, c, by simp, by have := HLT.out; omega, by rw [HPV.out, HST.out]; rfl, by rw [HPV.out]; first | rfl | simp, HN.out, by have := HNJ.out; omega, KX.out, OX.out⟩
                case measure => have := HLT.out; simp [intOf] <;> omega
            · obtain ⟨pe, pb⟩ := p
              obtain ⟨pv2, hpv⟩ : ∃ pv2, pv2 = pb := ⟨_, rfl⟩
              have HPV := Aside0.mk hpv
              clear hpv
              cases pb
              all_goals
                go_wp2_with (first | (go_at_call 32; (with_reducible refine Calls.mono (rparse_c y HY.out _) ?_); rintro _ wp ⟨rfl, hb⟩; have KQ := Aside0.mk (KP.out.below hb); have OQ := Aside0.mk (OP.out.below hb); clear hb t1; obtain ⟨u0, u1, u2, u3, u4, u5, u6, u7, u8⟩ := KQ.out.e6.cells; dsimp only [ecN, EK] at u0 u1 u2 u3 u4 u5 u6 u7 u8; obtain ⟨v0, v1, v2, v3, v4, v5, v6, v7, v8⟩ := KQ.out.e6.free; obtain ⟨p0, p1, p2, p3, p4, p5, p6, p7, p8⟩ := (show EB _ g2 ⟨0, 0, ⟨#[]⟩, 0, 0, ⟨#[]⟩, 0, 0, none, 0, 0⟩ from KQ.out.e2).cells; dsimp only at p0 p1 p2 p3 p4 p5 p6 p7 p8; obtain ⟨r0, r1, r2, r3, r4, r5, r6, r7, r8⟩ := KQ.out.e2.free) | ((with_reducible refine gate_store (t := 2) (p := 97) rfl ?_); refine ev_store (w1 := wp.setCell ⟨g6, 3, none⟩ (.int .i64 (pv y))) ?hg ?hn ?hr ?_; (case hg => rfl); (case hn => rfl); (case hr => first | (go_simp; done) | (go_simp; rfl)); intro wq hW_; have HWQ := Aside0.mk hW_; clear hW_; clear u0 u1 u2 u3 u4 u5 u6 u7 u8 v0 v1 v2 v3 v4 v5 v6 v7 v8 p0 p1 p2 p3 p4 p5 p6 p7 p8 r0 r1 r2 r3 r4 r5 r6 r7 r8; have KX := Aside0.mk (show Rk w wq g2 g6 gl (wd :: a) (ecN { pe with f3 := pv y } A n c) from by rw [HWQ.out]; exact KQ.out.set (KQ.out.e6.setN (pv y))); have OX := Aside0.mk (show OwnL wq w.heap.size (.slice A n c) pe.f6 from by rw [HWQ.out]; exact OQ.out.set KQ.out.e6 (by decide) _ _); clear HWQ))
                go_roundw
                case rel => exact ⟨j + 1, ({ pe with f3 := pv y }, pv2 && pk y), A, n, c, by simp, by have := HLT.out; omega, by rw [HPV.out, HST.out]; rfl, by rw [HPV.out]; first | rfl | simp, HN.out, by have := HNJ.out; omega, KX.out, OX.out⟩
                case measure => have := HLT.out; simp [intOf] <;> omega
            · obtain ⟨pe, pb⟩ := p
              obtain ⟨pv2, hpv⟩ : ∃ pv2, pv2 = pb := ⟨_, rfl⟩
              have HPV := Aside0.mk hpv
              clear hpv
              cases pb
              all_goals
                go_wp2_with (first | (go_at_call 32; (with_reducible refine Calls.mono (rparse_c y HY.out _) ?_); rintro _ wp ⟨rfl, hb⟩; have KQ := Aside0.mk (KP.out.below hb); have OQ := Aside0.mk (OP.out.below hb); clear hb t1; obtain ⟨u0, u1, u2, u3, u4, u5, u6, u7, u8⟩ := KQ.out.e6.cells; dsimp only [ecN, EK] at u0 u1 u2 u3 u4 u5 u6 u7 u8; obtain ⟨v0, v1, v2, v3, v4, v5, v6, v7, v8⟩ := KQ.out.e6.free; obtain ⟨p0, p1, p2, p3, p4, p5, p6, p7, p8⟩ := (show EB _ g2 ⟨0, 0, ⟨#[]⟩, 0, 0, ⟨#[]⟩, 0, 0, none, 0, 0⟩ from KQ.out.e2).cells; dsimp only at p0 p1 p2 p3 p4 p5 p6 p7 p8; obtain ⟨r0, r1, r2, r3, r4, r5, r6, r7, r8⟩ := KQ.out.e2.free) | ((with_reducible refine gate_store (t := 9) (p := 101) rfl ?_); refine ev_store (w1 := wp.setCell ⟨g6, 2, none⟩ (.string y)) ?hg ?hn ?hr ?_; (case hg => rfl); (case hn => rfl); (case hr => first | (go_simp; done) | (go_simp; rfl)); intro wq hW_; have HWQ := Aside0.mk hW_; clear hW_; clear u0 u1 u2 u3 u4 u5 u6 u7 u8 v0 v1 v2 v3 v4 v5 v6 v7 v8 p0 p1 p2 p3 p4 p5 p6 p7 p8 r0 r1 r2 r3 r4 r5 r6 r7 r8; have KX := Aside0.mk (show Rk w wq g2 g6 gl (wd :: a) (ecN { pe with f2 := y } A n c) from by rw [HWQ.out]; exact KQ.out.set (KQ.out.e6.setS y)); have OX := Aside0.mk (show OwnL wq w.heap.size (.slice A n c) pe.f6 from by rw [HWQ.out]; exact OQ.out.set KQ.out.e6 (by decide) _ _); clear HWQ))
                go_roundw
                case rel => exact ⟨j + 1, ({ pe with f2 := y }, pv2 && true), A, n, c, by simp, by have := HLT.out; omega, by rw [HPV.out, HST.out]; rfl, by rw [HPV.out]; first | rfl | simp, HN.out, by have := HNJ.out; omega, KX.out, OX.out⟩
                case measure => have := HLT.out; simp [intOf] <;> omega
            · obtain ⟨pe, pb⟩ := p
              obtain ⟨pv2, hpv⟩ : ∃ pv2, pv2 = pb := ⟨_, rfl⟩
              have HPV := Aside0.mk hpv
              clear hpv
              cases pb
              all_goals
                go_wp2_with (first | (go_at_call 32; (with_reducible refine Calls.mono (rparse_c y HY.out _) ?_); rintro _ wp ⟨rfl, hb⟩; have KQ := Aside0.mk (KP.out.below hb); have OQ := Aside0.mk (OP.out.below hb); clear hb t1; obtain ⟨u0, u1, u2, u3, u4, u5, u6, u7, u8⟩ := KQ.out.e6.cells; dsimp only [ecN, EK] at u0 u1 u2 u3 u4 u5 u6 u7 u8; obtain ⟨v0, v1, v2, v3, v4, v5, v6, v7, v8⟩ := KQ.out.e6.free; obtain ⟨p0, p1, p2, p3, p4, p5, p6, p7, p8⟩ := (show EB _ g2 ⟨0, 0, ⟨#[]⟩, 0, 0, ⟨#[]⟩, 0, 0, none, 0, 0⟩ from KQ.out.e2).cells; dsimp only at p0 p1 p2 p3 p4 p5 p6 p7 p8; obtain ⟨r0, r1, r2, r3, r4, r5, r6, r7, r8⟩ := KQ.out.e2.free) | ((with_reducible refine gate_store (t := 3) (p := 105) rfl ?_); refine ev_store (w1 := wp.setCell ⟨g6, 4, none⟩ (.int .i64 (pv y))) ?hg ?hn ?hr ?_; (case hg => rfl); (case hn => rfl); (case hr => first | (go_simp; done) | (go_simp; rfl)); intro wq hW_; have HWQ := Aside0.mk hW_; clear hW_; clear u0 u1 u2 u3 u4 u5 u6 u7 u8 v0 v1 v2 v3 v4 v5 v6 v7 v8 p0 p1 p2 p3 p4 p5 p6 p7 p8 r0 r1 r2 r3 r4 r5 r6 r7 r8; have KX := Aside0.mk (show Rk w wq g2 g6 gl (wd :: a) (ecN { pe with f4 := pv y } A n c) from by rw [HWQ.out]; exact KQ.out.set (KQ.out.e6.setT (pv y))); have OX := Aside0.mk (show OwnL wq w.heap.size (.slice A n c) pe.f6 from by rw [HWQ.out]; exact OQ.out.set KQ.out.e6 (by decide) _ _); clear HWQ))
                go_roundw
                case rel => exact ⟨j + 1, ({ pe with f4 := pv y }, pv2 && pk y), A, n, c, by simp, by have := HLT.out; omega, by rw [HPV.out, HST.out]; rfl, by rw [HPV.out]; first | rfl | simp, HN.out, by have := HNJ.out; omega, KX.out, OX.out⟩
                case measure => have := HLT.out; simp [intOf] <;> omega
            · obtain ⟨pe, pb⟩ := p
              obtain ⟨pv2, hpv⟩ : ∃ pv2, pv2 = pb := ⟨_, rfl⟩
              have HPV := Aside0.mk hpv
              clear hpv
              cases pb
              all_goals
                go_wp2_with (first | (go_at_call 32; (with_reducible refine Calls.mono (rparse_c y HY.out _) ?_); rintro _ wp ⟨rfl, hb⟩; have KQ := Aside0.mk (KP.out.below hb); have OQ := Aside0.mk (OP.out.below hb); clear hb t1; obtain ⟨u0, u1, u2, u3, u4, u5, u6, u7, u8⟩ := KQ.out.e6.cells; dsimp only [ecN, EK] at u0 u1 u2 u3 u4 u5 u6 u7 u8; obtain ⟨v0, v1, v2, v3, v4, v5, v6, v7, v8⟩ := KQ.out.e6.free; obtain ⟨p0, p1, p2, p3, p4, p5, p6, p7, p8⟩ := (show EB _ g2 ⟨0, 0, ⟨#[]⟩, 0, 0, ⟨#[]⟩, 0, 0, none, 0, 0⟩ from KQ.out.e2).cells; dsimp only at p0 p1 p2 p3 p4 p5 p6 p7 p8; obtain ⟨r0, r1, r2, r3, r4, r5, r6, r7, r8⟩ := KQ.out.e2.free) | ((with_reducible refine gate_store (t := 9) (p := 110) rfl ?_); refine ev_store (w1 := wp.setCell ⟨g6, 5, none⟩ (.string y)) ?hg ?hn ?hr ?_; (case hg => rfl); (case hn => rfl); (case hr => first | (go_simp; done) | (go_simp; rfl)); intro wq hW_; have HWQ := Aside0.mk hW_; clear hW_; clear u0 u1 u2 u3 u4 u5 u6 u7 u8 v0 v1 v2 v3 v4 v5 v6 v7 v8 p0 p1 p2 p3 p4 p5 p6 p7 p8 r0 r1 r2 r3 r4 r5 r6 r7 r8; have KX := Aside0.mk (show Rk w wq g2 g6 gl (wd :: a) (ecN { pe with f5 := { pe.f5 with f0 := y } } A n c) from by rw [HWQ.out]; exact KQ.out.set (KQ.out.e6.setI y)); have OX := Aside0.mk (show OwnL wq w.heap.size (.slice A n c) pe.f6 from by rw [HWQ.out]; exact OQ.out.set KQ.out.e6 (by decide) _ _); clear HWQ))
                go_roundw
                case rel => exact ⟨j + 1, ({ pe with f5 := { pe.f5 with f0 := y } }, pv2 && true), A, n, c, by simp, by have := HLT.out; omega, by rw [HPV.out, HST.out]; rfl, by rw [HPV.out]; first | rfl | simp, HN.out, by have := HNJ.out; omega, KX.out, OX.out⟩
                case measure => have := HLT.out; simp [intOf] <;> omega
            · obtain ⟨pe, pb⟩ := p
              obtain ⟨pv2, hpv⟩ : ∃ pv2, pv2 = pb := ⟨_, rfl⟩
              have HPV := Aside0.mk hpv
              clear hpv
              cases pb
              all_goals
                go_wp2_with (first | (go_at_call 32; (with_reducible refine Calls.mono (rparse_c y HY.out _) ?_); rintro _ wp ⟨rfl, hb⟩; have KQ := Aside0.mk (KP.out.below hb); have OQ := Aside0.mk (OP.out.below hb); clear hb t1; obtain ⟨u0, u1, u2, u3, u4, u5, u6, u7, u8⟩ := KQ.out.e6.cells; dsimp only [ecN, EK] at u0 u1 u2 u3 u4 u5 u6 u7 u8; obtain ⟨v0, v1, v2, v3, v4, v5, v6, v7, v8⟩ := KQ.out.e6.free; obtain ⟨p0, p1, p2, p3, p4, p5, p6, p7, p8⟩ := (show EB _ g2 ⟨0, 0, ⟨#[]⟩, 0, 0, ⟨#[]⟩, 0, 0, none, 0, 0⟩ from KQ.out.e2).cells; dsimp only at p0 p1 p2 p3 p4 p5 p6 p7 p8; obtain ⟨r0, r1, r2, r3, r4, r5, r6, r7, r8⟩ := KQ.out.e2.free) | ((with_reducible refine gate_store (t := 3) (p := 115) rfl ?_); refine ev_store (w1 := wp.setCell ⟨g6, 6, none⟩ (.int .i64 (pv y))) ?hg ?hn ?hr ?_; (case hg => rfl); (case hn => rfl); (case hr => first | (go_simp; done) | (go_simp; rfl)); intro wq hW_; have HWQ := Aside0.mk hW_; clear hW_; clear u0 u1 u2 u3 u4 u5 u6 u7 u8 v0 v1 v2 v3 v4 v5 v6 v7 v8 p0 p1 p2 p3 p4 p5 p6 p7 p8 r0 r1 r2 r3 r4 r5 r6 r7 r8; have KX := Aside0.mk (show Rk w wq g2 g6 gl (wd :: a) (ecN { pe with f5 := { pe.f5 with f1 := pv y } } A n c) from by rw [HWQ.out]; exact KQ.out.set (KQ.out.e6.setFk (pv y))); have OX := Aside0.mk (show OwnL wq w.heap.size (.slice A n c) pe.f6 from by rw [HWQ.out]; exact OQ.out.set KQ.out.e6 (by decide) _ _); clear HWQ))
                go_roundw
                case rel => exact ⟨j + 1, ({ pe with f5 := { pe.f5 with f1 := pv y } }, pv2 && pk y), A, n, c, by simp, by have := HLT.out; omega, by rw [HPV.out, HST.out]; rfl, by rw [HPV.out]; first | rfl | simp, HN.out, by have := HNJ.out; omega, KX.out, OX.out⟩
                case measure => have := HLT.out; simp [intOf] <;> omega
            · obtain ⟨pe, pb⟩ := p
              obtain ⟨pv2, hpv⟩ : ∃ pv2, pv2 = pb := ⟨_, rfl⟩
              have HPV := Aside0.mk hpv
              clear hpv
              cases pb
              all_goals
                go_wp2_with (first | (go_at_call 32; (with_reducible refine Calls.mono (rparse_c y HY.out _) ?_); rintro _ wp ⟨rfl, hb⟩; have KQ := Aside0.mk (KP.out.below hb); have OQ := Aside0.mk (OP.out.below hb); clear hb t1; obtain ⟨u0, u1, u2, u3, u4, u5, u6, u7, u8⟩ := KQ.out.e6.cells; dsimp only [ecN, EK] at u0 u1 u2 u3 u4 u5 u6 u7 u8; obtain ⟨v0, v1, v2, v3, v4, v5, v6, v7, v8⟩ := KQ.out.e6.free; obtain ⟨p0, p1, p2, p3, p4, p5, p6, p7, p8⟩ := (show EB _ g2 ⟨0, 0, ⟨#[]⟩, 0, 0, ⟨#[]⟩, 0, 0, none, 0, 0⟩ from KQ.out.e2).cells; dsimp only at p0 p1 p2 p3 p4 p5 p6 p7 p8; obtain ⟨r0, r1, r2, r3, r4, r5, r6, r7, r8⟩ := KQ.out.e2.free) | ((with_reducible refine gate_store (t := 3) (p := 120) rfl ?_); refine ev_store (w1 := wp.setCell ⟨g6, 7, none⟩ (.int .i64 (pv y))) ?hg ?hn ?hr ?_; (case hg => rfl); (case hn => rfl); (case hr => first | (go_simp; done) | (go_simp; rfl)); intro wq hW_; have HWQ := Aside0.mk hW_; clear hW_; clear u0 u1 u2 u3 u4 u5 u6 u7 u8 v0 v1 v2 v3 v4 v5 v6 v7 v8 p0 p1 p2 p3 p4 p5 p6 p7 p8 r0 r1 r2 r3 r4 r5 r6 r7 r8; have KX := Aside0.mk (show Rk w wq g2 g6 gl (wd :: a) (ecN { pe with f5 := { pe.f5 with f2 := pv y } } A n c) from by rw [HWQ.out]; exact KQ.out.set (KQ.out.e6.setFz (pv y))); have OX := Aside0.mk (show OwnL wq w.heap.size (.slice A n c) pe.f6 from by rw [HWQ.out]; exact OQ.out.set KQ.out.e6 (by decide) _ _); clear HWQ))
                go_roundw
                case rel => exact ⟨j + 1, ({ pe with f5 := { pe.f5 with f2 := pv y } }, pv2 && pk y), A, n, c, by simp, by have := HLT.out; omega, by rw [HPV.out, HST.out]; rfl, by rw [HPV.out]; first | rfl | simp, HN.out, by have := HNJ.out; omega, KX.out, OX.out⟩
                case measure => have := HLT.out; simp [intOf] <;> omega
            · obtain ⟨pe, pb⟩ := p
              obtain ⟨pv2, hpv⟩ : ∃ pv2, pv2 = pb := ⟨_, rfl⟩
              have HPV := Aside0.mk hpv
              clear hpv
              cases pb
              all_goals
                go_wp2_with (first | (go_at_call 32; (with_reducible refine Calls.mono (rparse_c y HY.out _) ?_); rintro _ wp ⟨rfl, hb⟩; have KQ := Aside0.mk (KP.out.below hb); have OQ := Aside0.mk (OP.out.below hb); clear hb t1; obtain ⟨u0, u1, u2, u3, u4, u5, u6, u7, u8⟩ := KQ.out.e6.cells; dsimp only [ecN, EK] at u0 u1 u2 u3 u4 u5 u6 u7 u8; obtain ⟨v0, v1, v2, v3, v4, v5, v6, v7, v8⟩ := KQ.out.e6.free; obtain ⟨p0, p1, p2, p3, p4, p5, p6, p7, p8⟩ := (show EB _ g2 ⟨0, 0, ⟨#[]⟩, 0, 0, ⟨#[]⟩, 0, 0, none, 0, 0⟩ from KQ.out.e2).cells; dsimp only at p0 p1 p2 p3 p4 p5 p6 p7 p8; obtain ⟨r0, r1, r2, r3, r4, r5, r6, r7, r8⟩ := KQ.out.e2.free) | ((with_reducible refine gate_dst (N := 127) rfl ?_); refine ev_val rfl (N := 127) rfl (.slice (some ⟨wp.heap.size, 0, none⟩) 1 1) (wp.alloc (.cells #[.int .i64 (pv y), .string ⟨#[]⟩, .int .i64 0] 43 (0, 0))) (run_l1 _ _ 126 ⟨pv y, ⟨⟨#[]⟩, 0⟩⟩ rfl rfl) ?_) | ((with_reducible refine gate_dst (N := 128) rfl ?_); refine ev_appL3 (W := wp) (w0 := w) w.heap.size rfl (N := 128) rfl 124 127 rfl (.slice A n c) pe.f6 rfl rfl OQ.out KQ.out.b KQ.out.b.size (by rw [← HN.out]; have := HNJ.out; have := HLT.out; have := HM2.out; omega) (fun v9 wz9 hO_ hB_ hG_ => ?_); obtain ⟨A9, c9, hv9, hc9, hC9⟩ := hO_.reads; subst hv9; obtain ⟨n9, hn9⟩ : ∃ n9, n9 = (pe.f6 ++ [(⟨pv y, ⟨⟨#[]⟩, 0⟩⟩ : S43)]).length := ⟨_, rfl⟩; rw [← hn9] at hO_ hc9 hC9 ⊢; have HN9 := Aside0.mk hn9; have KY := Aside0.mk (KQ.out.grown OQ.out hG_ hB_); have OY := Aside0.mk hO_; clear hO_ hB_ hG_ hc9 hC9 hn9; clear u0 u1 u2 u3 u4 u5 u6 u7 u8 v0 v1 v2 v3 v4 v5 v6 v7 v8 p0 p1 p2 p3 p4 p5 p6 p7 p8 r0 r1 r2 r3 r4 r5 r6 r7 r8; obtain ⟨u0, u1, u2, u3, u4, u5, u6, u7, u8⟩ := KY.out.e6.cells; dsimp only [ecN, EK] at u0 u1 u2 u3 u4 u5 u6 u7 u8; obtain ⟨v0, v1, v2, v3, v4, v5, v6, v7, v8⟩ := KY.out.e6.free; obtain ⟨p0, p1, p2, p3, p4, p5, p6, p7, p8⟩ := (show EB _ g2 ⟨0, 0, ⟨#[]⟩, 0, 0, ⟨#[]⟩, 0, 0, none, 0, 0⟩ from KY.out.e2).cells; dsimp only at p0 p1 p2 p3 p4 p5 p6 p7 p8; obtain ⟨r0, r1, r2, r3, r4, r5, r6, r7, r8⟩ := KY.out.e2.free) | ((with_reducible refine gate_store (t := 24) (p := 129) rfl ?_); refine ev_store (w1 := wz9.setCell ⟨g6, 8, none⟩ (.slice A9 n9 c9)) ?hg ?hn ?hr ?_; (case hg => rfl); (case hn => rfl); (case hr => first | (go_simp; done) | (go_simp; rfl)); intro wq hW_; have HWQ := Aside0.mk hW_; clear hW_; clear u0 u1 u2 u3 u4 u5 u6 u7 u8 v0 v1 v2 v3 v4 v5 v6 v7 v8 p0 p1 p2 p3 p4 p5 p6 p7 p8 r0 r1 r2 r3 r4 r5 r6 r7 r8; have KX := Aside0.mk (show Rk w wq g2 g6 gl (wd :: a) (ecN { pe with f6 := pe.f6 ++ [(⟨pv y, ⟨⟨#[]⟩, 0⟩⟩ : S43)] } A9 n9 c9) from by rw [HWQ.out]; exact KY.out.set (KY.out.e6.setL A9 n9 c9)); have OX := Aside0.mk (show OwnL wq w.heap.size (.slice A9 n9 c9) (pe.f6 ++ [(⟨pv y, ⟨⟨#[]⟩, 0⟩⟩ : S43)]) from by rw [HWQ.out]; exact OY.out.set KY.out.e6 (by decide) _ _); clear HWQ))
                go_roundw
                case rel => exact ⟨j + 1, ({ pe with f6 := pe.f6 ++ [(⟨pv y, ⟨⟨#[]⟩, 0⟩⟩ : S43)] }, pv2 && pk y), A9, n9, c9, by simp, by have := HLT.out; omega, by rw [HPV.out, HST.out]; rfl, by rw [HPV.out]; first | rfl | simp, HN9.out, by rw [HN9.out, List.length_append, ← HN.out]; have := HNJ.out; simp; omega, KX.out, OX.out⟩
                case measure => have := HLT.out; simp [intOf] <;> omega
            · obtain ⟨pe, pb⟩ := p
              obtain ⟨pv2, hpv⟩ : ∃ pv2, pv2 = pb := ⟨_, rfl⟩
              have HPV := Aside0.mk hpv
              clear hpv
              cases pb
              all_goals
                obtain ⟨L0, q_, hL⟩ : ∃ L0 q_, pe.f6 = L0 ++ [q_] := ⟨pe.f6.dropLast, pe.f6.getLast (HSG.out.2 (by decide)), (List.dropLast_concat_getLast _).symm⟩
                have HLL := Aside0.mk hL
                have HNL := Aside0.mk (show n = L0.length + 1 from by rw [HN.out, hL]; simp)
                have OL0 : OwnL wr w.heap.size (.slice A n c) (L0 ++ [q_]) := by rw [← hL]; exact OP.out
                obtain ⟨gw, cw, hvw, -, -, -⟩ := Kd.R_form OL0 (by simp)
                injection hvw with hA_ hB_ hC_
                subst hA_
                clear hB_ hC_
                have OPL := Aside0.mk OL0
                clear hL OL0
                obtain ⟨k, hk⟩ : ∃ k, k = L0.length := ⟨_, rfl⟩
                have HK3 := Aside0.mk hk
                clear hk
                have g1_ : IntKind.i64.wrap ((n : Int) - 1) = (k : Int) := by have := HNL.out; have := HK3.out; have := HNJ.out; have := HLT.out; have := HM2.out; rw [IntKind.wrap_i64]; omega
                have g2_ : (0 : Int) ≤ (k : Int) := Int.natCast_nonneg _
                have g3_ : (k : Int) < (n : Int) := by have := HNL.out; have := HK3.out; omega
                have g4_ := eq_true g2_
                have g5_ := eq_true g3_
                go_wp2_with (first | (go_at_call 32; (with_reducible refine Calls.mono (rparse_c y HY.out _) ?_); rintro _ wp ⟨rfl, hb⟩; have KQ := Aside0.mk (KP.out.below hb); have OQ := Aside0.mk (OPL.out.below hb); clear hb t1; obtain ⟨u0, u1, u2, u3, u4, u5, u6, u7, u8⟩ := KQ.out.e6.cells; dsimp only [ecN, EK] at u0 u1 u2 u3 u4 u5 u6 u7 u8; obtain ⟨v0, v1, v2, v3, v4, v5, v6, v7, v8⟩ := KQ.out.e6.free; obtain ⟨p0, p1, p2, p3, p4, p5, p6, p7, p8⟩ := (show EB _ g2 ⟨0, 0, ⟨#[]⟩, 0, 0, ⟨#[]⟩, 0, 0, none, 0, 0⟩ from KQ.out.e2).cells; dsimp only at p0 p1 p2 p3 p4 p5 p6 p7 p8; obtain ⟨r0, r1, r2, r3, r4, r5, r6, r7, r8⟩ := KQ.out.e2.free) | ((with_reducible refine gate_store (t := 9) (p := 141) rfl ?_); refine ev_stN (w0 := w) w.heap.size rfl rfl 141 138 rfl L0 q_ y HNL.out rfl (by rw [HK3.out]) rfl OQ.out KQ.out.b (fun wq hO_ hB_ hG_ => ?_); have KX := Aside0.mk (KQ.out.grown OQ.out (show World.grownBy _ _ (Value.ownBlock (.slice (some ⟨gw, 0, none⟩) n c)) from hG_) hB_); have OX := Aside0.mk hO_; clear hO_ hB_ hG_; clear u0 u1 u2 u3 u4 u5 u6 u7 u8 v0 v1 v2 v3 v4 v5 v6 v7 v8 p0 p1 p2 p3 p4 p5 p6 p7 p8 r0 r1 r2 r3 r4 r5 r6 r7 r8))
                go_roundw
                case rel => exact ⟨j + 1, ({ pe with f6 := L0 ++ [{ q_ with f1 := { q_.f1 with f0 := y } }] }, pv2 && true), (some ⟨gw, 0, none⟩), n, c, by simp, by have := HLT.out; omega, by rw [HPV.out, HST.out]; exact (step_last121 _ _ _ _ HLL.out).symm, by rw [HPV.out]; first | rfl | simp, by rw [HNL.out]; simp, by have := HNJ.out; omega, KX.out, OX.out⟩
                case measure => have := HLT.out; simp [intOf] <;> omega
            · obtain ⟨pe, pb⟩ := p
              obtain ⟨pv2, hpv⟩ : ∃ pv2, pv2 = pb := ⟨_, rfl⟩
              have HPV := Aside0.mk hpv
              clear hpv
              cases pb
              all_goals
                obtain ⟨L0, q_, hL⟩ : ∃ L0 q_, pe.f6 = L0 ++ [q_] := ⟨pe.f6.dropLast, pe.f6.getLast (HSG.out.2 (by decide)), (List.dropLast_concat_getLast _).symm⟩
                have HLL := Aside0.mk hL
                have HNL := Aside0.mk (show n = L0.length + 1 from by rw [HN.out, hL]; simp)
                have OL0 : OwnL wr w.heap.size (.slice A n c) (L0 ++ [q_]) := by rw [← hL]; exact OP.out
                obtain ⟨gw, cw, hvw, -, -, -⟩ := Kd.R_form OL0 (by simp)
                injection hvw with hA_ hB_ hC_
                subst hA_
                clear hB_ hC_
                have OPL := Aside0.mk OL0
                clear hL OL0
                obtain ⟨k, hk⟩ : ∃ k, k = L0.length := ⟨_, rfl⟩
                have HK3 := Aside0.mk hk
                clear hk
                have g1_ : IntKind.i64.wrap ((n : Int) - 1) = (k : Int) := by have := HNL.out; have := HK3.out; have := HNJ.out; have := HLT.out; have := HM2.out; rw [IntKind.wrap_i64]; omega
                have g2_ : (0 : Int) ≤ (k : Int) := Int.natCast_nonneg _
                have g3_ : (k : Int) < (n : Int) := by have := HNL.out; have := HK3.out; omega
                have g4_ := eq_true g2_
                have g5_ := eq_true g3_
                go_wp2_with (first | (go_at_call 32; (with_reducible refine Calls.mono (rparse_c y HY.out _) ?_); rintro _ wp ⟨rfl, hb⟩; have KQ := Aside0.mk (KP.out.below hb); have OQ := Aside0.mk (OPL.out.below hb); clear hb t1; obtain ⟨u0, u1, u2, u3, u4, u5, u6, u7, u8⟩ := KQ.out.e6.cells; dsimp only [ecN, EK] at u0 u1 u2 u3 u4 u5 u6 u7 u8; obtain ⟨v0, v1, v2, v3, v4, v5, v6, v7, v8⟩ := KQ.out.e6.free; obtain ⟨p0, p1, p2, p3, p4, p5, p6, p7, p8⟩ := (show EB _ g2 ⟨0, 0, ⟨#[]⟩, 0, 0, ⟨#[]⟩, 0, 0, none, 0, 0⟩ from KQ.out.e2).cells; dsimp only at p0 p1 p2 p3 p4 p5 p6 p7 p8; obtain ⟨r0, r1, r2, r3, r4, r5, r6, r7, r8⟩ := KQ.out.e2.free) | ((with_reducible refine gate_store (t := 3) (p := 89) rfl ?_); refine ev_stB (w0 := w) w.heap.size rfl rfl 89 86 rfl L0 q_ (pv y) HNL.out rfl (by rw [HK3.out]) rfl OQ.out KQ.out.b (fun wq hO_ hB_ hG_ => ?_); have KX := Aside0.mk (KQ.out.grown OQ.out (show World.grownBy _ _ (Value.ownBlock (.slice (some ⟨gw, 0, none⟩) n c)) from hG_) hB_); have OX := Aside0.mk hO_; clear hO_ hB_ hG_; clear u0 u1 u2 u3 u4 u5 u6 u7 u8 v0 v1 v2 v3 v4 v5 v6 v7 v8 p0 p1 p2 p3 p4 p5 p6 p7 p8 r0 r1 r2 r3 r4 r5 r6 r7 r8))
                go_roundw
                case rel => exact ⟨j + 1, ({ pe with f6 := L0 ++ [{ q_ with f1 := { q_.f1 with f1 := pv y } }] }, pv2 && pk y), (some ⟨gw, 0, none⟩), n, c, by simp, by have := HLT.out; omega, by rw [HPV.out, HST.out]; exact (step_last119 _ _ _ _ HLL.out).symm, by rw [HPV.out]; first | rfl | simp, by rw [HNL.out]; simp, by have := HNJ.out; omega, KX.out, OX.out⟩
                case measure => have := HLT.out; simp [intOf] <;> omega
          · have e1 : ¬ ((j : Int) < (m : Int)) := by omega
            have e1' : ¬ ((j : Int) < (fb.size : Int)) := by omega
            obtain rfl : j = m := by have := HJ.out; omega
            have HFIN := Aside0.mk (show R = doneP p from by rw [HRR.out, HP.out, List.take_of_length_le (by have := HFS.out; omega), List.take_of_length_le (by have := HM.out; omega)])
            obtain ⟨pe, pb⟩ := p
            cases pb
            · skip
              obtain ⟨u0, u1, u2, u3, u4, u5, u6, u7, u8⟩ := KP.out.e6.cells; dsimp only [ecN, EK] at u0 u1 u2 u3 u4 u5 u6 u7 u8; obtain ⟨v0, v1, v2, v3, v4, v5, v6, v7, v8⟩ := KP.out.e6.free; obtain ⟨p0, p1, p2, p3, p4, p5, p6, p7, p8⟩ := (show EB _ g2 ⟨0, 0, ⟨#[]⟩, 0, 0, ⟨#[]⟩, 0, 0, none, 0, 0⟩ from KP.out.e2).cells; dsimp only at p0 p1 p2 p3 p4 p5 p6 p7 p8; obtain ⟨r0, r1, r2, r3, r4, r5, r6, r7, r8⟩ := KP.out.e2.free
              go_wp2_with (first | ((with_reducible refine gate_store (t := 26) (p := 2) rfl ?_); refine ev_store (w1 := (((((((((wr.setCell ⟨g2, 0, none⟩ (.int .i64 0)).setCell ⟨g2, 1, none⟩ (.int .i64 0)).setCell ⟨g2, 2, none⟩ (.string (⟨#[]⟩ : ByteArray))).setCell ⟨g2, 3, none⟩ (.int .i64 0)).setCell ⟨g2, 4, none⟩ (.int .i64 0)).setCell ⟨g2, 5, none⟩ (.string (⟨#[]⟩ : ByteArray))).setCell ⟨g2, 6, none⟩ (.int .i64 0)).setCell ⟨g2, 7, none⟩ (.int .i64 0)).setCell ⟨g2, 8, none⟩ (.slice none 0 0))) ?hg ?hn ?hr ?_; (case hg => rfl); (case hn => rfl); (case hr => first | (go_simp; done) | (go_simp; rfl)); intro wz hW_; have HWZ := Aside0.mk hW_; clear hW_; clear p0 p1 p2 p3 p4 p5 p6 p7 p8 r0 r1 r2 r3 r4 r5 r6 r7 r8))
              have EZ := Aside0.mk (show EB wz g2 Ec.z from by rw [HWZ.out]; exact EB.put KP.out.e2 Ec.z)
              have hB_ : Below w.heap.size w wz := by rw [HWZ.out]; exact w9_below KP.out.b KP.out.h2 Ec.z
              refine bodyPost_ret (results_ct rfl _ _ g2 26 #[.int .i64 0, .int .i64 0, .string (⟨#[]⟩ : ByteArray), .int .i64 0, .int .i64 0, .string (⟨#[]⟩ : ByteArray), .int .i64 0, .int .i64 0, .slice none 0 0] (0, 0) _ rfl EZ.out Try.underlying26 rfl (by kernel_rfl)) rfl ?_
              have hR_ : R = (z26, 2) := by rw [HFIN.out]; rfl
              rw [hR_]
              exact ⟨none, 0, rfl, Nat.le_refl _, c43_nil _, hB_⟩
            · skip
              obtain ⟨u0, u1, u2, u3, u4, u5, u6, u7, u8⟩ := KP.out.e6.cells; dsimp only [ecN, EK] at u0 u1 u2 u3 u4 u5 u6 u7 u8; obtain ⟨v0, v1, v2, v3, v4, v5, v6, v7, v8⟩ := KP.out.e6.free; obtain ⟨p0, p1, p2, p3, p4, p5, p6, p7, p8⟩ := (show EB _ g2 ⟨0, 0, ⟨#[]⟩, 0, 0, ⟨#[]⟩, 0, 0, none, 0, 0⟩ from KP.out.e2).cells; dsimp only at p0 p1 p2 p3 p4 p5 p6 p7 p8; obtain ⟨r0, r1, r2, r3, r4, r5, r6, r7, r8⟩ := KP.out.e2.free
              go_wp2_with (first | ((with_reducible refine gate_store (t := 26) (p := 2) rfl ?_); refine ev_store (w1 := (((((((((wr.setCell ⟨g2, 0, none⟩ (.int .i64 pe.f0)).setCell ⟨g2, 1, none⟩ (.int .i64 pe.f1)).setCell ⟨g2, 2, none⟩ (.string pe.f2)).setCell ⟨g2, 3, none⟩ (.int .i64 pe.f3)).setCell ⟨g2, 4, none⟩ (.int .i64 pe.f4)).setCell ⟨g2, 5, none⟩ (.string pe.f5.f0)).setCell ⟨g2, 6, none⟩ (.int .i64 pe.f5.f1)).setCell ⟨g2, 7, none⟩ (.int .i64 pe.f5.f2)).setCell ⟨g2, 8, none⟩ (.slice A n c))) ?hg ?hn ?hr ?_; (case hg => rfl); (case hn => rfl); (case hr => first | (go_simp; done) | (go_simp; rfl)); intro wz hW_; have HWZ := Aside0.mk hW_; clear hW_; clear p0 p1 p2 p3 p4 p5 p6 p7 p8 r0 r1 r2 r3 r4 r5 r6 r7 r8))
              have EZ := Aside0.mk (show EB wz g2 (ecN pe A n c) from by rw [HWZ.out]; exact EB.put KP.out.e2 (ecN pe A n c))
              have hB_ : Below w.heap.size w wz := by rw [HWZ.out]; exact w9_below KP.out.b KP.out.h2 (ecN pe A n c)
              refine bodyPost_ret (results_ct rfl _ _ g2 26 #[.int .i64 pe.f0, .int .i64 pe.f1, .string pe.f2, .int .i64 pe.f3, .int .i64 pe.f4, .string pe.f5.f0, .int .i64 pe.f5.f1, .int .i64 pe.f5.f2, .slice A n c] (0, 0) _ rfl EZ.out Try.underlying26 rfl (by kernel_rfl)) rfl ?_
              have hR_ : R = (pe, 0) := by rw [HFIN.out]; rfl
              rw [hR_]
              have OZ : OwnL wz w.heap.size (.slice A n c) pe.f6 := by rw [HWZ.out]; exact own_w9 OP.out KP.out.e2 (ecN pe A n c)
              obtain ⟨A', c', hv', hc', hC'⟩ := OZ.reads
              injection hv' with h1_ h2_ h3_
              subst h1_
              subst h3_
              exact ⟨A, c, by rw [show ecOf pe A c = ecN pe A n c from by unfold ecOf ecN; rw [h2_]]; rfl, hc', hC', hB_⟩
      · have n1 : ((fb.size : Int) == (m : Int)) = false := beq_eq_false_iff_ne.2 (by omega)
        have n2 : decide ((fb.size : Int) = (m : Int)) = false := decide_eq_false (by omega)
        go_wp2_with (first | (go_at_call 20; (with_reducible refine Calls.mono (HFC.out _) ?_); rintro _ wf ⟨rfl, hb⟩; have KF := Aside0.mk (KB.out.below hb); clear hb u0 u1 u2 u3 u4 u5 u6 u7 u8 v0 v1 v2 v3 v4 v5 v6 v7 v8 p0 p1 p2 p3 p4 p5 p6 p7 p8 r0 r1 r2 r3 r4 r5 r6 r7 r8; obtain ⟨p0, p1, p2, p3, p4, p5, p6, p7, p8⟩ := (show EB _ g2 ⟨0, 0, ⟨#[]⟩, 0, 0, ⟨#[]⟩, 0, 0, none, 0, 0⟩ from KF.out.e2).cells; dsimp only at p0 p1 p2 p3 p4 p5 p6 p7 p8; obtain ⟨r0, r1, r2, r3, r4, r5, r6, r7, r8⟩ := KF.out.e2.free) | ((with_reducible refine gate_store (t := 26) (p := 2) rfl ?_); refine ev_store (w1 := (((((((((wf.setCell ⟨g2, 0, none⟩ (.int .i64 0)).setCell ⟨g2, 1, none⟩ (.int .i64 0)).setCell ⟨g2, 2, none⟩ (.string (⟨#[]⟩ : ByteArray))).setCell ⟨g2, 3, none⟩ (.int .i64 0)).setCell ⟨g2, 4, none⟩ (.int .i64 0)).setCell ⟨g2, 5, none⟩ (.string (⟨#[]⟩ : ByteArray))).setCell ⟨g2, 6, none⟩ (.int .i64 0)).setCell ⟨g2, 7, none⟩ (.int .i64 0)).setCell ⟨g2, 8, none⟩ (.slice none 0 0))) ?hg ?hn ?hr ?_; (case hg => rfl); (case hn => rfl); (case hr => first | (go_simp; done) | (go_simp; rfl)); intro wz hW_; have HWZ := Aside0.mk hW_; clear hW_; clear p0 p1 p2 p3 p4 p5 p6 p7 p8 r0 r1 r2 r3 r4 r5 r6 r7 r8))
        have EZ := Aside0.mk (show EB wz g2 Ec.z from by rw [HWZ.out]; exact EB.put KF.out.e2 Ec.z)
        have hB_ : Below w.heap.size w wz := by rw [HWZ.out]; exact w9_below KF.out.b KF.out.h2 Ec.z
        refine bodyPost_ret (results_ct rfl _ _ g2 26 #[.int .i64 0, .int .i64 0, .string (⟨#[]⟩ : ByteArray), .int .i64 0, .int .i64 0, .string (⟨#[]⟩ : ByteArray), .int .i64 0, .int .i64 0, .slice none 0 0] (0, 0) _ rfl EZ.out Try.underlying26 rfl (by kernel_rfl)) rfl ?_
        have hR_ : R = (z26, 5) := by rw [HR.out, HK.out]; unfold kindP; exact if_pos (.inr (Bool.eq_false_iff.2 (fun h => hfs (by rw [HFB.out, ofL_size, HF.out, HM.out]; exact (form_len i a.length (by have := HI1.out; omega) HI8.out).2 h))))
        rw [hR_]
        exact ⟨none, 0, rfl, Nat.le_refl _, c43_nil _, hB_⟩
    · have n1 : ¬ nb.toList = ub.toList := fun h => hEq (tl_eq.1 h)
      have n2 : decide (nb = ub) = false := decide_eq_false hEq
      have HNE := Aside0.mk (show ub ≠ nm i from by rw [← HNB.out]; exact fun h => hEq h.symm)
      refine wpAnyH_take (i := 11) (v := .bool true) rfl (by kernel_rfl) (by kernel_rfl) (by kernel_rfl) (fun _ _ _ h => h) (Or.inl ⟨by kernel_rfl, ?_⟩) (by assumption) ?_
      · intro W_ hSw
        clear hSw
        skip
        first | (go_simp; done) | (go_simp; with_reducible rfl) | (go_simp; rfl)
      refine wpAnyH_take (i := 12) (v := .bool true) rfl (by kernel_rfl) (by kernel_rfl) (by kernel_rfl) (fun _ _ _ h => h) (Or.inl ⟨by kernel_rfl, ?_⟩) (by assumption) ?_
      · intro W_ hSw
        clear hSw
        skip
        first | (go_simp; done) | (go_simp; with_reducible rfl) | (go_simp; rfl)
      try simp only [Act.put, List.getElem_toArray, List.getElem_cons_succ, List.getElem_cons_zero, List.setIfInBounds_toArray, List.set_cons_zero, List.set_cons_succ]
      clear hHeld d1
      refine wpAnyH_done (by kernel_rfl) ?_ _
      obtain ⟨u0, u1, u2, u3, u4, u5, u6, u7, u8⟩ := KB.out.e6.cells; dsimp only [EK] at u0 u1 u2 u3 u4 u5 u6 u7 u8; obtain ⟨v0, v1, v2, v3, v4, v5, v6, v7, v8⟩ := KB.out.e6.free
      have e1 : IntKind.i64.wrap ((i : Int) + 1) = (i : Int) + 1 := by have := HI8.out; rw [IntKind.wrap_i64]; omega
      by_cases h8 : i = 8
      · have g1_ : decide ((8 : Int) < (i : Int) + 1) = true := decide_eq_true (by omega)
        go_wp2_with (first | ((with_reducible refine gate_store (t := 3) (p := 42) rfl ?_); refine ev_store (w1 := wb.setCell ⟨g6, 0, none⟩ (.int .i64 ((i : Int) + 1))) ?hg ?hn ?hr ?_; (case hg => rfl); (case hn => rfl); (case hr => first | (go_simp; done) | (go_simp; rfl)); intro wc hW_; have HWC := Aside0.mk hW_; clear hW_; clear u0 u1 u2 u3 u4 u5 u6 u7 u8 v0 v1 v2 v3 v4 v5 v6 v7 v8; have KC := Aside0.mk (show Rk w wc g2 g6 gl (wd :: a) ⟨(i : Int) + 1, 0, ⟨#[]⟩, 0, 0, ⟨#[]⟩, 0, 0, none, 0, 0⟩ from by rw [HWC.out]; exact KB.out.set (KB.out.e6.setK ((i : Int) + 1))); clear HWC; obtain ⟨u0, u1, u2, u3, u4, u5, u6, u7, u8⟩ := KC.out.e6.cells; dsimp only at u0 u1 u2 u3 u4 u5 u6 u7 u8; obtain ⟨p0, p1, p2, p3, p4, p5, p6, p7, p8⟩ := (show EB _ g2 ⟨0, 0, ⟨#[]⟩, 0, 0, ⟨#[]⟩, 0, 0, none, 0, 0⟩ from KC.out.e2).cells; dsimp only at p0 p1 p2 p3 p4 p5 p6 p7 p8; obtain ⟨r0, r1, r2, r3, r4, r5, r6, r7, r8⟩ := KC.out.e2.free) | ((with_reducible refine gate_store (t := 26) (p := 2) rfl ?_); refine ev_store (w1 := (((((((((wc.setCell ⟨g2, 0, none⟩ (.int .i64 0)).setCell ⟨g2, 1, none⟩ (.int .i64 0)).setCell ⟨g2, 2, none⟩ (.string (⟨#[]⟩ : ByteArray))).setCell ⟨g2, 3, none⟩ (.int .i64 0)).setCell ⟨g2, 4, none⟩ (.int .i64 0)).setCell ⟨g2, 5, none⟩ (.string (⟨#[]⟩ : ByteArray))).setCell ⟨g2, 6, none⟩ (.int .i64 0)).setCell ⟨g2, 7, none⟩ (.int .i64 0)).setCell ⟨g2, 8, none⟩ (.slice none 0 0))) ?hg ?hn ?hr ?_; (case hg => rfl); (case hn => rfl); (case hr => first | (go_simp; done) | (go_simp; rfl)); intro wz hW_; have HWZ := Aside0.mk hW_; clear hW_; clear p0 p1 p2 p3 p4 p5 p6 p7 p8 r0 r1 r2 r3 r4 r5 r6 r7 r8))
        have EZ := Aside0.mk (show EB wz g2 Ec.z from by rw [HWZ.out]; exact EB.put KC.out.e2 Ec.z)
        have hB_ : Below w.heap.size w wz := by rw [HWZ.out]; exact w9_below KC.out.b KC.out.h2 Ec.z
        refine bodyPost_ret (results_ct rfl _ _ g2 26 #[.int .i64 0, .int .i64 0, .string (⟨#[]⟩ : ByteArray), .int .i64 0, .int .i64 0, .string (⟨#[]⟩ : ByteArray), .int .i64 0, .int .i64 0, .slice none 0 0] (0, 0) _ rfl EZ.out Try.underlying26 rfl (by kernel_rfl)) rfl ?_
        have hR_ : R = (z26, 5) := by rw [HR.out, kind_none _ (fun j h1 h2 => by rw [← HUB.out]; by_cases hj : j < i; (exact HNO.out j h1 hj); (obtain rfl : j = i := by omega); exact HNE.out)]; rfl
        rw [hR_]
        exact ⟨none, 0, rfl, Nat.le_refl _, c43_nil _, hB_⟩
      · have g1_ : decide ((8 : Int) < (i : Int) + 1) = false := decide_eq_false (by have := HI8.out; omega)
        go_wp2_with (first | ((with_reducible refine gate_store (t := 3) (p := 42) rfl ?_); refine ev_store (w1 := wb.setCell ⟨g6, 0, none⟩ (.int .i64 ((i : Int) + 1))) ?hg ?hn ?hr ?_; (case hg => rfl); (case hn => rfl); (case hr => first | (go_simp; done) | (go_simp; rfl)); intro wc hW_; have HWC := Aside0.mk hW_; clear hW_; clear u0 u1 u2 u3 u4 u5 u6 u7 u8 v0 v1 v2 v3 v4 v5 v6 v7 v8; have KC := Aside0.mk (show Rk w wc g2 g6 gl (wd :: a) ⟨(i : Int) + 1, 0, ⟨#[]⟩, 0, 0, ⟨#[]⟩, 0, 0, none, 0, 0⟩ from by rw [HWC.out]; exact KB.out.set (KB.out.e6.setK ((i : Int) + 1))); clear HWC; obtain ⟨u0, u1, u2, u3, u4, u5, u6, u7, u8⟩ := KC.out.e6.cells; dsimp only at u0 u1 u2 u3 u4 u5 u6 u7 u8; obtain ⟨p0, p1, p2, p3, p4, p5, p6, p7, p8⟩ := (show EB _ g2 ⟨0, 0, ⟨#[]⟩, 0, 0, ⟨#[]⟩, 0, 0, none, 0, 0⟩ from KC.out.e2).cells; dsimp only at p0 p1 p2 p3 p4 p5 p6 p7 p8; obtain ⟨r0, r1, r2, r3, r4, r5, r6, r7, r8⟩ := KC.out.e2.free))
        go_roundw
        case rel => exact ⟨i + 1, by omega, by have := HI8.out; omega, fun j h1 h2 => by by_cases hj : j < i; (exact HNO.out j h1 hj); (obtain rfl : j = i := by omega); exact HNE.out, KC.out⟩
        case measure => rw [MZ.out, mzK_is (i := i + 1) KC.out.e6.cells.1]; have := HI8.out; omega
end Go.Proofs.Ytehnogggokfcaaa.Ev
