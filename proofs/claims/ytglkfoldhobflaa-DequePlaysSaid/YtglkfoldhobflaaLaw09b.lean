/- The contract of the statement DequePlays, walked by hand. -/
import Derived.Test.YtglkfoldhobflaaLaw09a
import Derived.Test.YtglkfoldhobflaaDqSt2
namespace Go.Proofs.Ytglkfoldhobflaa.X
set_option linter.unusedVariables false
/-- The statement's own bounds. -/
def Bd29 (l0 : List Int) (l1 : List S29) : Prop := (l0.length ≤ 17592186044416 ∧ l1.length ≤ 17592186044416) ∧ ∀ x ∈ l1, (-9223372036854775808 ≤ x.f0 ∧ x.f0 ≤ 9223372036854775807) ∧ (-9223372036854775808 ≤ x.f1 ∧ x.f1 ≤ 9223372036854775807) ∧ (-9223372036854775808 ≤ x.f2 ∧ x.f2 ≤ 9223372036854775807)
open Classical in
noncomputable def mewslaw09_DequePlays.f (_k : Nat) (l0 : List Int) (l1 : List S29) : Option Bool := if Bd29 l0 l1 then some true else none
end Go.Proofs.Ytglkfoldhobflaa.X
namespace Go.Proofs.Ytglkfoldhobflaa.Dq
open Go.RowKit Go.Proofs.YtglkfoldhobflaaW.PrintWords Go.Proofs.YtglkfoldhobflaaW.PrintMore Go.Proofs.YtglkfoldhobflaaW.PrintLast Go.Proofs.Ytglkfoldhobflaa.X Go.Proofs.Ytglkfoldhobflaa.Y
set_option linter.unusedVariables false
set_option linter.unusedSimpArgs false
attribute [local go_sem ↓] Go.wp_at_zero Go.wp_at_succ
def RelP (w : World) (B g : Nat) (n : Nat) (v6 v28 : Value) (wr : World) : Prop := ∃ (k : Nat) (l : List Int), k ≤ n ∧ v28 = .int .i64 k ∧ l.length ≤ 300 + k ∧ S2 w B g l l v6 wr
theorem below_S2 {w W W1 : World} {B g : Nat} {l1 l2 : List Int} {v : Value} (h : S2 w B g l1 l2 v W) : Below B w W := h.st.out
theorem cells3 {w : World} {g : Nat} {t : TypeId} {a b c : Value} (h : w.heap[g]? = some (.cells #[a, b, c] t (0, 0))) : w.cell? ⟨g, 0, none⟩ = some a ∧ w.cell? ⟨g, 1, none⟩ = some b ∧ w.cell? ⟨g, 2, none⟩ = some c := ⟨(blk_cell h 0).trans rfl, (blk_cell h 1).trans rfl, (blk_cell h 2).trans rfl⟩
theorem C_on {w W : World} {A : Option Addr} {n : Nat} {l : List S29} (h : Kd.C k29 w A n l) {B : Nat} (hB : B = w.heap.size) (hb : Below B w W) : Kd.C k29 W A n l := Kd.C_below h (by rw [← hB]; exact hb)
set_option maxHeartbeats 8000000 in
set_option maxRecDepth 100000 in
theorem plays_far (A0 A1 : Option Addr) (c0 c1 n0 n1 : Nat) (w : World) (h : 300 < n0 ∨ 300 < n1) :
    Calls Try.prog 4 #[.slice A0 n0 c0, .slice A1 n1 c1] w fun e w' => e = .returned (.bool true) ∧ Below w.heap.size w w' := by
  have HA := Aside0.mk (alive_calls w)
  by_cases c : 300 < n0
  · have d1 : decide (300 < (n0 : Int)) = true := decide_eq_true (by omega)
    have d2 : decide (300 < n0) = true := decide_eq_true c
    clear c h
    go_enter Try.func4, Try.ntmps4
    go_wp2_with (first | (go_at_call 6; (with_reducible refine Calls.mono HA.out ?_); rintro e w' ⟨rfl, hb⟩; have HB := Aside0.mk hb; clear hb))
    go_ret
    exact ⟨rfl, HB.out⟩
  · have d1 : decide (300 < (n0 : Int)) = false := decide_eq_false (by omega)
    have d2 : decide (300 < n0) = false := decide_eq_false c
    have d3 : decide (300 < (n1 : Int)) = true := decide_eq_true (by omega)
    have d4 : decide (300 < n1) = true := decide_eq_true (by omega)
    clear c h
    go_enter Try.func4, Try.ntmps4
    go_wp2_with (first | (go_at_call 6; (with_reducible refine Calls.mono HA.out ?_); rintro e w' ⟨rfl, hb⟩; have HB := Aside0.mk hb; clear hb))
    go_ret
    exact ⟨rfl, HB.out⟩
set_option maxHeartbeats 40000000 in
set_option maxRecDepth 100000 in
theorem plays_near (A0 : Option Addr) (c0 : Nat) (l0 : List Int) (A1 : Option Addr) (c1 : Nat) (l1 : List S29) (w : World) (hr0 : Kd.C (Kd.int .i64) w A0 l0.length l0) (hc0 : l0.length ≤ c0) (hr1 : Kd.C k29 w A1 l1.length l1) (hbd : Bd29 l0 l1) (hn0 : l0.length ≤ 300) (hn1 : l1.length ≤ 300) :
    Calls Try.prog 4 #[.slice A0 l0.length c0, .slice A1 l1.length c1] w fun e w' => e = .returned (.bool true) ∧ Below w.heap.size w w' := by
  obtain ⟨B, hB⟩ : ∃ B, B = w.heap.size := ⟨_, rfl⟩
  obtain ⟨n, hn⟩ : ∃ n, n = l1.length := ⟨_, rfl⟩
  obtain ⟨m, hm⟩ : ∃ m, m = l0.length := ⟨_, rfl⟩
  rw [← hn, ← hB, ← hm]
  rw [← hn] at hr1 hn1
  rw [← hm] at hr0 hc0 hn0
  have HB := Aside0.mk hB
  have HR1 := Aside0.mk hr1
  have HR0 := Aside0.mk (readsOf_of_C hr0)
  have Hn := Aside0.mk hn
  have Hm := Aside0.mk hm
  have HD := Aside0.mk hbd.2
  have Hc0 := Aside0.mk hc0
  have d1 : decide (300 < (m : Int)) = false := decide_eq_false (by omega)
  have d2 : decide (300 < m) = false := decide_eq_false (by omega)
  have d3 : decide (300 < (n : Int)) = false := decide_eq_false (by omega)
  have d4 : decide (300 < n) = false := decide_eq_false (by omega)
  clear hB hn hm hr0 hr1 hbd hc0
  go_enter Try.func4, Try.ntmps4
  go_wp2_with fail
  go_at_call 7
  have hnew := St.new (w := w) (W := w) (B := B) (A := A0) (c := c0) (l := l0) (Below.refl _ _) (by rw [HB.out]; exact Nat.le_refl _) (by rw [← Hm.out]; exact HR0.out) (by rw [← Hm.out]; omega)
  rw [← Hm.out] at hnew
  with_reducible refine Calls.mono hnew ?_
  clear hnew
  rintro e w1 ⟨g, rfl, -, h1, hb1⟩
  have H1 := Aside0.mk h1
  have HB1 := Aside0.mk hb1
  have hs1 := h1.size
  clear h1 hb1
  go_wp2_with (first | (at_builtin; refine wp_app rfl (.const (.slice none 0 0)) (.tmp 24) (by rfl) w1 w1.heap.size (.slice none 0 0) [] l0 A0 m c0 (by rfl) (by rfl) (own_nil _ _ _ _) (HR0.out.below HB1.out) (Below.refl _ _) (Nat.le_refl _) (by simp; omega) ?_; intro v1 w2 hO hb2 hs2; rw [List.nil_append] at hO; have HO := Aside0.mk hO; have HB2 := Aside0.mk hb2; clear hO hb2))
  have h2 : S2 w B g l0 l0 v1 w2 := by
    obtain ⟨row, hd, hB, hs⟩ := H1.out
    refine ⟨row, hd.below HB2.out, hB.trans (HB2.out.mono hs), Nat.le_trans hs HB2.out.size, rd_of_own HO.out, fun hl k hk => ?_⟩
    have h3 := own_base HO.out k hk
    refine ⟨fun e => ?_, fun e => ?_⟩
    · have := hd.glt
      omega
    · have := (hd.rlt e.symm).1
      omega
  have H2 := Aside0.mk h2
  clear h2
  go_loopw [6, 28] (fun v6 v28 wr => RelP w B g n v6 v28 wr) (fun _ v28 _ => n - (intOf v28).toNat)
  case atStart => exact ⟨0, l0, Nat.zero_le _, rfl, by rw [← Hm.out]; omega, H2.out⟩
  case round =>
    obtain ⟨k, l, hkn, rfl, hll, hs2⟩ := hrel
    have HS := Aside0.mk hs2
    have HRw := Aside0.mk (C_on HR1.out HB.out hs2.st.out)
    clear hs2
    by_cases hlt : k < n
    · have e1 : decide ((k : Int) < (n : Int)) = true := decide_eq_true (by omega)
      have e2 : decide (k < n) = true := decide_eq_true hlt
      obtain ⟨ad, rfl, x0, x1, x2⟩ := at_T29 HRw.out (k : Int) (by omega) (by omega)
      rw [Int.toNat_natCast] at x0 x1 x2
      have hx : rd_T29 l1 (k : Int) ∈ l1 := by
        unfold rd_T29
        rw [Int.toNat_natCast, List.getD_eq_getElem?_getD, List.getElem?_eq_getElem (by rw [← Hn.out]; exact hlt)]
        exact List.getElem_mem _
      obtain ⟨b0, b1, b2⟩ := HD.out _ hx
      obtain ⟨q0, hq0⟩ : ∃ q, q = (rd_T29 l1 (k : Int)).f0 := ⟨_, rfl⟩
      obtain ⟨q1, hq1⟩ : ∃ q, q = (rd_T29 l1 (k : Int)).f1 := ⟨_, rfl⟩
      obtain ⟨q2, hq2⟩ : ∃ q, q = (rd_T29 l1 (k : Int)).f2 := ⟨_, rfl⟩
      rw [← hq0] at x0 b0
      rw [← hq1] at x1 b1
      rw [← hq2] at x2 b2
      have B1 := Aside0.mk b1
      have B2 := Aside0.mk b2
      have Hlt := Aside0.mk hlt
      have Hll := Aside0.mk hll
      have hk9 : (k : Int) ≤ 300 := by omega
      have i1 : (0 : Int) ≤ (k : Int) := Int.natCast_nonneg _
      have i2 : (k : Int) < (n : Int) := by omega
      clear hq0 hq1 hq2 b0 b1 b2 hx hlt hll hkn
      obtain ⟨A6, c6, e6, -, -⟩ := HS.out.rd
      subst e6
      have hl6 : l.length < 1048576 := by have := Hll.out; omega
      have hl7 : l.length ≤ 1000000 := by have := Hll.out; omega
      have HL6 := Aside0.mk hl6
      have HL7 := Aside0.mk hl7
      clear hl6 hl7
      have HS0 := Aside0.mk (fun (o : Obj) => HS.out.below (below_alloc (Below.refl _ _) o))
      have HO0 := Aside0.mk (fun (o : Obj) => blk_new wr o)
      obtain ⟨ob, hob⟩ : ∃ ob, ob = wr.heap.size := ⟨_, rfl⟩
      have Hob := Aside0.mk hob
      rw [← hob] at HO0
      clear hob
      by_cases t0 : q0 = 0
      · subst t0
        obtain ⟨L, hL⟩ : ∃ L : List Int, L = (if false then q2 :: l else l ++ [q2]) := ⟨_, rfl⟩
        have HLN := Aside0.mk (show L.length ≤ l.length + 1 by rw [hL]; simp)
        have hc1 := fun W (h : S2 w B g l l (.slice A6 l.length c6) W) => h.push false q2 HL6.out
        have hc2 := fun W h => rpush_calls (.slice A6 l.length c6) l false q2 W h HL7.out
        simp only [← hL] at hc1 hc2
        have HC1 := Aside0.mk hc1
        have HC2 := Aside0.mk hc2
        clear hc1 hc2 hL
        go_wp2_with fail
        rw [← Hob.out]
        go_at_call 8
        with_reducible refine Calls.mono (HC1.out _ ((HS0.out (.cells #[.int .i64 0, .int .i64 q1, .int .i64 q2] 29)))) ?_
        rintro e w2 ⟨rfl, hs2, hk2⟩
        have HS2 := Aside0.mk hs2
        have HO2 := Aside0.mk (hk2 _ _ _ (HO0.out _) (by decide) (by decide))
        obtain ⟨y0, y1, y2⟩ := cells3 HO2.out
        clear hs2 hk2
        go_wp2_with fail
        go_at_call 12
        with_reducible refine Calls.mono (HC2.out _ HS2.out.rd) ?_
        rintro e w3 ⟨v3, rfl, hr3, hb3, hf3⟩
        have HS3 := Aside0.mk (HS2.out.fresh hr3 hb3 hf3)
        obtain ⟨A3, c3, e3, -, -⟩ := hr3
        subst e3
        clear hb3 hf3
        go_wp2_with fail
        go_at_call 25
        with_reducible refine Calls.mono HS3.out.st.len ?_
        rintro e w' ⟨rfl, rfl⟩
        go_wp2_with fail
        go_at_call 10
        with_reducible refine Calls.mono HS3.out.st.all ?_
        rintro e wa ⟨va, rfl, hra, hba, -⟩
        have HRa := Aside0.mk hra
        have HSa := Aside0.mk (HS3.out.below hba)
        clear hra hba
        go_wp2_with fail
        go_at_call 23
        with_reducible refine Calls.mono (rsame_calls va _ L wa HRa.out HSa.out.rd (by have := Hll.out; have := HLN.out; omega)) ?_
        rintro e wb ⟨rfl, hwb⟩
        have HSb := Aside0.mk (HSa.out.below hwb.below)
        clear hwb
        go_wp2
        go_roundw
        case rel => exact ⟨k + 1, L, by have := Hlt.out; omega, by simp, by have := Hll.out; have := HLN.out; omega, HSb.out⟩
        case measure => have := Hlt.out; simp [intOf]; omega
      by_cases t1 : q0 = 1
      · subst t1
        obtain ⟨L, hL⟩ : ∃ L : List Int, L = q2 :: l := ⟨_, rfl⟩
        have HLN := Aside0.mk (show L.length ≤ l.length + 1 by rw [hL]; simp)
        have hc1 := fun W (h : S2 w B g l l (.slice A6 l.length c6) W) => h.push true q2 HL6.out
        have hc2 := fun W h => rpush_calls (.slice A6 l.length c6) l true q2 W h HL7.out
        simp only [if_true, ← hL] at hc1 hc2
        have HC1 := Aside0.mk hc1
        have HC2 := Aside0.mk hc2
        clear hc1 hc2 hL
        go_wp2_with fail
        rw [← Hob.out]
        go_at_call 8
        with_reducible refine Calls.mono (HC1.out _ ((HS0.out (.cells #[.int .i64 1, .int .i64 q1, .int .i64 q2] 29)))) ?_
        rintro e w2 ⟨rfl, hs2, hk2⟩
        have HS2 := Aside0.mk hs2
        have HO2 := Aside0.mk (hk2 _ _ _ (HO0.out _) (by decide) (by decide))
        obtain ⟨y0, y1, y2⟩ := cells3 HO2.out
        clear hs2 hk2
        go_wp2_with fail
        go_at_call 12
        with_reducible refine Calls.mono (HC2.out _ HS2.out.rd) ?_
        rintro e w3 ⟨v3, rfl, hr3, hb3, hf3⟩
        have HS3 := Aside0.mk (HS2.out.fresh hr3 hb3 hf3)
        obtain ⟨A3, c3, e3, -, -⟩ := hr3
        subst e3
        clear hb3 hf3
        go_wp2_with fail
        go_at_call 25
        with_reducible refine Calls.mono HS3.out.st.len ?_
        rintro e w' ⟨rfl, rfl⟩
        go_wp2_with fail
        go_at_call 10
        with_reducible refine Calls.mono HS3.out.st.all ?_
        rintro e wa ⟨va, rfl, hra, hba, -⟩
        have HRa := Aside0.mk hra
        have HSa := Aside0.mk (HS3.out.below hba)
        clear hra hba
        go_wp2_with fail
        go_at_call 23
        with_reducible refine Calls.mono (rsame_calls va _ L wa HRa.out HSa.out.rd (by have := Hll.out; have := HLN.out; omega)) ?_
        rintro e wb ⟨rfl, hwb⟩
        have HSb := Aside0.mk (HSa.out.below hwb.below)
        clear hwb
        go_wp2
        go_roundw
        case rel => exact ⟨k + 1, L, by have := Hlt.out; omega, by simp, by have := Hll.out; have := HLN.out; omega, HSb.out⟩
        case measure => have := Hlt.out; simp [intOf]; omega
      by_cases t2 : q0 = 2
      · subst t2
        obtain ⟨L, hL⟩ : ∃ L : List Int, L = (if false then l.tail else l.dropLast) := ⟨_, rfl⟩
        obtain ⟨X, hX⟩ : ∃ X : Int, X = (if false then l.getD 0 0 else l.getD (l.length - 1) 0) := ⟨_, rfl⟩
        obtain ⟨b, hb⟩ : ∃ b, b = !l.isEmpty := ⟨_, rfl⟩
        have HLN := Aside0.mk (show L.length ≤ l.length + 1 by rw [hL]; simp; omega)
        have hc1 := fun W (h : S2 w B g l l (.slice A6 l.length c6) W) => h.pop false
        have hc2 := fun W h => rpop_calls (.slice A6 l.length c6) l false W h HL7.out
        simp only [← hL, ← hX, ← hb] at hc1 hc2
        have HC1 := Aside0.mk hc1
        have HC2 := Aside0.mk hc2
        clear hc1 hc2 hL hX hb
        go_wp2_with fail
        rw [← Hob.out]
        go_at_call 9
        with_reducible refine Calls.mono (HC1.out _ ((HS0.out (.cells #[.int .i64 2, .int .i64 q1, .int .i64 q2] 29)))) ?_
        rintro e w2 ⟨rfl, hs2, hk2⟩
        have HS2 := Aside0.mk hs2
        have HO2 := Aside0.mk (hk2 _ _ _ (HO0.out _) (by decide) (by decide))
        obtain ⟨y0, y1, y2⟩ := cells3 HO2.out
        clear hs2 hk2
        go_wp2_with fail
        go_at_call 13
        with_reducible refine Calls.mono (HC2.out _ HS2.out.rd) ?_
        rintro e w3 ⟨v3, rfl, hr3, hb3, hf3⟩
        have HS3 := Aside0.mk (HS2.out.fresh hr3 hb3 hf3)
        obtain ⟨A3, c3, e3, -, -⟩ := hr3
        subst e3
        clear hb3 hf3
        go_wp2_with fail
        go_at_call 25
        with_reducible refine Calls.mono HS3.out.st.len ?_
        rintro e w' ⟨rfl, rfl⟩
        go_wp2_with fail
        go_at_call 10
        with_reducible refine Calls.mono HS3.out.st.all ?_
        rintro e wa ⟨va, rfl, hra, hba, -⟩
        have HRa := Aside0.mk hra
        have HSa := Aside0.mk (HS3.out.below hba)
        clear hra hba
        go_wp2_with fail
        go_at_call 23
        with_reducible refine Calls.mono (rsame_calls va _ L wa HRa.out HSa.out.rd (by have := Hll.out; have := HLN.out; omega)) ?_
        rintro e wb ⟨rfl, hwb⟩
        have HSb := Aside0.mk (HSa.out.below hwb.below)
        clear hwb
        go_wp2
        go_roundw
        case rel => exact ⟨k + 1, L, by have := Hlt.out; omega, by simp, by have := Hll.out; have := HLN.out; omega, HSb.out⟩
        case measure => have := Hlt.out; simp [intOf]; omega
      by_cases t3 : q0 = 3
      · subst t3
        obtain ⟨L, hL⟩ : ∃ L : List Int, L = l.tail := ⟨_, rfl⟩
        obtain ⟨X, hX⟩ : ∃ X : Int, X = l.getD 0 0 := ⟨_, rfl⟩
        obtain ⟨b, hb⟩ : ∃ b, b = !l.isEmpty := ⟨_, rfl⟩
        have HLN := Aside0.mk (show L.length ≤ l.length + 1 by rw [hL]; simp; omega)
        have hc1 := fun W (h : S2 w B g l l (.slice A6 l.length c6) W) => h.pop true
        have hc2 := fun W h => rpop_calls (.slice A6 l.length c6) l true W h HL7.out
        simp only [if_true, ← hL, ← hX, ← hb] at hc1 hc2
        have HC1 := Aside0.mk hc1
        have HC2 := Aside0.mk hc2
        clear hc1 hc2 hL hX hb
        go_wp2_with fail
        rw [← Hob.out]
        go_at_call 9
        with_reducible refine Calls.mono (HC1.out _ ((HS0.out (.cells #[.int .i64 3, .int .i64 q1, .int .i64 q2] 29)))) ?_
        rintro e w2 ⟨rfl, hs2, hk2⟩
        have HS2 := Aside0.mk hs2
        have HO2 := Aside0.mk (hk2 _ _ _ (HO0.out _) (by decide) (by decide))
        obtain ⟨y0, y1, y2⟩ := cells3 HO2.out
        clear hs2 hk2
        go_wp2_with fail
        go_at_call 13
        with_reducible refine Calls.mono (HC2.out _ HS2.out.rd) ?_
        rintro e w3 ⟨v3, rfl, hr3, hb3, hf3⟩
        have HS3 := Aside0.mk (HS2.out.fresh hr3 hb3 hf3)
        obtain ⟨A3, c3, e3, -, -⟩ := hr3
        subst e3
        clear hb3 hf3
        go_wp2_with fail
        go_at_call 25
        with_reducible refine Calls.mono HS3.out.st.len ?_
        rintro e w' ⟨rfl, rfl⟩
        go_wp2_with fail
        go_at_call 10
        with_reducible refine Calls.mono HS3.out.st.all ?_
        rintro e wa ⟨va, rfl, hra, hba, -⟩
        have HRa := Aside0.mk hra
        have HSa := Aside0.mk (HS3.out.below hba)
        clear hra hba
        go_wp2_with fail
        go_at_call 23
        with_reducible refine Calls.mono (rsame_calls va _ L wa HRa.out HSa.out.rd (by have := Hll.out; have := HLN.out; omega)) ?_
        rintro e wb ⟨rfl, hwb⟩
        have HSb := Aside0.mk (HSa.out.below hwb.below)
        clear hwb
        go_wp2
        go_roundw
        case rel => exact ⟨k + 1, L, by have := Hlt.out; omega, by simp, by have := Hll.out; have := HLN.out; omega, HSb.out⟩
        case measure => have := Hlt.out; simp [intOf]; omega
      by_cases t4 : q0 = 4
      · subst t4
        obtain ⟨X, hX⟩ : ∃ X : Int, X = (if okI l.length q1 then l.getD (placeI l.length q1).toNat 0 else 0) := ⟨_, rfl⟩
        obtain ⟨b, hb⟩ : ∃ b, b = okI l.length q1 := ⟨_, rfl⟩
        have HLN := Aside0.mk (show l.length ≤ l.length + 1 by omega)
        have hc1 := fun W (h : S2 w B g l l (.slice A6 l.length c6) W) => h.st.at_ q1 B1
        have hc2 := fun W h => rat_calls (.slice A6 l.length c6) l q1 W h HL7.out B1.out
        simp only [← hX] at hc1 hc2
        simp only [← hb] at hc1 hc2
        have HC1 := Aside0.mk hc1
        have HC2 := Aside0.mk hc2
        clear hc1 hc2 hX hb
        go_wp2_with fail
        rw [← Hob.out]
        go_at_call 11
        with_reducible refine Calls.mono (HC1.out _ ((HS0.out (.cells #[.int .i64 4, .int .i64 q1, .int .i64 q2] 29)))) ?_
        rintro e w2 ⟨rfl, hb2⟩
        have HS2 := Aside0.mk ((HS0.out _).below hb2)
        have HO2 := Aside0.mk (KeepT.of_below hb2 _ _ _ (HO0.out _) (by decide) (by decide))
        obtain ⟨y0, y1, y2⟩ := cells3 HO2.out
        clear hb2
        go_wp2_with fail
        go_at_call 14
        with_reducible refine Calls.mono (HC2.out _ HS2.out.rd) ?_
        rintro e w3 ⟨rfl, hb3⟩
        have HS3 := Aside0.mk (HS2.out.below hb3)
        clear hb3
        go_wp2_with fail
        go_at_call 25
        with_reducible refine Calls.mono HS3.out.st.len ?_
        rintro e w' ⟨rfl, rfl⟩
        go_wp2_with fail
        go_at_call 10
        with_reducible refine Calls.mono HS3.out.st.all ?_
        rintro e wa ⟨va, rfl, hra, hba, -⟩
        have HRa := Aside0.mk hra
        have HSa := Aside0.mk (HS3.out.below hba)
        clear hra hba
        go_wp2_with fail
        go_at_call 23
        with_reducible refine Calls.mono (rsame_calls va _ l wa HRa.out HSa.out.rd (by have := Hll.out; have := HLN.out; omega)) ?_
        rintro e wb ⟨rfl, hwb⟩
        have HSb := Aside0.mk (HSa.out.below hwb.below)
        clear hwb
        go_wp2
        go_roundw
        case rel => exact ⟨k + 1, l, by have := Hlt.out; omega, by simp, by have := Hll.out; have := HLN.out; omega, HSb.out⟩
        case measure => have := Hlt.out; simp [intOf]; omega
      by_cases t5 : q0 = 5
      · subst t5
        obtain ⟨L, hL⟩ : ∃ L : List Int, L = (if okI l.length q1 then l.set (placeI l.length q1).toNat q2 else l) := ⟨_, rfl⟩
        obtain ⟨b, hb⟩ : ∃ b, b = okI l.length q1 := ⟨_, rfl⟩
        have HLN := Aside0.mk (show L.length ≤ l.length + 1 by rw [hL]; split <;> simp)
        have hc1 := fun W (h : S2 w B g l l (.slice A6 l.length c6) W) => h.set_ q1 q2 B1
        have hc2 := fun W h => rset_calls (.slice A6 l.length c6) l q1 q2 W h HL7.out B1.out
        simp only [← hL] at hc1 hc2
        simp only [← hb] at hc1 hc2
        have HC1 := Aside0.mk hc1
        have HC2 := Aside0.mk hc2
        clear hc1 hc2 hL hb
        go_wp2_with fail
        rw [← Hob.out]
        go_at_call 15
        with_reducible refine Calls.mono (HC1.out _ ((HS0.out (.cells #[.int .i64 5, .int .i64 q1, .int .i64 q2] 29)))) ?_
        rintro e w2 ⟨rfl, hs2, hk2⟩
        have HS2 := Aside0.mk hs2
        have HO2 := Aside0.mk (hk2 _ _ _ (HO0.out _) (by decide) (by decide))
        obtain ⟨y0, y1, y2⟩ := cells3 HO2.out
        clear hs2 hk2
        go_wp2_with fail
        go_at_call 16
        with_reducible refine Calls.mono (HC2.out _ HS2.out.rd) ?_
        rintro e w3 ⟨v3, rfl, hr3, hb3, hf3⟩
        have HS3 := Aside0.mk (HS2.out.fresh hr3 hb3 hf3)
        obtain ⟨A3, c3, e3, -, -⟩ := hr3
        subst e3
        clear hb3 hf3
        go_wp2_with fail
        go_at_call 25
        with_reducible refine Calls.mono HS3.out.st.len ?_
        rintro e w' ⟨rfl, rfl⟩
        go_wp2_with fail
        go_at_call 10
        with_reducible refine Calls.mono HS3.out.st.all ?_
        rintro e wa ⟨va, rfl, hra, hba, -⟩
        have HRa := Aside0.mk hra
        have HSa := Aside0.mk (HS3.out.below hba)
        clear hra hba
        go_wp2_with fail
        go_at_call 23
        with_reducible refine Calls.mono (rsame_calls va _ L wa HRa.out HSa.out.rd (by have := Hll.out; have := HLN.out; omega)) ?_
        rintro e wb ⟨rfl, hwb⟩
        have HSb := Aside0.mk (HSa.out.below hwb.below)
        clear hwb
        go_wp2
        go_roundw
        case rel => exact ⟨k + 1, L, by have := Hlt.out; omega, by simp, by have := Hll.out; have := HLN.out; omega, HSb.out⟩
        case measure => have := Hlt.out; simp [intOf]; omega
      by_cases t6 : q0 = 6
      · subst t6
        obtain ⟨L, hL⟩ : ∃ L : List Int, L = (if 0 ≤ q1 ∧ q1 ≤ l.length then l.take q1.toNat ++ q2 :: l.drop q1.toNat else l) := ⟨_, rfl⟩
        obtain ⟨b, hb⟩ : ∃ b, b = decide (0 ≤ q1 ∧ q1 ≤ l.length) := ⟨_, rfl⟩
        have HLN := Aside0.mk (show L.length ≤ l.length + 1 by rw [hL]; split <;> simp <;> omega)
        have hc1 := fun W (h : S2 w B g l l (.slice A6 l.length c6) W) => h.insert q1 q2 HL6.out
        have hc2 := fun W h => rinsert_calls (.slice A6 l.length c6) l q1 q2 W h HL7.out
        simp only [← hL] at hc1 hc2
        simp only [← hb] at hc1 hc2
        have HC1 := Aside0.mk hc1
        have HC2 := Aside0.mk hc2
        clear hc1 hc2 hL hb
        go_wp2_with fail
        rw [← Hob.out]
        go_at_call 17
        with_reducible refine Calls.mono (HC1.out _ ((HS0.out (.cells #[.int .i64 6, .int .i64 q1, .int .i64 q2] 29)))) ?_
        rintro e w2 ⟨rfl, hs2, hk2⟩
        have HS2 := Aside0.mk hs2
        have HO2 := Aside0.mk (hk2 _ _ _ (HO0.out _) (by decide) (by decide))
        obtain ⟨y0, y1, y2⟩ := cells3 HO2.out
        clear hs2 hk2
        go_wp2_with fail
        go_at_call 18
        with_reducible refine Calls.mono (HC2.out _ HS2.out.rd) ?_
        rintro e w3 ⟨v3, rfl, hr3, hb3, hf3⟩
        have HS3 := Aside0.mk (HS2.out.fresh hr3 hb3 hf3)
        obtain ⟨A3, c3, e3, -, -⟩ := hr3
        subst e3
        clear hb3 hf3
        go_wp2_with fail
        go_at_call 25
        with_reducible refine Calls.mono HS3.out.st.len ?_
        rintro e w' ⟨rfl, rfl⟩
        go_wp2_with fail
        go_at_call 10
        with_reducible refine Calls.mono HS3.out.st.all ?_
        rintro e wa ⟨va, rfl, hra, hba, -⟩
        have HRa := Aside0.mk hra
        have HSa := Aside0.mk (HS3.out.below hba)
        clear hra hba
        go_wp2_with fail
        go_at_call 23
        with_reducible refine Calls.mono (rsame_calls va _ L wa HRa.out HSa.out.rd (by have := Hll.out; have := HLN.out; omega)) ?_
        rintro e wb ⟨rfl, hwb⟩
        have HSb := Aside0.mk (HSa.out.below hwb.below)
        clear hwb
        go_wp2
        go_roundw
        case rel => exact ⟨k + 1, L, by have := Hlt.out; omega, by simp, by have := Hll.out; have := HLN.out; omega, HSb.out⟩
        case measure => have := Hlt.out; simp [intOf]; omega
      by_cases t7 : q0 = 7
      · subst t7
        obtain ⟨L, hL⟩ : ∃ L : List Int, L = (if okI l.length q1 then l.take (placeI l.length q1).toNat ++ l.drop ((placeI l.length q1).toNat + 1) else l) := ⟨_, rfl⟩
        obtain ⟨b, hb⟩ : ∃ b, b = okI l.length q1 := ⟨_, rfl⟩
        have HLN := Aside0.mk (show L.length ≤ l.length + 1 by rw [hL]; split <;> simp <;> omega)
        have hc1 := fun W (h : S2 w B g l l (.slice A6 l.length c6) W) => h.remove q1 B1
        have hc2 := fun W h => rremove_calls (.slice A6 l.length c6) l q1 W h HL7.out B1.out
        simp only [← hL] at hc1 hc2
        simp only [← hb] at hc1 hc2
        have HC1 := Aside0.mk hc1
        have HC2 := Aside0.mk hc2
        clear hc1 hc2 hL hb
        go_wp2_with fail
        rw [← Hob.out]
        go_at_call 19
        with_reducible refine Calls.mono (HC1.out _ ((HS0.out (.cells #[.int .i64 7, .int .i64 q1, .int .i64 q2] 29)))) ?_
        rintro e w2 ⟨rfl, hs2, hk2⟩
        have HS2 := Aside0.mk hs2
        have HO2 := Aside0.mk (hk2 _ _ _ (HO0.out _) (by decide) (by decide))
        obtain ⟨y0, y1, y2⟩ := cells3 HO2.out
        clear hs2 hk2
        go_wp2_with fail
        go_at_call 20
        with_reducible refine Calls.mono (HC2.out _ HS2.out.rd) ?_
        rintro e w3 ⟨v3, rfl, hr3, hb3, hf3⟩
        have HS3 := Aside0.mk (HS2.out.fresh hr3 hb3 hf3)
        obtain ⟨A3, c3, e3, -, -⟩ := hr3
        subst e3
        clear hb3 hf3
        go_wp2_with fail
        go_at_call 25
        with_reducible refine Calls.mono HS3.out.st.len ?_
        rintro e w' ⟨rfl, rfl⟩
        go_wp2_with fail
        go_at_call 10
        with_reducible refine Calls.mono HS3.out.st.all ?_
        rintro e wa ⟨va, rfl, hra, hba, -⟩
        have HRa := Aside0.mk hra
        have HSa := Aside0.mk (HS3.out.below hba)
        clear hra hba
        go_wp2_with fail
        go_at_call 23
        with_reducible refine Calls.mono (rsame_calls va _ L wa HRa.out HSa.out.rd (by have := Hll.out; have := HLN.out; omega)) ?_
        rintro e wb ⟨rfl, hwb⟩
        have HSb := Aside0.mk (HSa.out.below hwb.below)
        clear hwb
        go_wp2
        go_roundw
        case rel => exact ⟨k + 1, L, by have := Hlt.out; omega, by simp, by have := Hll.out; have := HLN.out; omega, HSb.out⟩
        case measure => have := Hlt.out; simp [intOf]; omega
      by_cases t8 : q0 = 8
      · subst t8
        obtain ⟨L, hL⟩ : ∃ L : List Int, L = cutL l (spanN l.length q1 q2).1 (spanN l.length q1 q2).2 := ⟨_, rfl⟩
        have HLN := Aside0.mk (show L.length ≤ l.length + 1 by rw [hL]; simp [cutL]; omega)
        have hc1 := fun W (h : S2 w B g l l (.slice A6 l.length c6) W) => h.keep q1 q2 B1 B2
        have hc2 := fun W h => rcut_calls (.slice A6 l.length c6) l q1 q2 W h HL7.out
        simp only [← hL] at hc1 hc2
        have HC1 := Aside0.mk hc1
        have HC2 := Aside0.mk hc2
        clear hc1 hc2 hL
        go_wp2_with fail
        rw [← Hob.out]
        go_at_call 21
        with_reducible refine Calls.mono (HC1.out _ ((HS0.out (.cells #[.int .i64 8, .int .i64 q1, .int .i64 q2] 29)))) ?_
        rintro e w2 ⟨rfl, hs2, hk2⟩
        have HS2 := Aside0.mk hs2
        have HO2 := Aside0.mk (hk2 _ _ _ (HO0.out _) (by decide) (by decide))
        obtain ⟨y0, y1, y2⟩ := cells3 HO2.out
        clear hs2 hk2
        go_wp2_with fail
        go_at_call 22
        with_reducible refine Calls.mono (HC2.out _ HS2.out.rd) ?_
        rintro e w3 ⟨v3, rfl, hr3, hb3, hf3⟩
        have HS3 := Aside0.mk (HS2.out.fresh hr3 hb3 hf3)
        obtain ⟨A3, c3, e3, -, -⟩ := hr3
        subst e3
        clear hb3 hf3
        go_wp2_with fail
        go_at_call 25
        with_reducible refine Calls.mono HS3.out.st.len ?_
        rintro e w' ⟨rfl, rfl⟩
        go_wp2_with fail
        go_at_call 10
        with_reducible refine Calls.mono HS3.out.st.all ?_
        rintro e wa ⟨va, rfl, hra, hba, -⟩
        have HRa := Aside0.mk hra
        have HSa := Aside0.mk (HS3.out.below hba)
        clear hra hba
        go_wp2_with fail
        go_at_call 23
        with_reducible refine Calls.mono (rsame_calls va _ L wa HRa.out HSa.out.rd (by have := Hll.out; have := HLN.out; omega)) ?_
        rintro e wb ⟨rfl, hwb⟩
        have HSb := Aside0.mk (HSa.out.below hwb.below)
        clear hwb
        go_wp2
        go_roundw
        case rel => exact ⟨k + 1, L, by have := Hlt.out; omega, by simp, by have := Hll.out; have := HLN.out; omega, HSb.out⟩
        case measure => have := Hlt.out; simp [intOf]; omega
      have u0 : (q0 == 0) = false := beq_eq_false_iff_ne.mpr t0
      clear t0
      have u1 : (q0 == 1) = false := beq_eq_false_iff_ne.mpr t1
      clear t1
      have u2 : (q0 == 2) = false := beq_eq_false_iff_ne.mpr t2
      clear t2
      have u3 : (q0 == 3) = false := beq_eq_false_iff_ne.mpr t3
      clear t3
      have u4 : (q0 == 4) = false := beq_eq_false_iff_ne.mpr t4
      clear t4
      have u5 : (q0 == 5) = false := beq_eq_false_iff_ne.mpr t5
      clear t5
      have u6 : (q0 == 6) = false := beq_eq_false_iff_ne.mpr t6
      clear t6
      have u7 : (q0 == 7) = false := beq_eq_false_iff_ne.mpr t7
      clear t7
      have u8 : (q0 == 8) = false := beq_eq_false_iff_ne.mpr t8
      clear t8
      obtain ⟨L, hL⟩ : ∃ L : List Int, L = cutL l (spanN l.length q1 q2).1 (spanN l.length q1 q2).2 := ⟨_, rfl⟩
      have HLN := Aside0.mk (show l.length ≤ l.length + 1 by omega)
      have HLL := Aside0.mk (show L.length ≤ l.length by rw [hL]; simp [cutL]; omega)
      have hc1 := fun W (h : S2 w B g l l (.slice A6 l.length c6) W) => h.st.cut q1 q2 B1 B2
      have hc2 := fun W h => rcut_calls (.slice A6 l.length c6) l q1 q2 W h HL7.out
      simp only [← hL] at hc1 hc2
      have HC1 := Aside0.mk hc1
      have HC2 := Aside0.mk hc2
      clear hc1 hc2 hL
      go_wp2_with fail
      rw [← Hob.out]
      obtain ⟨W0, hW0⟩ : ∃ W0, W0 = wr.alloc (.cells #[.int .i64 q0, .int .i64 q1, .int .i64 q2] 29) := ⟨_, rfl⟩
      rw [← hW0]
      have HSW := Aside0.mk (HS0.out (.cells #[.int .i64 q0, .int .i64 q1, .int .i64 q2] 29))
      have HOW := Aside0.mk (HO0.out (.cells #[.int .i64 q0, .int .i64 q1, .int .i64 q2] 29))
      rw [← hW0] at HSW HOW
      obtain ⟨y0, y1, y2⟩ := cells3 HOW.out
      clear hW0 x0 x1 x2
      go_region_held3 (fun w' => w'.cell? ⟨ob, 1, none⟩ = some (.int .i64 q1) ∧ w'.cell? ⟨ob, 2, none⟩ = some (.int .i64 q2)) (go_keep) (first | (go_at_call 24; (with_reducible refine Calls.mono (HC1.out _ (HSW.out.below (below_drew (Below.refl _ _)))) ?_); rintro e wa ⟨va, rfl, hra, hba, -⟩; have HRa := Aside0.mk hra; have HSa := Aside0.mk ((HSW.out.below (below_drew (Below.refl _ _))).below hba); have HOa := Aside0.mk (KeepT.of_below hba _ _ _ HOW.out (by decide) (by decide)); obtain ⟨z0, z1, z2⟩ := cells3 HOa.out; clear hra hba) | (go_at_call 22; (with_reducible refine Calls.mono (HC2.out _ HSa.out.rd) ?_); rintro e wb ⟨vb, rfl, hrb, hbb, -⟩; have HRb := Aside0.mk hrb; have HRa2 := Aside0.mk (HRa.out.below hbb); have HSb := Aside0.mk (HSa.out.below hbb); have HOb := Aside0.mk (KeepT.of_below hbb _ _ _ HOa.out (by decide) (by decide)); obtain ⟨s0, s1, s2⟩ := cells3 HOb.out; clear hrb hbb) | (go_at_call 23; (with_reducible refine Calls.mono (rsame_calls va vb L _ HRa2.out HRb.out (by have := Hll.out; have := HLL.out; omega)) ?_); rintro e wc ⟨rfl, hwc⟩; have HS3 := Aside0.mk (HSb.out.below hwc.below); have HOc := Aside0.mk (KeepT.of_below hwc.below _ _ _ HOb.out (by decide) (by decide)); obtain ⟨r0, r1, r2⟩ := cells3 HOc.out; clear hwc))
      go_wp2_with fail
      go_at_call 25
      with_reducible refine Calls.mono HS3.out.st.len ?_
      rintro e w' ⟨rfl, rfl⟩
      go_wp2_with fail
      go_at_call 10
      with_reducible refine Calls.mono HS3.out.st.all ?_
      rintro e wa ⟨va, rfl, hra, hba, -⟩
      have HRa := Aside0.mk hra
      have HSa := Aside0.mk (HS3.out.below hba)
      clear hra hba
      go_wp2_with fail
      go_at_call 23
      with_reducible refine Calls.mono (rsame_calls va _ l wa HRa.out HSa.out.rd (by have := Hll.out; have := HLN.out; omega)) ?_
      rintro e wb ⟨rfl, hwb⟩
      have HSb := Aside0.mk (HSa.out.below hwb.below)
      clear hwb
      go_wp2
      go_roundw
      case rel => exact ⟨k + 1, l, by have := Hlt.out; omega, by simp, by have := Hll.out; have := HLN.out; omega, HSb.out⟩
      case measure => have := Hlt.out; simp [intOf]; omega
    · have e1 : decide ((k : Int) < (n : Int)) = false := decide_eq_false (by omega)
      have e2 : decide (k < n) = false := decide_eq_false hlt
      clear hlt hll hkn
      go_wp2_with fail
      go_at_call 6
      with_reducible refine Calls.mono (alive_calls wr) ?_
      rintro e w9 ⟨rfl, hb9⟩
      have H9 := Aside0.mk ((HS.out.below hb9).st.out)
      clear hb9
      go_wp2
      go_ret
      exact ⟨rfl, H9.out⟩
end Go.Proofs.Ytglkfoldhobflaa.Dq
namespace Go.Proofs.Ytglkfoldhobflaa.X
set_option linter.unusedVariables false
open Go.RowKit Go.Proofs.YtglkfoldhobflaaW.PrintWords Go.Proofs.YtglkfoldhobflaaW.PrintMore Go.Proofs.YtglkfoldhobflaaW.PrintLast Go.Proofs.Ytglkfoldhobflaa.Dq
theorem mewslaw09_DequePlays.calls (k : Nat) (A0 : Option Addr) (c0 : Nat) (l0 : List Int) (A1 : Option Addr) (c1 : Nat) (l1 : List S29) (r : Bool) (w : World) (hr0 : Kd.C (Kd.int .i64) w A0 l0.length l0) (hc0 : l0.length ≤ c0) (hr1 : Kd.C k29 w A1 l1.length l1) (hc1 : l1.length ≤ c1) (hr_ : Aside0 (r = true)) (h : mewslaw09_DequePlays.f k l0 l1 = some r) :
    Calls Try.prog 4 #[.slice A0 l0.length c0, .slice A1 l1.length c1] w fun e w' => e = .returned (.bool r) ∧ Below w.heap.size w w' := by
  have hbd : Bd29 l0 l1 := by
    unfold mewslaw09_DequePlays.f at h
    by_cases b : Bd29 l0 l1
    · exact b
    · rw [if_neg b] at h; cases h
  rw [hr_.out]
  by_cases c : 300 < l0.length ∨ 300 < l1.length
  · exact plays_far A0 A1 c0 c1 l0.length l1.length w c
  · exact plays_near A0 c0 l0 A1 c1 l1 w hr0 hc0 hr1 hbd (by omega) (by omega)
end Go.Proofs.Ytglkfoldhobflaa.X
