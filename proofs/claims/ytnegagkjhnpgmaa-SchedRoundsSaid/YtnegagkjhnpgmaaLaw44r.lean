/- Where no handle waits: the rounds of a place. -/
import Derived.Test.YtnegagkjhnpgmaaScRow
namespace Go.Proofs.Ytnegagkjhnpgmaa.X
open Go.RowKit Go.Proofs.YtnegagkjhnpgmaaW.PrintWords Go.Proofs.YtnegagkjhnpgmaaW.PrintMore Go.Proofs.YtnegagkjhnpgmaaW.PrintLast
set_option linter.unusedVariables false
noncomputable def mewslaw44_SchedRounds.f (_k : Nat) (a0 a1 : Int) (l2 : List S29) : Option Bool := if (0 ≤ a0 ∧ a0 ≤ 255) ∧ (-9223372036854775808 ≤ a1 ∧ a1 ≤ 9223372036854775807) then some true else none
end Go.Proofs.Ytnegagkjhnpgmaa.X
namespace Go.Proofs.Ytnegagkjhnpgmaa.Sc
open Go.RowKit Go.Proofs.YtnegagkjhnpgmaaW.PrintWords Go.Proofs.YtnegagkjhnpgmaaW.PrintMore Go.Proofs.YtnegagkjhnpgmaaW.PrintLast Go.Proofs.Ytnegagkjhnpgmaa.Dq Go.Proofs.Ytnegagkjhnpgmaa.X
set_option linter.unusedVariables false
set_option linter.unusedSimpArgs false
attribute [local go_sem ↓] Go.wp_at_zero Go.wp_at_succ
theorem r0_ (K : Nat) (h : K ≤ 1000) : -1000000 ≤ (K : Int) ∧ (K : Int) ≤ 1000000 := by omega
theorem r1_ (K : Nat) (h : K ≤ 1000) : -1000000 ≤ (K : Int) - 1 ∧ (K : Int) - 1 ≤ 1000000 := by omega
theorem r7_ (z : Int) : z - 1 + 1 = z := by omega
theorem r6_ (K : Nat) (h : 0 < K) (h2 : K ≤ 1000) : 0 ≤ (K : Int) - 1 ∧ (K : Int) - 1 ≤ 1000000 := by omega
theorem rn_ (n : Nat) (h : n ≤ 100) : ¬ (100 : Int) < (n : Int) := by omega
theorem w8 (z : Int) (h : 0 ≤ z ∧ z ≤ 255) : IntKind.u8.wrap z = z := by rw [IntKind.wrap_u8]; omega
theorem w64 (z : Int) (h : 0 ≤ z ∧ z ≤ 1000000) : IntKind.u64.wrap z = z := by rw [IntKind.wrap_u64]; omega
theorem wi (z : Int) (h : -1000000 ≤ z ∧ z ≤ 1000000) : IntKind.i64.wrap z = z := by rw [IntKind.wrap_i64]; omega
theorem ww (z : Int) (h : -1000000 ≤ z ∧ z ≤ 1000000) : wrap64 z = z := by unfold wrap64; omega
/-- The job at a place. -/
def jb (i : Nat) : Jb := ⟨((i % 3 : Nat) : Int), none, 0, 0, (i : Int) + 1, ⟨#[]⟩⟩
def jbs (n : Nat) : List Jb := (List.range n).map jb
theorem jbs_len (n : Nat) : (jbs n).length = n := by simp [jbs]
theorem jbs_take (n i : Nat) (h : i < n) : (jbs n).take (i + 1) = (jbs n).take i ++ [jb i] := by
  rw [take_next _ i (by rw [jbs_len]; exact h)]
  simp [jbs]
theorem jbs_drop (n i : Nat) (h : i < n) : (jbs n).drop i = jb i :: (jbs n).drop (i + 1) := by
  rw [List.drop_eq_getElem_cons (by rw [jbs_len]; exact h)]
  simp [jbs]
theorem nx_nil (Q : List Jb) (S : Int → List Jb) : nx [] Q S = (Q.head?, Q.tail, S) := by
  cases Q with
  | nil => rfl
  | cons x Q => exact nx_free Q S (by simp)
theorem take_more (R : List Jb) (r : Nat) (h : r < R.length) : R.take (r + 1) = R.take r ++ [R[r]'h] := take_next R r h
def cd (K q : Nat) : Nat := (K + q - 1) / q
theorem cd_of {K q r : Nat} (h1 : q * r < K) (h2 : K ≤ q * r + q) (hq : 0 < q) : cd K q = r + 1 := by
  unfold cd
  refine Nat.div_eq_of_lt_le ?_ ?_
  · rw [Nat.add_mul, Nat.mul_comm r q]; omega
  · rw [Nat.add_mul, Nat.add_mul, Nat.mul_comm r q]; omega
theorem rd_all : ∀ K : Fin 61, ∀ q : Fin 10, 0 < K.val → 0 < q.val → sched_Rounds.f (K.val : Int) (q.val : Int) = some ((cd K.val q.val : Nat) : Int) ∧ sched_Rounds.f (-(K.val : Int)) (q.val : Int) = some 0 ∧ mewsref44_Rounds.f 70 (K.val : Int) (q.val : Int) = some ((cd K.val q.val : Nat) : Int) := by decide +kernel
theorem rd_of {K q : Nat} (h1 : 0 < K) (h2 : K ≤ 60) (h3 : 0 < q) (h4 : q ≤ 9) : sched_Rounds.f (K : Int) (q : Int) = some ((cd K q : Nat) : Int) ∧ sched_Rounds.f (-(K : Int)) (q : Int) = some 0 ∧ mewsref44_Rounds.f 70 (K : Int) (q : Int) = some ((cd K q : Nat) : Int) :=
  rd_all ⟨K, by omega⟩ ⟨q, by omega⟩ h1 h3
def RelP1 (w : World) (g K : Nat) (v : Value) (wr : World) : Prop := ∃ i : Nat, v = .int .i64 i ∧ i ≤ K ∧ LSt w g ((jbs K).take i) (fun _ => []) (fun _ => False) wr
def RelO (w : World) (g K q : Nat) (R : List Jb) (v11 v12 : Value) (wr : World) : Prop := ∃ (r : Nat) (Q : List Jb), v11 = .int .i64 r ∧ LSt w g Q (fun _ => []) (fun _ => False) wr ∧ Q.length ≤ 300 ∧ ((v12 = .bool false ∧ q * r < K ∧ Q = (jbs K).drop (q * r) ++ R.take r) ∨ (v12 = .bool true ∧ r = cd K q))
def RelI (w : World) (g K q r : Nat) (R : List Jb) (v12 v55 : Value) (wr : World) : Prop := ∃ (j : Nat) (Q : List Jb), v55 = .int .i64 j ∧ j ≤ q ∧ LSt w g Q (fun _ => []) (fun _ => False) wr ∧ Q.length ≤ 200 ∧ ((v12 = .bool false ∧ q * r + j < K ∧ Q = (jbs K).drop (q * r + j) ++ R.take r) ∨ (v12 = .bool true ∧ K ≤ q * r + j))
def mR (K : Nat) (v11 v12 : Value) : Nat := match v12 with
  | .bool true => 0
  | _ => K + 2 - (intOf v11).toNat
theorem nxt_calls {w wr : World} {g : Nat} {Q : List Jb} (h : LSt w g Q (fun _ => []) (fun _ => False) wr) (hQ : Q.length ≤ 200) (x : Jb) (b : Bool) (hx : Q.head?.getD Jb.z = x) (hb : Q.head?.isSome = b) :
    Calls Try.prog 11 #[.pointer (some ⟨g, 0, none⟩), .slice none 0 0] wr fun e w' => e = .returned (.tuple #[.agg #[.int .i64 x.h, .slice x.A x.n x.c, .int .i64 x.sz, .string x.ft], .bool b]) ∧ LSt w g Q.tail (fun _ => []) (fun _ => False) w' ∧ True := by
  have h1 := h.next (A0 := none) (l0 := []) (c0 := 0) (by decide) (by decide) (C_nil _) (fun ad e => by cases e) (fun k => by simp only [List.length_nil]; omega)
  rw [nx_nil] at h1
  dsimp only at h1
  rw [hx, hb] at h1
  exact h1.mono fun e w' he => ⟨he.1, he.2.1, trivial⟩
theorem rounds_far (a0 a1 : Int) (A : Option Addr) (c n : Nat) (w : World) (hn : 100 < n) : Calls Try.prog 4 #[.int .u8 a0, .int .i64 a1, .slice A n c] w fun e w' => e = .returned (.bool true) ∧ Below w.heap.size w w' := by
  have HB0 := Aside0.mk (Below.refl w.heap.size w)
  have i1 : decide ((n : Int) > 100) = true := decide_eq_true (by omega)
  have i2 : (100 : Int) < (n : Int) := by omega
  have i3 : decide ((100 : Int) < (n : Int)) = true := decide_eq_true i2
  have i4 := eq_true i2
  clear hn
  go_enter Try.func4, Try.ntmps4
  go_wp2_with (first | (go_at_call 7; (with_reducible refine (alive_calls _).mono ?_); rintro e wZ ⟨rfl, hB⟩; have HZ := Aside0.mk hB; clear hB))
  go_ret
  exact ⟨rfl, HZ.out⟩
set_option maxHeartbeats 40000000 in
set_option maxRecDepth 100000 in
theorem rounds_near (a0 a1 : Int) (A : Option Addr) (c n : Nat) (l2 : List S29) (w : World) (hl : l2.length = n) (hn : n ≤ 100) (hC : Kd.C k29 w A l2.length l2) (h0 : 0 ≤ a0) (h1 : a0 ≤ 255) :
    Calls Try.prog 4 #[.int .u8 a0, .int .i64 a1, .slice A n c] w fun e w' => e = .returned (.bool true) ∧ Below w.heap.size w w' := by
  have hu := Try.underlying29
  obtain ⟨R, hR, hRd, _⟩ := jobs_of hC
  have HRD := Aside0.mk hRd
  have HRL := Aside0.mk (hR.trans hl)
  have HNB := Aside0.mk hn
  obtain ⟨K, hK⟩ : ∃ K : Nat, (K : Int) = a0 % 60 + 1 := ⟨(a0 % 60 + 1).toNat, by omega⟩
  have HK := Aside0.mk (show 0 < K ∧ K ≤ 60 by omega)
  have k1 : Int.tmod a0 60 = (K : Int) - 1 := by rw [Int.tmod_eq_emod_of_nonneg h0]; omega
  have hK1 : -1000000 ≤ (K : Int) - 1 ∧ (K : Int) - 1 ≤ 1000000 := by omega
  have hK2 : -1000000 ≤ (K : Int) ∧ (K : Int) ≤ 1000000 := by omega
  have k7 : (K : Int) - 1 + 1 = (K : Int) := by omega
  have k6 : IntKind.u8.wrap ((K : Int) - 1) = (K : Int) - 1 := w8 _ (by omega)
  have k2 : wrap64 ((K : Int) - 1) = (K : Int) - 1 := ww _ hK1
  have k8 : wrap64 (K : Int) = (K : Int) := ww _ hK2
  have k3 : wrap64 ((K : Int) - 1 + 1) = (K : Int) := by rw [k7]; exact k8
  have k4 : IntKind.i64.wrap ((K : Int) - 1) = (K : Int) - 1 := wi _ hK1
  have k9 : IntKind.i64.wrap (K : Int) = (K : Int) := wi _ hK2
  have k5 : IntKind.i64.wrap ((K : Int) - 1 + 1) = (K : Int) := by rw [k7]; exact k9
  obtain ⟨U, hU⟩ : ∃ U : Int, U = IntKind.u64.wrap a1 := ⟨_, rfl⟩
  have hU0 : 0 ≤ U := by rw [hU, IntKind.wrap_u64]; omega
  obtain ⟨q, hq⟩ : ∃ q : Nat, (q : Int) = U % 9 + 1 := ⟨(U % 9 + 1).toNat, by omega⟩
  have HQ := Aside0.mk (show 0 < q ∧ q ≤ 9 by omega)
  have q1 : Int.tmod U 9 = (q : Int) - 1 := by rw [Int.tmod_eq_emod_of_nonneg hU0]; omega
  have hq1 : -1000000 ≤ (q : Int) - 1 ∧ (q : Int) - 1 ≤ 1000000 := r1_ _ (Nat.le_trans HQ.out.2 (by decide))
  have hq2 : -1000000 ≤ (q : Int) ∧ (q : Int) ≤ 1000000 := r0_ _ (Nat.le_trans HQ.out.2 (by decide))
  have q7 : (q : Int) - 1 + 1 = (q : Int) := r7_ _
  have q6 : IntKind.u64.wrap ((q : Int) - 1) = (q : Int) - 1 := w64 _ (r6_ _ HQ.out.1 (Nat.le_trans HQ.out.2 (by decide)))
  have q2 : wrap64 ((q : Int) - 1) = (q : Int) - 1 := ww _ hq1
  have q9 : wrap64 (q : Int) = (q : Int) := ww _ hq2
  have q3 : wrap64 ((q : Int) - 1 + 1) = (q : Int) := by rw [q7]; exact q9
  have q4 : IntKind.i64.wrap ((q : Int) - 1) = (q : Int) - 1 := wi _ hq1
  have q10 : IntKind.i64.wrap (q : Int) = (q : Int) := wi _ hq2
  have q5 : IntKind.i64.wrap ((q : Int) - 1 + 1) = (q : Int) := by rw [q7]; exact q10
  have q8 : IntKind.u64.wrap a1 = U := hU.symm
  have i2 : ¬ (100 : Int) < (n : Int) := rn_ _ HNB.out
  have i1 : decide ((n : Int) > 100) = false := decide_eq_false i2
  have i3 : decide ((100 : Int) < (n : Int)) = false := decide_eq_false i2
  have i4 := eq_false i2
  have RK := Aside0.mk (rd_of HK.out.1 HK.out.2 HQ.out.1 HQ.out.2)
  clear hRd hR hl hC hn hK hq hU hU0 h0 h1 hK1 hK2 hq1 hq2
  go_enter Try.func4, Try.ntmps4
  go_wp2_with (first | (go_at_call 14; (with_reducible refine (far_zero (w.alloc (.cells #[.int .i64 0, .int .i64 0, .slice none 0 0, .int .i64 0, .string (⟨#[]⟩ : ByteArray), .slice none 0 0] 40 (0, 0))) w.heap.size (blk_new w _)).mono ?_); rintro e wf ⟨rfl, hbf⟩; have BF := Aside0.mk (below_tr (below_alloc (Below.refl w.heap.size w) _) hbf); clear hbf) | (go_at_call 8; (with_reducible refine (LSt.new (w0 := w) BF.out (fun _ => False) (fun _ h => h.elim)).mono ?_); rintro e w1 ⟨g, rfl, h1, hb1⟩; have H1 := Aside0.mk h1; clear h1 hb1))
  clear i1 i2 i3 i4 k1 k2 k3 k4 k5 k6 k7 k8 k9 q1 q2 q3 q4 q5 q6 q7 q8 q9 q10
  go_loopw [35] (fun v35 wr => RelP1 w g K v35 wr) (fun v35 _ => K - (intOf v35).toNat)
  case atStart => exact ⟨0, rfl, Nat.zero_le _, H1.out⟩
  case round =>
    obtain ⟨i, rfl, hi, hst⟩ := hrel
    have HST := Aside0.mk hst
    clear hst
    by_cases hlt : i < K
    · have HLT := Aside0.mk hlt
      have e1 : ((i : Int) < (K : Int)) := by omega
      have e3 := eq_true e1
      have m1 : Int.tmod (i : Int) 3 = ((i % 3 : Nat) : Int) := by rw [Int.tmod_eq_emod_of_nonneg (by omega)]; omega
      have m2 : wrap64 ((i : Int) + 1) = (i : Int) + 1 := ww _ (by have := HK.out; omega)
      have m3 : IntKind.i64.wrap ((i : Int) + 1) = (i : Int) + 1 := wi _ (by have := HK.out; omega)
      obtain ⟨mm, hmm⟩ : ∃ mm : Int, mm = ((i % 3 : Nat) : Int) := ⟨_, rfl⟩
      rw [← hmm] at m1
      have m4 : IntKind.i64.wrap mm = mm := wi _ (by omega)
      have m5 : wrap64 mm = mm := ww _ (by omega)
      have HMM := Aside0.mk hmm
      clear hlt hmm
      go_wp2_with fail
      go_at_call 9
      have hP : Calls Try.prog 9 #[.pointer (some ⟨g, 0, none⟩), .slice (some ⟨wr.heap.size, 0, none⟩) 1 1] (wr.alloc (.cells #[.int .i64 mm, .slice none 0 0, .int .i64 ((i : Int) + 1), .string (⟨#[]⟩ : ByteArray)] 29 (0, 0))) _ :=
        LSt.push (w0 := w) (P := fun k => k = wr.heap.size) (R := [jb i]) (n := 1) (c := 1) (HST.out.more (below_alloc (Below.refl _ _) _) (fun k hk => .inr ⟨Nat.le_of_eq hk.symm, by rw [hk]; simp⟩)) rfl (reads_block (blk_new wr _) (by rw [HMM.out]; rfl)) (fun ad e => .inl (by injection e with e; rw [← e])) (by have := HK.out; have := HLT.out; rw [List.length_take]; simp only [List.length_singleton]; omega)
      with_reducible refine Calls.mono hP ?_
      clear hP
      rintro e w2 ⟨rfl, h2, -⟩
      have H2 := Aside0.mk (h2.weak (P' := fun _ => False) (fun _ h => h.elim))
      clear h2
      go_wp2_with fail
      go_roundw
      case rel => exact ⟨i + 1, by simp, HLT.out, by rw [jbs_take K i HLT.out]; exact H2.out⟩
      case measure => have := HLT.out; simp [intOf] <;> omega
    · have e1 : ¬ ((i : Int) < (K : Int)) := by omega
      have e3 := eq_false e1
      have H2 := Aside0.mk (show LSt w g (jbs K) (fun _ => []) (fun _ => False) wr from by have h := HST.out; rw [List.take_of_length_le (by rw [jbs_len]; omega)] at h; exact h)
      clear HST hi hlt
      go_wp2_with fail
      go_loopw [11, 12] (fun v11 v12 wr => RelO w g K q R v11 v12 wr) (fun v11 v12 _ => mR K v11 v12)
      case atStart => exact ⟨0, jbs K, rfl, H2.out, by rw [jbs_len]; have := HK.out; omega, .inl ⟨rfl, by have := HK.out; omega, by simp⟩⟩
      case round =>
        clear H2
        obtain ⟨r, Q, rfl, hst, hql, hcase⟩ := hrel
        have HST := Aside0.mk hst
        have HQL := Aside0.mk hql
        clear hst hql
        rcases hcase with ⟨rfl, hlt, hQ⟩ | ⟨rfl, hr⟩
        · have hqr : r ≤ q * r := Nat.le_mul_of_pos_left r HQ.out.1
          have HRR := Aside0.mk (show r < K by omega)
          have HLT := Aside0.mk hlt
          have HQ0 := Aside0.mk hQ
          have e1 : ¬ ((r : Int) > (K : Int)) := by omega
          have e2 : ¬ ((K : Int) < (r : Int)) := by omega
          have e3 := eq_false e2
          have e4 : decide ((r : Int) > (K : Int)) = false := decide_eq_false e1
          have e5 : decide ((K : Int) < (r : Int)) = false := decide_eq_false e2
          clear hlt hQ hqr
          go_wp2_with fail
          go_loopw [12, 55] (fun v12 v55 wr => RelI w g K q r R v12 v55 wr) (fun _ v55 _ => q - (intOf v55).toNat)
          case atStart => exact ⟨0, Q, rfl, Nat.zero_le _, HST.out, by rw [HQ0.out, List.length_append, List.length_drop, jbs_len, List.length_take]; have := HK.out; have := HNB.out; have := HRL.out; omega, .inl ⟨rfl, HLT.out, HQ0.out⟩⟩
          case round =>
            clear e1 e2 e3 e4 e5 HST
            obtain ⟨j, Q1, rfl, hj, hst, hql, hcase⟩ := hrel
            have HST := Aside0.mk hst
            have HQL1 := Aside0.mk hql
            clear hst hql
            by_cases hjq : j < q
            · have HJQ := Aside0.mk hjq
              have e1 : ((j : Int) < (q : Int)) := by omega
              have e3 := eq_true e1
              have w1' : wrap64 ((j : Int) + 1) = (j : Int) + 1 := ww _ (by have := HQ.out; omega)
              have w2' : IntKind.i64.wrap ((j : Int) + 1) = (j : Int) + 1 := wi _ (by have := HQ.out; omega)
              have s1 : wrap64 ((K : Int) - 1) = (K : Int) - 1 := ww _ (by have := HK.out; omega)
              have s2 : IntKind.i64.wrap ((K : Int) - 1) = (K : Int) - 1 := wi _ (by have := HK.out; omega)
              have s3 : Int.tmod ((K : Int) - 1) 3 = (((K - 1) % 3 : Nat) : Int) := by have := HK.out; rw [Int.tmod_eq_emod_of_nonneg (by omega)]; omega
              obtain ⟨kk, hkk⟩ : ∃ kk : Int, kk = (((K - 1) % 3 : Nat) : Int) := ⟨_, rfl⟩
              rw [← hkk] at s3
              have s4 : IntKind.i64.wrap kk = kk := wi _ (by omega)
              have s5 : wrap64 kk = kk := ww _ (by omega)
              have HKK := Aside0.mk hkk
              clear hjq hkk
              rcases hcase with ⟨rfl, hlt, hQ⟩ | ⟨rfl, hlt⟩
              · have hQ1 : Q1 = jb (q * r + j) :: ((jbs K).drop (q * r + j + 1) ++ R.take r) := by rw [hQ, jbs_drop K _ hlt]; rfl
                have NXT := Aside0.mk (nxt_calls HST.out HQL1.out (jb (q * r + j)) true (by rw [hQ1]; rfl) (by rw [hQ1]; rfl))
                have HT := Aside0.mk (show Q1.tail = (jbs K).drop (q * r + j + 1) ++ R.take r from by rw [hQ1]; rfl)
                have HTL := Aside0.mk (show Q1.tail.length ≤ 200 from by have := HQL1.out; rw [List.length_tail]; omega)
                by_cases hend : q * r + j + 1 = K
                · have xhe : ((jb (q * r + j)).h) = kk := by rw [HKK.out]; show (((q * r + j) % 3 : Nat) : Int) = _; rw [show K - 1 = q * r + j by omega]
                  have xse : ((jb (q * r + j)).sz) = (K : Int) := by show ((q * r + j : Nat) : Int) + 1 = _; omega
                  obtain ⟨x, hx⟩ : ∃ x, x = jb (q * r + j) := ⟨_, rfl⟩
                  rw [← hx] at NXT xhe xse
                  have HEND := Aside0.mk hend
                  obtain ⟨xh, xA, xn, xc, xs, xf⟩ := x
                  dsimp only at xhe xse NXT
                  have xse1 := eq_true xse
                  have xse2 : (xs == (K : Int)) = true := by simp [xse]
                  have xse3 : decide (xs = (K : Int)) = true := decide_eq_true xse
                  have xhe1 := eq_true xhe
                  have xhe2 : (xh == kk) = true := by simp [xhe]
                  have xhe3 : decide (xh = kk) = true := decide_eq_true xhe
                  clear hx hQ hQ1 hlt hend xhe xse
                  as_aux_lemma =>
                    go_wp2_with (first | (go_at_call 11; (with_reducible refine NXT.out.mono ?_); rintro e w3 ⟨rfl, h3, -⟩; have H3 := Aside0.mk h3; clear h3 NXT) | ((with_reducible refine gate_dst (N := 13) rfl ?_); refine box_event ?hg (N := 13) ?hd (cs := #[.int .i64 0, .slice none 0 0, .int .i64 0, .string (⟨#[]⟩ : ByteArray)]) (t := 29) ?hr ?_; (case hd => rfl); (case hg => rfl); (case hr => first | (go_simp; done) | (go_simp; rfl)); intro g9 hg_ w4 hbox hb; have G9 := Aside0.mk hg_; have BW3 := Aside0.mk hb; have B9 := Aside0.mk hbox; clear hbox hb hg_; obtain ⟨u0, u1, u2, u3, v0, v1, v2, v3⟩ := cells4 B9.out) | ((with_reducible refine gate_store (t := 29) (p := 13) rfl ?_); refine store_event2 (w1 := ((((w4.setCell ⟨g9, 0, none⟩ (.int .i64 xh)).setCell ⟨g9, 1, none⟩ (.slice xA xn xc)).setCell ⟨g9, 2, none⟩ (.int .i64 xs)).setCell ⟨g9, 3, none⟩ (.string xf))) ?hg ?hn ?hr ?_; (case hg => rfl); (case hn => rfl); (case hr => first | (go_simp; done) | (go_simp; rfl)); intro w5 hW_; have HW4 := Aside0.mk hW_; clear hW_; have BW := Aside0.mk (show Below w3.heap.size w3 w5 from by rw [HW4.out]; exact below_set (below_set (below_set (below_set BW3.out (Nat.le_of_eq G9.out.symm)) (Nat.le_of_eq G9.out.symm)) (Nat.le_of_eq G9.out.symm)) (Nat.le_of_eq G9.out.symm)); have BX := Aside0.mk (show w5.heap[g9]? = some (.cells #[.int .i64 xh, .slice xA xn xc, .int .i64 xs, .string xf] 29 (0, 0)) from by rw [HW4.out]; exact put4 B9.out _ _ _ _); clear u0 u1 u2 u3 v0 v1 v2 v3 BW3 B9 HW4; obtain ⟨u0, u1, u2, u3, v0, v1, v2, v3⟩ := cells4 BX.out))
                    clear u0 u1 u2 u3 v0 v1 v2 v3
                    go_roundw
                    case rel => exact ⟨j + 1, Q1.tail, by simp, HJQ.out, H3.out.below BW.out, HTL.out, .inr ⟨rfl, by have := HEND.out; omega⟩⟩
                    case measure => have := HJQ.out; simp [intOf] <;> omega
                · have xse : ¬ ((jb (q * r + j)).sz) = (K : Int) := by show ¬ (((q * r + j : Nat) : Int) + 1 = _); omega
                  obtain ⟨x, hx⟩ : ∃ x, x = jb (q * r + j) := ⟨_, rfl⟩
                  rw [← hx] at NXT xse
                  have HEND := Aside0.mk (show q * r + (j + 1) < K by omega)
                  obtain ⟨xh, xA, xn, xc, xs, xf⟩ := x
                  dsimp only at xse NXT
                  have xse1 := eq_false xse
                  have xse2 : (xs == (K : Int)) = false := by simp [xse]
                  have xse3 : decide (xs = (K : Int)) = false := decide_eq_false xse
                  clear hx hQ hQ1 hlt hend
                  as_aux_lemma =>
                    go_wp2_with (first | (go_at_call 11; (with_reducible refine NXT.out.mono ?_); rintro e w3 ⟨rfl, h3, -⟩; have H3 := Aside0.mk h3; clear h3 NXT) | ((with_reducible refine gate_dst (N := 13) rfl ?_); refine box_event ?hg (N := 13) ?hd (cs := #[.int .i64 0, .slice none 0 0, .int .i64 0, .string (⟨#[]⟩ : ByteArray)]) (t := 29) ?hr ?_; (case hd => rfl); (case hg => rfl); (case hr => first | (go_simp; done) | (go_simp; rfl)); intro g9 hg_ w4 hbox hb; have G9 := Aside0.mk hg_; have BW3 := Aside0.mk hb; have B9 := Aside0.mk hbox; clear hbox hb hg_; obtain ⟨u0, u1, u2, u3, v0, v1, v2, v3⟩ := cells4 B9.out) | ((with_reducible refine gate_store (t := 29) (p := 13) rfl ?_); refine store_event2 (w1 := ((((w4.setCell ⟨g9, 0, none⟩ (.int .i64 xh)).setCell ⟨g9, 1, none⟩ (.slice xA xn xc)).setCell ⟨g9, 2, none⟩ (.int .i64 xs)).setCell ⟨g9, 3, none⟩ (.string xf))) ?hg ?hn ?hr ?_; (case hg => rfl); (case hn => rfl); (case hr => first | (go_simp; done) | (go_simp; rfl)); intro w5 hW_; have HW4 := Aside0.mk hW_; clear hW_; have BW := Aside0.mk (show Below w3.heap.size w3 w5 from by rw [HW4.out]; exact below_set (below_set (below_set (below_set BW3.out (Nat.le_of_eq G9.out.symm)) (Nat.le_of_eq G9.out.symm)) (Nat.le_of_eq G9.out.symm)) (Nat.le_of_eq G9.out.symm)); have BX := Aside0.mk (show w5.heap[g9]? = some (.cells #[.int .i64 xh, .slice xA xn xc, .int .i64 xs, .string xf] 29 (0, 0)) from by rw [HW4.out]; exact put4 B9.out _ _ _ _); clear u0 u1 u2 u3 v0 v1 v2 v3 BW3 B9 HW4; obtain ⟨u0, u1, u2, u3, v0, v1, v2, v3⟩ := cells4 BX.out))
                    clear u0 u1 u2 u3 v0 v1 v2 v3
                    go_roundw
                    case rel => exact ⟨j + 1, Q1.tail, by simp, HJQ.out, H3.out.below BW.out, HTL.out, .inl ⟨rfl, HEND.out, by rw [HT.out, ← Nat.add_assoc]⟩⟩
                    case measure => have := HJQ.out; simp [intOf] <;> omega
              · have NXT := Aside0.mk (nxt_calls HST.out HQL1.out (Q1.head?.getD Jb.z) (Q1.head?.isSome) rfl rfl)
                have HTL := Aside0.mk (show Q1.tail.length ≤ 200 from by have := HQL1.out; rw [List.length_tail]; omega)
                obtain ⟨x, hx⟩ : ∃ x, x = Q1.head?.getD Jb.z := ⟨_, rfl⟩
                obtain ⟨b, hb⟩ : ∃ b, b = Q1.head?.isSome := ⟨_, rfl⟩
                rw [← hx, ← hb] at NXT
                have HEND := Aside0.mk (show K ≤ q * r + (j + 1) by omega)
                obtain ⟨xh, xA, xn, xc, xs, xf⟩ := x
                dsimp only at NXT
                clear hx hb hlt
                as_aux_lemma =>
                  go_wp2_with (first | (go_at_call 11; (with_reducible refine NXT.out.mono ?_); rintro e w3 ⟨rfl, h3, -⟩; have H3 := Aside0.mk h3; clear h3 NXT) | ((with_reducible refine gate_dst (N := 13) rfl ?_); refine box_event ?hg (N := 13) ?hd (cs := #[.int .i64 0, .slice none 0 0, .int .i64 0, .string (⟨#[]⟩ : ByteArray)]) (t := 29) ?hr ?_; (case hd => rfl); (case hg => rfl); (case hr => first | (go_simp; done) | (go_simp; rfl)); intro g9 hg_ w4 hbox hb; have G9 := Aside0.mk hg_; have BW3 := Aside0.mk hb; have B9 := Aside0.mk hbox; clear hbox hb hg_; obtain ⟨u0, u1, u2, u3, v0, v1, v2, v3⟩ := cells4 B9.out) | ((with_reducible refine gate_store (t := 29) (p := 13) rfl ?_); refine store_event2 (w1 := ((((w4.setCell ⟨g9, 0, none⟩ (.int .i64 xh)).setCell ⟨g9, 1, none⟩ (.slice xA xn xc)).setCell ⟨g9, 2, none⟩ (.int .i64 xs)).setCell ⟨g9, 3, none⟩ (.string xf))) ?hg ?hn ?hr ?_; (case hg => rfl); (case hn => rfl); (case hr => first | (go_simp; done) | (go_simp; rfl)); intro w5 hW_; have HW4 := Aside0.mk hW_; clear hW_; have BW := Aside0.mk (show Below w3.heap.size w3 w5 from by rw [HW4.out]; exact below_set (below_set (below_set (below_set BW3.out (Nat.le_of_eq G9.out.symm)) (Nat.le_of_eq G9.out.symm)) (Nat.le_of_eq G9.out.symm)) (Nat.le_of_eq G9.out.symm)); have BX := Aside0.mk (show w5.heap[g9]? = some (.cells #[.int .i64 xh, .slice xA xn xc, .int .i64 xs, .string xf] 29 (0, 0)) from by rw [HW4.out]; exact put4 B9.out _ _ _ _); clear u0 u1 u2 u3 v0 v1 v2 v3 BW3 B9 HW4; obtain ⟨u0, u1, u2, u3, v0, v1, v2, v3⟩ := cells4 BX.out))
                  clear u0 u1 u2 u3 v0 v1 v2 v3
                  go_roundw
                  case rel => exact ⟨j + 1, Q1.tail, by simp, HJQ.out, H3.out.below BW.out, HTL.out, .inr ⟨rfl, HEND.out⟩⟩
                  case measure => have := HJQ.out; simp [intOf] <;> omega
            · have e1 : ¬ ((j : Int) < (q : Int)) := by omega
              have e3 := eq_false e1
              have hje : j = q := by omega
              subst hje
              have w1' : wrap64 ((r : Int) + 1) = (r : Int) + 1 := ww _ (by have := HRR.out; have := HK.out; omega)
              have w2' : IntKind.i64.wrap ((r : Int) + 1) = (r : Int) + 1 := wi _ (by have := HRR.out; have := HK.out; omega)
              obtain ⟨b, hv12, HC⟩ : ∃ b : Bool, u12 = .bool b ∧ Aside0 ((b = false ∧ j * r + j < K ∧ Q1 = (jbs K).drop (j * r + j) ++ R.take r) ∨ (b = true ∧ K ≤ j * r + j)) := by
                rcases hcase with ⟨h1, h2⟩ | ⟨h1, h2⟩
                · exact ⟨false, h1, ⟨.inl ⟨rfl, h2⟩⟩⟩
                · exact ⟨true, h1, ⟨.inr ⟨rfl, h2⟩⟩⟩
              subst hv12
              have HCD := Aside0.mk (fun (h : K ≤ j * r + j) => cd_of HLT.out h HQ.out.1)
              clear hcase hjq hj e1
              by_cases hrn : r < n
              · have f1 : ((r : Int) < (n : Int)) := by omega
                have f2 : (0 : Int) ≤ (r : Int) := Int.natCast_nonneg _
                have f3 := eq_true f1
                have f4 := eq_true f2
                have HRN := Aside0.mk (show r < R.length by rw [HRL.out]; exact hrn)
                have HTK := Aside0.mk (take_more R r HRN.out)
                obtain ⟨ad, hAd, hc⟩ := HRD.out (Nat.lt_of_le_of_lt (Nat.zero_le _) HRN.out)
                subst hAd
                obtain ⟨y0, y1, y2, y3⟩ := flat_get R r HRN.out
                obtain ⟨x, hx⟩ : ∃ x, x = R[r]'HRN.out := ⟨_, rfl⟩
                rw [← hx] at y0 y1 y2 y3 HTK
                obtain ⟨xh, xA, xn, xc, xs, xf⟩ := x
                have ho := HST.out.out
                have x0 : wr.cell? (ad.add (r * 4)) = some (.int .i64 xh) := cell_below (hc _ _ y0) ho
                have x1' := cell_below (hc _ _ y1) ho
                have x2' := cell_below (hc _ _ y2) ho
                have x3' := cell_below (hc _ _ y3) ho
                rw [← Addr.add_add] at x1' x2' x3'
                have x1 : wr.cell? ⟨(ad.add (r * 4)).block, (ad.add (r * 4)).off + 1, none⟩ = some (.slice xA xn xc) := by rw [← add_field _ _ 1 (by omega)]; exact cell_below (hc _ _ y1) ho
                have x2 : wr.cell? ⟨(ad.add (r * 4)).block, (ad.add (r * 4)).off + 2, none⟩ = some (.int .i64 xs) := by rw [← add_field _ _ 2 (by omega)]; exact cell_below (hc _ _ y2) ho
                have x3 : wr.cell? ⟨(ad.add (r * 4)).block, (ad.add (r * 4)).off + 3, none⟩ = some (.string xf) := by rw [← add_field _ _ 3 (by omega)]; exact cell_below (hc _ _ y3) ho
                as_aux_lemma =>
                  clear hx y0 y1 y2 y3 hc ho hrn
                  go_wp2_with fail
                  clear x0 x1 x2 x3 x1' x2' x3'
                  go_at_call 9
                  have hP : Calls Try.prog 9 #[.pointer (some ⟨g, 0, none⟩), .slice (some ⟨wr.heap.size, 0, none⟩) 1 1] (wr.alloc (.cells #[.int .i64 xh, .slice xA xn xc, .int .i64 xs, .string xf] 29 (0, 0))) _ :=
                    LSt.push (w0 := w) (P := fun k => k = wr.heap.size) (R := [⟨xh, xA, xn, xc, xs, xf⟩]) (n := 1) (c := 1) (HST.out.more (below_alloc (Below.refl _ _) _) (fun k hk => .inr ⟨Nat.le_of_eq hk.symm, by rw [hk]; simp⟩)) rfl (reads_block (blk_new wr _) rfl) (fun ad e => .inl (by injection e with e; rw [← e])) (by have := HQL1.out; simp only [List.length_singleton]; omega)
                  with_reducible refine Calls.mono hP ?_
                  clear hP
                  rintro e w2 ⟨rfl, h2, -⟩
                  have H2 := Aside0.mk (h2.weak (P' := fun _ => False) (fun _ h => h.elim))
                  clear h2
                  go_wp2_with fail
                  go_roundw
                  case rel =>
                    refine ⟨r + 1, Q1 ++ [⟨xh, xA, xn, xc, xs, xf⟩], by simp, H2.out, by have := HQL1.out; simp only [List.length_append, List.length_singleton]; omega, ?_⟩
                    rcases HC.out with ⟨rfl, h2, h3⟩ | ⟨rfl, h2⟩
                    · exact .inl ⟨rfl, by rw [Nat.mul_add, Nat.mul_one]; exact h2, by rw [h3, HTK.out, Nat.mul_add, Nat.mul_one, List.append_assoc]⟩
                    · exact .inr ⟨rfl, (HCD.out h2).symm⟩
                  case measure =>
                    have := HRR.out
                    rcases HC.out with ⟨rfl, h2, h3⟩ | ⟨rfl, h2⟩
                    · simp [mR, intOf] <;> omega
                    · simp [mR, intOf] <;> omega
              · have f1 : ¬ ((r : Int) < (n : Int)) := by omega
                have f3 := eq_false f1
                have HTK := Aside0.mk (show R.take (r + 1) = R.take r from by have := HRL.out; rw [List.take_of_length_le (by omega), List.take_of_length_le (by omega)])
                as_aux_lemma =>
                  clear hrn
                  go_wp2_with fail
                  go_roundw
                  case rel =>
                    refine ⟨r + 1, Q1, by simp, HST.out, by have := HQL1.out; omega, ?_⟩
                    rcases HC.out with ⟨rfl, h2, h3⟩ | ⟨rfl, h2⟩
                    · exact .inl ⟨rfl, by rw [Nat.mul_add, Nat.mul_one]; exact h2, by rw [h3, HTK.out, Nat.mul_add, Nat.mul_one]⟩
                    · exact .inr ⟨rfl, (HCD.out h2).symm⟩
                  case measure =>
                    have := HRR.out
                    rcases HC.out with ⟨rfl, h2, h3⟩ | ⟨rfl, h2⟩
                    · simp [mR, intOf] <;> omega
                    · simp [mR, intOf] <;> omega
        · have HRC := Aside0.mk hr
          obtain ⟨cc, hcc⟩ : ∃ cc, cc = cd K q := ⟨_, rfl⟩
          rw [← hcc] at hr RK
          subst hr
          have n1 : wrap64 (-(K : Int)) = -(K : Int) := ww _ (by have := HK.out; omega)
          have n2 : IntKind.i64.wrap (-(K : Int)) = -(K : Int) := wi _ (by have := HK.out; omega)
          have HO := Aside0.mk HST.out.out
          clear hcc
          as_aux_lemma =>
            go_wp2_with (first | (go_at_call 15; (with_reducible refine (sched_Rounds.calls (K : Int) (q : Int) _ _ RK.out.1).mono ?_); rintro e wB ⟨rfl, hB⟩; replace HO := Aside0.mk (below_all hB HO.out.size HO.out); clear hB) | (go_at_call 15; (with_reducible refine (sched_Rounds.calls (-(K : Int)) (q : Int) _ _ RK.out.2.1).mono ?_); rintro e wB ⟨rfl, hB⟩; replace HO := Aside0.mk (below_all hB HO.out.size HO.out); clear hB) | (go_at_call 16; (with_reducible refine (mewsref44_Rounds.calls 70 (K : Int) (q : Int) _ _ RK.out.2.2).mono ?_); rintro e wB ⟨rfl, hB⟩; replace HO := Aside0.mk (below_all hB.below HO.out.size HO.out); clear hB) | (go_at_call 7; (with_reducible refine (alive_calls _).mono ?_); rintro e wZ ⟨rfl, hB⟩; have HZ := Aside0.mk (below_all hB HO.out.size HO.out); clear hB))
            go_ret
            exact ⟨rfl, HZ.out⟩
end Go.Proofs.Ytnegagkjhnpgmaa.Sc
namespace Go.Proofs.Ytnegagkjhnpgmaa.X
set_option linter.unusedVariables false
open Go.RowKit Go.Proofs.YtnegagkjhnpgmaaW.PrintWords Go.Proofs.YtnegagkjhnpgmaaW.PrintMore Go.Proofs.YtnegagkjhnpgmaaW.PrintLast Go.Proofs.Ytnegagkjhnpgmaa.Sc
theorem mewslaw44_SchedRounds.calls (k : Nat) (a0 a1 : Int) (A2 : Option Addr) (c2 : Nat) (l2 : List S29) (r : Bool) (w : World) (hr2 : Kd.C k29 w A2 l2.length l2) (hc2 : l2.length ≤ c2) (hr_ : Aside0 (r = true)) (h : mewslaw44_SchedRounds.f k a0 a1 l2 = some r) :
    Calls Try.prog 4 #[.int .u8 a0, .int .i64 a1, .slice A2 l2.length c2] w fun e w' => e = .returned (.bool r) ∧ Below w.heap.size w w' := by
  have hbd : (0 ≤ a0 ∧ a0 ≤ 255) ∧ (-9223372036854775808 ≤ a1 ∧ a1 ≤ 9223372036854775807) := by
    unfold mewslaw44_SchedRounds.f at h
    by_cases b : (0 ≤ a0 ∧ a0 ≤ 255) ∧ (-9223372036854775808 ≤ a1 ∧ a1 ≤ 9223372036854775807)
    · exact b
    · rw [if_neg b] at h; cases h
  rw [hr_.out]
  by_cases c : 100 < l2.length
  · exact rounds_far a0 a1 A2 c2 l2.length w c
  · exact rounds_near a0 a1 A2 c2 l2.length l2 w rfl (by omega) hr2 hbd.1.1 hbd.1.2
end Go.Proofs.Ytnegagkjhnpgmaa.X
