/- How many bytes a call counts: both answers. -/
import Derived.Test.YtkamejnccmapkaaMuClone
namespace Go.Proofs.Ytkamejnccmapkaa.Mu
open Go.RowKit Go.Proofs.YtkamejnccmapkaaW.PrintWords Go.Proofs.YtkamejnccmapkaaW.PrintMore Go.Proofs.YtkamejnccmapkaaW.PrintLast
set_option linter.unusedVariables false
set_option linter.unusedSimpArgs false
attribute [local go_sem ↓] Go.wp_at_zero Go.wp_at_succ
def csize : List ByteArray → Nat
  | [] => 0
  | x :: xs => 1 + x.size + csize xs
theorem csize_append (l m : List ByteArray) : csize (l ++ m) = csize l + csize m := by
  induction l with
  | nil => exact (Nat.zero_add _).symm
  | cons x xs ih =>
    show 1 + x.size + csize (xs ++ m) = 1 + x.size + csize xs + csize m
    omega
theorem csize_len (l : List ByteArray) : l.length ≤ csize l := by
  induction l with
  | nil => exact Nat.le_refl _
  | cons x xs ih =>
    show xs.length + 1 ≤ 1 + x.size + csize xs
    omega
set_option maxHeartbeats 1000000 in
set_option maxRecDepth 100000 in
theorem size_calls (v : Value) (l : List ByteArray) (w : World) (h : Rd w v l) (hs : csize l ≤ 1000000) :
    Calls Try.prog 31 #[v] w fun e w' => e = .returned (.int .i64 (csize l : Nat)) ∧ Below w.heap.size w w' := by
  have hlc := csize_len l
  obtain ⟨A, cp, rfl, hcp, hr⟩ := h
  have HR := Aside0.mk hr
  have HS := Aside0.mk hs
  obtain ⟨n, hn⟩ : ∃ n, n = l.length := ⟨_, rfl⟩
  rw [← hn] at HR ⊢
  have Hn := Aside0.mk hn
  have hn9 : (n : Int) ≤ 1000000 := by omega
  have HLC := Aside0.mk hlc
  clear hn hr hcp hs hlc
  go_enter Try.func31, Try.ntmps31
  go_wp2_with fail
  go_loopw [3, 8] (fun v1 v2 wr => ∃ k : Nat, k ≤ n ∧ v2 = .int .i64 k ∧ v1 = .int .i64 ((csize (l.take k) : Nat)) ∧ Below w.heap.size w wr) (fun _ v2 _ => n - (intOf v2).toNat)
  case atStart => exact ⟨0, Nat.zero_le _, rfl, rfl, Below.refl _ _⟩
  case round =>
    obtain ⟨k, hkn, rfl, rfl, hbr⟩ := hrel
    by_cases hlt : k < n
    · have e1 : decide ((k : Int) < (n : Int)) = true := decide_eq_true (by omega)
      have e2 : decide (k < n) = true := decide_eq_true hlt
      have hkl : k < l.length := by rw [← Hn.out]; exact hlt
      have hrl := HR.out.below hbr
      obtain ⟨adl, rfl, hcl2⟩ := hrl.2.2 (by omega)
      have xl := hcl2 k hlt
      obtain ⟨x, hx⟩ : ∃ x, x = l.getD k ByteArray.empty := ⟨_, rfl⟩
      rw [← hx] at xl
      have htk : l.take (k + 1) = l.take k ++ [x] := by
        rw [List.take_add_one, List.getElem?_eq_getElem hkl]
        rw [hx, List.getD_eq_getElem?_getD, List.getElem?_eq_getElem hkl]
        rfl
      have hs1 := csize_append (l.take k) [x]
      rw [← htk] at hs1
      have hs2 := csize_append (l.take (k + 1)) (l.drop (k + 1))
      rw [List.take_append_drop] at hs2
      have hs3 : csize [x] = 1 + x.size := rfl
      have hsz := HS.out
      obtain ⟨q, hq⟩ : ∃ q, q = csize (l.take k) := ⟨_, rfl⟩
      rw [← hq] at hs1 ⊢
      have hx9 : (x.size : Int) ≤ 1000000 := by omega
      have hq9 : (q : Int) ≤ 1000000 := by omega
      have hqx : (q : Int) + (1 + (x.size : Int)) ≤ 1000000 := by omega
      have i0 : (0 : Int) ≤ (k : Int) := Int.natCast_nonneg _
      have i1 : (k : Int) < (n : Int) := by omega
      have i2 := eq_true i1
      have hk9 : (k : Int) ≤ 1000000 := by omega
      have x0 : (0 : Int) ≤ (x.size : Int) := Int.natCast_nonneg _
      have q0 : (0 : Int) ≤ (q : Int) := Int.natCast_nonneg _
      have HBR := Aside0.mk hbr
      have Hlt := Aside0.mk hlt
      have HQ := Aside0.mk (show csize (l.take (k + 1)) = q + (1 + x.size) by omega)
      clear hbr hlt hrl hcl2 htk hkl hx hq hs1 hs2 hs3 hsz hkn
      go_wp2
      go_roundw
      case rel =>
        refine ⟨k + 1, by have := Hlt.out; omega, by simp, ?_, by first | exact HBR.out | exact HBR.out.trans (pw_below_drewN (Below.refl _ _) _)⟩
        rw [HQ.out]
        simp
      case measure => have := Hlt.out; simp [intOf]; omega
    · have e1 : decide ((k : Int) < (n : Int)) = false := decide_eq_false (by omega)
      have e2 : decide (k < n) = false := decide_eq_false hlt
      have hk : k = l.length := by have := Hn.out; omega
      have htk : l.take k = l := by rw [hk]; exact List.take_length
      rw [htk]
      have HBR := Aside0.mk hbr
      have HK := Aside0.mk hk
      clear hlt hbr hkn htk hk
      go_wp2
      go_ret
      exact ⟨rfl, HBR.out⟩
set_option maxHeartbeats 1000000 in
set_option maxRecDepth 100000 in
theorem bytes_calls (v : Value) (l : List ByteArray) (w : World) (h : Rd w v l) (hs : csize l ≤ 1000000) :
    Calls Try.prog 6 #[v] w fun e w' => e = .returned (.int .i64 (csize l : Nat)) ∧ Below w.heap.size w w' := by
  have hlc := csize_len l
  obtain ⟨A, cp, rfl, hcp, hr⟩ := h
  have HR := Aside0.mk hr
  have HS := Aside0.mk hs
  obtain ⟨n, hn⟩ : ∃ n, n = l.length := ⟨_, rfl⟩
  rw [← hn] at HR ⊢
  have Hn := Aside0.mk hn
  have hn9 : (n : Int) ≤ 1000000 := by omega
  have HLC := Aside0.mk hlc
  clear hn hr hcp hs hlc
  go_enter Try.func6, Try.ntmps6
  go_wp2_with fail
  go_loopw [3, 4] (fun v1 v2 wr => ∃ k : Nat, k ≤ n ∧ v2 = .int .i64 k ∧ v1 = .int .i64 (((n - k + csize (l.take k) : Nat) : Int)) ∧ Below w.heap.size w wr) (fun _ v2 _ => n - (intOf v2).toNat)
  case atStart => exact ⟨0, Nat.zero_le _, rfl, by simp [csize], Below.refl _ _⟩
  case round =>
    obtain ⟨k, hkn, rfl, rfl, hbr⟩ := hrel
    by_cases hlt : k < n
    · have e1 : decide ((k : Int) < (n : Int)) = true := decide_eq_true (by omega)
      have e2 : decide (k < n) = true := decide_eq_true hlt
      have hkl : k < l.length := by rw [← Hn.out]; exact hlt
      have hrl := HR.out.below hbr
      obtain ⟨adl, rfl, hcl2⟩ := hrl.2.2 (by omega)
      have xl := hcl2 k hlt
      obtain ⟨x, hx⟩ : ∃ x, x = l.getD k ByteArray.empty := ⟨_, rfl⟩
      rw [← hx] at xl
      have htk : l.take (k + 1) = l.take k ++ [x] := by
        rw [List.take_add_one, List.getElem?_eq_getElem hkl]
        rw [hx, List.getD_eq_getElem?_getD, List.getElem?_eq_getElem hkl]
        rfl
      have hs1 := csize_append (l.take k) [x]
      rw [← htk] at hs1
      have hs2 := csize_append (l.take (k + 1)) (l.drop (k + 1))
      rw [List.take_append_drop] at hs2
      have hs3 : csize [x] = 1 + x.size := rfl
      have hsz := HS.out
      obtain ⟨q, hq⟩ : ∃ q, q = csize (l.take k) := ⟨_, rfl⟩
      rw [← hq] at hs1 ⊢
      have hx9 : (x.size : Int) ≤ 1000000 := by omega
      have hq9 : (q : Int) ≤ 1000000 := by omega
      have hqx : (q : Int) + (1 + (x.size : Int)) ≤ 1000000 := by omega
      have i0 : (0 : Int) ≤ (k : Int) := Int.natCast_nonneg _
      have i1 : (k : Int) < (n : Int) := by omega
      have i2 := eq_true i1
      have hk9 : (k : Int) ≤ 1000000 := by omega
      have x0 : (0 : Int) ≤ (x.size : Int) := Int.natCast_nonneg _
      have q0 : (0 : Int) ≤ (q : Int) := Int.natCast_nonneg _
      have HBR := Aside0.mk hbr
      have Hlt := Aside0.mk hlt
      have HQ := Aside0.mk (show csize (l.take (k + 1)) = q + (1 + x.size) by omega)
      clear hbr hlt hrl hcl2 htk hkl hx hq hs1 hs2 hs3 hsz hkn
      go_wp2
      go_roundw
      case rel =>
        refine ⟨k + 1, by have := Hlt.out; omega, by simp, ?_, by first | exact HBR.out | exact HBR.out.trans (pw_below_drewN (Below.refl _ _) _)⟩
        rw [HQ.out]
        have h9 := Hlt.out; congr 1; omega
      case measure => have := Hlt.out; simp [intOf]; omega
    · have e1 : decide ((k : Int) < (n : Int)) = false := decide_eq_false (by omega)
      have e2 : decide (k < n) = false := decide_eq_false hlt
      have hk : k = l.length := by have := Hn.out; omega
      have htk : l.take k = l := by rw [hk]; exact List.take_length
      rw [htk]
      have HBR := Aside0.mk hbr
      have HK := Aside0.mk hk
      clear hlt hbr hkn htk hk
      go_wp2
      go_ret
      exact ⟨by have h9 := HK.out; have h8 := Hn.out; rw [show n - k + csize l = csize l by omega]; rfl, HBR.out⟩
end Go.Proofs.Ytkamejnccmapkaa.Mu
