import Derived.Test.YtehnogggokfcaaaXA
namespace Go.Proofs.Ytehnogggokfcaaa.X
open Go.RowKit Go.Proofs.YtehnogggokfcaaaW.PrintWords Go.Proofs.YtehnogggokfcaaaW.PrintLast Go.Proofs.YtehnogggokfcaaaW.PrintMore
attribute [local go_sem] max2_int min2_int max_two min_two max_three min_three max_four min_four   -- for this text's walks alone
set_option linter.unusedVariables false
set_option linter.unusedSimpArgs false

mutual
def mewsref04_Join.l0 : Nat → List ByteArray → ByteArray → ByteArray → Int → Option (ByteArray)
 | 0, _, _, _, _ => none
 | k + 1, x0, x3, x4, x5 => if x5 < (x0.length : Int) then (if 0 ≤ x5 then (mewsref04_Join.l1 k x0 x3 x4 x5 (decide (((rdOf ByteArray.empty x0 x5).size : Int) > 0)) (⟨#[]⟩ : ByteArray) 0) else (none)) else (some x4)
def mewsref04_Join.l1 : Nat → List ByteArray → ByteArray → ByteArray → Int → Bool → ByteArray → Int → Option (ByteArray)
 | 0, _, _, _, _, _, _, _ => none
 | k + 1, x0, x3, x4, x5, x6, x7, x8 => if 0 ≤ x5 then (if x5 < (x0.length : Int) then (if x8 < ((rdOf ByteArray.empty x0 x5).size : Int) then (if 0 ≤ x8 then (if x6 = true then (if (bt (rdOf ByteArray.empty x0 x5) x8) ≥ 33 then (if (bt (rdOf ByteArray.empty x0 x5) x8) ≤ 126 then (if (bt (rdOf ByteArray.empty x0 x5) x8) = 34 then (mewsref04_Join.j2 k x0 x3 x4 x5 false x7 x8 (bt (rdOf ByteArray.empty x0 x5) x8)) else (if (bt (rdOf ByteArray.empty x0 x5) x8) = 39 then (mewsref04_Join.j2 k x0 x3 x4 x5 false x7 x8 (bt (rdOf ByteArray.empty x0 x5) x8)) else (mewsref04_Join.j2 k x0 x3 x4 x5 ((bt (rdOf ByteArray.empty x0 x5) x8) != 92) x7 x8 (bt (rdOf ByteArray.empty x0 x5) x8)))) else (mewsref04_Join.j2 k x0 x3 x4 x5 false x7 x8 (bt (rdOf ByteArray.empty x0 x5) x8))) else (mewsref04_Join.j2 k x0 x3 x4 x5 false x7 x8 (bt (rdOf ByteArray.empty x0 x5) x8))) else (mewsref04_Join.j2 k x0 x3 x4 x5 false x7 x8 (bt (rdOf ByteArray.empty x0 x5) x8))) else (none)) else (if x6 = true then (if x5 > 0 then (if x4.size + 1 ≤ 9223372036854775807 then (if (x4 ++ (⟨#[32]⟩ : ByteArray)).size + x7.size ≤ 9223372036854775807 then (mewsref04_Join.l0 k x0 x3 ((x4 ++ (⟨#[32]⟩ : ByteArray)) ++ x7) (wrap64 (x5 + 1))) else (none)) else (none)) else (if x4.size + x7.size ≤ 9223372036854775807 then (mewsref04_Join.l0 k x0 x3 (x4 ++ x7) (wrap64 (x5 + 1))) else (none))) else (if 1 + x7.size ≤ 9223372036854775807 then (if ((⟨#[34]⟩ : ByteArray) ++ x7).size + 1 ≤ 9223372036854775807 then (if x5 > 0 then (if x4.size + 1 ≤ 9223372036854775807 then (if (x4 ++ (⟨#[32]⟩ : ByteArray)).size + (((⟨#[34]⟩ : ByteArray) ++ x7) ++ (⟨#[34]⟩ : ByteArray)).size ≤ 9223372036854775807 then (mewsref04_Join.l0 k x0 x3 ((x4 ++ (⟨#[32]⟩ : ByteArray)) ++ (((⟨#[34]⟩ : ByteArray) ++ x7) ++ (⟨#[34]⟩ : ByteArray))) (wrap64 (x5 + 1))) else (none)) else (none)) else (if x4.size + (((⟨#[34]⟩ : ByteArray) ++ x7) ++ (⟨#[34]⟩ : ByteArray)).size ≤ 9223372036854775807 then (mewsref04_Join.l0 k x0 x3 (x4 ++ (((⟨#[34]⟩ : ByteArray) ++ x7) ++ (⟨#[34]⟩ : ByteArray))) (wrap64 (x5 + 1))) else (none))) else (none)) else (none)))) else (none)) else (none)
def mewsref04_Join.j2 : Nat → List ByteArray → ByteArray → ByteArray → Int → Bool → ByteArray → Int → Int → Option (ByteArray)
 | 0, _, _, _, _, _, _, _, _ => none
 | k + 1, x0, x3, x4, x5, x6, x7, x8, x9 => if x9 = 34 then (mewsref04_Join.j3 k x0 x3 x4 x5 x6 x7 x8 x9 true) else (mewsref04_Join.j3 k x0 x3 x4 x5 x6 x7 x8 x9 (x9 == 92))
def mewsref04_Join.j3 : Nat → List ByteArray → ByteArray → ByteArray → Int → Bool → ByteArray → Int → Int → Bool → Option (ByteArray)
 | 0, _, _, _, _, _, _, _, _, _ => none
 | k + 1, x0, x3, x4, x5, x6, x7, x8, x9, x76 => if x76 = true then (if 0 ≤ x5 then (if x5 < (x0.length : Int) then (if 0 ≤ x8 then (if x8 ≤ (wrap64 (x8 + 1)) then (if (wrap64 (x8 + 1)) ≤ ((rdOf ByteArray.empty x0 x5).size : Int) then (if 1 + ((rdOf ByteArray.empty x0 x5).extract (x8 : Int).toNat ((wrap64 (x8 + 1)) : Int).toNat).size ≤ 9223372036854775807 then (if x7.size + ((⟨#[92]⟩ : ByteArray) ++ ((rdOf ByteArray.empty x0 x5).extract (x8 : Int).toNat ((wrap64 (x8 + 1)) : Int).toNat)).size ≤ 9223372036854775807 then (mewsref04_Join.l1 k x0 x3 x4 x5 x6 (x7 ++ ((⟨#[92]⟩ : ByteArray) ++ ((rdOf ByteArray.empty x0 x5).extract (x8 : Int).toNat ((wrap64 (x8 + 1)) : Int).toNat))) (wrap64 (x8 + 1))) else (none)) else (none)) else (none)) else (none)) else (none)) else (none)) else (none)) else (if x9 ≥ 32 then (if x9 ≤ 126 then (if 0 ≤ x5 then (if x5 < (x0.length : Int) then (if 0 ≤ x8 then (if x8 ≤ (wrap64 (x8 + 1)) then (if (wrap64 (x8 + 1)) ≤ ((rdOf ByteArray.empty x0 x5).size : Int) then (if x7.size + ((rdOf ByteArray.empty x0 x5).extract (x8 : Int).toNat ((wrap64 (x8 + 1)) : Int).toNat).size ≤ 9223372036854775807 then (mewsref04_Join.l1 k x0 x3 x4 x5 x6 (x7 ++ ((rdOf ByteArray.empty x0 x5).extract (x8 : Int).toNat ((wrap64 (x8 + 1)) : Int).toNat)) (wrap64 (x8 + 1))) else (none)) else (none)) else (none)) else (none)) else (none)) else (none)) else (if 0 ≤ ((Int.tdiv x9 16) % 256) then (if ((Int.tdiv x9 16) % 256) ≤ ((((Int.tdiv x9 16) % 256) + 1) % 256) then (if ((((Int.tdiv x9 16) % 256) + 1) % 256) ≤ (x3.size : Int) then (if 2 + (x3.extract (((Int.tdiv x9 16) % 256) : Int).toNat (((((Int.tdiv x9 16) % 256) + 1) % 256) : Int).toNat).size ≤ 9223372036854775807 then (if 0 ≤ (Int.tmod x9 16) then (if (Int.tmod x9 16) ≤ (((Int.tmod x9 16) + 1) % 256) then (if (((Int.tmod x9 16) + 1) % 256) ≤ (x3.size : Int) then (if ((⟨#[92, 120]⟩ : ByteArray) ++ (x3.extract (((Int.tdiv x9 16) % 256) : Int).toNat (((((Int.tdiv x9 16) % 256) + 1) % 256) : Int).toNat)).size + (x3.extract ((Int.tmod x9 16) : Int).toNat ((((Int.tmod x9 16) + 1) % 256) : Int).toNat).size ≤ 9223372036854775807 then (if x7.size + (((⟨#[92, 120]⟩ : ByteArray) ++ (x3.extract (((Int.tdiv x9 16) % 256) : Int).toNat (((((Int.tdiv x9 16) % 256) + 1) % 256) : Int).toNat)) ++ (x3.extract ((Int.tmod x9 16) : Int).toNat ((((Int.tmod x9 16) + 1) % 256) : Int).toNat)).size ≤ 9223372036854775807 then (mewsref04_Join.l1 k x0 x3 x4 x5 x6 (x7 ++ (((⟨#[92, 120]⟩ : ByteArray) ++ (x3.extract (((Int.tdiv x9 16) % 256) : Int).toNat (((((Int.tdiv x9 16) % 256) + 1) % 256) : Int).toNat)) ++ (x3.extract ((Int.tmod x9 16) : Int).toNat ((((Int.tmod x9 16) + 1) % 256) : Int).toNat))) (wrap64 (x8 + 1))) else (none)) else (none)) else (none)) else (none)) else (none)) else (none)) else (none)) else (none)) else (none))) else (if 0 ≤ ((Int.tdiv x9 16) % 256) then (if ((Int.tdiv x9 16) % 256) ≤ ((((Int.tdiv x9 16) % 256) + 1) % 256) then (if ((((Int.tdiv x9 16) % 256) + 1) % 256) ≤ (x3.size : Int) then (if 2 + (x3.extract (((Int.tdiv x9 16) % 256) : Int).toNat (((((Int.tdiv x9 16) % 256) + 1) % 256) : Int).toNat).size ≤ 9223372036854775807 then (if 0 ≤ (Int.tmod x9 16) then (if (Int.tmod x9 16) ≤ (((Int.tmod x9 16) + 1) % 256) then (if (((Int.tmod x9 16) + 1) % 256) ≤ (x3.size : Int) then (if ((⟨#[92, 120]⟩ : ByteArray) ++ (x3.extract (((Int.tdiv x9 16) % 256) : Int).toNat (((((Int.tdiv x9 16) % 256) + 1) % 256) : Int).toNat)).size + (x3.extract ((Int.tmod x9 16) : Int).toNat ((((Int.tmod x9 16) + 1) % 256) : Int).toNat).size ≤ 9223372036854775807 then (if x7.size + (((⟨#[92, 120]⟩ : ByteArray) ++ (x3.extract (((Int.tdiv x9 16) % 256) : Int).toNat (((((Int.tdiv x9 16) % 256) + 1) % 256) : Int).toNat)) ++ (x3.extract ((Int.tmod x9 16) : Int).toNat ((((Int.tmod x9 16) + 1) % 256) : Int).toNat)).size ≤ 9223372036854775807 then (mewsref04_Join.l1 k x0 x3 x4 x5 x6 (x7 ++ (((⟨#[92, 120]⟩ : ByteArray) ++ (x3.extract (((Int.tdiv x9 16) % 256) : Int).toNat (((((Int.tdiv x9 16) % 256) + 1) % 256) : Int).toNat)) ++ (x3.extract ((Int.tmod x9 16) : Int).toNat ((((Int.tmod x9 16) + 1) % 256) : Int).toNat))) (wrap64 (x8 + 1))) else (none)) else (none)) else (none)) else (none)) else (none)) else (none)) else (none)) else (none)) else (none)))
end
def mewsref04_Join.f (k : Nat) (l0 : List ByteArray) : Option (ByteArray) := mewsref04_Join.l0 k l0 (⟨#[48, 49, 50, 51, 52, 53, 54, 55, 56, 57, 97, 98, 99, 100, 101, 102]⟩ : ByteArray) (⟨#[]⟩ : ByteArray) 0
theorem mewsref04_Join.mono_l : ∀ k, (∀ y0 y1 y2 y3, LeO (mewsref04_Join.l0 k y0 y1 y2 y3) (mewsref04_Join.l0 (k + 1) y0 y1 y2 y3)) ∧ (∀ y0 y1 y2 y3 y4 y5 y6, LeO (mewsref04_Join.l1 k y0 y1 y2 y3 y4 y5 y6) (mewsref04_Join.l1 (k + 1) y0 y1 y2 y3 y4 y5 y6)) ∧ (∀ y0 y1 y2 y3 y4 y5 y6 y7, LeO (mewsref04_Join.j2 k y0 y1 y2 y3 y4 y5 y6 y7) (mewsref04_Join.j2 (k + 1) y0 y1 y2 y3 y4 y5 y6 y7)) ∧ (∀ y0 y1 y2 y3 y4 y5 y6 y7 y8, LeO (mewsref04_Join.j3 k y0 y1 y2 y3 y4 y5 y6 y7 y8) (mewsref04_Join.j3 (k + 1) y0 y1 y2 y3 y4 y5 y6 y7 y8))
 | 0 => ⟨fun _ _ _ _ r h => by simp [mewsref04_Join.l0] at h, fun _ _ _ _ _ _ _ r h => by simp [mewsref04_Join.l1] at h, fun _ _ _ _ _ _ _ _ r h => by simp [mewsref04_Join.j2] at h, fun _ _ _ _ _ _ _ _ _ r h => by simp [mewsref04_Join.j3] at h⟩
 | k + 1 => by
  obtain ⟨ih0, ih1, ih2, ih3⟩ := mewsref04_Join.mono_l k
  refine ⟨?_, ?_, ?_, ?_⟩
  ·intro y0 y1 y2 y3
   unfold mewsref04_Join.l0
   repeat' first
   | (with_reducible exact ih0 _ _ _ _)
   | (with_reducible exact ih1 _ _ _ _ _ _ _)
   | (with_reducible exact ih2 _ _ _ _ _ _ _ _)
   | (with_reducible exact ih3 _ _ _ _ _ _ _ _ _)
   | (with_reducible exact LeO.refl _)
   | (with_reducible exact LeO.none _)
   | (with_reducible refine LeO.ite ?_ ?_)
   | (with_reducible refine LeO.bind ?_ (fun _ => ?_))
  ·intro y0 y1 y2 y3 y4 y5 y6
   unfold mewsref04_Join.l1
   repeat' first
   | (with_reducible exact ih0 _ _ _ _)
   | (with_reducible exact ih1 _ _ _ _ _ _ _)
   | (with_reducible exact ih2 _ _ _ _ _ _ _ _)
   | (with_reducible exact ih3 _ _ _ _ _ _ _ _ _)
   | (with_reducible exact LeO.refl _)
   | (with_reducible exact LeO.none _)
   | (with_reducible refine LeO.ite ?_ ?_)
   | (with_reducible refine LeO.bind ?_ (fun _ => ?_))
  ·intro y0 y1 y2 y3 y4 y5 y6 y7
   unfold mewsref04_Join.j2
   repeat' first
   | (with_reducible exact ih0 _ _ _ _)
   | (with_reducible exact ih1 _ _ _ _ _ _ _)
   | (with_reducible exact ih2 _ _ _ _ _ _ _ _)
   | (with_reducible exact ih3 _ _ _ _ _ _ _ _ _)
   | (with_reducible exact LeO.refl _)
   | (with_reducible exact LeO.none _)
   | (with_reducible refine LeO.ite ?_ ?_)
   | (with_reducible refine LeO.bind ?_ (fun _ => ?_))
  ·intro y0 y1 y2 y3 y4 y5 y6 y7 y8
   unfold mewsref04_Join.j3
   repeat' first
   | (with_reducible exact ih0 _ _ _ _)
   | (with_reducible exact ih1 _ _ _ _ _ _ _)
   | (with_reducible exact ih2 _ _ _ _ _ _ _ _)
   | (with_reducible exact ih3 _ _ _ _ _ _ _ _ _)
   | (with_reducible exact LeO.refl _)
   | (with_reducible exact LeO.none _)
   | (with_reducible refine LeO.ite ?_ ?_)
   | (with_reducible refine LeO.bind ?_ (fun _ => ?_))
theorem mewsref04_Join.mono : ∀ a0 k, LeO (mewsref04_Join.f k a0) (mewsref04_Join.f (k + 1) a0) := by
 intro a0 k
 obtain ⟨ih0, ih1, ih2, ih3⟩ := mewsref04_Join.mono_l k
 unfold mewsref04_Join.f
 repeat' first
   | (with_reducible exact ih0 _ _ _ _)
   | (with_reducible exact ih1 _ _ _ _ _ _ _)
   | (with_reducible exact ih2 _ _ _ _ _ _ _ _)
   | (with_reducible exact ih3 _ _ _ _ _ _ _ _ _)
   | (with_reducible exact LeO.refl _)
   | (with_reducible exact LeO.none _)
   | (with_reducible refine LeO.ite ?_ ?_)
   | (with_reducible refine LeO.bind ?_ (fun _ => ?_))
theorem sl_u8 {P : Program} {t : TypeId} (ht : P.underlying t = some .string) (kl kh : IntKind) (s e : ByteArray) (l h : Int) (h0 : 0 ≤ l) (h1 : l ≤ h) (h2 : h ≤ s.size) (he : s.extract l.toNat h.toNat = e) (w : World) :
  (Instr.sliceAt t (.string s) (some (.int kl l)) (some (.int kh h)) none).run P w = .ok (.string e) w := by
 subst he
 rw [run_sliceAt_string (P := P) w t _ _ _ _ ht]
 have e1 : (l.toNat : Int) = l := Int.toNat_of_nonneg h0
 have e2 : (h.toNat : Int) = h := Int.toNat_of_nonneg (by omega)
 simp [Instr.slice, run_underlying ht, Instr.sliceBounds, run_sliceBound, *, (by omega : 0 ≤ h)]
theorem lit0_ : (⟨#[32]⟩ : ByteArray).size = 1 := rfl
theorem lit1_ : (⟨#[34]⟩ : ByteArray).size = 1 := rfl
theorem lit2_ : (⟨#[48, 49, 50, 51, 52, 53, 54, 55, 56, 57, 97, 98, 99, 100, 101, 102]⟩ : ByteArray).size = 16 := rfl
theorem lit3_ : (⟨#[92]⟩ : ByteArray).size = 1 := rfl
theorem lit4_ : (⟨#[92, 120]⟩ : ByteArray).size = 2 := rfl
set_option maxHeartbeats 8000000 in
set_option maxRecDepth 100000 in
theorem mewsref04_Join.calls (k : Nat) (A0 : Option Addr) (c0 : Nat) (l0 : List ByteArray) (r : ByteArray) (w : World) (hr0 : Kd.C Kd.string w A0 l0.length l0) (hc0 : l0.length ≤ c0) (h : mewsref04_Join.f k l0 = some r) :
  Calls Try.prog 22 #[.slice A0 l0.length c0] w fun e w' => e = .returned (.string r) ∧ Drawn0 w w' := by
 have HR0 := Aside0.mk hr0
 have HC0 := Aside0.mk hc0
 clear hr0 hc0
 have H : (mewsref04_Join.l0 k l0 (⟨#[48, 49, 50, 51, 52, 53, 54, 55, 56, 57, 97, 98, 99, 100, 101, 102]⟩ : ByteArray) (⟨#[]⟩ : ByteArray) 0) = some r := h
 clear h
 obtain ⟨S1_, hS1⟩ : ∃ S : ByteArray, S = (⟨#[48, 49, 50, 51, 52, 53, 54, 55, 56, 57, 97, 98, 99, 100, 101, 102]⟩ : ByteArray) := ⟨_, rfl⟩
 rw [← hS1] at H
 have H' := Aside0.mk H
 clear H
 go_enter Try.func22, Try.ntmps22
 go_wp2
 rw [← hS1]
 clear hS1
 repeat (go_quiet (fail); try go_wp2)
 go_loopg [4, 5] k (fun kq v4 v5 w' => ∃ (x4_1 : ByteArray) (x5_1 : Int), v4 = .string x4_1 ∧ v5 = .int .i64 x5_1 ∧ Aside0 (mewsref04_Join.l0 kq l0 S1_ x4_1 x5_1 = some r) ∧ Aside0 (kq ≤ k) ∧ Drawn0 w w')
 case atStart => exact ⟨((⟨#[]⟩ : ByteArray)), (0), (by first | rfl | (simp; done) | (simp [*]; done)), (by first | rfl | (simp; done) | (simp [*]; done)), H', ⟨Nat.le_refl _⟩, by repeat (first | exact Drawn0.refl _ | apply Drawn0.step)⟩
 case round =>
  clear H'
  obtain ⟨x4_1, x5_1, rfl, rfl, HA, HK1, ⟨m1, rfl⟩⟩ := hrel
  cases gk with
  | zero => exact absurd HA.out (by simp [mewsref04_Join.l0])
  | succ k1 =>
   have H := HA.out
   clear HA
   simp only [mewsref04_Join.l0] at H
   by_cases c2 : x5_1 < (l0.length : Int)
   ·rw [if_pos c2] at H
    have c2b0 : decide (x5_1 < (l0.length : Int)) = true := decide_eq_true c2
    clear c2
    by_cases c3 : 0 ≤ x5_1
    ·rw [if_pos c3] at H
     have c3b0 : decide (0 ≤ x5_1) = true := decide_eq_true c3
     clear c3
     have H' := Aside0.mk H
     clear H
     have p317 : 0 ≤ (x5_1 : Int) := of_decide_eq_true (by first | (with_reducible assumption) | assumption)
     have q317 : x5_1 < (l0.length : Int) := of_decide_eq_true (by first | (with_reducible assumption) | assumption)
     obtain ⟨ad317, e317, hx317_0⟩ := Kd.at_string HR0.out x5_1 p317 q317
     cases e317
     replace p317 := eq_true p317
     replace q317 := eq_true q317
     go_wp2
     repeat (go_quiet (fail); try go_wp2)
     go_loopg [6, 7, 8] k1 (fun kq v6 v7 v8 w' => ∃ (x6_2 : Bool) (x7_2 : ByteArray) (x8_2 : Int), v6 = .bool x6_2 ∧ v7 = .string x7_2 ∧ v8 = .int .i64 x8_2 ∧ Aside0 (mewsref04_Join.l1 kq l0 S1_ x4_1 x5_1 x6_2 x7_2 x8_2 = some r) ∧ Aside0 (kq ≤ k1) ∧ Drawn0 w w')
     case atStart => exact ⟨(decide (((rdOf ByteArray.empty l0 x5_1).size : Int) > 0)), ((⟨#[]⟩ : ByteArray)), (0), (by first | rfl | (simp; done) | (simp [*]; done)), (by first | rfl | (simp; done) | (simp [*]; done)), (by first | rfl | (simp; done) | (simp [*]; done)), H', ⟨Nat.le_refl _⟩, by repeat (first | exact Drawn0.refl _ | apply Drawn0.step)⟩
     case round =>
      clear H'
      try clear c2
      try clear c2b0
      try clear p2
      try clear c3
      try clear c3b0
      try clear p3
      try clear q3
      try clear hx3
      try clear hx317_0
      try clear p317
      try clear q317
      obtain ⟨x6_2, x7_2, x8_2, rfl, rfl, rfl, HA, HK2, ⟨m2, rfl⟩⟩ := hrel
      cases gk with
      | zero => exact absurd HA.out (by simp [mewsref04_Join.l1])
      | succ k2 =>
       have H := HA.out
       clear HA
       simp only [mewsref04_Join.l1] at H
       by_cases c4 : 0 ≤ x5_1
       ·rw [if_pos c4] at H
        have c4b0 : decide (0 ≤ x5_1) = true := decide_eq_true c4
        clear c4
        by_cases c5 : x5_1 < (l0.length : Int)
        ·rw [if_pos c5] at H
         have c5b0 : decide (x5_1 < (l0.length : Int)) = true := decide_eq_true c5
         clear c5
         by_cases c6 : x8_2 < ((rdOf ByteArray.empty l0 x5_1).size : Int)
         ·rw [if_pos c6] at H
          have c6b0 : decide (x8_2 < ((rdOf ByteArray.empty l0 x5_1).size : Int)) = true := decide_eq_true c6
          clear c6
          by_cases c7 : 0 ≤ x8_2
          ·rw [if_pos c7] at H
           have c7b0 : decide (0 ≤ x8_2) = true := decide_eq_true c7
           clear c7
           have HC9 := Aside0.mk H
           clear H
           have p318 : 0 ≤ (x5_1 : Int) := of_decide_eq_true (by first | (with_reducible assumption) | assumption)
           have q318 : x5_1 < (l0.length : Int) := of_decide_eq_true (by first | (with_reducible assumption) | assumption)
           obtain ⟨ad318, e318, hx318_0⟩ := Kd.at_string HR0.out x5_1 p318 q318
           obtain rfl : ad317 = ad318 := (by injection e318)
           replace p318 := eq_true p318
           replace q318 := eq_true q318
           have p319 : 0 ≤ (x5_1 : Int) := of_decide_eq_true (by first | (with_reducible assumption) | assumption)
           have q319 : x5_1 < (l0.length : Int) := of_decide_eq_true (by first | (with_reducible assumption) | assumption)
           obtain ⟨ad319, e319, hx319_0⟩ := Kd.at_string HR0.out x5_1 p319 q319
           obtain rfl : ad317 = ad319 := (by injection e319)
           replace p319 := eq_true p319
           replace q319 := eq_true q319
           have p8 : 0 ≤ (x8_2 : Int) := of_decide_eq_true (by first | (with_reducible assumption) | assumption)
           have q8 : x8_2 < ((rdOf ByteArray.empty l0 x5_1).size : Int) := of_decide_eq_true (by first | (with_reducible assumption) | assumption)
           have hx8 := bt_at (rdOf ByteArray.empty l0 x5_1) x8_2
           replace p8 := eq_true p8
           replace q8 := eq_true q8
           go_upto_region 12 with (fail)
           repeat (go_quiet (fail); go_upto_region 12 with (fail))
           go_cut [6] (fun v6 wc => ∃ (kq : Nat) (x6_8 : Bool), v6 = .bool x6_8 ∧ Aside0 (mewsref04_Join.j2 kq l0 S1_ x4_1 x5_1 x6_8 x7_2 x8_2 (bt (rdOf ByteArray.empty l0 x5_1) x8_2) = some r) ∧ Aside0 (kq ≤ k2) ∧ Drawn0 w wc)
           case first =>
            have H := HC9.out
            clear HC9
            by_cases c10 : x6_2 = true
            ·subst c10
             rw [if_pos rfl] at H
             by_cases c11 : (bt (rdOf ByteArray.empty l0 x5_1) x8_2) ≥ 33
             ·rw [if_pos c11] at H
              have c11b0 : decide (33 ≤ (bt (rdOf ByteArray.empty l0 x5_1) x8_2)) = true := decide_eq_true c11
              clear c11
              (first | rw [c11b0] | (simp only [i64_w, i32_w]; rw [c11b0]) | skip)
              by_cases c12 : (bt (rdOf ByteArray.empty l0 x5_1) x8_2) ≤ 126
              ·rw [if_pos c12] at H
               have c12b0 : decide ((bt (rdOf ByteArray.empty l0 x5_1) x8_2) ≤ 126) = true := decide_eq_true c12
               clear c12
               by_cases c13 : (bt (rdOf ByteArray.empty l0 x5_1) x8_2) = 34
               ·rw [if_pos c13] at H
                have c13b0 : ((bt (rdOf ByteArray.empty l0 x5_1) x8_2) == 34) = true := beq_iff_eq.mpr c13
                have c13b1 : ((bt (rdOf ByteArray.empty l0 x5_1) x8_2) != 34) = false := bne_eq_false_iff_eq.mpr c13
                clear c13
                have H' := Aside0.mk H
                clear H
                go_wp2
                repeat (go_quiet (fail); try go_wp2)
                go_meet
                case rel => exact ⟨_, (false), (by first | rfl | (simp; done) | (simp [*]; done)), H', ⟨by have := HK1.out; have := HK2.out; first | omega | exact Nat.le_refl _⟩, by repeat (first | exact Drawn0.refl _ | apply Drawn0.step)⟩
               ·rw [if_neg c13] at H
                have c13b0 : ((bt (rdOf ByteArray.empty l0 x5_1) x8_2) == 34) = false := beq_eq_false_iff_ne.mpr c13
                have c13b1 : ((bt (rdOf ByteArray.empty l0 x5_1) x8_2) != 34) = true := bne_iff_ne.mpr c13
                by_cases c14 : (bt (rdOf ByteArray.empty l0 x5_1) x8_2) = 39
                ·rw [if_pos c14] at H
                 have c14b0 : ((bt (rdOf ByteArray.empty l0 x5_1) x8_2) == 39) = true := beq_iff_eq.mpr c14
                 have c14b1 : ((bt (rdOf ByteArray.empty l0 x5_1) x8_2) != 39) = false := bne_eq_false_iff_eq.mpr c14
                 clear c14
                 have H' := Aside0.mk H
                 clear H
                 go_wp2
                 repeat (go_quiet (fail); try go_wp2)
                 go_meet
                 case rel => exact ⟨_, (false), (by first | rfl | (simp; done) | (simp [*]; done)), H', ⟨by have := HK1.out; have := HK2.out; first | omega | exact Nat.le_refl _⟩, by repeat (first | exact Drawn0.refl _ | apply Drawn0.step)⟩
                ·rw [if_neg c14] at H
                 have c14b0 : ((bt (rdOf ByteArray.empty l0 x5_1) x8_2) == 39) = false := beq_eq_false_iff_ne.mpr c14
                 have c14b1 : ((bt (rdOf ByteArray.empty l0 x5_1) x8_2) != 39) = true := bne_iff_ne.mpr c14
                 have H' := Aside0.mk H
                 clear H
                 go_wp2
                 repeat (go_quiet (fail); try go_wp2)
                 go_meet
                 case rel => exact ⟨_, (((bt (rdOf ByteArray.empty l0 x5_1) x8_2) != 92)), (by first | rfl | (simp; done) | (simp [*]; done)), H', ⟨by have := HK1.out; have := HK2.out; first | omega | exact Nat.le_refl _⟩, by repeat (first | exact Drawn0.refl _ | apply Drawn0.step)⟩
              ·rw [if_neg c12] at H
               have c12b0 : decide ((bt (rdOf ByteArray.empty l0 x5_1) x8_2) ≤ 126) = false := decide_eq_false c12
               clear c12
               have H' := Aside0.mk H
               clear H
               go_wp2
               repeat (go_quiet (fail); try go_wp2)
               go_meet
               case rel => exact ⟨_, (false), (by first | rfl | (simp; done) | (simp [*]; done)), H', ⟨by have := HK1.out; have := HK2.out; first | omega | exact Nat.le_refl _⟩, by repeat (first | exact Drawn0.refl _ | apply Drawn0.step)⟩
             ·rw [if_neg c11] at H
              have c11b0 : decide (33 ≤ (bt (rdOf ByteArray.empty l0 x5_1) x8_2)) = false := decide_eq_false c11
              clear c11
              (first | rw [c11b0] | (simp only [i64_w, i32_w]; rw [c11b0]) | skip)
              have H' := Aside0.mk H
              clear H
              go_wp2
              repeat (go_quiet (fail); try go_wp2)
              go_meet
              case rel => exact ⟨_, (false), (by first | rfl | (simp; done) | (simp [*]; done)), H', ⟨by have := HK1.out; have := HK2.out; first | omega | exact Nat.le_refl _⟩, by repeat (first | exact Drawn0.refl _ | apply Drawn0.step)⟩
            ·replace c10 := Bool.eq_false_iff.mpr c10
             subst c10
             rw [if_neg (show ¬ (false = true) by decide)] at H
             have H' := Aside0.mk H
             clear H
             go_wp2
             repeat (go_quiet (fail); try go_wp2)
             go_meet
             case rel => exact ⟨_, (false), (by first | rfl | (simp; done) | (simp [*]; done)), H', ⟨by have := HK1.out; have := HK2.out; first | omega | exact Nat.le_refl _⟩, by repeat (first | exact Drawn0.refl _ | apply Drawn0.step)⟩
           case rest =>
            clear HC9
            try clear c1
            try clear c2
            try clear c2b0
            try clear p2
            try clear c3
            try clear c3b0
            try clear p3
            try clear q3
            try clear hx3
            try clear c4
            try clear c4b0
            try clear c5
            try clear c5b0
            try clear c6
            try clear c6b0
            try clear c7
            try clear c7b0
            try clear p8
            try clear q8
            try clear hx8
            try clear c10
            try clear c11
            try clear c11b0
            try clear c12
            try clear c12b0
            try clear c13
            try clear c13b0
            try clear c13b1
            try clear c14
            try clear c14b0
            try clear c14b1
            try clear hx317_0
            try clear hx318_0
            try clear hx319_0
            try clear p2
            try clear p3
            try clear p317
            try clear p318
            try clear p319
            try clear p8
            try clear q3
            try clear q317
            try clear q318
            try clear q319
            try clear q8
            obtain ⟨kq, x6_8, rfl, HA, HJ8, ⟨mc8, rfl⟩⟩ := hcut
            cases kq with
            | zero => exact absurd HA.out (by simp [mewsref04_Join.j2])
            | succ kj8 =>
             have H := HA.out
             clear HA
             simp only [mewsref04_Join.j2] at H
             have HC15 := Aside0.mk H
             clear H
             go_upto_region 14 with (fail)
             repeat (go_quiet (fail); go_upto_region 14 with (fail))
             go_cut [76] (fun v76 wc => ∃ (kq : Nat) (x76_14 : Bool), v76 = .bool x76_14 ∧ Aside0 (mewsref04_Join.j3 kq l0 S1_ x4_1 x5_1 x6_8 x7_2 x8_2 (bt (rdOf ByteArray.empty l0 x5_1) x8_2) x76_14 = some r) ∧ Aside0 (kq ≤ kj8) ∧ Drawn0 w wc)
             case first =>
              have H := HC15.out
              clear HC15
              by_cases c16 : (bt (rdOf ByteArray.empty l0 x5_1) x8_2) = 34
              ·rw [if_pos c16] at H
               have c16b0 : ((bt (rdOf ByteArray.empty l0 x5_1) x8_2) == 34) = true := beq_iff_eq.mpr c16
               have c16b1 : ((bt (rdOf ByteArray.empty l0 x5_1) x8_2) != 34) = false := bne_eq_false_iff_eq.mpr c16
               clear c16
               (first | rw [c16b0] | (simp only [i64_w, i32_w]; rw [c16b0]) | skip)
               have H' := Aside0.mk H
               clear H
               go_wp2
               repeat (go_quiet (fail); try go_wp2)
               go_meet
               case rel => exact ⟨_, (true), (by first | rfl | (simp; done) | (simp [*]; done)), H', ⟨by have := HK1.out; have := HK2.out; have := HJ8.out; first | omega | exact Nat.le_refl _⟩, by repeat (first | exact Drawn0.refl _ | apply Drawn0.step)⟩
              ·rw [if_neg c16] at H
               have c16b0 : ((bt (rdOf ByteArray.empty l0 x5_1) x8_2) == 34) = false := beq_eq_false_iff_ne.mpr c16
               have c16b1 : ((bt (rdOf ByteArray.empty l0 x5_1) x8_2) != 34) = true := bne_iff_ne.mpr c16
               (first | rw [c16b0] | (simp only [i64_w, i32_w]; rw [c16b0]) | skip)
               have H' := Aside0.mk H
               clear H
               go_wp2
               repeat (go_quiet (fail); try go_wp2)
               go_meet
               case rel => exact ⟨_, (((bt (rdOf ByteArray.empty l0 x5_1) x8_2) == 92)), (by first | rfl | (simp; done) | (simp [*]; done)), H', ⟨by have := HK1.out; have := HK2.out; have := HJ8.out; first | omega | exact Nat.le_refl _⟩, by repeat (first | exact Drawn0.refl _ | apply Drawn0.step)⟩
             case rest =>
              clear HC15
              try clear c1
              try clear c2
              try clear c2b0
              try clear p2
              try clear c3
              try clear c3b0
              try clear p3
              try clear q3
              try clear hx3
              try clear c4
              try clear c4b0
              try clear c5
              try clear c5b0
              try clear c6
              try clear c6b0
              try clear c7
              try clear c7b0
              try clear c8
              try clear p8
              try clear q8
              try clear hx8
              try clear c10
              try clear c11
              try clear c11b0
              try clear c12
              try clear c12b0
              try clear c13
              try clear c13b0
              try clear c13b1
              try clear c14
              try clear c14b0
              try clear c14b1
              try clear c16
              try clear c16b0
              try clear c16b1
              try clear hx317_0
              try clear hx318_0
              try clear hx319_0
              try clear p2
              try clear p3
              try clear p317
              try clear p318
              try clear p319
              try clear p8
              try clear q3
              try clear q317
              try clear q318
              try clear q319
              try clear q8
              obtain ⟨kq, x76_14, rfl, HA, HJ14, ⟨mc14, rfl⟩⟩ := hcut
              cases kq with
              | zero => exact absurd HA.out (by simp [mewsref04_Join.j3])
              | succ kj14 =>
               have H := HA.out
               clear HA
               simp only [mewsref04_Join.j3] at H
               by_cases c17 : x76_14 = true
               ·subst c17
                rw [if_pos rfl] at H
                by_cases c18 : 0 ≤ x5_1
                ·rw [if_pos c18] at H
                 have c18b0 : decide (0 ≤ x5_1) = true := decide_eq_true c18
                 clear c18
                 by_cases c19 : x5_1 < (l0.length : Int)
                 ·rw [if_pos c19] at H
                  have c19b0 : decide (x5_1 < (l0.length : Int)) = true := decide_eq_true c19
                  clear c19
                  by_cases c20 : 0 ≤ x8_2
                  ·rw [if_pos c20] at H
                   have c20b0 := eq_true c20
                   have c20b1 : decide (0 ≤ x8_2) = true := decide_eq_true c20
                   clear c20
                   by_cases c21 : x8_2 ≤ (wrap64 (x8_2 + 1))
                   ·rw [if_pos c21] at H
                    have c21b0 := eq_true c21
                    have c21b1 : decide (x8_2 ≤ (wrap64 (x8_2 + 1))) = true := decide_eq_true c21
                    by_cases c22 : (wrap64 (x8_2 + 1)) ≤ ((rdOf ByteArray.empty l0 x5_1).size : Int)
                    ·rw [if_pos c22] at H
                     have c22b0 := eq_true c22
                     have c22b1 : decide ((wrap64 (x8_2 + 1)) ≤ ((rdOf ByteArray.empty l0 x5_1).size : Int)) = true := decide_eq_true c22
                     obtain ⟨ji23, hji23⟩ : ∃ j_ : ByteArray, ((rdOf ByteArray.empty l0 x5_1).extract (x8_2 : Int).toNat ((wrap64 (x8_2 + 1)) : Int).toNat) = j_ := ⟨_, rfl⟩
                     replace H : (if 1 + (ji23).size ≤ 9223372036854775807 then (if x7_2.size + ((⟨#[92]⟩ : ByteArray) ++ (ji23)).size ≤ 9223372036854775807 then (mewsref04_Join.l1 kj14 l0 S1_ x4_1 x5_1 x6_8 (x7_2 ++ ((⟨#[92]⟩ : ByteArray) ++ (ji23))) (wrap64 (x8_2 + 1))) else (none)) else (none)) = some r := by first | (rw [hji23] at H; exact H) | (simp only [hji23] at H ⊢; exact H)
                     by_cases c24 : 1 + (ji23).size ≤ 9223372036854775807
                     ·rw [if_pos c24] at H
                      have c24b0 := eq_true c24
                      have c24b1 : decide (1 + (ji23).size ≤ 9223372036854775807) = true := decide_eq_true c24
                      try have c24b2 : (9223372036854775807 < 1 + (ji23).size) = False := eq_false (Nat.not_lt.2 c24)
                      by_cases c25 : x7_2.size + ((⟨#[92]⟩ : ByteArray) ++ (ji23)).size ≤ 9223372036854775807
                      ·rw [if_pos c25] at H
                       have c25b0 := eq_true c25
                       have c25s := c25
                       simp only [ByteArray.size_append, lit0_, lit1_, lit2_, lit3_, lit4_] at c25s
                       have c25s0 := eq_true c25s
                       have c25s1 := decide_eq_true c25s
                       have c25s2 := eq_false (Nat.not_lt.2 c25s)
                       have c25b1 : decide (x7_2.size + ((⟨#[92]⟩ : ByteArray) ++ (ji23)).size ≤ 9223372036854775807) = true := decide_eq_true c25
                       try have c25b2 : (9223372036854775807 < x7_2.size + ((⟨#[92]⟩ : ByteArray) ++ (ji23)).size) = False := eq_false (Nat.not_lt.2 c25)
                       have H' := Aside0.mk H
                       clear H
                       have p320 : 0 ≤ (x5_1 : Int) := of_decide_eq_true (by first | (with_reducible assumption) | assumption)
                       have q320 : x5_1 < (l0.length : Int) := of_decide_eq_true (by first | (with_reducible assumption) | assumption)
                       obtain ⟨ad320, e320, hx320_0⟩ := Kd.at_string HR0.out x5_1 p320 q320
                       obtain rfl : ad317 = ad320 := (by injection e320)
                       replace p320 := eq_true p320
                       replace q320 := eq_true q320
                       go_wp2
                       repeat (go_quiet (fail); try go_wp2)
                       go_roundg kj14
                       case measure => have := HK1.out; have := HK2.out; have := HJ8.out; have := HJ14.out; omega
                       case rel => exact ⟨(x6_8), (x7_2 ++ ((⟨#[92]⟩ : ByteArray) ++ (ji23))), (wrap64 (x8_2 + 1)), (by first | rfl | (simp; done) | (simp [*]; done)), (by first | rfl | (simp; done) | (simp only [← hji23] <;> (first | rfl | simp)) | (simp [*]; done)), (by first | rfl | (simp; done) | (simp [*]; done)), H', ⟨by have := HK1.out; have := HK2.out; have := HJ8.out; have := HJ14.out; omega⟩, by repeat (first | exact Drawn0.refl _ | apply Drawn0.step)⟩
                      ·rw [if_neg c25] at H
                       exact absurd H (by simp)
                     ·rw [if_neg c24] at H
                      exact absurd H (by simp)
                    ·rw [if_neg c22] at H
                     exact absurd H (by simp)
                   ·rw [if_neg c21] at H
                    exact absurd H (by simp)
                  ·rw [if_neg c20] at H
                   exact absurd H (by simp)
                 ·rw [if_neg c19] at H
                  exact absurd H (by simp)
                ·rw [if_neg c18] at H
                 exact absurd H (by simp)
               ·replace c17 := Bool.eq_false_iff.mpr c17
                subst c17
                rw [if_neg (show ¬ (false = true) by decide)] at H
                by_cases c26 : (bt (rdOf ByteArray.empty l0 x5_1) x8_2) ≥ 32
                ·rw [if_pos c26] at H
                 have c26b0 : decide (32 ≤ (bt (rdOf ByteArray.empty l0 x5_1) x8_2)) = true := decide_eq_true c26
                 clear c26
                 by_cases c27 : (bt (rdOf ByteArray.empty l0 x5_1) x8_2) ≤ 126
                 ·rw [if_pos c27] at H
                  have c27b0 : decide ((bt (rdOf ByteArray.empty l0 x5_1) x8_2) ≤ 126) = true := decide_eq_true c27
                  clear c27
                  by_cases c28 : 0 ≤ x5_1
                  ·rw [if_pos c28] at H
                   have c28b0 : decide (0 ≤ x5_1) = true := decide_eq_true c28
                   clear c28
                   by_cases c29 : x5_1 < (l0.length : Int)
                   ·rw [if_pos c29] at H
                    have c29b0 : decide (x5_1 < (l0.length : Int)) = true := decide_eq_true c29
                    clear c29
                    by_cases c30 : 0 ≤ x8_2
                    ·rw [if_pos c30] at H
                     have c30b0 := eq_true c30
                     have c30b1 : decide (0 ≤ x8_2) = true := decide_eq_true c30
                     clear c30
                     by_cases c31 : x8_2 ≤ (wrap64 (x8_2 + 1))
                     ·rw [if_pos c31] at H
                      have c31b0 := eq_true c31
                      have c31b1 : decide (x8_2 ≤ (wrap64 (x8_2 + 1))) = true := decide_eq_true c31
                      by_cases c32 : (wrap64 (x8_2 + 1)) ≤ ((rdOf ByteArray.empty l0 x5_1).size : Int)
                      ·rw [if_pos c32] at H
                       have c32b0 := eq_true c32
                       have c32b1 : decide ((wrap64 (x8_2 + 1)) ≤ ((rdOf ByteArray.empty l0 x5_1).size : Int)) = true := decide_eq_true c32
                       obtain ⟨ji33, hji33⟩ : ∃ j_ : ByteArray, ((rdOf ByteArray.empty l0 x5_1).extract (x8_2 : Int).toNat ((wrap64 (x8_2 + 1)) : Int).toNat) = j_ := ⟨_, rfl⟩
                       replace H : (if x7_2.size + (ji33).size ≤ 9223372036854775807 then (mewsref04_Join.l1 kj14 l0 S1_ x4_1 x5_1 x6_8 (x7_2 ++ (ji33)) (wrap64 (x8_2 + 1))) else (none)) = some r := by first | (rw [hji33] at H; exact H) | (simp only [hji33] at H ⊢; exact H)
                       by_cases c34 : x7_2.size + (ji33).size ≤ 9223372036854775807
                       ·rw [if_pos c34] at H
                        have c34b0 := eq_true c34
                        have c34b1 : decide (x7_2.size + (ji33).size ≤ 9223372036854775807) = true := decide_eq_true c34
                        try have c34b2 : (9223372036854775807 < x7_2.size + (ji33).size) = False := eq_false (Nat.not_lt.2 c34)
                        have H' := Aside0.mk H
                        clear H
                        have p321 : 0 ≤ (x5_1 : Int) := of_decide_eq_true (by first | (with_reducible assumption) | assumption)
                        have q321 : x5_1 < (l0.length : Int) := of_decide_eq_true (by first | (with_reducible assumption) | assumption)
                        obtain ⟨ad321, e321, hx321_0⟩ := Kd.at_string HR0.out x5_1 p321 q321
                        obtain rfl : ad317 = ad321 := (by injection e321)
                        replace p321 := eq_true p321
                        replace q321 := eq_true q321
                        go_wp2
                        repeat (go_quiet (fail); try go_wp2)
                        go_roundg kj14
                        case measure => have := HK1.out; have := HK2.out; have := HJ8.out; have := HJ14.out; omega
                        case rel => exact ⟨(x6_8), (x7_2 ++ (ji33)), (wrap64 (x8_2 + 1)), (by first | rfl | (simp; done) | (simp [*]; done)), (by first | rfl | (simp; done) | (simp only [← hji33] <;> (first | rfl | simp)) | (simp [*]; done)), (by first | rfl | (simp; done) | (simp [*]; done)), H', ⟨by have := HK1.out; have := HK2.out; have := HJ8.out; have := HJ14.out; omega⟩, by repeat (first | exact Drawn0.refl _ | apply Drawn0.step)⟩
                       ·rw [if_neg c34] at H
                        exact absurd H (by simp)
                      ·rw [if_neg c32] at H
                       exact absurd H (by simp)
                     ·rw [if_neg c31] at H
                      exact absurd H (by simp)
                    ·rw [if_neg c30] at H
                     exact absurd H (by simp)
                   ·rw [if_neg c29] at H
                    exact absurd H (by simp)
                  ·rw [if_neg c28] at H
                   exact absurd H (by simp)
                 ·rw [if_neg c27] at H
                  have c27b0 : decide ((bt (rdOf ByteArray.empty l0 x5_1) x8_2) ≤ 126) = false := decide_eq_false c27
                  clear c27
                  obtain ⟨ji35, hji35⟩ : ∃ j_ : Int, ((Int.tdiv (bt (rdOf ByteArray.empty l0 x5_1) x8_2) 16) % 256) = j_ := ⟨_, rfl⟩
                  replace H : (if 0 ≤ (ji35) then (if (ji35) ≤ (((ji35) + 1) % 256) then (if (((ji35) + 1) % 256) ≤ (S1_.size : Int) then (if 2 + (S1_.extract ((ji35) : Int).toNat ((((ji35) + 1) % 256) : Int).toNat).size ≤ 9223372036854775807 then (if 0 ≤ (Int.tmod (bt (rdOf ByteArray.empty l0 x5_1) x8_2) 16) then (if (Int.tmod (bt (rdOf ByteArray.empty l0 x5_1) x8_2) 16) ≤ (((Int.tmod (bt (rdOf ByteArray.empty l0 x5_1) x8_2) 16) + 1) % 256) then (if (((Int.tmod (bt (rdOf ByteArray.empty l0 x5_1) x8_2) 16) + 1) % 256) ≤ (S1_.size : Int) then (if ((⟨#[92, 120]⟩ : ByteArray) ++ (S1_.extract ((ji35) : Int).toNat ((((ji35) + 1) % 256) : Int).toNat)).size + (S1_.extract ((Int.tmod (bt (rdOf ByteArray.empty l0 x5_1) x8_2) 16) : Int).toNat ((((Int.tmod (bt (rdOf ByteArray.empty l0 x5_1) x8_2) 16) + 1) % 256) : Int).toNat).size ≤ 9223372036854775807 then (if x7_2.size + (((⟨#[92, 120]⟩ : ByteArray) ++ (S1_.extract ((ji35) : Int).toNat ((((ji35) + 1) % 256) : Int).toNat)) ++ (S1_.extract ((Int.tmod (bt (rdOf ByteArray.empty l0 x5_1) x8_2) 16) : Int).toNat ((((Int.tmod (bt (rdOf ByteArray.empty l0 x5_1) x8_2) 16) + 1) % 256) : Int).toNat)).size ≤ 9223372036854775807 then (mewsref04_Join.l1 kj14 l0 S1_ x4_1 x5_1 x6_8 (x7_2 ++ (((⟨#[92, 120]⟩ : ByteArray) ++ (S1_.extract ((ji35) : Int).toNat ((((ji35) + 1) % 256) : Int).toNat)) ++ (S1_.extract ((Int.tmod (bt (rdOf ByteArray.empty l0 x5_1) x8_2) 16) : Int).toNat ((((Int.tmod (bt (rdOf ByteArray.empty l0 x5_1) x8_2) 16) + 1) % 256) : Int).toNat))) (wrap64 (x8_2 + 1))) else (none)) else (none)) else (none)) else (none)) else (none)) else (none)) else (none)) else (none)) else (none)) = some r := by first | (rw [hji35] at H; exact H) | (simp only [hji35] at H ⊢; exact H)
                  by_cases c36 : 0 ≤ (ji35)
                  ·rw [if_pos c36] at H
                   have c36b0 := eq_true c36
                   have c36b1 : decide (0 ≤ (ji35)) = true := decide_eq_true c36
                   clear c36
                   by_cases c37 : (ji35) ≤ (((ji35) + 1) % 256)
                   ·rw [if_pos c37] at H
                    have c37b0 := eq_true c37
                    have c37b1 : decide ((ji35) ≤ (((ji35) + 1) % 256)) = true := decide_eq_true c37
                    by_cases c38 : (((ji35) + 1) % 256) ≤ (S1_.size : Int)
                    ·rw [if_pos c38] at H
                     have c38b0 := eq_true c38
                     have c38b1 : decide ((((ji35) + 1) % 256) ≤ (S1_.size : Int)) = true := decide_eq_true c38
                     obtain ⟨ji39, hji39⟩ : ∃ j_ : ByteArray, (S1_.extract ((ji35) : Int).toNat ((((ji35) + 1) % 256) : Int).toNat) = j_ := ⟨_, rfl⟩
                     replace H : (if 2 + (ji39).size ≤ 9223372036854775807 then (if 0 ≤ (Int.tmod (bt (rdOf ByteArray.empty l0 x5_1) x8_2) 16) then (if (Int.tmod (bt (rdOf ByteArray.empty l0 x5_1) x8_2) 16) ≤ (((Int.tmod (bt (rdOf ByteArray.empty l0 x5_1) x8_2) 16) + 1) % 256) then (if (((Int.tmod (bt (rdOf ByteArray.empty l0 x5_1) x8_2) 16) + 1) % 256) ≤ (S1_.size : Int) then (if ((⟨#[92, 120]⟩ : ByteArray) ++ (ji39)).size + (S1_.extract ((Int.tmod (bt (rdOf ByteArray.empty l0 x5_1) x8_2) 16) : Int).toNat ((((Int.tmod (bt (rdOf ByteArray.empty l0 x5_1) x8_2) 16) + 1) % 256) : Int).toNat).size ≤ 9223372036854775807 then (if x7_2.size + (((⟨#[92, 120]⟩ : ByteArray) ++ (ji39)) ++ (S1_.extract ((Int.tmod (bt (rdOf ByteArray.empty l0 x5_1) x8_2) 16) : Int).toNat ((((Int.tmod (bt (rdOf ByteArray.empty l0 x5_1) x8_2) 16) + 1) % 256) : Int).toNat)).size ≤ 9223372036854775807 then (mewsref04_Join.l1 kj14 l0 S1_ x4_1 x5_1 x6_8 (x7_2 ++ (((⟨#[92, 120]⟩ : ByteArray) ++ (ji39)) ++ (S1_.extract ((Int.tmod (bt (rdOf ByteArray.empty l0 x5_1) x8_2) 16) : Int).toNat ((((Int.tmod (bt (rdOf ByteArray.empty l0 x5_1) x8_2) 16) + 1) % 256) : Int).toNat))) (wrap64 (x8_2 + 1))) else (none)) else (none)) else (none)) else (none)) else (none)) else (none)) = some r := by first | (rw [hji39] at H; exact H) | (simp only [hji39] at H ⊢; exact H)
                     by_cases c40 : 2 + (ji39).size ≤ 9223372036854775807
                     ·rw [if_pos c40] at H
                      have c40b0 := eq_true c40
                      have c40b1 : decide (2 + (ji39).size ≤ 9223372036854775807) = true := decide_eq_true c40
                      try have c40b2 : (9223372036854775807 < 2 + (ji39).size) = False := eq_false (Nat.not_lt.2 c40)
                      obtain ⟨ji41, hji41⟩ : ∃ j_ : Int, (Int.tmod (bt (rdOf ByteArray.empty l0 x5_1) x8_2) 16) = j_ := ⟨_, rfl⟩
                      replace H : (if 0 ≤ (ji41) then (if (ji41) ≤ (((ji41) + 1) % 256) then (if (((ji41) + 1) % 256) ≤ (S1_.size : Int) then (if ((⟨#[92, 120]⟩ : ByteArray) ++ (ji39)).size + (S1_.extract ((ji41) : Int).toNat ((((ji41) + 1) % 256) : Int).toNat).size ≤ 9223372036854775807 then (if x7_2.size + (((⟨#[92, 120]⟩ : ByteArray) ++ (ji39)) ++ (S1_.extract ((ji41) : Int).toNat ((((ji41) + 1) % 256) : Int).toNat)).size ≤ 9223372036854775807 then (mewsref04_Join.l1 kj14 l0 S1_ x4_1 x5_1 x6_8 (x7_2 ++ (((⟨#[92, 120]⟩ : ByteArray) ++ (ji39)) ++ (S1_.extract ((ji41) : Int).toNat ((((ji41) + 1) % 256) : Int).toNat))) (wrap64 (x8_2 + 1))) else (none)) else (none)) else (none)) else (none)) else (none)) = some r := by first | (rw [hji41] at H; exact H) | (simp only [hji41] at H ⊢; exact H)
                      by_cases c42 : 0 ≤ (ji41)
                      ·rw [if_pos c42] at H
                       have c42b0 := eq_true c42
                       have c42b1 : decide (0 ≤ (ji41)) = true := decide_eq_true c42
                       clear c42
                       by_cases c43 : (ji41) ≤ (((ji41) + 1) % 256)
                       ·rw [if_pos c43] at H
                        have c43b0 := eq_true c43
                        have c43b1 : decide ((ji41) ≤ (((ji41) + 1) % 256)) = true := decide_eq_true c43
                        by_cases c44 : (((ji41) + 1) % 256) ≤ (S1_.size : Int)
                        ·rw [if_pos c44] at H
                         have c44b0 := eq_true c44
                         have c44b1 : decide ((((ji41) + 1) % 256) ≤ (S1_.size : Int)) = true := decide_eq_true c44
                         obtain ⟨ji45, hji45⟩ : ∃ j_ : ByteArray, (S1_.extract ((ji41) : Int).toNat ((((ji41) + 1) % 256) : Int).toNat) = j_ := ⟨_, rfl⟩
                         replace H : (if ((⟨#[92, 120]⟩ : ByteArray) ++ (ji39)).size + (ji45).size ≤ 9223372036854775807 then (if x7_2.size + (((⟨#[92, 120]⟩ : ByteArray) ++ (ji39)) ++ (ji45)).size ≤ 9223372036854775807 then (mewsref04_Join.l1 kj14 l0 S1_ x4_1 x5_1 x6_8 (x7_2 ++ (((⟨#[92, 120]⟩ : ByteArray) ++ (ji39)) ++ (ji45))) (wrap64 (x8_2 + 1))) else (none)) else (none)) = some r := by first | (rw [hji45] at H; exact H) | (simp only [hji45] at H ⊢; exact H)
                         by_cases c46 : ((⟨#[92, 120]⟩ : ByteArray) ++ (ji39)).size + (ji45).size ≤ 9223372036854775807
                         ·rw [if_pos c46] at H
                          have c46b0 := eq_true c46
                          have c46s := c46
                          simp only [ByteArray.size_append, lit0_, lit1_, lit2_, lit3_, lit4_] at c46s
                          have c46s0 := eq_true c46s
                          have c46s1 := decide_eq_true c46s
                          have c46s2 := eq_false (Nat.not_lt.2 c46s)
                          have c46b1 : decide (((⟨#[92, 120]⟩ : ByteArray) ++ (ji39)).size + (ji45).size ≤ 9223372036854775807) = true := decide_eq_true c46
                          try have c46b2 : (9223372036854775807 < ((⟨#[92, 120]⟩ : ByteArray) ++ (ji39)).size + (ji45).size) = False := eq_false (Nat.not_lt.2 c46)
                          by_cases c47 : x7_2.size + (((⟨#[92, 120]⟩ : ByteArray) ++ (ji39)) ++ (ji45)).size ≤ 9223372036854775807
                          ·rw [if_pos c47] at H
                           have c47b0 := eq_true c47
                           have c47s := c47
                           simp only [ByteArray.size_append, lit0_, lit1_, lit2_, lit3_, lit4_] at c47s
                           have c47s0 := eq_true c47s
                           have c47s1 := decide_eq_true c47s
                           have c47s2 := eq_false (Nat.not_lt.2 c47s)
                           have c47b1 : decide (x7_2.size + (((⟨#[92, 120]⟩ : ByteArray) ++ (ji39)) ++ (ji45)).size ≤ 9223372036854775807) = true := decide_eq_true c47
                           try have c47b2 : (9223372036854775807 < x7_2.size + (((⟨#[92, 120]⟩ : ByteArray) ++ (ji39)) ++ (ji45)).size) = False := eq_false (Nat.not_lt.2 c47)
                           have H' := Aside0.mk H
                           clear H
                           have hbr_ := bt_range (rdOf ByteArray.empty l0 x5_1) x8_2
                           have hq1_ : IntKind.u8.wrap (Int.tdiv (bt (rdOf ByteArray.empty l0 x5_1) x8_2) 16) = ji35 := (IntKind.wrap_u8 _).trans hji35
                           have hq2_ : (bt (rdOf ByteArray.empty l0 x5_1) x8_2) / 16 = ji35 := by rw [← hji35, Int.tdiv_eq_ediv_of_nonneg hbr_.1]; omega
                           have hq3_ : IntKind.u8.wrap (ji35 + 1) = ji35 + 1 := by rw [IntKind.wrap_u8]; omega
                           have hq4_ : (ji35 + 1) % 256 = ji35 + 1 := by omega
                           have hq5_ : S1_.extract ji35.toNat (ji35 + 1).toNat = ji39 := by rw [← hq4_]; exact hji39
                           have hq6_ : decide (ji35 + 1 ≤ (S1_.size : Int)) = true := decide_eq_true (by omega)
                           have hq7_ : (ji35 + 1 ≤ (S1_.size : Int)) = True := eq_true (by omega)
                           have hm0_ : (bt (rdOf ByteArray.empty l0 x5_1) x8_2) % 16 = ji41 := by rw [← hji41, Int.tmod_eq_emod_of_nonneg hbr_.1]
                           have hm1_ : IntKind.u8.wrap (Int.tmod (bt (rdOf ByteArray.empty l0 x5_1) x8_2) 16) = ji41 := by rw [hji41, IntKind.wrap_u8]; omega
                           have hm3_ : IntKind.u8.wrap (ji41 + 1) = ji41 + 1 := by rw [IntKind.wrap_u8]; omega
                           have hm4_ : (ji41 + 1) % 256 = ji41 + 1 := by omega
                           have hm5_ : S1_.extract ji41.toNat (ji41 + 1).toNat = ji45 := by rw [← hm4_]; exact hji45
                           have hm6_ : decide (ji41 + 1 ≤ (S1_.size : Int)) = true := decide_eq_true (by omega)
                           have hm7_ : (ji41 + 1 ≤ (S1_.size : Int)) = True := eq_true (by omega)
                           have hqs_ := fun W => sl_u8 (P := Try.prog) (t := 9) Try.underlying9 .u8 .u8 S1_ ji39 ji35 (ji35 + 1) (by omega) (by omega) (by omega) hq5_ W
                           have hms_ := fun W => sl_u8 (P := Try.prog) (t := 9) Try.underlying9 .u8 .u8 S1_ ji45 ji41 (ji41 + 1) (by omega) (by omega) (by omega) hm5_ W
                           clear hq4_ hm4_ hbr_
                           go_wp2
                           repeat (go_quiet (fail); try go_wp2)
                           go_roundg kj14
                           case measure => have := HK1.out; have := HK2.out; have := HJ8.out; have := HJ14.out; omega
                           case rel => exact ⟨(x6_8), (x7_2 ++ (((⟨#[92, 120]⟩ : ByteArray) ++ (ji39)) ++ (ji45))), (wrap64 (x8_2 + 1)), (by first | rfl | (simp; done) | (simp [*]; done)), (by first | rfl | (simp; done) | (simp only [← hji39, ← hji45] <;> (first | rfl | simp)) | (simp [*]; done)), (by first | rfl | (simp; done) | (simp [*]; done)), H', ⟨by have := HK1.out; have := HK2.out; have := HJ8.out; have := HJ14.out; omega⟩, by repeat (first | exact Drawn0.refl _ | apply Drawn0.step)⟩
                          ·rw [if_neg c47] at H
                           exact absurd H (by simp)
                         ·rw [if_neg c46] at H
                          exact absurd H (by simp)
                        ·rw [if_neg c44] at H
                         exact absurd H (by simp)
                       ·rw [if_neg c43] at H
                        exact absurd H (by simp)
                      ·rw [if_neg c42] at H
                       exact absurd H (by simp)
                     ·rw [if_neg c40] at H
                      exact absurd H (by simp)
                    ·rw [if_neg c38] at H
                     exact absurd H (by simp)
                   ·rw [if_neg c37] at H
                    exact absurd H (by simp)
                  ·rw [if_neg c36] at H
                   exact absurd H (by simp)
                ·rw [if_neg c26] at H
                 have c26b0 : decide (32 ≤ (bt (rdOf ByteArray.empty l0 x5_1) x8_2)) = false := decide_eq_false c26
                 clear c26
                 obtain ⟨ji48, hji48⟩ : ∃ j_ : Int, ((Int.tdiv (bt (rdOf ByteArray.empty l0 x5_1) x8_2) 16) % 256) = j_ := ⟨_, rfl⟩
                 replace H : (if 0 ≤ (ji48) then (if (ji48) ≤ (((ji48) + 1) % 256) then (if (((ji48) + 1) % 256) ≤ (S1_.size : Int) then (if 2 + (S1_.extract ((ji48) : Int).toNat ((((ji48) + 1) % 256) : Int).toNat).size ≤ 9223372036854775807 then (if 0 ≤ (Int.tmod (bt (rdOf ByteArray.empty l0 x5_1) x8_2) 16) then (if (Int.tmod (bt (rdOf ByteArray.empty l0 x5_1) x8_2) 16) ≤ (((Int.tmod (bt (rdOf ByteArray.empty l0 x5_1) x8_2) 16) + 1) % 256) then (if (((Int.tmod (bt (rdOf ByteArray.empty l0 x5_1) x8_2) 16) + 1) % 256) ≤ (S1_.size : Int) then (if ((⟨#[92, 120]⟩ : ByteArray) ++ (S1_.extract ((ji48) : Int).toNat ((((ji48) + 1) % 256) : Int).toNat)).size + (S1_.extract ((Int.tmod (bt (rdOf ByteArray.empty l0 x5_1) x8_2) 16) : Int).toNat ((((Int.tmod (bt (rdOf ByteArray.empty l0 x5_1) x8_2) 16) + 1) % 256) : Int).toNat).size ≤ 9223372036854775807 then (if x7_2.size + (((⟨#[92, 120]⟩ : ByteArray) ++ (S1_.extract ((ji48) : Int).toNat ((((ji48) + 1) % 256) : Int).toNat)) ++ (S1_.extract ((Int.tmod (bt (rdOf ByteArray.empty l0 x5_1) x8_2) 16) : Int).toNat ((((Int.tmod (bt (rdOf ByteArray.empty l0 x5_1) x8_2) 16) + 1) % 256) : Int).toNat)).size ≤ 9223372036854775807 then (mewsref04_Join.l1 kj14 l0 S1_ x4_1 x5_1 x6_8 (x7_2 ++ (((⟨#[92, 120]⟩ : ByteArray) ++ (S1_.extract ((ji48) : Int).toNat ((((ji48) + 1) % 256) : Int).toNat)) ++ (S1_.extract ((Int.tmod (bt (rdOf ByteArray.empty l0 x5_1) x8_2) 16) : Int).toNat ((((Int.tmod (bt (rdOf ByteArray.empty l0 x5_1) x8_2) 16) + 1) % 256) : Int).toNat))) (wrap64 (x8_2 + 1))) else (none)) else (none)) else (none)) else (none)) else (none)) else (none)) else (none)) else (none)) else (none)) = some r := by first | (rw [hji48] at H; exact H) | (simp only [hji48] at H ⊢; exact H)
                 by_cases c49 : 0 ≤ (ji48)
                 ·rw [if_pos c49] at H
                  have c49b0 := eq_true c49
                  have c49b1 : decide (0 ≤ (ji48)) = true := decide_eq_true c49
                  clear c49
                  by_cases c50 : (ji48) ≤ (((ji48) + 1) % 256)
                  ·rw [if_pos c50] at H
                   have c50b0 := eq_true c50
                   have c50b1 : decide ((ji48) ≤ (((ji48) + 1) % 256)) = true := decide_eq_true c50
                   by_cases c51 : (((ji48) + 1) % 256) ≤ (S1_.size : Int)
                   ·rw [if_pos c51] at H
                    have c51b0 := eq_true c51
                    have c51b1 : decide ((((ji48) + 1) % 256) ≤ (S1_.size : Int)) = true := decide_eq_true c51
                    obtain ⟨ji52, hji52⟩ : ∃ j_ : ByteArray, (S1_.extract ((ji48) : Int).toNat ((((ji48) + 1) % 256) : Int).toNat) = j_ := ⟨_, rfl⟩
                    replace H : (if 2 + (ji52).size ≤ 9223372036854775807 then (if 0 ≤ (Int.tmod (bt (rdOf ByteArray.empty l0 x5_1) x8_2) 16) then (if (Int.tmod (bt (rdOf ByteArray.empty l0 x5_1) x8_2) 16) ≤ (((Int.tmod (bt (rdOf ByteArray.empty l0 x5_1) x8_2) 16) + 1) % 256) then (if (((Int.tmod (bt (rdOf ByteArray.empty l0 x5_1) x8_2) 16) + 1) % 256) ≤ (S1_.size : Int) then (if ((⟨#[92, 120]⟩ : ByteArray) ++ (ji52)).size + (S1_.extract ((Int.tmod (bt (rdOf ByteArray.empty l0 x5_1) x8_2) 16) : Int).toNat ((((Int.tmod (bt (rdOf ByteArray.empty l0 x5_1) x8_2) 16) + 1) % 256) : Int).toNat).size ≤ 9223372036854775807 then (if x7_2.size + (((⟨#[92, 120]⟩ : ByteArray) ++ (ji52)) ++ (S1_.extract ((Int.tmod (bt (rdOf ByteArray.empty l0 x5_1) x8_2) 16) : Int).toNat ((((Int.tmod (bt (rdOf ByteArray.empty l0 x5_1) x8_2) 16) + 1) % 256) : Int).toNat)).size ≤ 9223372036854775807 then (mewsref04_Join.l1 kj14 l0 S1_ x4_1 x5_1 x6_8 (x7_2 ++ (((⟨#[92, 120]⟩ : ByteArray) ++ (ji52)) ++ (S1_.extract ((Int.tmod (bt (rdOf ByteArray.empty l0 x5_1) x8_2) 16) : Int).toNat ((((Int.tmod (bt (rdOf ByteArray.empty l0 x5_1) x8_2) 16) + 1) % 256) : Int).toNat))) (wrap64 (x8_2 + 1))) else (none)) else (none)) else (none)) else (none)) else (none)) else (none)) = some r := by first | (rw [hji52] at H; exact H) | (simp only [hji52] at H ⊢; exact H)
                    by_cases c53 : 2 + (ji52).size ≤ 9223372036854775807
                    ·rw [if_pos c53] at H
                     have c53b0 := eq_true c53
                     have c53b1 : decide (2 + (ji52).size ≤ 9223372036854775807) = true := decide_eq_true c53
                     try have c53b2 : (9223372036854775807 < 2 + (ji52).size) = False := eq_false (Nat.not_lt.2 c53)
                     obtain ⟨ji54, hji54⟩ : ∃ j_ : Int, (Int.tmod (bt (rdOf ByteArray.empty l0 x5_1) x8_2) 16) = j_ := ⟨_, rfl⟩
                     replace H : (if 0 ≤ (ji54) then (if (ji54) ≤ (((ji54) + 1) % 256) then (if (((ji54) + 1) % 256) ≤ (S1_.size : Int) then (if ((⟨#[92, 120]⟩ : ByteArray) ++ (ji52)).size + (S1_.extract ((ji54) : Int).toNat ((((ji54) + 1) % 256) : Int).toNat).size ≤ 9223372036854775807 then (if x7_2.size + (((⟨#[92, 120]⟩ : ByteArray) ++ (ji52)) ++ (S1_.extract ((ji54) : Int).toNat ((((ji54) + 1) % 256) : Int).toNat)).size ≤ 9223372036854775807 then (mewsref04_Join.l1 kj14 l0 S1_ x4_1 x5_1 x6_8 (x7_2 ++ (((⟨#[92, 120]⟩ : ByteArray) ++ (ji52)) ++ (S1_.extract ((ji54) : Int).toNat ((((ji54) + 1) % 256) : Int).toNat))) (wrap64 (x8_2 + 1))) else (none)) else (none)) else (none)) else (none)) else (none)) = some r := by first | (rw [hji54] at H; exact H) | (simp only [hji54] at H ⊢; exact H)
                     by_cases c55 : 0 ≤ (ji54)
                     ·rw [if_pos c55] at H
                      have c55b0 := eq_true c55
                      have c55b1 : decide (0 ≤ (ji54)) = true := decide_eq_true c55
                      clear c55
                      by_cases c56 : (ji54) ≤ (((ji54) + 1) % 256)
                      ·rw [if_pos c56] at H
                       have c56b0 := eq_true c56
                       have c56b1 : decide ((ji54) ≤ (((ji54) + 1) % 256)) = true := decide_eq_true c56
                       by_cases c57 : (((ji54) + 1) % 256) ≤ (S1_.size : Int)
                       ·rw [if_pos c57] at H
                        have c57b0 := eq_true c57
                        have c57b1 : decide ((((ji54) + 1) % 256) ≤ (S1_.size : Int)) = true := decide_eq_true c57
                        obtain ⟨ji58, hji58⟩ : ∃ j_ : ByteArray, (S1_.extract ((ji54) : Int).toNat ((((ji54) + 1) % 256) : Int).toNat) = j_ := ⟨_, rfl⟩
                        replace H : (if ((⟨#[92, 120]⟩ : ByteArray) ++ (ji52)).size + (ji58).size ≤ 9223372036854775807 then (if x7_2.size + (((⟨#[92, 120]⟩ : ByteArray) ++ (ji52)) ++ (ji58)).size ≤ 9223372036854775807 then (mewsref04_Join.l1 kj14 l0 S1_ x4_1 x5_1 x6_8 (x7_2 ++ (((⟨#[92, 120]⟩ : ByteArray) ++ (ji52)) ++ (ji58))) (wrap64 (x8_2 + 1))) else (none)) else (none)) = some r := by first | (rw [hji58] at H; exact H) | (simp only [hji58] at H ⊢; exact H)
                        by_cases c59 : ((⟨#[92, 120]⟩ : ByteArray) ++ (ji52)).size + (ji58).size ≤ 9223372036854775807
                        ·rw [if_pos c59] at H
                         have c59b0 := eq_true c59
                         have c59s := c59
                         simp only [ByteArray.size_append, lit0_, lit1_, lit2_, lit3_, lit4_] at c59s
                         have c59s0 := eq_true c59s
                         have c59s1 := decide_eq_true c59s
                         have c59s2 := eq_false (Nat.not_lt.2 c59s)
                         have c59b1 : decide (((⟨#[92, 120]⟩ : ByteArray) ++ (ji52)).size + (ji58).size ≤ 9223372036854775807) = true := decide_eq_true c59
                         try have c59b2 : (9223372036854775807 < ((⟨#[92, 120]⟩ : ByteArray) ++ (ji52)).size + (ji58).size) = False := eq_false (Nat.not_lt.2 c59)
                         by_cases c60 : x7_2.size + (((⟨#[92, 120]⟩ : ByteArray) ++ (ji52)) ++ (ji58)).size ≤ 9223372036854775807
                         ·rw [if_pos c60] at H
                          have c60b0 := eq_true c60
                          have c60s := c60
                          simp only [ByteArray.size_append, lit0_, lit1_, lit2_, lit3_, lit4_] at c60s
                          have c60s0 := eq_true c60s
                          have c60s1 := decide_eq_true c60s
                          have c60s2 := eq_false (Nat.not_lt.2 c60s)
                          have c60b1 : decide (x7_2.size + (((⟨#[92, 120]⟩ : ByteArray) ++ (ji52)) ++ (ji58)).size ≤ 9223372036854775807) = true := decide_eq_true c60
                          try have c60b2 : (9223372036854775807 < x7_2.size + (((⟨#[92, 120]⟩ : ByteArray) ++ (ji52)) ++ (ji58)).size) = False := eq_false (Nat.not_lt.2 c60)
                          have H' := Aside0.mk H
                          clear H
                          have hbr_ := bt_range (rdOf ByteArray.empty l0 x5_1) x8_2
                          have hq1_ : IntKind.u8.wrap (Int.tdiv (bt (rdOf ByteArray.empty l0 x5_1) x8_2) 16) = ji48 := (IntKind.wrap_u8 _).trans hji48
                          have hq2_ : (bt (rdOf ByteArray.empty l0 x5_1) x8_2) / 16 = ji48 := by rw [← hji48, Int.tdiv_eq_ediv_of_nonneg hbr_.1]; omega
                          have hq3_ : IntKind.u8.wrap (ji48 + 1) = ji48 + 1 := by rw [IntKind.wrap_u8]; omega
                          have hq4_ : (ji48 + 1) % 256 = ji48 + 1 := by omega
                          have hq5_ : S1_.extract ji48.toNat (ji48 + 1).toNat = ji52 := by rw [← hq4_]; exact hji52
                          have hq6_ : decide (ji48 + 1 ≤ (S1_.size : Int)) = true := decide_eq_true (by omega)
                          have hq7_ : (ji48 + 1 ≤ (S1_.size : Int)) = True := eq_true (by omega)
                          have hm0_ : (bt (rdOf ByteArray.empty l0 x5_1) x8_2) % 16 = ji54 := by rw [← hji54, Int.tmod_eq_emod_of_nonneg hbr_.1]
                          have hm1_ : IntKind.u8.wrap (Int.tmod (bt (rdOf ByteArray.empty l0 x5_1) x8_2) 16) = ji54 := by rw [hji54, IntKind.wrap_u8]; omega
                          have hm3_ : IntKind.u8.wrap (ji54 + 1) = ji54 + 1 := by rw [IntKind.wrap_u8]; omega
                          have hm4_ : (ji54 + 1) % 256 = ji54 + 1 := by omega
                          have hm5_ : S1_.extract ji54.toNat (ji54 + 1).toNat = ji58 := by rw [← hm4_]; exact hji58
                          have hm6_ : decide (ji54 + 1 ≤ (S1_.size : Int)) = true := decide_eq_true (by omega)
                          have hm7_ : (ji54 + 1 ≤ (S1_.size : Int)) = True := eq_true (by omega)
                          have hqs_ := fun W => sl_u8 (P := Try.prog) (t := 9) Try.underlying9 .u8 .u8 S1_ ji52 ji48 (ji48 + 1) (by omega) (by omega) (by omega) hq5_ W
                          have hms_ := fun W => sl_u8 (P := Try.prog) (t := 9) Try.underlying9 .u8 .u8 S1_ ji58 ji54 (ji54 + 1) (by omega) (by omega) (by omega) hm5_ W
                          clear hq4_ hm4_ hbr_
                          go_wp2
                          repeat (go_quiet (fail); try go_wp2)
                          go_roundg kj14
                          case measure => have := HK1.out; have := HK2.out; have := HJ8.out; have := HJ14.out; omega
                          case rel => exact ⟨(x6_8), (x7_2 ++ (((⟨#[92, 120]⟩ : ByteArray) ++ (ji52)) ++ (ji58))), (wrap64 (x8_2 + 1)), (by first | rfl | (simp; done) | (simp [*]; done)), (by first | rfl | (simp; done) | (simp only [← hji52, ← hji58] <;> (first | rfl | simp)) | (simp [*]; done)), (by first | rfl | (simp; done) | (simp [*]; done)), H', ⟨by have := HK1.out; have := HK2.out; have := HJ8.out; have := HJ14.out; omega⟩, by repeat (first | exact Drawn0.refl _ | apply Drawn0.step)⟩
                         ·rw [if_neg c60] at H
                          exact absurd H (by simp)
                        ·rw [if_neg c59] at H
                         exact absurd H (by simp)
                       ·rw [if_neg c57] at H
                        exact absurd H (by simp)
                      ·rw [if_neg c56] at H
                       exact absurd H (by simp)
                     ·rw [if_neg c55] at H
                      exact absurd H (by simp)
                    ·rw [if_neg c53] at H
                     exact absurd H (by simp)
                   ·rw [if_neg c51] at H
                    exact absurd H (by simp)
                  ·rw [if_neg c50] at H
                   exact absurd H (by simp)
                 ·rw [if_neg c49] at H
                  exact absurd H (by simp)
          ·rw [if_neg c7] at H
           exact absurd H (by simp)
         ·rw [if_neg c6] at H
          have c6b0 : decide (x8_2 < ((rdOf ByteArray.empty l0 x5_1).size : Int)) = false := decide_eq_false c6
          clear c6
          by_cases c61 : x6_2 = true
          ·subst c61
           rw [if_pos rfl] at H
           by_cases c62 : x5_1 > 0
           ·rw [if_pos c62] at H
            have c62b0 : decide (0 < x5_1) = true := decide_eq_true c62
            clear c62
            by_cases c63 : x4_1.size + 1 ≤ 9223372036854775807
            ·rw [if_pos c63] at H
             have c63b0 := eq_true c63
             have c63b1 : decide (x4_1.size + 1 ≤ 9223372036854775807) = true := decide_eq_true c63
             try have c63b2 : (9223372036854775807 < x4_1.size + 1) = False := eq_false (Nat.not_lt.2 c63)
             by_cases c64 : (x4_1 ++ (⟨#[32]⟩ : ByteArray)).size + x7_2.size ≤ 9223372036854775807
             ·rw [if_pos c64] at H
              have c64b0 := eq_true c64
              have c64s := c64
              simp only [ByteArray.size_append, lit0_, lit1_, lit2_, lit3_, lit4_] at c64s
              have c64s0 := eq_true c64s
              have c64s1 := decide_eq_true c64s
              have c64s2 := eq_false (Nat.not_lt.2 c64s)
              have c64b1 : decide ((x4_1 ++ (⟨#[32]⟩ : ByteArray)).size + x7_2.size ≤ 9223372036854775807) = true := decide_eq_true c64
              try have c64b2 : (9223372036854775807 < (x4_1 ++ (⟨#[32]⟩ : ByteArray)).size + x7_2.size) = False := eq_false (Nat.not_lt.2 c64)
              have H' := Aside0.mk H
              clear H
              have p318 : 0 ≤ (x5_1 : Int) := of_decide_eq_true (by first | (with_reducible assumption) | assumption)
              have q318 : x5_1 < (l0.length : Int) := of_decide_eq_true (by first | (with_reducible assumption) | assumption)
              obtain ⟨ad318, e318, hx318_0⟩ := Kd.at_string HR0.out x5_1 p318 q318
              obtain rfl : ad317 = ad318 := (by injection e318)
              replace p318 := eq_true p318
              replace q318 := eq_true q318
              go_wp2
              repeat (go_quiet (fail); try go_wp2)
              go_roundg k2
              case measure => have := HK1.out; have := HK2.out; omega
              case rel => exact ⟨((x4_1 ++ (⟨#[32]⟩ : ByteArray)) ++ x7_2), (wrap64 (x5_1 + 1)), (by first | rfl | (simp; done) | (simp [*]; done)), (by first | rfl | (simp; done) | (simp [*]; done)), H', ⟨by have := HK1.out; have := HK2.out; omega⟩, by repeat (first | exact Drawn0.refl _ | apply Drawn0.step)⟩
             ·rw [if_neg c64] at H
              exact absurd H (by simp)
            ·rw [if_neg c63] at H
             exact absurd H (by simp)
           ·rw [if_neg c62] at H
            have c62b0 : decide (0 < x5_1) = false := decide_eq_false c62
            clear c62
            by_cases c65 : x4_1.size + x7_2.size ≤ 9223372036854775807
            ·rw [if_pos c65] at H
             have c65b0 := eq_true c65
             have c65b1 : decide (x4_1.size + x7_2.size ≤ 9223372036854775807) = true := decide_eq_true c65
             try have c65b2 : (9223372036854775807 < x4_1.size + x7_2.size) = False := eq_false (Nat.not_lt.2 c65)
             have H' := Aside0.mk H
             clear H
             have p318 : 0 ≤ (x5_1 : Int) := of_decide_eq_true (by first | (with_reducible assumption) | assumption)
             have q318 : x5_1 < (l0.length : Int) := of_decide_eq_true (by first | (with_reducible assumption) | assumption)
             obtain ⟨ad318, e318, hx318_0⟩ := Kd.at_string HR0.out x5_1 p318 q318
             obtain rfl : ad317 = ad318 := (by injection e318)
             replace p318 := eq_true p318
             replace q318 := eq_true q318
             go_wp2
             repeat (go_quiet (fail); try go_wp2)
             go_roundg k2
             case measure => have := HK1.out; have := HK2.out; omega
             case rel => exact ⟨(x4_1 ++ x7_2), (wrap64 (x5_1 + 1)), (by first | rfl | (simp; done) | (simp [*]; done)), (by first | rfl | (simp; done) | (simp [*]; done)), H', ⟨by have := HK1.out; have := HK2.out; omega⟩, by repeat (first | exact Drawn0.refl _ | apply Drawn0.step)⟩
            ·rw [if_neg c65] at H
             exact absurd H (by simp)
          ·replace c61 := Bool.eq_false_iff.mpr c61
           subst c61
           rw [if_neg (show ¬ (false = true) by decide)] at H
           by_cases c66 : 1 + x7_2.size ≤ 9223372036854775807
           ·rw [if_pos c66] at H
            have c66b0 := eq_true c66
            have c66b1 : decide (1 + x7_2.size ≤ 9223372036854775807) = true := decide_eq_true c66
            try have c66b2 : (9223372036854775807 < 1 + x7_2.size) = False := eq_false (Nat.not_lt.2 c66)
            by_cases c67 : ((⟨#[34]⟩ : ByteArray) ++ x7_2).size + 1 ≤ 9223372036854775807
            ·rw [if_pos c67] at H
             have c67b0 := eq_true c67
             have c67s := c67
             simp only [ByteArray.size_append, lit0_, lit1_, lit2_, lit3_, lit4_] at c67s
             have c67s0 := eq_true c67s
             have c67s1 := decide_eq_true c67s
             have c67s2 := eq_false (Nat.not_lt.2 c67s)
             have c67b1 : decide (((⟨#[34]⟩ : ByteArray) ++ x7_2).size + 1 ≤ 9223372036854775807) = true := decide_eq_true c67
             try have c67b2 : (9223372036854775807 < ((⟨#[34]⟩ : ByteArray) ++ x7_2).size + 1) = False := eq_false (Nat.not_lt.2 c67)
             by_cases c68 : x5_1 > 0
             ·rw [if_pos c68] at H
              have c68b0 : decide (0 < x5_1) = true := decide_eq_true c68
              clear c68
              by_cases c69 : x4_1.size + 1 ≤ 9223372036854775807
              ·rw [if_pos c69] at H
               have c69b0 := eq_true c69
               have c69b1 : decide (x4_1.size + 1 ≤ 9223372036854775807) = true := decide_eq_true c69
               try have c69b2 : (9223372036854775807 < x4_1.size + 1) = False := eq_false (Nat.not_lt.2 c69)
               by_cases c70 : (x4_1 ++ (⟨#[32]⟩ : ByteArray)).size + (((⟨#[34]⟩ : ByteArray) ++ x7_2) ++ (⟨#[34]⟩ : ByteArray)).size ≤ 9223372036854775807
               ·rw [if_pos c70] at H
                have c70b0 := eq_true c70
                have c70s := c70
                simp only [ByteArray.size_append, lit0_, lit1_, lit2_, lit3_, lit4_] at c70s
                have c70s0 := eq_true c70s
                have c70s1 := decide_eq_true c70s
                have c70s2 := eq_false (Nat.not_lt.2 c70s)
                have c70b1 : decide ((x4_1 ++ (⟨#[32]⟩ : ByteArray)).size + (((⟨#[34]⟩ : ByteArray) ++ x7_2) ++ (⟨#[34]⟩ : ByteArray)).size ≤ 9223372036854775807) = true := decide_eq_true c70
                try have c70b2 : (9223372036854775807 < (x4_1 ++ (⟨#[32]⟩ : ByteArray)).size + (((⟨#[34]⟩ : ByteArray) ++ x7_2) ++ (⟨#[34]⟩ : ByteArray)).size) = False := eq_false (Nat.not_lt.2 c70)
                have H' := Aside0.mk H
                clear H
                have p318 : 0 ≤ (x5_1 : Int) := of_decide_eq_true (by first | (with_reducible assumption) | assumption)
                have q318 : x5_1 < (l0.length : Int) := of_decide_eq_true (by first | (with_reducible assumption) | assumption)
                obtain ⟨ad318, e318, hx318_0⟩ := Kd.at_string HR0.out x5_1 p318 q318
                obtain rfl : ad317 = ad318 := (by injection e318)
                replace p318 := eq_true p318
                replace q318 := eq_true q318
                go_wp2
                repeat (go_quiet (fail); try go_wp2)
                go_roundg k2
                case measure => have := HK1.out; have := HK2.out; omega
                case rel => exact ⟨((x4_1 ++ (⟨#[32]⟩ : ByteArray)) ++ (((⟨#[34]⟩ : ByteArray) ++ x7_2) ++ (⟨#[34]⟩ : ByteArray))), (wrap64 (x5_1 + 1)), (by first | rfl | (simp; done) | (simp [*]; done)), (by first | rfl | (simp; done) | (simp [*]; done)), H', ⟨by have := HK1.out; have := HK2.out; omega⟩, by repeat (first | exact Drawn0.refl _ | apply Drawn0.step)⟩
               ·rw [if_neg c70] at H
                exact absurd H (by simp)
              ·rw [if_neg c69] at H
               exact absurd H (by simp)
             ·rw [if_neg c68] at H
              have c68b0 : decide (0 < x5_1) = false := decide_eq_false c68
              clear c68
              by_cases c71 : x4_1.size + (((⟨#[34]⟩ : ByteArray) ++ x7_2) ++ (⟨#[34]⟩ : ByteArray)).size ≤ 9223372036854775807
              ·rw [if_pos c71] at H
               have c71b0 := eq_true c71
               have c71s := c71
               simp only [ByteArray.size_append, lit0_, lit1_, lit2_, lit3_, lit4_] at c71s
               have c71s0 := eq_true c71s
               have c71s1 := decide_eq_true c71s
               have c71s2 := eq_false (Nat.not_lt.2 c71s)
               have c71b1 : decide (x4_1.size + (((⟨#[34]⟩ : ByteArray) ++ x7_2) ++ (⟨#[34]⟩ : ByteArray)).size ≤ 9223372036854775807) = true := decide_eq_true c71
               try have c71b2 : (9223372036854775807 < x4_1.size + (((⟨#[34]⟩ : ByteArray) ++ x7_2) ++ (⟨#[34]⟩ : ByteArray)).size) = False := eq_false (Nat.not_lt.2 c71)
               have H' := Aside0.mk H
               clear H
               have p318 : 0 ≤ (x5_1 : Int) := of_decide_eq_true (by first | (with_reducible assumption) | assumption)
               have q318 : x5_1 < (l0.length : Int) := of_decide_eq_true (by first | (with_reducible assumption) | assumption)
               obtain ⟨ad318, e318, hx318_0⟩ := Kd.at_string HR0.out x5_1 p318 q318
               obtain rfl : ad317 = ad318 := (by injection e318)
               replace p318 := eq_true p318
               replace q318 := eq_true q318
               go_wp2
               repeat (go_quiet (fail); try go_wp2)
               go_roundg k2
               case measure => have := HK1.out; have := HK2.out; omega
               case rel => exact ⟨(x4_1 ++ (((⟨#[34]⟩ : ByteArray) ++ x7_2) ++ (⟨#[34]⟩ : ByteArray))), (wrap64 (x5_1 + 1)), (by first | rfl | (simp; done) | (simp [*]; done)), (by first | rfl | (simp; done) | (simp [*]; done)), H', ⟨by have := HK1.out; have := HK2.out; omega⟩, by repeat (first | exact Drawn0.refl _ | apply Drawn0.step)⟩
              ·rw [if_neg c71] at H
               exact absurd H (by simp)
            ·rw [if_neg c67] at H
             exact absurd H (by simp)
           ·rw [if_neg c66] at H
            exact absurd H (by simp)
        ·rw [if_neg c5] at H
         exact absurd H (by simp)
       ·rw [if_neg c4] at H
        exact absurd H (by simp)
    ·rw [if_neg c3] at H
     exact absurd H (by simp)
   ·rw [if_neg c2] at H
    have c2b0 : decide (x5_1 < (l0.length : Int)) = false := decide_eq_false c2
    clear c2
    obtain rfl := Option.some.inj H
    go_wp2
    repeat (go_quiet (fail); try go_wp2)
    go_ret
    exact ⟨by first | rfl | (simp; done) | (simp [*]; done), by repeat (first | exact Drawn0.refl _ | apply Drawn0.step)⟩

end Go.Proofs.Ytehnogggokfcaaa.X
