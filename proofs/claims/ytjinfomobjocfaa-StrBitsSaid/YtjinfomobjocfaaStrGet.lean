/- What the functions of str come to, as lists of bytes. No memory. -/
import Derived.Test.YtjinfomobjocfaaYNumRef
import Derived.Test.YtjinfomobjocfaaX
import Derived.Test.YtjinfomobjocfaaStr
namespace Go.Proofs.Ytjinfomobjocfaa.St
open Go.RowKit Go.Proofs.YtjinfomobjocfaaW.PrintWords Go.Proofs.YtjinfomobjocfaaW.PrintMore Go.Proofs.Ytjinfomobjocfaa.Y Go.Proofs.Ytjinfomobjocfaa.X
set_option linter.unusedVariables false
set_option linter.unusedSimpArgs false

def ints (l : List UInt8) : List Int := l.map fun c => (c.toNat : Int)
theorem strOf_ints (l : List UInt8) : strOfNums (ints l) = ⟨l.toArray⟩ := by
  apply ba_ext
  rw [strOf_data]
  simp [ints, Function.comp_def]
theorem ints_snoc (l : List UInt8) (c : UInt8) : ints l ++ [(c.toNat : Int)] = ints (l ++ [c]) := by simp [ints]
theorem ints_length (l : List UInt8) : (ints l).length = l.length := by simp [ints]
/-! What stands from one place to another one -/
def loI (n : Nat) (a : Int) : Nat := (if a < 0 then a + n else a).toNat
def hiI (n : Nat) (b : Int) : Nat := min ((if b < 0 then b + n else b) + 1).toNat n
def getL (l : List UInt8) (a b : Int) : List UInt8 := (l.take (hiI l.length b)).drop (loI l.length a)
theorem get_tail (s : ByteArray) (hs : s.size ≤ 1000000000) (lo : Nat) (H : Int) (h0 : -1000000001 ≤ H) (hH : H + 1 ≤ s.size) :
    Ev (fun _ => if (lo : Int) > H then some (⟨#[]⟩ : ByteArray) else if 0 ≤ (lo : Int) then (if (lo : Int) ≤ wrap64 (H + 1) then (if wrap64 (H + 1) ≤ (s.size : Int) then some (s.extract ((lo : Int)).toNat ((wrap64 (H + 1) : Int)).toNat) else none) else none) else none)
      ⟨((s.data.toList.take (H + 1).toNat).drop lo).toArray⟩ := by
  have hn := ba_size s
  refine ev_ite (fun h => ev_some ?_) (fun h => ?_)
  · rw [List.drop_eq_nil_iff.2 (by rw [List.length_take]; omega)]
  · rw [w64 (by omega) (by omega)]
    refine ev_pos (by omega) (ev_pos (by omega) (ev_pos (by omega) (ev_some ?_)))
    apply ba_ext
    rw [ba_extract]
    simp only [Int.toNat_natCast]
    rw [List.drop_take]
theorem get_j0 (s : ByteArray) (hs : s.size ≤ 1000000000) (lo : Nat) (b : Int) (hb : -9223372036854775808 ≤ b ∧ b ≤ 9223372036854775807) :
    Ev (fun k => str_Get.j0 k s (lo : Int) b (s.size : Int)) ⟨((s.data.toList.take (hiI s.data.toList.length b)).drop lo).toArray⟩ := by
  have hn := ba_size s
  refine ev_round ?_
  simp only [str_Get.j0]
  have e1 : wrap64 ((s.size : Int) - 1) = (s.size : Int) - 1 := w64 (by omega) (by omega)
  have fin : ∀ H : Int, -1000000001 ≤ H → H + 1 ≤ s.size → s.data.toList.take (H + 1).toNat = s.data.toList.take (hiI s.data.toList.length b) → Ev (fun _ => if (lo : Int) > H then some (⟨#[]⟩ : ByteArray) else if 0 ≤ (lo : Int) then (if (lo : Int) ≤ wrap64 (H + 1) then (if wrap64 (H + 1) ≤ (s.size : Int) then some (s.extract ((lo : Int)).toNat ((wrap64 (H + 1) : Int)).toNat) else none) else none) else none)
      ⟨((s.data.toList.take (hiI s.data.toList.length b)).drop lo).toArray⟩ := by
    intro H h1 h2 h3
    have := get_tail s hs lo H h1 h2
    rw [h3] at this
    exact this
  rw [e1]
  by_cases hb0 : b < 0
  · refine ev_pos hb0 ?_
    by_cases hlow : b + (s.size : Int) < -1000000000
    · -- far ahead of the beginning
      have e2 : wrap64 (b + (s.size : Int)) = b + (s.size : Int) := w64 (by omega) (by omega)
      rw [e2]
      have e3 : mn (b + (s.size : Int)) ((s.size : Int) - 1) = b + (s.size : Int) := by unfold mn; split <;> omega
      rw [e3]
      refine ev_pos (by omega) (ev_some ?_)
      have : hiI s.data.toList.length b = 0 := by unfold hiI; rw [if_pos hb0, ← hn]; omega
      rw [this]
      simp
    · have e2 : wrap64 (b + (s.size : Int)) = b + (s.size : Int) := w64 (by omega) (by omega)
      rw [e2]
      obtain ⟨H, hH⟩ : ∃ H, H = mn (b + (s.size : Int)) ((s.size : Int) - 1) := ⟨_, rfl⟩
      rw [← hH]
      have hv : H = min (b + (s.size : Int)) ((s.size : Int) - 1) := by rw [hH]; unfold mn; split <;> omega
      refine fin H (by omega) (by omega) ?_
      congr 1
      unfold hiI
      rw [if_pos hb0, ← hn]
      omega
  · refine ev_neg hb0 ?_
    obtain ⟨H, hH⟩ : ∃ H, H = mn b ((s.size : Int) - 1) := ⟨_, rfl⟩
    rw [← hH]
    have hv : H = min b ((s.size : Int) - 1) := by rw [hH]; unfold mn; split <;> omega
    refine fin H (by omega) (by omega) ?_
    congr 1
    unfold hiI
    rw [if_neg hb0, ← hn]
    omega
theorem get_ev (s : ByteArray) (hs : s.size ≤ 1000000000) (a b : Int) (ha : -9223372036854775808 ≤ a ∧ a ≤ 9223372036854775807) (hb : -9223372036854775808 ≤ b ∧ b ≤ 9223372036854775807) :
    Ev (fun k => str_Get.f k s a b) ⟨(getL s.data.toList a b).toArray⟩ := by
  unfold str_Get.f getL
  have hn := ba_size s
  by_cases h : a < 0
  · refine ev_pos h ?_
    have e : mx (wrap64 (a + (s.size : Int))) 0 = ((loI s.data.toList.length a : Nat) : Int) := by
      rw [w64 (by omega) (by omega)]
      unfold mx loI
      rw [if_pos h, ← hn]
      split <;> omega
    rw [e]
    exact get_j0 s hs _ b hb
  · refine ev_neg h ?_
    have e : a = ((loI s.data.toList.length a : Nat) : Int) := by
      unfold loI
      rw [if_neg h]
      omega
    rw [show str_Get.j0 = str_Get.j0 from rfl]
    have := get_j0 s hs (loI s.data.toList.length a) b hb
    rw [← e] at this
    exact this
theorem take_drop_step (l : List UInt8) (lo hi i : Nat) (h : i < l.length) : (l.take (min (i + 1) hi)).drop lo = (l.take (min i hi)).drop lo ++ (if lo ≤ i ∧ i < hi then [l[i]] else []) := by
  by_cases h1 : i < hi
  · rw [Nat.min_eq_left (by omega), Nat.min_eq_left (by omega), List.take_succ_eq_append_getElem h]
    by_cases h2 : lo ≤ i
    · rw [if_pos ⟨h2, h1⟩, List.drop_append_of_le_length (by rw [List.length_take]; omega)]
    · rw [if_neg (fun hh => h2 hh.1), List.drop_eq_nil_iff.2 (by simp; omega), List.drop_eq_nil_iff.2 (by simp; omega)]
      rfl
  · rw [Nat.min_eq_right (by omega), Nat.min_eq_right (by omega), if_neg (fun hh => h1 hh.2), List.append_nil]
theorem ref_get_ev (s : ByteArray) (hs : s.size ≤ 1000000000) (a b : Int) (ha : -9223372036854775808 ≤ a ∧ a ≤ 9223372036854775807) (hb : -9223372036854775808 ≤ b ∧ b ≤ 9223372036854775807) :
    Ev (fun k => mewsref20_Get.f k s a b) ⟨(getL s.data.toList a b).toArray⟩ := by
  unfold mewsref20_Get.f
  have hn := ba_size s
  have step : ∀ i, i ≤ s.size → Ev (fun k => mewsref20_Get.l0 k s a b (ints ((s.data.toList.take (min i (hiI s.data.toList.length b))).drop (loI s.data.toList.length a))) (s.size : Int) (i : Int)) ⟨(getL s.data.toList a b).toArray⟩ := by
    suffices H : ∀ d i, i + d = s.size → Ev (fun k => mewsref20_Get.l0 k s a b (ints ((s.data.toList.take (min i (hiI s.data.toList.length b))).drop (loI s.data.toList.length a))) (s.size : Int) (i : Int)) ⟨(getL s.data.toList a b).toArray⟩ from fun i hi => H (s.size - i) i (by omega)
    intro d
    induction d with
    | zero =>
      intro i hi
      refine ev_round ?_
      simp only [mewsref20_Get.l0]
      refine ev_neg (by omega) (ev_some ?_)
      rw [strOf_ints]
      unfold getL
      rw [Nat.min_eq_right (show hiI s.data.toList.length b ≤ i by unfold hiI; omega)]
    | succ d ih =>
      intro i hi
      have hlt : i < s.size := by omega
      have hltL : i < s.data.toList.length := by omega
      have ih := ih (i + 1) (by omega)
      rw [take_drop_step _ _ _ i hltL] at ih
      have hb8 := bt_nat s i hlt
      have hacc : (ints ((s.data.toList.take (min i (hiI s.data.toList.length b))).drop (loI s.data.toList.length a))).length < 140737488355328 := by
        rw [ints_length, List.length_drop, List.length_take]
        omega
      have e1 : wrap64 ((i : Int) + 1) = ((i + 1 : Nat) : Int) := by rw [w64 (by omega) (by omega)]; omega
      have e2 : wrap64 ((i : Int) - (s.size : Int)) = (i : Int) - (s.size : Int) := w64 (by omega) (by omega)
      obtain ⟨lw, hlw⟩ : ∃ lw : Bool, lw = decide (loI s.data.toList.length a ≤ i) := ⟨_, rfl⟩
      have htake : (loI s.data.toList.length a ≤ i ∧ i < hiI s.data.toList.length b) → Ev (fun k => mewsref20_Get.l0 k s a b (ints ((s.data.toList.take (min i (hiI s.data.toList.length b))).drop (loI s.data.toList.length a)) ++ [bt s (i : Int)]) (s.size : Int) (wrap64 ((i : Int) + 1))) ⟨(getL s.data.toList a b).toArray⟩ := by
        intro h
        rw [if_pos h] at ih
        rw [hb8, ints_snoc, e1]
        exact ih
      have hskip : ¬ (loI s.data.toList.length a ≤ i ∧ i < hiI s.data.toList.length b) → Ev (fun k => mewsref20_Get.l0 k s a b (ints ((s.data.toList.take (min i (hiI s.data.toList.length b))).drop (loI s.data.toList.length a))) (s.size : Int) (wrap64 ((i : Int) + 1))) ⟨(getL s.data.toList a b).toArray⟩ := by
        intro h
        rw [if_neg h, List.append_nil] at ih
        rw [e1]
        exact ih
      have hj : Ev (fun k => mewsref20_Get.j1 k s a b (ints ((s.data.toList.take (min i (hiI s.data.toList.length b))).drop (loI s.data.toList.length a))) (s.size : Int) (i : Int) lw) ⟨(getL s.data.toList a b).toArray⟩ := by
        clear ih
        refine ev_round ?_
        simp only [mewsref20_Get.j1]
        rw [e2]
        have hlwt : lw = true ↔ loI s.data.toList.length a ≤ i := by rw [hlw]; exact decide_eq_true_iff
        by_cases hb0 : b < 0
        · refine ev_pos hb0 (ev_ite (fun h1 => ev_ite (fun h2 => ev_pos (by omega) (ev_pos (by omega) (ev_pos hacc (htake ⟨hlwt.1 h1, ?_⟩)))) (fun h2 => hskip ?_)) (fun h1 => hskip (fun hh => h1 (hlwt.2 hh.1))))
          · unfold hiI; rw [if_pos hb0, ← hn]; omega
          · unfold hiI; rw [if_pos hb0, ← hn]; omega
        · refine ev_neg hb0 (ev_ite (fun h1 => ev_ite (fun h2 => ev_pos (by omega) (ev_pos (by omega) (ev_pos hacc (htake ⟨hlwt.1 h1, ?_⟩)))) (fun h2 => hskip ?_)) (fun h1 => hskip (fun hh => h1 (hlwt.2 hh.1))))
          · unfold hiI; rw [if_neg hb0, ← hn]; omega
          · unfold hiI; rw [if_neg hb0, ← hn]; omega
      refine ev_round ?_
      simp only [mewsref20_Get.l0]
      refine ev_pos (by omega) ?_
      by_cases ha0 : a < 0
      · refine ev_pos ha0 ?_
        have : decide (wrap64 ((i : Int) - (s.size : Int)) ≥ a) = lw := by
          rw [e2, hlw, decide_eq_decide]
          unfold loI
          rw [if_pos ha0, ← hn]
          omega
        rw [this]
        exact hj
      · refine ev_neg ha0 ?_
        have : decide ((i : Int) ≥ a) = lw := by
          rw [hlw, decide_eq_decide]
          unfold loI
          rw [if_neg ha0]
          omega
        rw [this]
        exact hj
  have := step 0 (by omega)
  simpa [ints] using this
end Go.Proofs.Ytjinfomobjocfaa.St
