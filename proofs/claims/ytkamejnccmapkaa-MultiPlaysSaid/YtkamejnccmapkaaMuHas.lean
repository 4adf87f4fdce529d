/- Whether a row has a text: both answers; how many bytes a call counts, told as a quiet call. -/
import Derived.Test.YtkamejnccmapkaaMuQueue2
import Derived.Test.YtkamejnccmapkaaX2
import Derived.Test.YtkamejnccmapkaaX17
import Derived.Test.YtkamejnccmapkaaY
import Derived.IntWalk
namespace Go.Proofs.Ytkamejnccmapkaa.Mu
open Go.RowKit Go.Proofs.YtkamejnccmapkaaW.PrintWords Go.Proofs.YtkamejnccmapkaaW.PrintMore Go.Proofs.YtkamejnccmapkaaW.PrintLast Go.Proofs.Ytkamejnccmapkaa.X
set_option linter.unusedVariables false
set_option linter.unusedSimpArgs false
theorem bytes_eq {a b : ByteArray} : a.toList = b.toList ↔ a = b := ⟨fun h => Y.ba_eq h, fun h => by rw [h]⟩
/-- Whether a row has a text. -/
def hasB (l : List ByteArray) (s : ByteArray) : Bool := l.any fun x => decide (x.data = s.data)
theorem data_eq {a b : ByteArray} : a.data = b.data ↔ a = b := ⟨fun h => ByteArray.ext h, fun h => by rw [h]⟩
theorem hasB_cons (x : ByteArray) (l : List ByteArray) (s : ByteArray) : hasB (x :: l) s = (decide (x.data = s.data) || hasB l s) := rfl
theorem hasB_hit {x : ByteArray} (l : List ByteArray) {s : ByteArray} (h : x = s) : hasB (x :: l) s = true := by rw [hasB_cons, decide_eq_true (data_eq.2 h), Bool.true_or]
theorem hasB_miss {x : ByteArray} (l : List ByteArray) {s : ByteArray} (h : ¬ x = s) : hasB (x :: l) s = hasB l s := by rw [hasB_cons, decide_eq_false (fun e => h (data_eq.1 e)), Bool.false_or]
theorem hasB_iff (l : List ByteArray) (s : ByteArray) : hasB l s = true ↔ s ∈ l := by
  induction l with
  | nil => simp [hasB]
  | cons x xs ih =>
    by_cases h : x = s
    · rw [hasB_hit xs h]; simp [h]
    · rw [hasB_miss xs h, ih]; simp [show ¬ s = x from fun e => h e.symm]
theorem rd_at (l : List ByteArray) (i : Nat) (h : i < l.length) : rdOf ByteArray.empty l (i : Int) = l[i] := by
  unfold rdOf
  rw [List.getD_eq_getElem?_getD, show ((i : Int)).toNat = i from rfl, List.getElem?_eq_getElem h]
  rfl
theorem index_run (l : List ByteArray) (s : ByteArray) (hl : l.length ≤ 1000000000) : ∀ (m i : Nat), i + m = l.length → ∃ r, slices_Index_string_string.l0 (m + 1) l s (l.length : Int) (i : Int) = some r ∧ (decide (r ≥ 0)) = hasB (l.drop i) s
  | 0, i, h => by
    refine ⟨-1, ?_, ?_⟩
    · unfold slices_Index_string_string.l0
      rw [if_neg (by omega)]
    · rw [List.drop_eq_nil_of_le (by omega)]
      rfl
  | m + 1, i, h => by
    have hi : i < l.length := by omega
    have hd : l.drop i = l[i] :: l.drop (i + 1) := List.drop_eq_getElem_cons hi
    unfold slices_Index_string_string.l0
    rw [if_pos (by omega), if_pos (by omega), if_pos (by omega), rd_at l i hi]
    by_cases e : s = l[i]
    · rw [if_pos (bytes_eq.2 e)]
      refine ⟨_, rfl, ?_⟩
      rw [hd, decide_eq_true (show ((i : Int)) ≥ 0 by omega), hasB_hit _ e.symm]
    · rw [if_neg (fun h => e (bytes_eq.1 h)), IntWalk.wrap64_in _ (by omega)]
      obtain ⟨r, h1, h2⟩ := index_run l s hl m (i + 1) (by omega)
      refine ⟨r, h1, h2.trans ?_⟩
      rw [hd, hasB_miss _ (fun h => e h.symm)]
theorem contains_calls (v : Value) (l : List ByteArray) (s : ByteArray) (w : World) (h : Rd w v l) (hl : l.length ≤ 1000000000) :
    Calls Try.prog 29 #[v, .string s] w fun e w' => e = .returned (.bool (hasB l s)) ∧ Drawn0 w w' := by
  obtain ⟨A, c, rfl, hc, hr⟩ := h
  refine slices_Contains_string_string.calls (l.length + 1) A c l s _ w (C_of_readsOf hr) hc ?_
  obtain ⟨r, h1, h2⟩ := index_run l s hl l.length 0 (by omega)
  unfold slices_Contains_string_string.f slices_Index_string_string.f
  rw [show ((0 : Nat) : Int) = 0 from rfl] at h1
  rw [h1, Option.bind_some, h2, List.drop_zero]
theorem has_run (l : List ByteArray) (s : ByteArray) (hl : l.length ≤ 1000000000) : ∀ (m i : Nat), i + m = l.length → mewsref12_Has.l0 (m + 1) l s (i : Int) = some (hasB (l.drop i) s)
  | 0, i, h => by
    unfold mewsref12_Has.l0
    rw [if_neg (by omega), List.drop_eq_nil_of_le (by omega)]
    rfl
  | m + 1, i, h => by
    have hi : i < l.length := by omega
    have hd : l.drop i = l[i] :: l.drop (i + 1) := List.drop_eq_getElem_cons hi
    unfold mewsref12_Has.l0
    rw [if_pos (by omega), if_pos (by omega), rd_at l i hi]
    by_cases e : l[i] = s
    · rw [if_pos (bytes_eq.2 e), hd, hasB_hit _ e]
    · rw [if_neg (fun h => e (bytes_eq.1 h)), IntWalk.wrap64_in _ (by omega)]
      refine (has_run l s hl m (i + 1) (by omega)).trans ?_
      rw [hd, hasB_miss _ e]
theorem rhas_calls (v : Value) (l : List ByteArray) (s : ByteArray) (w : World) (h : Rd w v l) (hl : l.length ≤ 1000000000) :
    Calls Try.prog 36 #[v, .string s] w fun e w' => e = .returned (.bool (hasB l s)) ∧ Drawn0 w w' := by
  obtain ⟨A, c, rfl, hc, hr⟩ := h
  refine mewsref12_Has.calls (l.length + 1) A c l s _ w (C_of_readsOf hr) hc ?_
  have h1 := has_run l s hl l.length 0 (by omega)
  unfold mewsref12_Has.f
  rw [List.drop_zero] at h1
  exact h1
theorem bytes_run (l : List ByteArray) (hs : csize l ≤ 4611686018427387904) : ∀ (m i : Nat), i + m = l.length → mewsref37_Bytes.l0 (m + 1) l ((l.length - i + csize (l.take i) : Nat) : Int) (i : Int) = some ((csize l : Nat) : Int)
  | 0, i, h => by
    unfold mewsref37_Bytes.l0
    rw [if_neg (by omega), List.take_of_length_le (by omega)]
    congr 2
    omega
  | m + 1, i, h => by
    have hi : i < l.length := by omega
    have hlc := csize_len l
    have htk : l.take (i + 1) = l.take i ++ [l[i]] := by
      rw [List.take_add_one, List.getElem?_eq_getElem hi]
      rfl
    have hs1 := csize_append (l.take i) [l[i]]
    rw [← htk] at hs1
    have hs2 := csize_append (l.take (i + 1)) (l.drop (i + 1))
    rw [List.take_append_drop] at hs2
    have hs3 : csize [l[i]] = 1 + l[i].size := rfl
    unfold mewsref37_Bytes.l0
    rw [if_pos (by omega), if_pos (by omega), rd_at l i hi]
    rw [IntWalk.wrap64_in _ (by omega), IntWalk.wrap64_in _ (by omega)]
    have ih := bytes_run l hs m (i + 1) (by omega)
    rw [show (((l.length - i + csize (l.take i) : Nat) : Int) + (l[i].size : Int)) = ((l.length - (i + 1) + csize (l.take (i + 1)) : Nat) : Int) by omega]
    exact ih
theorem bytes_calls0 (v : Value) (l : List ByteArray) (w : World) (h : Rd w v l) (hs : csize l ≤ 1000000000) :
    Calls Try.prog 6 #[v] w fun e w' => e = .returned (.int .i64 (csize l : Nat)) ∧ Drawn0 w w' := by
  obtain ⟨A, c, rfl, hc, hr⟩ := h
  refine mewsref37_Bytes.calls (l.length + 1) A c l _ w (C_of_readsOf hr) hc ?_
  have h1 := bytes_run l (by omega) l.length 0 (by omega)
  unfold mewsref37_Bytes.f
  simpa [csize] using h1
end Go.Proofs.Ytkamejnccmapkaa.Mu
