/- The contracts of list.Move and list.Same, walked by hand. -/
import Derived.Test.YtbficlkjlhigjaaDqSD
import Derived.Test.YtbficlkjlhigjaaListRef
import Derived.Test.YtbficlkjlhigjaaX9
import Derived.LaidEqlPtr
namespace Go.Proofs.Ytbficlkjlhigjaa.Dq
open Go.RowKit Go.Proofs.YtbficlkjlhigjaaW.PrintWords Go.Proofs.YtbficlkjlhigjaaW.PrintMore Go.Proofs.YtbficlkjlhigjaaW.PrintLast Go.Proofs.Ytbficlkjlhigjaa.X Go.Proofs.Ytbficlkjlhigjaa.Y
set_option linter.unusedVariables false
set_option linter.unusedSimpArgs false
attribute [local go_sem ↓] Go.wp_at_zero Go.wp_at_succ
theorem info_TL : ∃ j, Try.prog.info? 51 = some j ∧ j.size ≠ 0 := by
  have h : (Try.prog.info? 51).map (fun i => i.size) = some 3 := by kernel_rfl
  cases e : Try.prog.info? 51 with
  | none => rw [e] at h; cases h
  | some j =>
    rw [e] at h
    injection h with h
    replace h : j.size = 3 := h
    exact ⟨j, rfl, by omega⟩
theorem neq_same (w : World) (a : Addr) : (binOp .neq 25 (.pointer (some a)) (.pointer (some a))).run Try.prog w = .ok (.bool false) w := by
  obtain ⟨j, hj, _⟩ := info_TL
  have h : ∀ d : Nat, (Op.equalIn (d + 1) 25 (.pointer (some a)) (.pointer (some a))).run Try.prog w = .ok true w := fun d => by
    simp [Op.equalIn, run_underlying Try.underlying25, sizeOf, typeInfo, hj, run_sameAddr_same]
  simp only [binOp]
  simp [Op.equal, Op.maxDepth, h 9999]
theorem neq_other (w : World) {a b : Addr} {ca cb : Array Value} {ta tb : TypeId} (hne : a ≠ b) (ha : w.heap[a.block]? = some (.cells ca ta (0, 0))) (hb : w.heap[b.block]? = some (.cells cb tb (0, 0))) :
    (binOp .neq 25 (.pointer (some a)) (.pointer (some b))).run Try.prog w = .ok (.bool true) w := by
  obtain ⟨j, hj, hsz⟩ := info_TL
  have h : ∀ d : Nat, (Op.equalIn (d + 1) 25 (.pointer (some a)) (.pointer (some b))).run Try.prog w = .ok false w := fun d => by
    simp [Op.equalIn, run_underlying Try.underlying25, sizeOf, typeInfo, hj, hsz, run_sameAddr_other w hne ha hb]
  simp only [binOp]
  simp [Op.equal, Op.maxDepth, h 9999]
theorem Dq.blk_ {w : World} {B g : Nat} {row : Option Nat} {l : List ByteArray} (h : Dq Value.string 51 9 w B g row l) : ∃ cs, w.heap[g]? = some (.cells cs 51 (0, 0)) := by
  obtain ⟨v, R, f, e', h⟩ := h
  exact ⟨_, h.blk⟩
def popX (a : Bool) (l : List ByteArray) : ByteArray := if a then l.getD 0 ByteArray.empty else l.getD (l.length - 1) ByteArray.empty
def popR (a : Bool) (l : List ByteArray) : List ByteArray := if a then l.tail else l.dropLast
def pushL (b : Bool) (l : List ByteArray) (x : ByteArray) : List ByteArray := if b then x :: l else l ++ [x]
theorem popR_len (a : Bool) (l : List ByteArray) : (popR a l).length = l.length - 1 := by cases a <;> simp [popR]
theorem pushL_len (b : Bool) (l : List ByteArray) (x : ByteArray) : (pushL b l x).length = l.length + 1 := by cases b <;> simp [pushL]
theorem move_nil (p : Value) (a b : Bool) (W : World) :
    Calls Try.prog 18 #[p, .pointer none, .bool a, .bool b] W fun e W' => e = .returned (.tuple #[.string ByteArray.empty, .bool false]) ∧ W = W' := by
  go_enter Try.func18, Try.ntmps18
  go_wp2
  go_ret2
  exact ⟨rfl, rfl⟩
theorem move_two {w W : World} {B g g' : Nat} {l l' : List ByteArray} (a b : Bool) (h : SD w B g g' l l' W) (hl : l'.length ≤ 1000000) :
    Calls Try.prog 18 #[.pointer (some ⟨g, 0, none⟩), .pointer (some ⟨g', 0, none⟩), .bool a, .bool b] W fun e W' => e = .returned (.tuple #[.string (popX a l), .bool (!l.isEmpty)]) ∧ SD w B g g' (popR a l) (if l.isEmpty then l' else pushL b l' (popX a l)) W' := by
  have hne : g ≠ g' := by obtain ⟨_, _, _, _, h, _⟩ := h; exact h
  have HLEN := Aside0.mk h.symm.st.len
  have HPOP := Aside0.mk (show Calls Try.prog 31 #[.pointer (some ⟨g, 0, none⟩), .bool a] W (fun e W' => e = .returned (.tuple #[.string (popX a l), .bool (!l.isEmpty)]) ∧ SD w B g g' (popR a l) l' W' ∧ KeepT W W') from h.pop a)
  obtain ⟨X, hX⟩ : ∃ X, X = popX a l := ⟨_, rfl⟩
  obtain ⟨E, hE⟩ : ∃ E, E = l.isEmpty := ⟨_, rfl⟩
  rw [← hX, ← hE] at HPOP ⊢
  have HPUSH := Aside0.mk (show ∀ W, SD w B g g' (popR a l) l' W → Calls Try.prog 24 #[.pointer (some ⟨g', 0, none⟩), .bool b, .string X] W (fun e W' => e = .returned (.bool true) ∧ SD w B g g' (popR a l) (pushL b l' X) W') from
    fun W h => (h.symm.push b X (by omega)).mono fun e W' he => ⟨he.1, he.2.1.symm⟩)
  have c1 : decide ((1048576 : Int) ≤ (l'.length : Int)) = false := decide_eq_false (by omega)
  have c2 : decide (1048576 ≤ l'.length) = false := decide_eq_false (by omega)
  have hnq : (binOp .neq 25 (.pointer (some ⟨g, 0, none⟩)) (.pointer (some ⟨g', 0, none⟩))).run Try.prog W = .ok (.bool true) W := by
    obtain ⟨row, row', hd, he, _⟩ := h
    obtain ⟨c1, h1⟩ := hd.blk_
    obtain ⟨c2, h2⟩ := he.blk_
    exact neq_other W (fun e => hne (by injection e)) h1 h2
  clear h hl hX hE
  cases E with
  | true =>
    go_enter Try.func18, Try.ntmps18
    go_wp2_with (first | (go_at_call 17; (with_reducible refine Calls.mono HLEN.out ?_); rintro e w' ⟨rfl, rfl⟩) | (go_at_call 31; (with_reducible refine Calls.mono HPOP.out ?_); rintro e w' ⟨rfl, hs, -⟩; have HS := Aside0.mk hs; clear hs))
    go_ret2
    exact ⟨rfl, HS.out⟩
  | false =>
    go_enter Try.func18, Try.ntmps18
    go_wp2_with (first | (go_at_call 17; (with_reducible refine Calls.mono HLEN.out ?_); rintro e w' ⟨rfl, rfl⟩) | (go_at_call 31; (with_reducible refine Calls.mono HPOP.out ?_); rintro e w' ⟨rfl, hs, -⟩; have HS := Aside0.mk hs; clear hs) | (go_at_call 24; (with_reducible refine Calls.mono (HPUSH.out _ HS.out) ?_); rintro e w' ⟨rfl, hs⟩; have HS2 := Aside0.mk hs; clear hs))
    go_ret2
    exact ⟨rfl, HS2.out⟩
theorem move_same {w W : World} {B g : Nat} {l : List ByteArray} (a b : Bool) (h : St w B g l W) (hl : l.length ≤ 1000000) :
    Calls Try.prog 18 #[.pointer (some ⟨g, 0, none⟩), .pointer (some ⟨g, 0, none⟩), .bool a, .bool b] W fun e W' => e = .returned (.tuple #[.string (popX a l), .bool (!l.isEmpty)]) ∧ St w B g (if l.isEmpty then popR a l else pushL b (popR a l) (popX a l)) W' := by
  have hr := popR_len a l
  have HPOP := Aside0.mk (show Calls Try.prog 31 #[.pointer (some ⟨g, 0, none⟩), .bool a] W (fun e W' => e = .returned (.tuple #[.string (popX a l), .bool (!l.isEmpty)]) ∧ St w B g (popR a l) W' ∧ KeepT W W') from h.pop a)
  obtain ⟨X, hX⟩ : ∃ X, X = popX a l := ⟨_, rfl⟩
  obtain ⟨E, hE⟩ : ∃ E, E = l.isEmpty := ⟨_, rfl⟩
  rw [← hX, ← hE] at HPOP ⊢
  have HPUSH := Aside0.mk (show ∀ W, St w B g (popR a l) W → Calls Try.prog 24 #[.pointer (some ⟨g, 0, none⟩), .bool b, .string X] W (fun e W' => e = .returned (.bool true) ∧ St w B g (pushL b (popR a l) X) W') from
    fun W h => (h.push b X (by omega)).mono fun e W' he => ⟨he.1, he.2.1⟩)
  have hnq := neq_same W ⟨g, 0, none⟩
  clear h hl hX hE hr
  cases E with
  | true =>
    go_enter Try.func18, Try.ntmps18
    go_wp2_with (first | (go_at_call 31; (with_reducible refine Calls.mono HPOP.out ?_); rintro e w' ⟨rfl, hs, -⟩; have HS := Aside0.mk hs; clear hs))
    go_ret2
    exact ⟨rfl, HS.out⟩
  | false =>
    go_enter Try.func18, Try.ntmps18
    go_wp2_with (first | (go_at_call 31; (with_reducible refine Calls.mono HPOP.out ?_); rintro e w' ⟨rfl, hs, -⟩; have HS := Aside0.mk hs; clear hs) | (go_at_call 24; (with_reducible refine Calls.mono (HPUSH.out _ HS.out) ?_); rintro e w' ⟨rfl, hs⟩; have HS2 := Aside0.mk hs; clear hs))
    go_ret2
    exact ⟨rfl, HS2.out⟩
theorem equal_ev (l : List ByteArray) (hl : l.length ≤ 1000000) : Ev (fun q => slices_Equal_string_string.f q l l) true := by
  have key := ev_up (g := fun q k => slices_Equal_string_string.l0 q l l (l.length : Int) (k : Int)) (r := true) l.length ?_ ?_ 0 (Nat.zero_le _)
  · show Ev (fun q => if (l.length : Int) = (l.length : Int) then (slices_Equal_string_string.l0 q l l (l.length : Int) 0) else (some false)) true
    exact ev_pos rfl key
  · refine ev_round ?_
    show Ev (fun q => if (l.length : Int) < (l.length : Int) then _ else some true) _
    exact ev_neg (by omega) (ev_some rfl)
  · intro k hk ih
    have e1 : wrap64 ((k : Int) + 1) = ((k + 1 : Nat) : Int) := by unfold wrap64; omega
    refine ev_round ?_
    show Ev (fun q => if (k : Int) < (l.length : Int) then (if 0 ≤ (k : Int) then (if (k : Int) < (l.length : Int) then (if (k : Int) < (l.length : Int) then (if (rdOf ByteArray.empty l (k : Int)).toList = (rdOf ByteArray.empty l (k : Int)).toList then (slices_Equal_string_string.l0 q l l (l.length : Int) (wrap64 ((k : Int) + 1))) else (some false)) else (none)) else (none)) else (none)) else (some true)) true
    rw [e1]
    exact ev_pos (by omega) (ev_pos (by omega) (ev_pos (by omega) (ev_pos (by omega) (ev_pos rfl ih))))
theorem lsame_calls {w W : World} {B g g' : Nat} {l : List ByteArray} (h : St w B g l W) (h' : St w B g' l W) (hl : l.length ≤ 1000000) :
    Calls Try.prog 23 #[.pointer (some ⟨g, 0, none⟩), .pointer (some ⟨g', 0, none⟩)] W fun e W' => e = .returned (.bool true) ∧ Below W.heap.size W W' := by
  have H := Aside0.mk h
  have H' := Aside0.mk h'
  have HL := Aside0.mk hl
  clear h h' hl
  go_enter Try.func23, Try.ntmps23
  go_wp2_with fail
  go_at_call 14
  with_reducible refine Calls.mono H.out.all ?_
  rintro e w1 ⟨v1, rfl, hr1, hb1, -⟩
  have H1 := Aside0.mk (H'.out.below hb1)
  have HR1 := Aside0.mk hr1
  have HB1 := Aside0.mk hb1
  clear hr1 hb1
  go_wp2_with fail
  go_at_call 14
  with_reducible refine Calls.mono H1.out.all ?_
  rintro e w2 ⟨v2, rfl, hr2, hb2, -⟩
  have HR2 := Aside0.mk hr2
  have HR12 := Aside0.mk (HR1.out.below hb2)
  have HB2 := Aside0.mk (HB1.out.trans (hb2.mono HB1.out.size))
  clear hr2 hb2
  go_wp2_with fail
  go_at_call 34
  have hn : Calls Try.prog 34 #[v1, v2] w2 (fun e w' => e = .returned (.bool true) ∧ Drawn0 w2 w') := by
    obtain ⟨A, c, rfl, hc, hr⟩ := HR12.out
    obtain ⟨A', c', rfl, hc', hr'⟩ := HR2.out
    obtain ⟨K, hK⟩ := equal_ev l HL.out
    exact slices_Equal_string_string.calls K A c l A' c' l true w2 (C_of_readsOf hr) hc (C_of_readsOf hr') hc' (hK K (Nat.le_refl _))
  with_reducible refine Calls.mono hn ?_
  clear hn
  rintro e w3 ⟨rfl, hd⟩
  have HB3 := Aside0.mk (HB2.out.trans (hd.below.mono HB2.out.size))
  clear hd
  go_wp2
  go_ret
  exact ⟨rfl, HB3.out⟩
end Go.Proofs.Ytbficlkjlhigjaa.Dq
