/- Transactions as states: one contract an operation, of the code and of the document alike. -/
import Derived.Test.YtkamejnccmapkaaLaw37a
import Derived.Test.YtkamejnccmapkaaMuQueue3
import Derived.Test.YtkamejnccmapkaaMuRMark
namespace Go.Proofs.Ytkamejnccmapkaa.Mu
open Go.RowKit Go.Proofs.YtkamejnccmapkaaW.PrintWords Go.Proofs.YtkamejnccmapkaaW.PrintMore Go.Proofs.YtkamejnccmapkaaW.PrintLast Go.Proofs.Ytkamejnccmapkaa.X Go.Proofs.Ytkamejnccmapkaa.Y
set_option linter.unusedVariables false
set_option linter.unusedSimpArgs false
theorem own1_no {n c k : Nat} (h : own1 (.slice none n c) k) : False := by simp [own1, Value.ownBlock] at h
theorem ownL_no {k : Nat} (h : ownL [] k) : False := by obtain ⟨x, hx, _⟩ := h; cases hx
structure TxS where
  o : Bool
  b : Bool
  d : Bool
  ls : List (List ByteArray)
  wl : List ByteArray
def zeroS : TxS := ⟨false, false, false, [], []⟩
def okT : ByteArray := ⟨#[79, 75]⟩
def queuedT : ByteArray := ⟨#[81, 85, 69, 85, 69, 68]⟩
def beginS (t : TxS) : TxS × Int × ByteArray := if t.o then (⟨t.o, true, t.d, t.ls, t.wl⟩, 2, nestedT) else (⟨true, t.b, t.d, t.ls, t.wl⟩, 1, okT)
def queueS (t : TxS) (c : List ByteArray) : TxS × Int × ByteArray := if t.o = false then (t, 2, noMultiT) else if t.ls.length < 100 ∧ (csize c : Int) ≤ 65536 - (tot t.ls : Nat) then (⟨t.o, t.b, t.d, t.ls ++ [c], t.wl⟩, 1, queuedT) else (⟨t.o, true, t.d, t.ls, t.wl⟩, 2, tooLargeT)
def spoilS (t : TxS) : TxS := ⟨t.o, t.b || t.o, t.d, t.ls, t.wl⟩
def discardS (t : TxS) : TxS × Int × ByteArray := if t.o then (zeroS, 1, okT) else (t, 2, noDiscardT)
def watchS (t : TxS) (ks : List ByteArray) : TxS × Int × ByteArray := if t.o then (⟨t.o, true, t.d, t.ls, t.wl⟩, 2, watchT) else (⟨t.o, t.b, t.d, t.ls, watchF t.wl ks⟩, 1, okT)
def unwatchS (t : TxS) : TxS := ⟨t.o, t.b, false, t.ls, []⟩
def markS (t : TxS) (ks : List ByteArray) : TxS := ⟨t.o, t.b, t.d || meetB t.wl ks, t.ls, t.wl⟩
def execS (t : TxS) : TxS × List (List ByteArray) × Int × ByteArray × Bool := if t.o = false then (t, [], 2, noMultiT, false) else if t.b then (zeroS, [], 2, abortT, false) else if t.d then (zeroS, [], 7, (⟨#[]⟩ : ByteArray), false) else (zeroS, t.ls, 0, (⟨#[]⟩ : ByteArray), true)
/-- What holds of a transaction throughout. -/
abbrev InvS (t : TxS) (N : Nat) : Prop := t.ls.length ≤ 100 ∧ tot t.ls ≤ 65536 ∧ t.wl.length ≤ N
theorem InvS.mono {t : TxS} {N M : Nat} (h : InvS t N) (hm : N ≤ M) : InvS t M := ⟨h.1, h.2.1, Nat.le_trans h.2.2 hm⟩
theorem inv_zero (N : Nat) : InvS zeroS N := ⟨Nat.zero_le _, Nat.zero_le _, Nat.zero_le _⟩
theorem inv_begin {t t' : TxS} {N : Nat} {rk : Int} {rs : ByteArray} (h : InvS t N) (e : beginS t = (t', rk, rs)) : InvS t' N := by
  unfold beginS at e
  split at e
  all_goals
    injection e with e _
    subst e
    exact h
theorem inv_queue {t t' : TxS} {N : Nat} {rk : Int} {rs : ByteArray} {c : List ByteArray} (h : InvS t N) (e : queueS t c = (t', rk, rs)) : InvS t' N := by
  unfold queueS at e
  split at e
  · injection e with e _; subst e; exact h
  · split at e
    · rename_i q
      injection e with e _; subst e
      refine ⟨by show (t.ls ++ [c]).length ≤ 100; rw [List.length_append]; show t.ls.length + 1 ≤ 100; omega, ?_, h.2.2⟩
      show tot (t.ls ++ [c]) ≤ 65536
      rw [tot_append]
      show tot t.ls + (csize c + 0) ≤ 65536
      omega
    · injection e with e _; subst e; exact h
theorem inv_discard {t t' : TxS} {N : Nat} {rk : Int} {rs : ByteArray} (h : InvS t N) (e : discardS t = (t', rk, rs)) : InvS t' N := by
  unfold discardS at e
  split at e
  · injection e with e _; subst e; exact inv_zero N
  · injection e with e _; subst e; exact h
theorem inv_watch {t t' : TxS} {N : Nat} {rk : Int} {rs : ByteArray} {ks : List ByteArray} (h : InvS t N) (e : watchS t ks = (t', rk, rs)) : InvS t' (N + ks.length) := by
  unfold watchS at e
  split at e
  · injection e with e _; subst e; exact h.mono (Nat.le_add_right _ _)
  · injection e with e _; subst e
    have h1 := watchF_len t.wl ks
    have h2 := h.2.2
    exact ⟨h.1, h.2.1, by show (watchF t.wl ks).length ≤ _; omega⟩
theorem inv_exec {t t' : TxS} {N : Nat} {ls' : List (List ByteArray)} {rk : Int} {rs : ByteArray} {ok : Bool} (h : InvS t N) (e : execS t = (t', ls', rk, rs, ok)) : InvS t' N ∧ ls'.length ≤ 100 ∧ tot ls' ≤ 65536 := by
  unfold execS at e
  split at e
  · injection e with e e2; injection e2 with e2 _; subst e; subst e2; exact ⟨h, Nat.zero_le _, Nat.zero_le _⟩
  · split at e
    · injection e with e e2; injection e2 with e2 _; subst e; subst e2; exact ⟨inv_zero N, Nat.zero_le _, Nat.zero_le _⟩
    · split at e
      · injection e with e e2; injection e2 with e2 _; subst e; subst e2; exact ⟨inv_zero N, Nat.zero_le _, Nat.zero_le _⟩
      · injection e with e e2; injection e2 with e2 _; subst e; subst e2; exact ⟨inv_zero N, h.1, h.2.1⟩
/-- The rows of a transaction's value: what they hold, and that none of them lies in one of some blocks. -/
def TxC (W : World) (gs : List Nat) (t : TxS) (qA : Option Addr) (qc : Nat) (wA : Option Addr) (wc : Nat) : Prop :=
  ∃ qs : List SV, Rd2 W (.slice qA t.ls.length qc) qs ∧ Cont W qs t.ls ∧ Rd W (.slice wA t.wl.length wc) t.wl ∧ ∀ k, (own1 (.slice qA t.ls.length qc) k ∨ ownL qs k ∨ own1 (.slice wA t.wl.length wc) k) → k < W.heap.size ∧ k ∉ gs
theorem TxC.below {W W' : World} {gs : List Nat} {t : TxS} {qA : Option Addr} {qc : Nat} {wA : Option Addr} {wc : Nat} (h : TxC W gs t qA qc wA wc) (hb : Below W.heap.size W W') : TxC W' gs t qA qc wA wc := by
  obtain ⟨qs, h1, h2, h3, h4⟩ := h
  exact ⟨qs, h1.below hb, h2.below hb, h3.below hb, fun k hk => ⟨Nat.lt_of_lt_of_le (h4 k hk).1 hb.size, (h4 k hk).2⟩⟩
theorem TxC.set {W W' : World} {gs : List Nat} {t : TxS} {qA : Option Addr} {qc : Nat} {wA : Option Addr} {wc : Nat} {g : Nat} (h : TxC W gs t qA qc wA wc) (hg : g ∈ gs) (hh : ∀ k, k ≠ g → W'.heap[k]? = W.heap[k]?) (hs : W'.heap.size = W.heap.size) : TxC W' gs t qA qc wA wc := by
  obtain ⟨qs, h1, h2, h3, h4⟩ := h
  have hne : ∀ k, (own1 (.slice qA t.ls.length qc) k ∨ ownL qs k ∨ own1 (.slice wA t.wl.length wc) k) → W'.heap[k]? = W.heap[k]? := fun k hk => hh k fun e => (h4 k hk).2 (e ▸ hg)
  exact ⟨qs, h1.keep1 fun k hk => hne k (.inl hk), h2.keep1 fun k hk => hne k (.inr (.inl hk)), h3.keep1 fun k hk => hne k (.inr (.inr hk)), fun k hk => ⟨by rw [hs]; exact (h4 k hk).1, (h4 k hk).2⟩⟩
theorem TxC.add {W : World} {gs : List Nat} {t : TxS} {qA : Option Addr} {qc : Nat} {wA : Option Addr} {wc : Nat} {g : Nat} (h : TxC W gs t qA qc wA wc) (hg : W.heap.size ≤ g) : TxC W (g :: gs) t qA qc wA wc := by
  obtain ⟨qs, h1, h2, h3, h4⟩ := h
  refine ⟨qs, h1, h2, h3, fun k hk => ⟨(h4 k hk).1, fun hm => ?_⟩⟩
  rcases List.mem_cons.1 hm with e | hm
  · have := (h4 k hk).1; omega
  · exact (h4 k hk).2 hm
theorem TxC.less {W : World} {gs gs' : List Nat} {t : TxS} {qA : Option Addr} {qc : Nat} {wA : Option Addr} {wc : Nat} (h : TxC W gs t qA qc wA wc) (hg : ∀ g ∈ gs', g ∈ gs) : TxC W gs' t qA qc wA wc := by
  obtain ⟨qs, h1, h2, h3, h4⟩ := h
  exact ⟨qs, h1, h2, h3, fun k hk => ⟨(h4 k hk).1, fun hm => (h4 k hk).2 (hg k hm)⟩⟩
theorem TxC.zero (W : World) (gs : List Nat) (t : TxS) (h1 : t.ls = []) (h2 : t.wl = []) : TxC W gs t none 0 none 0 := by
  refine ⟨[], by rw [h1]; exact rd_nil2 W, by rw [h1]; trivial, by rw [h2]; exact rd_nil W, fun k hk => ?_⟩
  rcases hk with hk | hk | hk
  · exact (own1_no hk).elim
  · exact (ownL_no hk).elim
  · exact (own1_no hk).elim
/-- The same rows under another state. -/
theorem TxC.of {W : World} {gs : List Nat} {t t' : TxS} {qA : Option Addr} {qc : Nat} {wA : Option Addr} {wc : Nat} (h : TxC W gs t qA qc wA wc) (h1 : t'.ls = t.ls) (h2 : t'.wl = t.wl) : TxC W gs t' qA qc wA wc := by
  unfold TxC
  rw [h1, h2]
  exact h
abbrev TxV (t : TxS) (qA : Option Addr) (qc : Nat) (wA : Option Addr) (wc : Nat) : Value := .agg #[.bool t.o, .bool t.b, .bool t.d, .slice qA t.ls.length qc, .int .i64 ((tot t.ls : Nat) : Int), .slice wA t.wl.length wc]
abbrev RpV (rk : Int) (rs : ByteArray) : Value := .agg #[.int .i64 rk, .int .i64 0, .string rs, .slice none 0 0]
section
variable {W : World} {gs : List Nat} {t t' : TxS} {qA : Option Addr} {qc : Nat} {wA : Option Addr} {wc : Nat} {rk : Int} {rs : ByteArray}
/-- What a call of an operation comes to. -/
abbrev OpC (f : FuncId) (args : Array Value) (W : World) (gs : List Nat) (t' : TxS) (rk : Int) (rs : ByteArray) : Prop :=
  Calls Try.prog f args W fun e w' => ∃ qA qc wA wc, e = .returned (.tuple #[.agg #[.bool t'.o, .bool t'.b, .bool t'.d, .slice qA t'.ls.length qc, .int .i64 ((tot t'.ls : Nat) : Int), .slice wA t'.wl.length wc], .agg #[.int .i64 rk, .int .i64 0, .string rs, .slice none 0 0]]) ∧ TxC w' gs t' qA qc wA wc ∧ Below W.heap.size W w'
abbrev Op1 (f : FuncId) (args : Array Value) (W : World) (gs : List Nat) (t' : TxS) : Prop :=
  Calls Try.prog f args W fun e w' => ∃ qA qc wA wc, e = .returned (.agg #[.bool t'.o, .bool t'.b, .bool t'.d, .slice qA t'.ls.length qc, .int .i64 ((tot t'.ls : Nat) : Int), .slice wA t'.wl.length wc]) ∧ TxC w' gs t' qA qc wA wc ∧ Below W.heap.size W w'
theorem begin_T (h : TxC W gs t qA qc wA wc) (e : beginS t = (t', rk, rs)) : OpC 9 #[TxV t qA qc wA wc] W gs t' rk rs := by
  obtain ⟨o, b, d, ls, wl⟩ := t
  refine (begin_calls o b d qA _ qc _ wA _ wc W).mono ?_
  rintro e1 w' ⟨rfl, hb⟩
  unfold beginS at e
  cases o with
  | true =>
    injection e with e e2
    injection e2 with e2 e3
    subst e e2 e3
    exact ⟨qA, qc, wA, wc, by simp, (h.below hb).of rfl rfl, hb⟩
  | false =>
    injection e with e e2
    injection e2 with e2 e3
    subst e e2 e3
    exact ⟨qA, qc, wA, wc, rfl, (h.below hb).of rfl rfl, hb⟩
theorem rbegin_T (h : TxC W gs t qA qc wA wc) (e : beginS t = (t', rk, rs)) : OpC 17 #[TxV t qA qc wA wc] W gs t' rk rs := by
  obtain ⟨o, b, d, ls, wl⟩ := t
  refine (rbegin_calls o b d qA _ qc _ wA _ wc W).mono ?_
  rintro e1 w' ⟨rfl, hb⟩
  unfold beginS at e
  cases o with
  | true =>
    injection e with e e2
    injection e2 with e2 e3
    subst e e2 e3
    exact ⟨qA, qc, wA, wc, by simp, (h.below hb).of rfl rfl, hb⟩
  | false =>
    injection e with e e2
    injection e2 with e2 e3
    subst e e2 e3
    exact ⟨qA, qc, wA, wc, rfl, (h.below hb).of rfl rfl, hb⟩
theorem discard_T (h : TxC W gs t qA qc wA wc) (e : discardS t = (t', rk, rs)) : OpC 19 #[TxV t qA qc wA wc] W gs t' rk rs := by
  obtain ⟨o, b, d, ls, wl⟩ := t
  refine (discard_calls o b d qA _ qc _ wA _ wc W).mono ?_
  rintro e1 w' ⟨rfl, hb⟩
  unfold discardS at e
  cases o with
  | true =>
    injection e with e e2
    injection e2 with e2 e3
    subst e e2 e3
    exact ⟨none, 0, none, 0, rfl, TxC.zero _ _ _ rfl rfl, hb⟩
  | false =>
    injection e with e e2
    injection e2 with e2 e3
    subst e e2 e3
    exact ⟨qA, qc, wA, wc, rfl, h.below hb, hb⟩
theorem rdiscard_T (h : TxC W gs t qA qc wA wc) (e : discardS t = (t', rk, rs)) : OpC 20 #[TxV t qA qc wA wc] W gs t' rk rs := by
  obtain ⟨o, b, d, ls, wl⟩ := t
  refine (rdiscard_calls o b d qA _ qc _ wA _ wc W).mono ?_
  rintro e1 w' ⟨rfl, hb⟩
  unfold discardS at e
  cases o with
  | true =>
    injection e with e e2
    injection e2 with e2 e3
    subst e e2 e3
    exact ⟨none, 0, none, 0, rfl, TxC.zero _ _ _ rfl rfl, hb⟩
  | false =>
    injection e with e e2
    injection e2 with e2 e3
    subst e e2 e3
    exact ⟨qA, qc, wA, wc, rfl, h.below hb, hb⟩
theorem spoil_T (h : TxC W gs t qA qc wA wc) : Op1 11 #[TxV t qA qc wA wc] W gs (spoilS t) := by
  obtain ⟨o, b, d, ls, wl⟩ := t
  refine (spoil_calls o b d qA _ qc _ wA _ wc W).mono ?_
  rintro e1 w' ⟨rfl, hb⟩
  exact ⟨qA, qc, wA, wc, rfl, (h.below hb).of rfl rfl, hb⟩
theorem unwatch_T (h : TxC W gs t qA qc wA wc) : Op1 16 #[TxV t qA qc wA wc] W gs (unwatchS t) := by
  obtain ⟨o, b, d, ls, wl⟩ := t
  refine (unwatch_calls o b d qA _ qc _ wA _ wc W).mono ?_
  rintro e1 w' ⟨rfl, hb⟩
  refine ⟨qA, qc, none, 0, rfl, ?_, hb⟩
  obtain ⟨qs, h1, h2, h3, h4⟩ := h.below hb
  refine ⟨qs, h1, h2, rd_nil _, fun k hk => ?_⟩
  rcases hk with hk | hk | hk
  · exact h4 k (.inl hk)
  · exact h4 k (.inr (.inl hk))
  · exact (own1_no hk).elim
theorem mark_T (h : TxC W gs t qA qc wA wc) {v : Value} {ks : List ByteArray} (hv : Rd W v ks) (hw : t.wl.length ≤ 1000000000) (hk : ks.length ≤ 1000000) : Op1 12 #[TxV t qA qc wA wc, v] W gs (markS t ks) := by
  obtain ⟨o, b, d, ls, wl⟩ := t
  obtain ⟨qs, h1, h2, h3, h4⟩ := id h
  refine (mark_calls o b d qA _ qc _ wA wc wl v ks W h3 hv hw hk).mono ?_
  rintro e1 w' ⟨rfl, hb⟩
  exact ⟨qA, qc, wA, wc, rfl, (h.below hb).of rfl rfl, hb⟩
theorem rmark_T (h : TxC W gs t qA qc wA wc) {v : Value} {ks : List ByteArray} (hv : Rd W v ks) (hw : t.wl.length ≤ 1000000000) (hk : ks.length ≤ 1000000) : Op1 22 #[TxV t qA qc wA wc, v] W gs (markS t ks) := by
  obtain ⟨o, b, d, ls, wl⟩ := t
  obtain ⟨qs, h1, h2, h3, h4⟩ := id h
  refine (rmark_calls o b d qA _ qc _ wA _ wc wl v ks W h3 hv hw hk).mono ?_
  rintro e1 w' ⟨rfl, hb⟩
  exact ⟨qA, qc, wA, wc, rfl, (h.below hb).of rfl rfl, hb⟩
theorem watch_T (h : TxC W gs t qA qc wA wc) (hg : ∀ g ∈ gs, g < W.heap.size) {v : Value} {ks : List ByteArray} (hv : Rd W v ks) (hw : t.wl.length ≤ 1000000) (hk : ks.length ≤ 1000000) (e : watchS t ks = (t', rk, rs)) : OpC 8 #[TxV t qA qc wA wc, v] W gs t' rk rs := by
  obtain ⟨o, b, d, ls, wl⟩ := t
  obtain ⟨qs, h1, h2, h3, h4⟩ := id h
  unfold watchS at e
  cases o with
  | true =>
    injection e with e e2
    injection e2 with e2 e3
    subst e e2 e3
    refine (watch_shut b d qA _ qc _ wA _ wc v W).mono ?_
    rintro e1 w' ⟨rfl, hb⟩
    exact ⟨qA, qc, wA, wc, rfl, (h.below hb).of rfl rfl, hb⟩
  | false =>
    injection e with e e2
    injection e2 with e2 e3
    subst e e2 e3
    refine (watch_good b d qA _ qc _ wA wc wl v ks W h3 hv hw hk).mono ?_
    rintro e1 w' ⟨A', c', rfl, hr, hbd, hb⟩
    refine ⟨qA, qc, A', c', rfl, ⟨qs, h1.below hb, h2.below hb, hr, fun k hk => ?_⟩, hb⟩
    rcases hk with hk | hk | hk
    · exact ⟨Nat.lt_of_lt_of_le (h4 k (.inl hk)).1 hb.size, (h4 k (.inl hk)).2⟩
    · exact ⟨Nat.lt_of_lt_of_le (h4 k (.inr (.inl hk))).1 hb.size, (h4 k (.inr (.inl hk))).2⟩
    · exact ⟨(hbd k hk).2, fun hm => absurd (hg k hm) (Nat.not_lt_of_le (hbd k hk).1)⟩
theorem rd_lt {W : World} {v : Value} {l : List ByteArray} (h : Rd W v l) (hl : 0 < l.length) (k : Nat) (hk : v.ownBlock = some k) : k < W.heap.size := by
  obtain ⟨A, c, rfl, hc, h1, h2, h3⟩ := h
  obtain ⟨ad, rfl, hcell⟩ := h3 hl
  have hb : (ad.add 0).block = ad.block := by unfold Addr.add; split <;> rfl
  have := World.block_lt_of_cell? W (ad.add 0) (hcell 0 hl)
  rw [hb] at this
  have e : ad.block = k := by simpa [Value.ownBlock] using hk
  omega
theorem rwatch_T (h : TxC W gs t qA qc wA wc) (hg : ∀ g ∈ gs, g < W.heap.size) {v : Value} {ks : List ByteArray} (hv : Rd W v ks) (hw : t.wl.length ≤ 1000000) (hk : ks.length ≤ 1000000) (e : watchS t ks = (t', rk, rs)) : OpC 21 #[TxV t qA qc wA wc, v] W gs t' rk rs := by
  obtain ⟨o, b, d, ls, wl⟩ := t
  obtain ⟨qs, h1, h2, h3, h4⟩ := id h
  unfold watchS at e
  cases o with
  | true =>
    injection e with e e2
    injection e2 with e2 e3
    subst e e2 e3
    refine (rwatch_shut b d qA _ qc _ wA _ wc v W).mono ?_
    rintro e1 w' ⟨rfl, hb⟩
    exact ⟨qA, qc, wA, wc, rfl, (h.below hb).of rfl rfl, hb⟩
  | false =>
    injection e with e e2
    injection e2 with e2 e3
    subst e e2 e3
    refine (rwatch_good b d qA _ qc _ wA wc wl v ks W h3 (fun k hk => (h4 k (.inr (.inr hk))).1) hv hw hk).mono ?_
    rintro e1 w' ⟨A', c', rfl, hr, hbd, hb⟩
    refine ⟨qA, qc, A', c', rfl, ⟨qs, h1.below hb, h2.below hb, hr, fun k hk => ?_⟩, hb⟩
    rcases hk with hk | hk | hk
    · exact ⟨Nat.lt_of_lt_of_le (h4 k (.inl hk)).1 hb.size, (h4 k (.inl hk)).2⟩
    · exact ⟨Nat.lt_of_lt_of_le (h4 k (.inr (.inl hk))).1 hb.size, (h4 k (.inr (.inl hk))).2⟩
    · refine ⟨(hbd k hk).1, fun hm => ?_⟩
      rcases (hbd k hk).2 with q | q
      · exact (h4 k (.inr (.inr q))).2 hm
      · exact absurd (hg k hm) (Nat.not_lt_of_le q)
theorem queue_T (h : TxC W gs t qA qc wA wc) (hg : ∀ g ∈ gs, g < W.heap.size) {v : Value} {c : List ByteArray} (hv : Rd W v c) (hi : t.ls.length ≤ 100 ∧ tot t.ls ≤ 65536) (hs : csize c ≤ 1000000) (e : queueS t c = (t', rk, rs)) : OpC 10 #[TxV t qA qc wA wc, v] W gs t' rk rs := by
  obtain ⟨o, b, d, ls, wl⟩ := t
  obtain ⟨qs, h1, h2, h3, h4⟩ := id h
  have hlen := h2.len
  unfold queueS at e
  cases o with
  | false =>
    rw [if_pos rfl] at e
    injection e with e e2
    injection e2 with e2 e3
    subst e e2 e3
    refine (queue_shut b d qA _ qc _ wA _ wc v W).mono ?_
    rintro e1 w' ⟨rfl, hb⟩
    exact ⟨qA, qc, wA, wc, rfl, h.below hb, hb⟩
  | true =>
    rw [if_neg (by simp)] at e
    by_cases q : ls.length < 100 ∧ (csize c : Int) ≤ 65536 - (tot ls : Nat)
    · rw [if_pos q] at e
      injection e with e e2
      injection e2 with e2 e3
      subst e e2 e3
      refine (queue_at b d qA ls.length (ls.length + 1) qc qs hlen rfl (tot ls : Nat) ((tot ls : Nat) + (csize c : Nat)) wA _ wc v c W rfl hv h1 hs ⟨by omega, by have := hi.2; show ((tot ls : Nat) : Int) ≤ 65536; simp only [] at this; omega⟩ q.1 q.2).mono ?_
      rintro e1 w' ⟨A', c', x, rfl, hr, hrx, hbd, hbx, hb⟩
      have hl2 : (ls ++ [c]).length = ls.length + 1 := by rw [List.length_append]; rfl
      have ht2 : ((tot (ls ++ [c]) : Nat) : Int) = (tot ls : Nat) + (csize c : Nat) := by rw [tot_append]; show ((tot ls + (csize c + 0) : Nat) : Int) = _; omega
      refine ⟨A', c', wA, wc, ?_, ⟨qs ++ [x], by rw [hl2]; exact hr, Cont.snoc hrx (h2.below hb), h3.below hb, fun k hk => ?_⟩, hb⟩
      · simp only [hl2, ht2]; rfl
      · simp only [hl2] at hk
        rcases hk with hk | hk | hk
        · exact ⟨(hbd k hk).2, fun hm => absurd (hg k hm) (Nat.not_lt_of_le (hbd k hk).1)⟩
        · exact ownL_snoc (p := fun k => k < w'.heap.size ∧ k ∉ gs) (fun k hk => ⟨Nat.lt_of_lt_of_le (h4 k (.inr (.inl hk))).1 hb.size, (h4 k (.inr (.inl hk))).2⟩) (fun k hk => ⟨(hbx k hk).2, fun hm => absurd (hg k hm) (Nat.not_lt_of_le (hbx k hk).1)⟩) k hk
        · exact ⟨Nat.lt_of_lt_of_le (h4 k (.inr (.inr hk))).1 hb.size, (h4 k (.inr (.inr hk))).2⟩
    · rw [if_neg q] at e
      injection e with e e2
      injection e2 with e2 e3
      subst e e2 e3
      refine (queue_big b d qA _ qc _ wA _ wc v c W hv hs ⟨by omega, by have := hi.2; show ((tot ls : Nat) : Int) ≤ 65536; simp only [] at this; omega⟩ (by have := hi.1; simp only [] at this ⊢; omega) (by simp only []; omega)).mono ?_
      rintro e1 w' ⟨rfl, hb⟩
      exact ⟨qA, qc, wA, wc, rfl, (h.below hb).of rfl rfl, hb⟩
theorem rqueue_T (h : TxC W gs t qA qc wA wc) (hg : ∀ g ∈ gs, g < W.heap.size) {v : Value} {c : List ByteArray} (hv : Rd W v c) (hi : t.ls.length ≤ 100 ∧ tot t.ls ≤ 65536) (hs : csize c ≤ 1000000) (e : queueS t c = (t', rk, rs)) : OpC 18 #[TxV t qA qc wA wc, v] W gs t' rk rs := by
  obtain ⟨o, b, d, ls, wl⟩ := t
  obtain ⟨qs, h1, h2, h3, h4⟩ := id h
  have hlen := h2.len
  unfold queueS at e
  cases o with
  | false =>
    rw [if_pos rfl] at e
    injection e with e e2
    injection e2 with e2 e3
    subst e e2 e3
    refine (rqueue_shut b d qA _ qc _ wA _ wc v W).mono ?_
    rintro e1 w' ⟨rfl, hb⟩
    exact ⟨qA, qc, wA, wc, rfl, h.below hb, hb⟩
  | true =>
    rw [if_neg (by simp)] at e
    by_cases q : ls.length < 100 ∧ (csize c : Int) ≤ 65536 - (tot ls : Nat)
    · rw [if_pos q] at e
      injection e with e e2
      injection e2 with e2 e3
      subst e e2 e3
      have hx := rqueue_good b d qA qc qs (tot ls : Nat) wA wl.length wc v c W hv (by rw [hlen]; exact h1) hs ⟨by omega, by have := hi.2; show ((tot ls : Nat) : Int) ≤ 65536; simp only [] at this; omega⟩ (by rw [hlen]; exact q.1) q.2
      rw [hlen] at hx
      refine hx.mono ?_
      rintro e1 w' ⟨A', c', x, rfl, hr, hrx, hbd, hbx, hb⟩
      have hl2 : (ls ++ [c]).length = ls.length + 1 := by rw [List.length_append]; rfl
      have ht2 : ((tot (ls ++ [c]) : Nat) : Int) = (tot ls : Nat) + (csize c : Nat) := by rw [tot_append]; show ((tot ls + (csize c + 0) : Nat) : Int) = _; omega
      refine ⟨A', c', wA, wc, ?_, ⟨qs ++ [x], by rw [hl2]; exact hr, Cont.snoc hrx (h2.below hb), h3.below hb, fun k hk => ?_⟩, hb⟩
      · simp only [hl2, ht2]; rfl
      · simp only [hl2] at hk
        rcases hk with hk | hk | hk
        · exact ⟨(hbd k hk).2, fun hm => absurd (hg k hm) (Nat.not_lt_of_le (hbd k hk).1)⟩
        · exact ownL_snoc (p := fun k => k < w'.heap.size ∧ k ∉ gs) (fun k hk => ⟨Nat.lt_of_lt_of_le (h4 k (.inr (.inl hk))).1 hb.size, (h4 k (.inr (.inl hk))).2⟩) (fun k hk => ⟨(hbx k hk).2, fun hm => absurd (hg k hm) (Nat.not_lt_of_le (hbx k hk).1)⟩) k hk
        · exact ⟨Nat.lt_of_lt_of_le (h4 k (.inr (.inr hk))).1 hb.size, (h4 k (.inr (.inr hk))).2⟩
    · rw [if_neg q] at e
      injection e with e e2
      injection e2 with e2 e3
      subst e e2 e3
      refine (rqueue_big b d qA _ qc _ wA _ wc v c W hv hs ⟨by omega, by have := hi.2; show ((tot ls : Nat) : Int) ≤ 65536; simp only [] at this; omega⟩ (by have := hi.1; simp only [] at this ⊢; omega) (by simp only []; omega)).mono ?_
      rintro e1 w' ⟨rfl, hb⟩
      exact ⟨qA, qc, wA, wc, rfl, (h.below hb).of rfl rfl, hb⟩
/-- What a call of Exec comes to. -/
abbrev Op4 (f : FuncId) (args : Array Value) (W : World) (gs : List Nat) (t' : TxS) (l : List (List ByteArray)) (rk : Int) (rs : ByteArray) (ok : Bool) : Prop :=
  Calls Try.prog f args W fun e w' => ∃ qA qc wA wc lA lc qs, e = .returned (.tuple #[.agg #[.bool t'.o, .bool t'.b, .bool t'.d, .slice qA t'.ls.length qc, .int .i64 ((tot t'.ls : Nat) : Int), .slice wA t'.wl.length wc], .slice lA l.length lc, .agg #[.int .i64 rk, .int .i64 0, .string rs, .slice none 0 0], .bool ok]) ∧ TxC w' gs t' qA qc wA wc ∧ Rd2 w' (.slice lA l.length lc) qs ∧ Cont w' qs l ∧ (∀ k, (own1 (.slice lA l.length lc) k ∨ ownL qs k) → k < w'.heap.size ∧ k ∉ gs) ∧ Below W.heap.size W w'
theorem exec_T (h : TxC W gs t qA qc wA wc) (hg : ∀ g ∈ gs, g < W.heap.size) (hi : t.ls.length ≤ 100) {l : List (List ByteArray)} {ok : Bool} (e : execS t = (t', l, rk, rs, ok)) : Op4 13 #[TxV t qA qc wA wc] W gs t' l rk rs ok := by
  obtain ⟨o, b, d, ls, wl⟩ := t
  obtain ⟨qs, h1, h2, h3, h4⟩ := id h
  have hlen := h2.len
  unfold execS at e
  cases o with
  | false =>
    rw [if_pos rfl] at e
    simp only [Prod.mk.injEq] at e
    obtain ⟨rfl, rfl, rfl, rfl, rfl⟩ := e
    refine (exec_shut b d qA _ qc _ wA _ wc W).mono ?_
    rintro e1 w' ⟨rfl, hb⟩
    exact ⟨qA, qc, wA, wc, none, 0, [], rfl, h.below hb, rd_nil2 _, trivial, fun k hk => hk.elim (fun h => (own1_no h).elim) (fun h => (ownL_no h).elim), hb⟩
  | true =>
    rw [if_neg (by simp)] at e
    cases b with
    | true =>
      rw [if_pos rfl] at e
      simp only [Prod.mk.injEq] at e
      obtain ⟨rfl, rfl, rfl, rfl, rfl⟩ := e
      refine (exec_bad d qA _ qc _ wA _ wc W).mono ?_
      rintro e1 w' ⟨rfl, hb⟩
      exact ⟨none, 0, none, 0, none, 0, [], rfl, TxC.zero _ _ _ rfl rfl, rd_nil2 _, trivial, fun k hk => hk.elim (fun h => (own1_no h).elim) (fun h => (ownL_no h).elim), hb⟩
    | false =>
      rw [if_neg (by simp)] at e
      cases d with
      | true =>
        rw [if_pos rfl] at e
        simp only [Prod.mk.injEq] at e
        obtain ⟨rfl, rfl, rfl, rfl, rfl⟩ := e
        refine (exec_dirty qA _ qc _ wA _ wc W).mono ?_
        rintro e1 w' ⟨rfl, hb⟩
        exact ⟨none, 0, none, 0, none, 0, [], rfl, TxC.zero _ _ _ rfl rfl, rd_nil2 _, trivial, fun k hk => hk.elim (fun h => (own1_no h).elim) (fun h => (ownL_no h).elim), hb⟩
      | false =>
        rw [if_neg (by simp)] at e
        simp only [Prod.mk.injEq] at e
        obtain ⟨rfl, rfl, rfl, rfl, rfl⟩ := e
        refine (exec_at qA ls.length qc qs hlen _ wA _ wc W h1 (by rw [hlen]; have hi' : ls.length ≤ 100 := hi; show ls.length ≤ 1000000; omega)).mono ?_
        rintro e1 w' ⟨A', c', rfl, hr, hbd, hb⟩
        refine ⟨none, 0, none, 0, A', c', qs, rfl, TxC.zero _ _ _ rfl rfl, hr, h2.below hb, fun k hk => ?_, hb⟩
        rcases hk with hk | hk
        · exact ⟨(hbd k hk).2, fun hm => absurd (hg k hm) (Nat.not_lt_of_le (hbd k hk).1)⟩
        · exact ⟨Nat.lt_of_lt_of_le (h4 k (.inr (.inl hk))).1 hb.size, (h4 k (.inr (.inl hk))).2⟩
theorem rexec_T (h : TxC W gs t qA qc wA wc) {l : List (List ByteArray)} {ok : Bool} (e : execS t = (t', l, rk, rs, ok)) : Op4 23 #[TxV t qA qc wA wc] W gs t' l rk rs ok := by
  obtain ⟨o, b, d, ls, wl⟩ := t
  obtain ⟨qs, h1, h2, h3, h4⟩ := id h
  unfold execS at e
  cases o with
  | false =>
    rw [if_pos rfl] at e
    simp only [Prod.mk.injEq] at e
    obtain ⟨rfl, rfl, rfl, rfl, rfl⟩ := e
    refine (rexec_shut b d qA _ qc _ wA _ wc W).mono ?_
    rintro e1 w' ⟨rfl, hb⟩
    exact ⟨qA, qc, wA, wc, none, 0, [], rfl, h.below hb, rd_nil2 _, trivial, fun k hk => hk.elim (fun h => (own1_no h).elim) (fun h => (ownL_no h).elim), hb⟩
  | true =>
    rw [if_neg (by simp)] at e
    cases b with
    | true =>
      rw [if_pos rfl] at e
      simp only [Prod.mk.injEq] at e
      obtain ⟨rfl, rfl, rfl, rfl, rfl⟩ := e
      refine (rexec_bad d qA _ qc _ wA _ wc W).mono ?_
      rintro e1 w' ⟨rfl, hb⟩
      exact ⟨none, 0, none, 0, none, 0, [], rfl, TxC.zero _ _ _ rfl rfl, rd_nil2 _, trivial, fun k hk => hk.elim (fun h => (own1_no h).elim) (fun h => (ownL_no h).elim), hb⟩
    | false =>
      rw [if_neg (by simp)] at e
      cases d with
      | true =>
        rw [if_pos rfl] at e
        simp only [Prod.mk.injEq] at e
        obtain ⟨rfl, rfl, rfl, rfl, rfl⟩ := e
        refine (rexec_dirty qA _ qc _ wA _ wc W).mono ?_
        rintro e1 w' ⟨rfl, hb⟩
        exact ⟨none, 0, none, 0, none, 0, [], rfl, TxC.zero _ _ _ rfl rfl, rd_nil2 _, trivial, fun k hk => hk.elim (fun h => (own1_no h).elim) (fun h => (ownL_no h).elim), hb⟩
      | false =>
        rw [if_neg (by simp)] at e
        simp only [Prod.mk.injEq] at e
        obtain ⟨rfl, rfl, rfl, rfl, rfl⟩ := e
        refine (rexec_good qA _ qc _ wA _ wc W).mono ?_
        rintro e1 w' ⟨rfl, hb⟩
        refine ⟨none, 0, none, 0, qA, qc, qs, rfl, TxC.zero _ _ _ rfl rfl, h1.below hb, h2.below hb, fun k hk => ?_, hb⟩
        rcases hk with hk | hk
        · exact ⟨Nat.lt_of_lt_of_le (h4 k (.inl hk)).1 hb.size, (h4 k (.inl hk)).2⟩
        · exact ⟨Nat.lt_of_lt_of_le (h4 k (.inr (.inl hk))).1 hb.size, (h4 k (.inr (.inl hk))).2⟩
theorem same_T {qA2 : Option Addr} {qc2 : Nat} {wA2 : Option Addr} {wc2 : Nat} {gs2 : List Nat} (h : TxC W gs t qA qc wA wc) (h2 : TxC W gs2 t qA2 qc2 wA2 wc2) {N : Nat} (hi : InvS t N) (hN : N ≤ 1000000) :
    Calls Try.prog 25 #[TxV t qA qc wA wc, TxV t qA2 qc2 wA2 wc2] W fun e w' => e = .returned (.bool true) ∧ Below W.heap.size W w' := by
  obtain ⟨qs, a1, a2, a3, a4⟩ := h
  obtain ⟨qs2, b1, b2, b3, b4⟩ := h2
  exact txs_same t.o t.b t.d _ qA _ qc qA2 _ qc2 qs qs2 t.ls wA _ wc wA2 _ wc2 t.wl W a1 a2 b1 b2 (by have := hi.1; omega) (fun x hx => by have h1 := csize_len x; have h2 := tot_mem hx; have h3 := hi.2.1; omega) a3 b3 (by have := hi.2.2; omega)
theorem TxC.unw (h : TxC W gs t qA qc wA wc) : TxC W gs (unwatchS t) qA qc none 0 := by
  obtain ⟨qs, h1, h2, h3, h4⟩ := h
  refine ⟨qs, h1, h2, rd_nil _, fun k hk => ?_⟩
  rcases hk with hk | hk | hk
  · exact h4 k (.inl hk)
  · exact h4 k (.inr (.inl hk))
  · exact (own1_no hk).elim
end
/-- A row of calls that was given back. -/
def LsC (W : World) (gs : List Nat) (l : List (List ByteArray)) (A : Option Addr) (c : Nat) : Prop :=
  ∃ qs : List SV, Rd2 W (.slice A l.length c) qs ∧ Cont W qs l ∧ ∀ k, (own1 (.slice A l.length c) k ∨ ownL qs k) → k < W.heap.size ∧ k ∉ gs
theorem LsC.below {W W' : World} {gs : List Nat} {l : List (List ByteArray)} {A : Option Addr} {c : Nat} (h : LsC W gs l A c) (hb : Below W.heap.size W W') : LsC W' gs l A c := by
  obtain ⟨qs, h1, h2, h4⟩ := h
  exact ⟨qs, h1.below hb, h2.below hb, fun k hk => ⟨Nat.lt_of_lt_of_le (h4 k hk).1 hb.size, (h4 k hk).2⟩⟩
theorem LsC.set {W W' : World} {gs : List Nat} {l : List (List ByteArray)} {A : Option Addr} {c : Nat} {g : Nat} (h : LsC W gs l A c) (hg : g ∈ gs) (hh : ∀ k, k ≠ g → W'.heap[k]? = W.heap[k]?) (hs : W'.heap.size = W.heap.size) : LsC W' gs l A c := by
  obtain ⟨qs, h1, h2, h4⟩ := h
  have hne : ∀ k, (own1 (.slice A l.length c) k ∨ ownL qs k) → W'.heap[k]? = W.heap[k]? := fun k hk => hh k fun e => (h4 k hk).2 (e ▸ hg)
  exact ⟨qs, h1.keep1 fun k hk => hne k (.inl hk), h2.keep1 fun k hk => hne k (.inr hk), fun k hk => ⟨by rw [hs]; exact (h4 k hk).1, (h4 k hk).2⟩⟩
theorem LsC.add {W : World} {gs : List Nat} {l : List (List ByteArray)} {A : Option Addr} {c : Nat} {g : Nat} (h : LsC W gs l A c) (hg : W.heap.size ≤ g) : LsC W (g :: gs) l A c := by
  obtain ⟨qs, h1, h2, h4⟩ := h
  refine ⟨qs, h1, h2, fun k hk => ⟨(h4 k hk).1, fun hm => ?_⟩⟩
  rcases List.mem_cons.1 hm with e | hm
  · have := (h4 k hk).1; omega
  · exact (h4 k hk).2 hm
theorem ls_same {W : World} {gs gs2 : List Nat} {l : List (List ByteArray)} {A A2 : Option Addr} {c c2 : Nat} (h : LsC W gs l A c) (h2 : LsC W gs2 l A2 c2) (hl : l.length ≤ 100 ∧ tot l ≤ 65536) :
    Calls Try.prog 14 #[.agg #[.slice A l.length c], .agg #[.slice A2 l.length c2]] W fun e w' => e = .returned (.bool true) ∧ Below W.heap.size W w' := by
  obtain ⟨qs, a1, a2, a4⟩ := h
  obtain ⟨qs2, b1, b2, b4⟩ := h2
  exact rows_same A _ c A2 _ c2 qs qs2 l W a1 a2 b1 b2 (by omega) (fun x hx => by have h1 := csize_len x; have h2 := tot_mem hx; omega)
theorem hg_cons {W W' : World} {gs : List Nat} {g : Nat} (h : ∀ q ∈ gs, q < W.heap.size) (hs : W.heap.size ≤ W'.heap.size) (hg : g < W'.heap.size) : ∀ q ∈ g :: gs, q < W'.heap.size := by
  intro q hq
  rcases List.mem_cons.1 hq with e | hq
  · rw [e]; exact hg
  · exact Nat.lt_of_lt_of_le (h q hq) hs
end Go.Proofs.Ytkamejnccmapkaa.Mu
