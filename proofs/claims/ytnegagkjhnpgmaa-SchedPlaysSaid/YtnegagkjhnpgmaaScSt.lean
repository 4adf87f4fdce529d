/- A line in a call: its state, and one law a method. -/
import Derived.Test.YtnegagkjhnpgmaaScNext
import Derived.Test.YtnegagkjhnpgmaaScBack
namespace Go.Proofs.Ytnegagkjhnpgmaa.Sc
open Go.RowKit Go.Proofs.YtnegagkjhnpgmaaW.PrintWords Go.Proofs.YtnegagkjhnpgmaaW.PrintMore Go.Proofs.YtnegagkjhnpgmaaW.PrintLast Go.Proofs.Ytnegagkjhnpgmaa.Dq
set_option linter.unusedVariables false
set_option linter.unusedSimpArgs false
theorem OwnJ.mono {w : World} {b b2 : Nat} {v : Value} {L : List Jb} (h : OwnJ w b2 v L) (hb : b ≤ b2) : OwnJ w b v L := by
  refine ⟨h.1, ?_⟩
  rcases h.2 with hn | ⟨g, cap, cur, rfl, hb2, rest⟩
  · exact .inl hn
  · exact .inr ⟨g, cap, cur, rfl, Nat.le_trans hb hb2, rest⟩
theorem Ln.mono {w : World} {b b2 g : Nat} {q : List Jb} {S : Int → List Jb} {F : Nat → Prop} (h : Ln w b2 g q S F) (hb : b ≤ b2) : Ln w b g q S F := by
  obtain ⟨d, r, A, M, h, e⟩ := h
  exact ⟨d, r, A, M, ⟨Nat.le_trans hb h.hg, Nat.le_trans hb h.hr, h.blk, h.dq.mono hb, h.map, fun p hp => ⟨(h.rows p hp).1.mono hb, (h.rows p hp).2⟩, h.apart, h.rest⟩, e⟩
/-- A line in a call that began at w0; the blocks of P are none of it. -/
structure LSt (w0 : World) (g : Nat) (q : List Jb) (S : Int → List Jb) (P : Nat → Prop) (W : World) : Prop where
  out : Below w0.heap.size w0 W
  lt : ∀ k, P k → k < W.heap.size
  ln : ∃ F, Ln W w0.heap.size g q S F ∧ ∀ k, P k → ¬ F k
section
variable {w0 W W1 : World} {g : Nat} {q : List Jb} {S : Int → List Jb} {P P' : Nat → Prop}
theorem LSt.step (h : LSt w0 g q S P W) (hb : Below w0.heap.size w0 W1) (hk : ∀ k, k < W.heap.size → ¬ P k → W1.heap[k]? = W.heap[k]?) (hP : ∀ k, P' k → k < W1.heap.size ∧ (P k ∨ W.heap.size ≤ k)) : LSt w0 g q S P' W1 := by
  obtain ⟨F, hl, hF⟩ := h.ln
  refine ⟨hb, fun k hk => (hP k hk).1, F, hl.kept fun k hf => hk k (hl.lt k hf).2 (fun hp => hF k hp hf), fun k hp hf => ?_⟩
  rcases (hP k hp).2 with h1 | h1
  · exact hF k h1 hf
  · have := (hl.lt k hf).2; omega
theorem LSt.base_le (h : LSt w0 g q S P W) : w0.heap.size ≤ W.heap.size := h.out.size
theorem LSt.below (h : LSt w0 g q S P W) (hb : Below W.heap.size W W1) : LSt w0 g q S P W1 :=
  h.step (below_all hb h.base_le h.out) (fun k hk _ => hb.block k hk) (fun k hp => ⟨Nat.lt_of_lt_of_le (h.lt k hp) hb.size, .inl hp⟩)
theorem LSt.weak (h : LSt w0 g q S P W) (hP : ∀ k, P' k → P k) : LSt w0 g q S P' W :=
  h.step h.out (fun _ _ _ => rfl) (fun k hp => ⟨h.lt k (hP k hp), .inl (hP k hp)⟩)
theorem LSt.more (h : LSt w0 g q S P W) (hb : Below W.heap.size W W1) (hP : ∀ k, P' k → P k ∨ (W.heap.size ≤ k ∧ k < W1.heap.size)) : LSt w0 g q S P' W1 :=
  h.step (below_all hb h.base_le h.out) (fun k hk _ => hb.block k hk) (fun k hp => by
    rcases hP k hp with h1 | ⟨h1, h2⟩
    · exact ⟨Nat.lt_of_lt_of_le (h.lt k h1) hb.size, .inl h1⟩
    · exact ⟨h2, .inr h1⟩)
theorem LSt.does {F F' : Nat → Prop} {q' : List Jb} {S' : Int → List Jb} (hb : Below w0.heap.size w0 W) (hlt : ∀ k, P k → k < W.heap.size) (hF : ∀ k, P k → ¬ F k) (hl : Ln W1 w0.heap.size g q' S' F') (hf : FrL W W1 w0.heap.size F F') :
    LSt w0 g q' S' P W1 ∧ ∀ k, P k → W1.heap[k]? = W.heap[k]? :=
  ⟨⟨hf.below w0 rfl hb, fun k hk => Nat.lt_of_lt_of_le (hlt k hk) hf.size, F', hl, fun k hk hfk => by
    rcases hf.new k hfk with h1 | h1
    · exact hF k hk h1
    · have := hlt k hk; omega⟩, fun k hk => hf.keep k (hlt k hk) (hF k hk)⟩
end
theorem LSt.new {w0 W : World} (hb : Below w0.heap.size w0 W) (P : Nat → Prop) (hP : ∀ k, P k → k < W.heap.size) :
    Calls Try.prog 8 #[] W fun e w' => ∃ g, e = .returned (.pointer (some ⟨g, 0, none⟩)) ∧ LSt w0 g [] (fun _ => []) P w' ∧ Below W.heap.size W w' :=
  (lnnew_calls W).mono fun e w' he => by
    obtain ⟨g, F, he, hl, hbw⟩ := he
    exact ⟨g, he, ⟨below_all hbw hb.size hb, fun k hk => Nat.lt_of_lt_of_le (hP k hk) hbw.size, F, hl.mono hb.size, fun k hk hf => by have := (hl.lt k hf).1; have := hP k hk; omega⟩, hbw⟩
theorem C_at {w w1 : World} {A : Option Addr} {n : Nat} {l : List Int} (h : Kd.C (Kd.int .i64) w A n l) (hk : ∀ ad, A = some ad → w1.heap[ad.block]? = w.heap[ad.block]?) : Kd.C (Kd.int .i64) w1 A n l := by
  refine ⟨h.1, h.2.1, fun hn => ?_⟩
  obtain ⟨ad, e, hc⟩ := h.2.2 hn
  refine ⟨ad, e, fun j p hj => ?_⟩
  obtain ⟨c, hs, hr, hcell⟩ := hc j p hj
  refine ⟨c, hs, hr, fun i u hu => (World.cell?_of_block ?_).trans (hcell i u hu)⟩
  have : (ad.add (j * (Kd.int IntKind.i64).sz + i)).block = ad.block := by unfold Addr.add; split <;> rfl
  rw [this]
  exact hk ad e
section
variable {w0 W : World} {g : Nat} {q : List Jb} {S : Int → List Jb} {P : Nat → Prop}
/-- Where what is handed to a method may lie. -/
def Lies (w0 : World) (P : Nat → Prop) (A : Option Addr) : Prop := ∀ ad, A = some ad → P ad.block ∨ ad.block < w0.heap.size
theorem LSt.push (h : LSt w0 g q S P W) {A0 : Option Addr} {n c : Nat} {R : List Jb} (hn : n = R.length) (hA : Reads W A0 R) (hap : Lies w0 P A0) (hR : q.length + R.length < 1048576) :
    Calls Try.prog 9 #[.pointer (some ⟨g, 0, none⟩), .slice A0 n c] W fun e w' => e = .returned (.tuple #[]) ∧ LSt w0 g (q ++ R) S P w' ∧ ∀ k, P k → w'.heap[k]? = W.heap[k]? := by
  obtain ⟨F, hl, hF⟩ := h.ln
  refine (lnpush_calls w0.heap.size g q R S F A0 n c hn W hl hA (fun ad e hf => ?_) hR).mono fun e w' he => ?_
  · rcases hap ad e with h1 | h1
    · exact hF _ h1 hf
    · have := (hl.lt _ hf).1; omega
  · obtain ⟨he, F', h1, h2⟩ := he
    exact ⟨he, LSt.does h.out h.lt hF h1 h2⟩
theorem LSt.next (h : LSt w0 g q S P W) {A0 : Option Addr} {c0 : Nat} {l0 : List Int} (hc0 : l0.length ≤ c0) (hl0 : l0.length ≤ 1000000000) (hw : Kd.C (Kd.int .i64) W A0 l0.length l0) (hap : Lies w0 P A0) (hb : ∀ k, (S k).length + q.length ≤ 1000000) :
    Calls Try.prog 11 #[.pointer (some ⟨g, 0, none⟩), .slice A0 l0.length c0] W fun e w' => e = .returned (.tuple #[.agg #[.int .i64 ((nx l0 q S).1.getD Jb.z).h, .slice ((nx l0 q S).1.getD Jb.z).A ((nx l0 q S).1.getD Jb.z).n ((nx l0 q S).1.getD Jb.z).c, .int .i64 ((nx l0 q S).1.getD Jb.z).sz, .string ((nx l0 q S).1.getD Jb.z).ft], .bool (nx l0 q S).1.isSome]) ∧ LSt w0 g (nx l0 q S).2.1 (nx l0 q S).2.2 P w' ∧ ∀ k, P k → w'.heap[k]? = W.heap[k]? := by
  obtain ⟨F, hl, hF⟩ := h.ln
  refine (lnnext_calls w0.heap.size g q S F A0 c0 l0 W hl hc0 hl0 (fun W1 hk => C_at hw (fun ad e => ?_)) hb).mono fun e w' he => ?_
  · rcases hap ad e with h1 | h1
    · exact hk _ (h.lt _ h1) (hF _ h1)
    · exact hk _ (Nat.lt_of_lt_of_le h1 h.base_le) (fun hf => by have := (hl.lt _ hf).1; omega)
  · obtain ⟨he, F', h1, h2⟩ := he
    exact ⟨he, LSt.does h.out h.lt hF h1 h2⟩
/-- The line's jobs behind a Back. -/
def bk (k : Int) (q : List Jb) (S : Int → List Jb) : List Jb := if S k = [] then q else oth k q ++ (S k ++ own k q)
theorem LSt.back (h : LSt w0 g q S P W) (k : Int) (hb : (S k).length + q.length < 1048576) :
    Calls Try.prog 10 #[.pointer (some ⟨g, 0, none⟩), .int .i64 k] W fun e w' => e = .returned (.int .i64 (S k).length) ∧ LSt w0 g (bk k q S) (cut S k) P w' ∧ ∀ k, P k → w'.heap[k]? = W.heap[k]? := by
  obtain ⟨F, hl, hF⟩ := h.ln
  refine (lnback_calls w0.heap.size g q S F k W hl hb).mono fun e w' he => ?_
  obtain ⟨he, F', h1, h2⟩ := he
  exact ⟨he, LSt.does h.out h.lt hF h1 h2⟩
theorem LSt.len (h : LSt w0 g q S P W) : Calls Try.prog 12 #[.pointer (some ⟨g, 0, none⟩)] W fun e w' => e = .returned (.int .i64 q.length) ∧ W = w' := by
  obtain ⟨F, hl, hF⟩ := h.ln
  exact lnlen_calls _ g q S F W hl
theorem LSt.held (h : LSt w0 g q S P W) (k : Int) : Calls Try.prog 13 #[.pointer (some ⟨g, 0, none⟩), .int .i64 k] W fun e w' => e = .returned (.int .i64 (S k).length) ∧ W = w' := by
  obtain ⟨F, hl, hF⟩ := h.ln
  exact aside_calls _ g q S F k W hl
theorem LSt.all (h : LSt w0 g q S P W) : Calls Try.prog 24 #[.pointer (some ⟨g, 0, none⟩)] W fun e w' => ∃ v, e = .returned v ∧ OwnJ w' W.heap.size v q ∧ Below W.heap.size W w' := by
  obtain ⟨F, hl, hF⟩ := h.ln
  exact lnall_calls _ g q S F W hl
theorem LSt.qlen (h : LSt w0 g q S P W) : q.length ≤ 2097152 := by
  obtain ⟨F, ⟨d, r, A, M, hl, _⟩, _⟩ := h.ln
  exact hl.dq.len.2
end
/-- A row of jobs in a block of its own. -/
theorem reads_block {W : World} {b : Nat} {R : List Jb} {cs : Array Value} {t : TypeId} {fr : Nat × Nat} (h : W.heap[b]? = some (.cells cs t fr)) (hc : cs.toList = flat R) : Reads W (some ⟨b, 0, none⟩) R := fun _ => ⟨_, rfl, fun j v hj => World.news_of_block h j v (by rw [hc]; exact hj)⟩
theorem C_lit {W : World} {b : Nat} {l : List Int} {t : TypeId} {fr : Nat × Nat} {cs : Array Value} (h : W.heap[b]? = some (.cells cs t fr)) (hc : cs.toList = l.map (Value.int .i64)) (hl : l.length ≤ 1000000) : Kd.C (Kd.int .i64) W (some ⟨b, 0, none⟩) l.length l := by
  refine ⟨rfl, by omega, fun _ => ⟨_, rfl, fun j p hj => ⟨[.int .i64 p], rfl, rfl, fun i u hu => ?_⟩⟩⟩
  obtain _ | i := i
  · have hu2 : u = .int .i64 p := by simpa using hu.symm
    subst hu2
    show W.cell? ((⟨b, 0, none⟩ : Addr).add (j * 1 + 0)) = _
    rw [Nat.mul_one, Nat.add_zero]
    refine World.news_of_block h j _ ?_
    rw [hc, List.getElem?_map, hj]
    rfl
  · simp at hu
theorem C_nil (W : World) : Kd.C (Kd.int .i64) W none ([] : List Int).length [] := ⟨rfl, by simp, fun h => absurd h (by simp)⟩
end Go.Proofs.Ytnegagkjhnpgmaa.Sc
