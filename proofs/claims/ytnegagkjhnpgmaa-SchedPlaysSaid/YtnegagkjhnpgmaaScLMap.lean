/- A line's map: a job put aside, a handle's jobs taken out. -/
import Derived.Test.YtnegagkjhnpgmaaScLPush
namespace Go.Proofs.Ytnegagkjhnpgmaa.Sc
open Go.RowKit Go.Proofs.YtnegagkjhnpgmaaW.PrintWords Go.Proofs.YtnegagkjhnpgmaaW.PrintMore Go.Proofs.YtnegagkjhnpgmaaW.PrintLast Go.Proofs.Ytnegagkjhnpgmaa.Dq
set_option linter.unusedVariables false
set_option linter.unusedSimpArgs false
/-- A job more aside. -/
def put (S : Int → List Jb) (x : Jb) : Int → List Jb := fun h => if h = x.h then S h ++ [x] else S h
/-- A handle's jobs no more aside. -/
def cut (S : Int → List Jb) (k : Int) : Int → List Jb := fun h => if h = k then [] else S h
def ApR (p q : Int × Value) : Prop := p.1 ≠ q.1 ∧ p.2.ownBlock ≠ q.2.ownBlock
theorem ApR.symm {p q : Int × Value} (h : ApR p q) : ApR q p := ⟨fun e => h.1 e.symm, fun e => h.2 e.symm⟩
theorem pw_get {M : List (Int × Value)} (h : M.Pairwise ApR) {i j : Nat} (hi : i < M.length) (hj : j < M.length) (e : i ≠ j) : ApR M[i] M[j] := by
  rw [List.pairwise_iff_getElem] at h
  rcases Nat.lt_or_gt_of_ne e with h1 | h1
  · exact h i j hi hj h1
  · exact (h j i hj hi h1).symm
theorem updM_mem {M : List (Int × Value)} {k : Int} {v : Value} (h : M.Pairwise ApR) : ∀ p ∈ updM M k v, p = (k, v) ∨ (p ∈ M ∧ p.1 ≠ k) := by
  intro p hp
  unfold updM at hp
  cases hq : fnd k M 0 with
  | none =>
    rw [hq] at hp
    rcases List.mem_append.1 hp with hp | hp
    · exact .inr ⟨hp, fnd_none k M 0 hq p hp⟩
    · exact .inl (List.mem_singleton.1 hp)
  | some y =>
    obtain ⟨i, v0⟩ := y
    rw [hq] at hp
    obtain ⟨_, hat⟩ := fnd_at k M 0 i v0 hq
    rw [Nat.sub_zero] at hat
    obtain ⟨hi, hat⟩ := List.getElem?_eq_some_iff.1 hat
    obtain ⟨j, hj, rfl⟩ := List.mem_iff_getElem.1 hp
    rw [List.length_set] at hj
    by_cases e : i = j
    · subst e
      left
      simp
    · right
      have e2 : (M.set i (k, v))[j]'(by rw [List.length_set]; exact hj) = M[j] := by simp [e]
      rw [e2]
      refine ⟨List.getElem_mem _, ?_⟩
      have := (pw_get h hi hj e).1
      rw [hat] at this
      exact fun e3 => this e3.symm
theorem updM_here (M : List (Int × Value)) (k : Int) (v : Value) : (k, v) ∈ updM M k v := by
  unfold updM
  cases hq : fnd k M 0 with
  | none => simp
  | some y =>
    obtain ⟨i, v0⟩ := y
    obtain ⟨_, hat⟩ := fnd_at k M 0 i v0 hq
    rw [Nat.sub_zero] at hat
    obtain ⟨hi, hat⟩ := List.getElem?_eq_some_iff.1 hat
    have : (M.set i (k, v))[i]'(by rw [List.length_set]; exact hi) = (k, v) := by simp
    show (k, v) ∈ M.set i (k, v)
    exact List.mem_iff_getElem.2 ⟨i, by rw [List.length_set]; exact hi, this⟩
theorem updM_old {M : List (Int × Value)} {k : Int} (v : Value) : ∀ p ∈ M, p.1 ≠ k → p ∈ updM M k v := by
  intro p hp hne
  unfold updM
  cases hq : fnd k M 0 with
  | none => exact List.mem_append_left _ hp
  | some y =>
    obtain ⟨i, v0⟩ := y
    obtain ⟨_, hat⟩ := fnd_at k M 0 i v0 hq
    rw [Nat.sub_zero] at hat
    obtain ⟨hi, hat⟩ := List.getElem?_eq_some_iff.1 hat
    obtain ⟨j, hj, rfl⟩ := List.mem_iff_getElem.1 hp
    have e : i ≠ j := fun e => by
      subst e
      rw [hat] at hne
      exact hne rfl
    have e2 : (M.set i (k, v))[j]'(by rw [List.length_set]; exact hj) = M[j] := by simp [e]
    rw [← e2]
    exact List.getElem_mem _
theorem updM_pw {M : List (Int × Value)} {k : Int} {v : Value} (h : M.Pairwise ApR) (hv : ∀ p ∈ M, p.1 ≠ k → p.2.ownBlock ≠ v.ownBlock) : (updM M k v).Pairwise ApR := by
  have hm := updM_mem (k := k) (v := v) h
  unfold updM at hm ⊢
  cases hq : fnd k M 0 with
  | none =>
    have hn := fnd_none k M 0 hq
    refine List.pairwise_append.2 ⟨h, List.pairwise_singleton _ _, fun p hp q hq2 => ?_⟩
    rw [List.mem_singleton.1 hq2]
    exact ⟨hn p hp, hv p hp (hn p hp)⟩
  | some y =>
    obtain ⟨i, v0⟩ := y
    obtain ⟨_, hat⟩ := fnd_at k M 0 i v0 hq
    rw [Nat.sub_zero] at hat
    obtain ⟨hi, hat⟩ := List.getElem?_eq_some_iff.1 hat
    refine List.pairwise_iff_getElem.2 fun a b ha hb hab => ?_
    rw [List.length_set] at ha hb
    have key : ∀ j (hj : j < M.length), j ≠ i → ApR M[j] (k, v) := fun j hj hne => by
      have h1 := (pw_get h hj hi hne).1
      rw [hat] at h1
      exact ⟨h1, hv _ (List.getElem_mem _) h1⟩
    rw [List.getElem_set, List.getElem_set]
    by_cases e1 : i = a
    · have e2 : ¬ i = b := by omega
      rw [if_pos e1, if_neg e2]
      exact (key b hb (fun e => e2 e.symm)).symm
    · rw [if_neg e1]
      by_cases e2 : i = b
      · rw [if_pos e2]
        exact key a ha (fun e => e1 e.symm)
      · rw [if_neg e2]
        exact pw_get h ha hb (by omega)
theorem delM_sub (M : List (Int × Value)) (k : Int) : (delM M k).Sublist M := by
  unfold delM
  cases fnd k M 0 with
  | none => exact List.Sublist.refl _
  | some y => exact List.eraseIdx_sublist _ _
theorem delM_mem {M : List (Int × Value)} {k : Int} (h : M.Pairwise ApR) : ∀ p ∈ delM M k, p ∈ M ∧ p.1 ≠ k := by
  intro p hp
  refine ⟨(delM_sub M k).subset hp, ?_⟩
  unfold delM at hp
  cases hq : fnd k M 0 with
  | none =>
    rw [hq] at hp
    exact fnd_none k M 0 hq p hp
  | some y =>
    obtain ⟨i, v0⟩ := y
    rw [hq] at hp
    obtain ⟨_, hat⟩ := fnd_at k M 0 i v0 hq
    rw [Nat.sub_zero] at hat
    obtain ⟨hi, hat⟩ := List.getElem?_eq_some_iff.1 hat
    obtain ⟨j, h1, h2, rfl⟩ := List.mem_eraseIdx_iff_getElem.1 hp
    intro e
    have := (pw_get h h1 hi h2).1
    rw [hat] at this
    exact this e
theorem delM_old {M : List (Int × Value)} {k : Int} : ∀ p ∈ M, p.1 ≠ k → p ∈ delM M k := by
  intro p hp hne
  unfold delM
  cases hq : fnd k M 0 with
  | none => exact hp
  | some y =>
    obtain ⟨i, v0⟩ := y
    obtain ⟨_, hat⟩ := fnd_at k M 0 i v0 hq
    rw [Nat.sub_zero] at hat
    obtain ⟨hi, hat⟩ := List.getElem?_eq_some_iff.1 hat
    obtain ⟨j, hj, rfl⟩ := List.mem_iff_getElem.1 hp
    refine List.mem_eraseIdx_iff_getElem.2 ⟨j, hj, fun e => ?_, rfl⟩
    subst e
    rw [hat] at hne
    exact hne rfl
section
variable {w wa wb wz : World} {base g d r : Nat} {A : Option Addr} {M : List (Int × Value)} {q : List Jb} {S : Int → List Jb}
theorem LnA.pw (h : LnA w base g d r A M q S) : M.Pairwise ApR := h.apart
/-- A job put aside. -/
theorem LnA.upd (h : LnA w base g d r A M q S) {x : Jb} {v v' : Value} (hlk : (v = .slice none 0 0 ∧ S x.h = [] ∧ ∀ p ∈ M, p.1 ≠ x.h) ∨ (x.h, v) ∈ M) {gg : Nat} (hv' : v'.ownBlock = some gg)
    (hab : Below w.heap.size w wa) (hown : OwnJ wb base v' (S x.h ++ [x])) (hgrow : wa.grownBy wb v.ownBlock) (hat : v.ownBlock = some gg ∨ w.heap.size ≤ gg)
    (hsz : wb.heap.size ≤ wz.heap.size) (hz : ∀ k, k < wb.heap.size → k ≠ r → wz.heap[k]? = wb.heap[k]?) (hm : MapAt wz r (updM M x.h v')) (hbz : ∀ w0 : World, w0.heap.size ≤ r → Below w0.heap.size w0 wb → Below w0.heap.size w0 wz) :
    LnA wz base g d r A (updM M x.h v') q (put S x) ∧ FrL w wz base (foot g d r A M) (foot g d r A (updM M x.h v')) := by
  have hvb : ∀ k, v.ownBlock = some k → base ≤ k ∧ ∃ p, p ∈ M ∧ p.2.ownBlock = some k ∧ p.1 = x.h := fun k e => by
    rcases hlk with ⟨rfl, _⟩ | hm
    · cases e
    · exact ⟨(World.ownsRow.lt (h.rows _ hm).1 k e).1, _, hm, e, rfl⟩
  have keep : ∀ k, k < w.heap.size → k ≠ r → v.ownBlock ≠ some k → wz.heap[k]? = w.heap[k]? := fun k h1 h2 h3 => by
    rw [hz k (Nat.lt_of_lt_of_le h1 (Nat.le_trans hab.size hgrow.size)) h2, hgrow.block k (Nat.lt_of_lt_of_le h1 hab.size) (fun e => h3 e.symm)]
    exact hab.block k h1
  have hjob : ∀ k, v.ownBlock = some k → k ≠ g ∧ k ≠ d ∧ k ≠ r ∧ A ≠ some ⟨k, 0, none⟩ := fun k e => by
    obtain ⟨_, p, hp, e2, _⟩ := hvb k e
    obtain ⟨cs, hc⟩ := (h.rows p hp).1.kind e2
    obtain ⟨h1, h2, h3⟩ := h.job hc
    exact ⟨h1, h2, h3, (h.rows p hp).2.2 k e2⟩
  have hroom : ∀ k, A = some ⟨k, 0, none⟩ → k ≠ r := fun k e e2 => by
    obtain ⟨cs, hc⟩ := h.dq.room_kind e
    exact (h.job hc).2.2 e2
  have hgsz : gg < wb.heap.size := (World.ownsRow.lt hown gg hv').2
  have hgr : gg ≠ r := by
    rcases hat with e | e
    · exact (hjob gg e).2.2.1
    · have := h.map.lt; omega
  refine ⟨⟨h.hg, h.hr, (keep g h.glt h.gr (fun e => (hjob g e).1 rfl)).trans h.blk, h.dq.kept (keep d h.dq.dlt.2 h.dr (fun e => (hjob d e).2.1 rfl)) (fun k e => keep k (h.dq.room_lt e).2 (hroom k e) (fun e2 => (hjob k e2).2.2.2 e)), hm, fun p hp => ?_, updM_pw h.pw fun p hp hne => ?_, fun k hk => ?_⟩, ⟨?_, fun k hk hF => ?_, fun w0 e hb => ?_, fun k hk => ?_⟩⟩
  · rcases updM_mem h.pw p hp with rfl | ⟨hp, hne⟩
    · have e : put S x x.h = S x.h ++ [x] := by unfold put; rw [if_pos rfl]
      show OwnJ wz base v' (put S x x.h) ∧ put S x x.h ≠ [] ∧ ∀ k, v'.ownBlock = some k → _
      rw [e]
      refine ⟨hown.kept fun k e2 => ?_, by simp, fun k e2 e3 => ?_⟩
      · rw [hv'] at e2
        injection e2 with e2
        subst e2
        exact hz _ hgsz hgr
      · rw [hv'] at e2
        injection e2 with e2
        subst e2
        rcases hat with e | e
        · exact (hjob _ e).2.2.2 e3
        · have := (h.dq.room_lt e3).2; omega
    · have e : put S x p.1 = S p.1 := by unfold put; rw [if_neg hne]
      rw [e]
      obtain ⟨ho, h1, h2⟩ := h.rows p hp
      refine ⟨ho.kept fun k e2 => ?_, h1, h2⟩
      obtain ⟨cs, hc⟩ := ho.kind e2
      refine keep k (World.ownsRow.lt ho k e2).2 (h.job hc).2.2 (fun e3 => ?_)
      obtain ⟨_, p2, hp2, e4, e5⟩ := hvb k e3
      obtain ⟨i, hi, rfl⟩ := List.mem_iff_getElem.1 hp
      obtain ⟨j, hj, rfl⟩ := List.mem_iff_getElem.1 hp2
      by_cases hij : i = j
      · subst hij; exact hne e5
      · exact (pw_get h.pw hi hj hij).2 (e2.trans e4.symm)
  · rw [hv']
    intro e
    rcases hat with e2 | e2
    · obtain ⟨_, p2, hp2, e4, e5⟩ := hvb gg e2
      obtain ⟨i, hi, rfl⟩ := List.mem_iff_getElem.1 hp
      obtain ⟨j, hj, rfl⟩ := List.mem_iff_getElem.1 hp2
      by_cases hij : i = j
      · subst hij; exact hne e5
      · exact (pw_get h.pw hi hj hij).2 (e.trans e4.symm)
    · have := (World.ownsRow.lt (h.rows p hp).1 gg e).2; omega
  · have hkx : k ≠ x.h := fun e => hk _ (updM_here M x.h v') e.symm
    have e : put S x k = S k := by unfold put; rw [if_neg hkx]
    rw [e]
    exact h.rest k fun p hp e2 => hk p (updM_old v' p hp (by rw [e2]; exact hkx)) e2
  · exact Nat.le_trans (Nat.le_trans hab.size hgrow.size) hsz
  · refine keep k hk (fun e => hF (.inr (.inr (.inl e)))) (fun e => ?_)
    obtain ⟨_, p, hp, e2, _⟩ := hvb k e
    exact hF (.inr (.inr (.inr (.inr ⟨p, hp, e2⟩))))
  · refine hbz w0 (by rw [e]; exact h.hr) (pw_below_grown (below_all hab (by have := h.base_le; omega) hb) _ (by have := hb.size; have := hab.size; omega) hgrow (fun k e2 => by rw [e]; exact (hvb k e2).1))
  · rcases hk with e | e | e | e | ⟨p, hp, e⟩
    · exact .inl (.inl e)
    · exact .inl (.inr (.inl e))
    · exact .inl (.inr (.inr (.inl e)))
    · exact .inl (.inr (.inr (.inr (.inl e))))
    · rcases updM_mem h.pw p hp with rfl | ⟨hp, hne⟩
      · have e' : v'.ownBlock = some k := e
        rw [hv'] at e'
        injection e' with e'
        subst e'
        rcases hat with e2 | e2
        · obtain ⟨_, p2, hp2, e4, _⟩ := hvb _ e2
          exact .inl (.inr (.inr (.inr (.inr ⟨p2, hp2, e4⟩))))
        · exact .inr e2
      · exact .inl (.inr (.inr (.inr (.inr ⟨p, hp, e⟩))))
/-- A handle's jobs taken out: the line, and the row that was there, side by side. -/
theorem LnA.del (h : LnA w base g d r A M q S) {k : Int} {v : Value} (hv : OwnJ w base v (S k)) (hlk : (v = .slice none 0 0 ∧ S k = [] ∧ ∀ p ∈ M, p.1 ≠ k) ∨ (k, v) ∈ M)
    (hz : ∀ j, j ≠ r → wz.heap[j]? = w.heap[j]?) (hm : MapAt wz r (delM M k)) (hsz : w.heap.size ≤ wz.heap.size) :
    LnA wz base g d r A (delM M k) q (cut S k) ∧ OwnJ wz base v (S k) ∧ (∀ j, v.ownBlock = some j → foot g d r A M j ∧ ¬ foot g d r A (delM M k) j) ∧ (∀ j, foot g d r A (delM M k) j → foot g d r A M j) := by
  have hjr : ∀ j cs, w.heap[j]? = some (.cells cs 29 (0, 0)) → j ≠ r := fun j cs hc => (h.job hc).2.2
  have hvk : OwnJ wz base v (S k) := hv.kept fun j e => by
    obtain ⟨cs, hc⟩ := hv.kind e
    exact hz j (hjr j cs hc)
  refine ⟨⟨h.hg, h.hr, (hz g h.gr).trans h.blk, h.dq.kept (hz d h.dr) (fun j e => ?_), hm, fun p hp => ?_, h.pw.sublist (delM_sub M k), fun j hj => ?_⟩, hvk, fun j e => ?_, fun j hj => ?_⟩
  · obtain ⟨cs, hc⟩ := h.dq.room_kind e
    exact hz j (hjr j cs hc)
  · obtain ⟨hpM, hne⟩ := delM_mem h.pw p hp
    have e : cut S k p.1 = S p.1 := by unfold cut; rw [if_neg hne]
    rw [e]
    obtain ⟨ho, h1, h2⟩ := h.rows p hpM
    refine ⟨ho.kept fun j e2 => ?_, h1, h2⟩
    obtain ⟨cs, hc⟩ := ho.kind e2
    exact hz j (hjr j cs hc)
  · unfold cut
    by_cases e : j = k
    · rw [if_pos e]
    · rw [if_neg e]
      exact h.rest j fun p hp e2 => hj p (delM_old p hp (by rw [e2]; exact e)) e2
  · obtain ⟨cs, hc⟩ := hv.kind e
    obtain ⟨h1, h2, h3⟩ := h.job hc
    rcases hlk with ⟨rfl, _⟩ | hkm
    · cases e
    · refine ⟨.inr (.inr (.inr (.inr ⟨_, hkm, e⟩))), fun hf => ?_⟩
      rcases hf with e1 | e1 | e1 | e1 | ⟨p, hp, e1⟩
      · exact h1 e1
      · exact h2 e1
      · exact h3 e1
      · exact (h.rows _ hkm).2.2 j e e1
      · obtain ⟨hpM, hne⟩ := delM_mem h.pw p hp
        obtain ⟨a, ha, rfl⟩ := List.mem_iff_getElem.1 hpM
        obtain ⟨b, hb, hb2⟩ := List.mem_iff_getElem.1 hkm
        by_cases hab : a = b
        · subst hab; rw [hb2] at hne; exact hne rfl
        · have := (pw_get h.pw ha hb hab).2
          rw [hb2] at this
          exact this (e1.trans e.symm)
  · rcases hj with e | e | e | e | ⟨p, hp, e⟩
    · exact .inl e
    · exact .inr (.inl e)
    · exact .inr (.inr (.inl e))
    · exact .inr (.inr (.inr (.inl e)))
    · exact .inr (.inr (.inr (.inr ⟨p, (delM_mem h.pw p hp).1, e⟩)))
end
/-- mapUpdate, as one step of a region that draws. -/
theorem step_upd {ops : Array Oper} {o : Oper} {a : Act} {w : World} {K : Act → World → Prop} {Q : Exit → Act → World → Prop} {E : Prop} (hgd : o.guard = none) (hN : o.dst = none) (m k v : Operand)
    (ho : o.op = .mapUpdate 52 m k v) (r : Nat) (kk : Int) (vv : Value) (M : List (Int × Value)) (hm : a.eval m = .map (some r)) (hk : a.eval k = .int .i64 kk) (hv : a.eval v = vv)
    (hM : MapAt w r M)
    (h : ∀ o1, MapAt (oset w r o1) r (updM M kk vv) → K a (oset w r o1)) :
    if Region.wanted o (yielded ops a.tmps) = true then Oper.wp Try.prog o a w K Q else E := by
  have hw : Region.wanted o (yielded ops a.tmps) = true := by simp [Region.wanted, hgd]
  rw [if_pos hw]
  obtain ⟨o1, hr, hM1⟩ := run_upd hM kk vv
  unfold Oper.wp execOp
  simp only [ho, hm, hk, hv, hr, Sem.run_bind, Sem.run_pure, Result.andThen_ok]
  show K (a.put o.dst undef) _
  rw [hN]
  exact h o1 hM1
/-- delete, at the list of a plain region's operations. -/
theorem del_event {ops : Array Oper} {rest : List Oper} {o : Oper} {a : Act} {Q : Exit → Act → World → Prop} {W : World} (hgd : o.guard = none) (hN : o.dst = none) (m k : Operand)
    (ho : o.op = .call { callee := .builtin .delete, args := #[m, k], argTypes := #[52, 3] }) (r : Nat) (kk : Int) (M : List (Int × Value)) (hm : a.eval m = .map (some r)) (hk : a.eval k = .int .i64 kk)
    (hM : MapAt W r M)
    (h : ∀ o1 w1, w1 = oset W r o1 → MapAt w1 r (delM M kk) → wpList Try.prog ops Q rest a w1) : wpList Try.prog ops Q (o :: rest) a W := by
  refine wpList_plain hgd fun K hK => ?_
  obtain ⟨o1, hr, hM1⟩ := run_del hM kk o.type
  unfold Oper.wp execOp
  simp only [ho, resolve, invoke, builtin, Sem.run_bind, Sem.run_pure, Result.andThen_ok, List.map_toArray, List.map_cons, List.map_nil, hm, hk, hr]
  show K (a.put o.dst _) _
  rw [hN]
  exact hK _ _ (h o1 _ rfl hM1)
end Go.Proofs.Ytnegagkjhnpgmaa.Sc
