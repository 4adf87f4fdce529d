/- The line's Drop. -/
import Derived.Test.YtnegagkjhnpgmaaScDel
namespace Go.Proofs.Ytnegagkjhnpgmaa.Sc
open Go.RowKit Go.Proofs.YtnegagkjhnpgmaaW.PrintWords Go.Proofs.YtnegagkjhnpgmaaW.PrintMore Go.Proofs.YtnegagkjhnpgmaaW.PrintLast Go.Proofs.Ytnegagkjhnpgmaa.Dq
set_option linter.unusedVariables false
set_option linter.unusedSimpArgs false
attribute [local go_sem] max2_int min2_int max_two min_two
attribute [local go_sem ↓] Go.wp_at_zero Go.wp_at_succ
section
variable {ops : Array Oper} {S : World → Prop} {fuel : Nat} {listed : Array Bool} {a : Act} {W : World} {Q : Exit → Act → World → Prop} {rs : List Nat}
theorem cons_del (i : Nat) (m k : Tmp) (r : Nat) (kk : Int) (M : List (Int × Value)) (hi : (ops[i]?).map (fun o => (o.guard.isNone, o.dst, o.op)) = some (true, none, .call { callee := .builtin .delete, args := #[.tmp m, .tmp k], argTypes := #[52, 3] }))
    (hm : a.eval (.tmp m) = .map (some r)) (hk : a.eval (.tmp k) = .int .i64 kk) (hM : MapAt W r M)
    (h : ∀ o1 w1, w1 = oset W r o1 → MapAt w1 r (delM M kk) → S w1 ∧ wpAnyH Try.prog .any ops Q S fuel (listed.setIfInBounds i true) a w1)
    (hs : AllReadyH Try.prog .any ops Q S fuel listed a W rs) : AllReadyH Try.prog .any ops Q S fuel listed a W (i :: rs) := by
  obtain ⟨o, ho, hg, hd, hop⟩ := oper_of hi
  refine AllReadyH.cons ho (fun K hK => ?_) hs
  have hw : Region.wanted o (yielded ops a.tmps) = true := by simp [Region.wanted, hg]
  rw [if_pos hw]
  obtain ⟨o1, hr, hM1⟩ := run_del hM kk o.type
  have h9 := h o1 _ rfl hM1
  unfold Oper.wp execOp
  simp only [hop, resolve, invoke, builtin, Sem.run_bind, Sem.run_pure, Result.andThen_ok, List.map_toArray, List.map_cons, List.map_nil, hm, hk, hr]
  show K (a.put o.dst _) _
  rw [hd]
  exact hK.out _ _ h9.1 (fun _ => h9.2)
theorem cons_del_nil (i : Nat) (m k : Tmp) (kk : Int) (hi : (ops[i]?).map (fun o => (o.guard.isNone, o.dst, o.op)) = some (true, none, .call { callee := .builtin .delete, args := #[.tmp m, .tmp k], argTypes := #[52, 3] }))
    (hm : a.eval (.tmp m) = .map none) (hk : a.eval (.tmp k) = .int .i64 kk)
    (h : S W ∧ wpAnyH Try.prog .any ops Q S fuel (listed.setIfInBounds i true) a W)
    (hs : AllReadyH Try.prog .any ops Q S fuel listed a W rs) : AllReadyH Try.prog .any ops Q S fuel listed a W (i :: rs) := by
  obtain ⟨o, ho, hg, hd, hop⟩ := oper_of hi
  refine AllReadyH.cons ho (fun K hK => ?_) hs
  have hw : Region.wanted o (yielded ops a.tmps) = true := by simp [Region.wanted, hg]
  rw [if_pos hw]
  have hr := run_del_nil W kk o.type
  unfold Oper.wp execOp
  simp only [hop, resolve, invoke, builtin, Sem.run_bind, Sem.run_pure, Result.andThen_ok, List.map_toArray, List.map_cons, List.map_nil, hm, hk, hr]
  show K (a.put o.dst _) _
  rw [hd]
  exact hK.out _ _ h.1 (fun _ => h.2)
end
theorem span_nil (w : World) : Calls Try.prog 41 #[.pointer none, .int .i64 0, .int .i64 (-1)] w fun e w' => e = .returned (.tuple #[.int .i64 0, .int .i64 0]) ∧ w = w' := by
  have HL := Aside0.mk (len_nil w)
  go_enter Try.func41, Try.ntmps41
  go_wp2_with (first | (go_at_call 30; (with_reducible refine Calls.mono HL.out ?_); rintro e w' ⟨rfl, rfl⟩))
  go_ret2
  exact ⟨rfl, rfl⟩
set_option maxHeartbeats 1000000 in
theorem cut_none (p : Value) (w : World) (hs : Calls Try.prog 41 #[p, .int .i64 0, .int .i64 (-1)] w fun e w' => e = .returned (.tuple #[.int .i64 0, .int .i64 0]) ∧ w = w') :
    Calls Try.prog 40 #[p, .int .i64 0, .int .i64 (-1)] w fun e w' => e = .returned (.slice none 0 0) ∧ w = w' := by
  have HSP := Aside0.mk hs
  clear hs
  go_enter Try.func40, Try.ntmps40
  go_wp2_with (first | (go_at_call 41; (with_reducible refine HSP.out.mono ?_); rintro e w' ⟨rfl, rfl⟩))
  go_loopw [7, 8] (fun v7 v8 wr => v7 = .slice none 0 0 ∧ v8 = .int .i64 0 ∧ wr = w) (fun _ _ _ => 0)
  case atStart => exact ⟨rfl, rfl, rfl⟩
  case round =>
    obtain ⟨rfl, rfl, rfl⟩ := hrel
    go_wp2
    go_ret
    exact ⟨rfl, rfl⟩
theorem all_none (p : Value) (w : World) (hs : Calls Try.prog 41 #[p, .int .i64 0, .int .i64 (-1)] w fun e w' => e = .returned (.tuple #[.int .i64 0, .int .i64 0]) ∧ w = w') :
    Calls Try.prog 35 #[p] w fun e w' => e = .returned (.slice none 0 0) ∧ w = w' := by
  have HC := Aside0.mk (cut_none p w hs)
  clear hs
  go_enter Try.func35, Try.ntmps35
  go_wp2_with (first | (go_at_call 40; (with_reducible refine HC.out.mono ?_); rintro e w' ⟨rfl, rfl⟩))
  go_ret
  exact ⟨rfl, rfl⟩
theorem lnall_none (g : Nat) (p : Option Addr) (w : World) (k0 : w.cell? ⟨g, 0, none⟩ = some (.pointer p)) (hs : Calls Try.prog 41 #[.pointer p, .int .i64 0, .int .i64 (-1)] w fun e w' => e = .returned (.tuple #[.int .i64 0, .int .i64 0]) ∧ w = w') :
    Calls Try.prog 24 #[.pointer (some ⟨g, 0, none⟩)] w fun e w' => e = .returned (.slice none 0 0) ∧ w = w' := by
  have HL := Aside0.mk (all_none (.pointer p) w hs)
  clear hs
  go_enter Try.func24, Try.ntmps24
  go_wp2_with (first | (go_at_call 35; (with_reducible refine HL.out.mono ?_); rintro e w' ⟨rfl, rfl⟩))
  go_ret
  exact ⟨rfl, rfl⟩
theorem lnall2_calls (base g : Nat) (q : List Jb) (S : Int → List Jb) (F : Nat → Prop) (w : World) (h : Ln w base g q S F) :
    Calls Try.prog 24 #[.pointer (some ⟨g, 0, none⟩)] w fun e w' => ∃ v, e = .returned v ∧ OwnJ w' w.heap.size v q ∧ Below w.heap.size w w' ∧ (q = [] → v = .slice none 0 0) := by
  by_cases hq : q = []
  · subst hq
    obtain ⟨d, r, A, M, hl, _⟩ := h
    have hd := hl.dq.len.1
    exact (lnall_none g _ w hl.cells.1 (span_all d 0 (by omega) w hd)).mono fun e w' ⟨he, hw⟩ => ⟨_, he, own_nil _ _ _ _, by rw [← hw]; exact Below.refl _ _, fun _ => rfl⟩
  · exact (lnall_calls base g q S F w h).mono fun e w' ⟨v, h1, h2, h3⟩ => ⟨v, h1, h2, h3, fun e => absurd e hq⟩
theorem dr_i (z : Int) (h : -2000000 ≤ z ∧ z ≤ 2000000) : IntKind.i64.wrap z = z := by rw [IntKind.wrap_i64]; omega
theorem dr_w (z : Int) (h : -2000000 ≤ z ∧ z ≤ 2000000) : wrap64 z = z := by unfold wrap64; omega
theorem dr_e (nv m lo mo : Nat) (h : mo + lo = m) (hb : nv + m < 1048576) : IntKind.i64.wrap ((nv : Int) + (m : Int) - (lo : Int)) = (nv : Int) + (mo : Int) := by rw [show (nv : Int) + (m : Int) - (lo : Int) = (nv : Int) + (mo : Int) by omega]; exact dr_i _ (by omega)
theorem dr_f (nv m lo mo : Nat) (h : mo + lo = m) (hb : nv + m < 1048576) : wrap64 ((nv : Int) + (m : Int) - (lo : Int)) = (nv : Int) + (mo : Int) := by rw [show (nv : Int) + (m : Int) - (lo : Int) = (nv : Int) + (mo : Int) by omega]; exact dr_w _ (by omega)
set_option maxHeartbeats 40000000 in
set_option maxRecDepth 100000 in
theorem lndrop_calls (base g : Nat) (q : List Jb) (S : Int → List Jb) (F : Nat → Prop) (k : Int) (w : World) (h : Ln w base g q S F) (hbd : (S k).length + q.length < 1048576) :
    Calls Try.prog 20 #[.pointer (some ⟨g, 0, none⟩), .int .i64 k] w fun e w' => e = .returned (.int .i64 (((S k).length : Int) + ((own k q).length : Int))) ∧ ∃ F', Ln w' base g (oth k q) (cut S k) F' ∧ FrL w w' base F F' := by
  have hu := Try.underlying3
  obtain ⟨d, r, A, M, hla, hF⟩ := h
  subst hF
  have LA := Aside0.mk hla
  obtain ⟨v, hv, hvo, hlk⟩ := hla.look k
  have HLK := Aside0.mk hlk
  have HVO := Aside0.mk hvo
  obtain ⟨Av, cv, hvf, _⟩ := hvo.form
  obtain ⟨nv, hnv⟩ : ∃ nv, nv = (S k).length := ⟨_, rfl⟩
  rw [← hnv] at hvf ⊢
  subst hvf
  have HV := Aside0.mk hv
  obtain ⟨m, hm⟩ : ∃ m, m = q.length := ⟨_, rfl⟩
  obtain ⟨lo, hlo⟩ : ∃ lo, lo = (oth k q).length := ⟨_, rfl⟩
  obtain ⟨mo, hmo⟩ : ∃ mo, mo = (own k q).length := ⟨_, rfl⟩
  rw [← hmo]
  have HMQ := Aside0.mk hm
  have HLO := Aside0.mk hlo
  have HSUM := Aside0.mk (show mo + lo = m from by rw [hmo, hlo, hm]; exact own_oth k q)
  have HBD := Aside0.mk (show nv + m < 1048576 from by rw [hnv, hm]; exact hbd)
  have HQ2 := Aside0.mk (show q.length ≤ 2097152 from by omega)
  have HB4 := Aside0.mk (show (oth k q).length < 1048576 from by have := oth_le k q; omega)
  clear hla hvo hlk hbd hv hm hnv hlo hmo
  go_enter Try.func20, Try.ntmps20
  go_wp2_with (first | ((with_reducible refine gate_dst (N := 3) rfl ?_); refine box_event ?hg (N := 3) ?hd (cs := #[.int .i64 k]) (t := 3) ?hr ?_; (case hd => rfl); (case hg => rfl); (case hr => first | (go_simp; done) | (go_simp; rfl)); intro gh hg_ w1 hbox hb; have GH := Aside0.mk hg_; have BH := Aside0.mk hbox; have BW1 := Aside0.mk hb; clear hbox hb hg_))
  have L1 := Aside0.mk (LA.out.below BW1.out)
  refine region_drew (fun W_ => W_.heap[g]? = some (.cells #[.pointer (some ⟨d, 0, none⟩), .map (some r)] 54 (0, 0)) ∧ W_.heap[gh]? = some (.cells #[.int .i64 k] 3 (0, 0)) ∧ MapAt W_ r M) (by kernel_rfl) (fun d1 hd1 he1 => ?_)
  have L2 := Aside0.mk (L1.out.below hd1)
  have B2 := Aside0.mk (old_blk BH.out hd1)
  have BD1 := Aside0.mk (below_tr BW1.out hd1)
  refine ⟨⟨L2.out.blk, B2.out, L2.out.map⟩, fun hHeld => ?_⟩
  refine wpAnyH_take (i := 0) (v := .pointer (some ⟨g, 0, none⟩)) rfl (by kernel_rfl) (by kernel_rfl) (by kernel_rfl) (fun _ _ _ h => h) (Or.inl ⟨by rfl, ?_⟩) (by assumption) ?_
  · intro W_ hSw
    obtain ⟨s0, s1, s2⟩ := hSw
    have q0 := (blk_cell s0 0).trans rfl
    have q1 := (blk_cell s0 1).trans rfl
    have qh := (blk_cell s1 0).trans rfl
    clear s0 s1 s2
    first | (go_simp; done) | (go_simp; with_reducible rfl) | (go_simp; rfl)
  try simp only [Act.put, List.getElem_toArray, List.getElem_cons_succ, List.getElem_cons_zero, List.setIfInBounds_toArray, List.set_cons_zero, List.set_cons_succ]
  refine wpAnyH_take (i := 1) (v := .pointer (some ⟨g, 0, none⟩)) rfl (by kernel_rfl) (by kernel_rfl) (by kernel_rfl) (fun _ _ _ h => h) (Or.inl ⟨by rfl, ?_⟩) (by assumption) ?_
  · intro W_ hSw
    obtain ⟨s0, s1, s2⟩ := hSw
    have q0 := (blk_cell s0 0).trans rfl
    have q1 := (blk_cell s0 1).trans rfl
    have qh := (blk_cell s1 0).trans rfl
    clear s0 s1 s2
    first | (go_simp; done) | (go_simp; with_reducible rfl) | (go_simp; rfl)
  try simp only [Act.put, List.getElem_toArray, List.getElem_cons_succ, List.getElem_cons_zero, List.setIfInBounds_toArray, List.set_cons_zero, List.set_cons_succ]
  refine wpAnyH_take (i := 2) (v := .pointer (some ⟨g, 1, none⟩)) rfl (by kernel_rfl) (by kernel_rfl) (by kernel_rfl) (fun _ _ _ h => h) (Or.inl ⟨by rfl, ?_⟩) (by assumption) ?_
  · intro W_ hSw
    obtain ⟨s0, s1, s2⟩ := hSw
    have q0 := (blk_cell s0 0).trans rfl
    have q1 := (blk_cell s0 1).trans rfl
    have qh := (blk_cell s1 0).trans rfl
    clear s0 s1 s2
    first | (go_simp; done) | (go_simp; with_reducible rfl) | (go_simp; rfl)
  try simp only [Act.put, List.getElem_toArray, List.getElem_cons_succ, List.getElem_cons_zero, List.setIfInBounds_toArray, List.set_cons_zero, List.set_cons_succ]
  refine wpAnyH_take (i := 3) (v := .map (some r)) rfl (by kernel_rfl) (by kernel_rfl) (by kernel_rfl) (fun _ _ _ h => h) (Or.inl ⟨by rfl, ?_⟩) (by assumption) ?_
  · intro W_ hSw
    obtain ⟨s0, s1, s2⟩ := hSw
    have q0 := (blk_cell s0 0).trans rfl
    have q1 := (blk_cell s0 1).trans rfl
    have qh := (blk_cell s1 0).trans rfl
    clear s0 s1 s2
    first | (go_simp; done) | (go_simp; with_reducible rfl) | (go_simp; rfl)
  try simp only [Act.put, List.getElem_toArray, List.getElem_cons_succ, List.getElem_cons_zero, List.setIfInBounds_toArray, List.set_cons_zero, List.set_cons_succ]
  refine wpAnyH_take (i := 4) (v := .int .i64 k) rfl (by kernel_rfl) (by kernel_rfl) (by kernel_rfl) (fun _ _ _ h => h) (Or.inl ⟨by rfl, ?_⟩) (by assumption) ?_
  · intro W_ hSw
    obtain ⟨s0, s1, s2⟩ := hSw
    have q0 := (blk_cell s0 0).trans rfl
    have q1 := (blk_cell s0 1).trans rfl
    have qh := (blk_cell s1 0).trans rfl
    clear s0 s1 s2
    first | (go_simp; done) | (go_simp; with_reducible rfl) | (go_simp; rfl)
  try simp only [Act.put, List.getElem_toArray, List.getElem_cons_succ, List.getElem_cons_zero, List.setIfInBounds_toArray, List.set_cons_zero, List.set_cons_succ]
  refine wpAnyH_take (i := 5) (v := .slice Av nv cv) rfl (by kernel_rfl) (by kernel_rfl) (by kernel_rfl) (fun _ _ _ h => h) (Or.inl ⟨by rfl, ?_⟩) (by assumption) ?_
  · intro W_ hSw
    obtain ⟨s0, s1, s2⟩ := hSw
    have q0 := (blk_cell s0 0).trans rfl
    have q1 := (blk_cell s0 1).trans rfl
    have qh := (blk_cell s1 0).trans rfl
    have RL := run_look s2 k
    rw [HV.out] at RL
    clear s0 s1 s2
    first | (go_simp; done) | (go_simp; with_reducible rfl) | (go_simp; rfl)
  try simp only [Act.put, List.getElem_toArray, List.getElem_cons_succ, List.getElem_cons_zero, List.setIfInBounds_toArray, List.set_cons_zero, List.set_cons_succ]
  refine wpAnyH_take (i := 6) (v := .int .i64 nv) rfl (by kernel_rfl) (by kernel_rfl) (by kernel_rfl) (fun _ _ _ h => h) (Or.inl ⟨by rfl, ?_⟩) (by assumption) ?_
  · intro W_ hSw
    obtain ⟨s0, s1, s2⟩ := hSw
    have q0 := (blk_cell s0 0).trans rfl
    have q1 := (blk_cell s0 1).trans rfl
    have qh := (blk_cell s1 0).trans rfl
    clear s0 s1 s2
    first | (go_simp; done) | (go_simp; with_reducible rfl) | (go_simp; rfl)
  try simp only [Act.put, List.getElem_toArray, List.getElem_cons_succ, List.getElem_cons_zero, List.setIfInBounds_toArray, List.set_cons_zero, List.set_cons_succ]
  refine wpAnyH_take (i := 7) (v := .int .i64 nv) rfl (by kernel_rfl) (by kernel_rfl) (by kernel_rfl) (fun _ _ _ h => h) (Or.inl ⟨by rfl, ?_⟩) (by assumption) ?_
  · intro W_ hSw
    obtain ⟨s0, s1, s2⟩ := hSw
    have q0 := (blk_cell s0 0).trans rfl
    have q1 := (blk_cell s0 1).trans rfl
    have qh := (blk_cell s1 0).trans rfl
    clear s0 s1 s2
    first | (go_simp; done) | (go_simp; with_reducible rfl) | (go_simp; rfl)
  try simp only [Act.put, List.getElem_toArray, List.getElem_cons_succ, List.getElem_cons_zero, List.setIfInBounds_toArray, List.set_cons_zero, List.set_cons_succ]
  clear hHeld
  refine wpAnyH_done (by kernel_rfl) ?_ _
  go_wp2_with fail
  refine region_drew (fun W_ => W_.heap[g]? = some (.cells #[.pointer (some ⟨d, 0, none⟩), .map (some r)] 54 (0, 0)) ∧ W_.heap[gh]? = some (.cells #[.int .i64 k] 3 (0, 0))) (by kernel_rfl) (fun d2' hd2 he2 => ?_)
  have L3 := Aside0.mk (L2.out.below hd2)
  have B3 := Aside0.mk (old_blk B2.out hd2)
  have BD2 := Aside0.mk (below_tr BD1.out hd2)
  refine ⟨⟨L3.out.blk, B3.out⟩, fun hHeld => ?_⟩
  refine wpAnyH_take (i := 0) (v := .pointer (some ⟨g, 0, none⟩)) rfl (by kernel_rfl) (by kernel_rfl) (by kernel_rfl) (fun _ _ _ h => h) (Or.inl ⟨by rfl, ?_⟩) (by assumption) ?_
  · intro W_ hSw
    obtain ⟨s0, s1⟩ := hSw
    have q0 := (blk_cell s0 0).trans rfl
    have q1 := (blk_cell s0 1).trans rfl
    have qh := (blk_cell s1 0).trans rfl
    clear s0 s1
    first | (go_simp; done) | (go_simp; with_reducible rfl) | (go_simp; rfl)
  try simp only [Act.put, List.getElem_toArray, List.getElem_cons_succ, List.getElem_cons_zero, List.setIfInBounds_toArray, List.set_cons_zero, List.set_cons_succ]
  refine wpAnyH_take (i := 1) (v := .pointer (some ⟨g, 0, none⟩)) rfl (by kernel_rfl) (by kernel_rfl) (by kernel_rfl) (fun _ _ _ h => h) (Or.inl ⟨by rfl, ?_⟩) (by assumption) ?_
  · intro W_ hSw
    obtain ⟨s0, s1⟩ := hSw
    have q0 := (blk_cell s0 0).trans rfl
    have q1 := (blk_cell s0 1).trans rfl
    have qh := (blk_cell s1 0).trans rfl
    clear s0 s1
    first | (go_simp; done) | (go_simp; with_reducible rfl) | (go_simp; rfl)
  try simp only [Act.put, List.getElem_toArray, List.getElem_cons_succ, List.getElem_cons_zero, List.setIfInBounds_toArray, List.set_cons_zero, List.set_cons_succ]
  refine wpAnyH_take (i := 2) (v := .pointer (some ⟨g, 1, none⟩)) rfl (by kernel_rfl) (by kernel_rfl) (by kernel_rfl) (fun _ _ _ h => h) (Or.inl ⟨by rfl, ?_⟩) (by assumption) ?_
  · intro W_ hSw
    obtain ⟨s0, s1⟩ := hSw
    have q0 := (blk_cell s0 0).trans rfl
    have q1 := (blk_cell s0 1).trans rfl
    have qh := (blk_cell s1 0).trans rfl
    clear s0 s1
    first | (go_simp; done) | (go_simp; with_reducible rfl) | (go_simp; rfl)
  try simp only [Act.put, List.getElem_toArray, List.getElem_cons_succ, List.getElem_cons_zero, List.setIfInBounds_toArray, List.set_cons_zero, List.set_cons_succ]
  refine wpAnyH_take (i := 3) (v := .map (some r)) rfl (by kernel_rfl) (by kernel_rfl) (by kernel_rfl) (fun _ _ _ h => h) (Or.inl ⟨by rfl, ?_⟩) (by assumption) ?_
  · intro W_ hSw
    obtain ⟨s0, s1⟩ := hSw
    have q0 := (blk_cell s0 0).trans rfl
    have q1 := (blk_cell s0 1).trans rfl
    have qh := (blk_cell s1 0).trans rfl
    clear s0 s1
    first | (go_simp; done) | (go_simp; with_reducible rfl) | (go_simp; rfl)
  try simp only [Act.put, List.getElem_toArray, List.getElem_cons_succ, List.getElem_cons_zero, List.setIfInBounds_toArray, List.set_cons_zero, List.set_cons_succ]
  refine wpAnyH_take (i := 4) (v := .int .i64 k) rfl (by kernel_rfl) (by kernel_rfl) (by kernel_rfl) (fun _ _ _ h => h) (Or.inl ⟨by rfl, ?_⟩) (by assumption) ?_
  · intro W_ hSw
    obtain ⟨s0, s1⟩ := hSw
    have q0 := (blk_cell s0 0).trans rfl
    have q1 := (blk_cell s0 1).trans rfl
    have qh := (blk_cell s1 0).trans rfl
    clear s0 s1
    first | (go_simp; done) | (go_simp; with_reducible rfl) | (go_simp; rfl)
  try simp only [Act.put, List.getElem_toArray, List.getElem_cons_succ, List.getElem_cons_zero, List.setIfInBounds_toArray, List.set_cons_zero, List.set_cons_succ]
  clear hHeld
  refine next_one (i := 5) (by kernel_rfl) ?_
  refine cons_del 5 20 21 r k M (by kernel_rfl) (by kernel_rfl) (by kernel_rfl) L3.out.map (fun o1 w5 hw5 hm5 => ?_) AllReadyH.nil
  have HW5 := Aside0.mk hw5
  have HM5 := Aside0.mk hm5
  have VO3 := Aside0.mk (HVO.out.below BD2.out)
  have DL := Aside0.mk (L3.out.del VO3.out HLK.out (wz := w5) (fun j hj => by rw [HW5.out]; exact oset_other hj o1) HM5.out (by rw [HW5.out, oset_size]; exact Nat.le_refl _))
  have FR5 := Aside0.mk (del_frl L3.out HW5.out DL.out.2.2.2)
  have B5 := Aside0.mk (show w5.heap[gh]? = some (.cells #[.int .i64 k] 3 (0, 0)) from by
    rw [HW5.out]
    refine (oset_other (fun e => ?_) o1).trans B3.out
    have := GH.out
    have := LA.out.map.lt
    omega)
  refine ⟨⟨DL.out.1.blk, B5.out⟩, ?_⟩
  clear hw5 hm5
  refine wpAnyH_done (by kernel_rfl) ?_ _
  have HALL := Aside0.mk (lnall2_calls base g q (cut S k) _ w5 ⟨d, r, A, delM M k, DL.out.1, rfl⟩)
  have BH6 := Aside0.mk (fun (w6 : World) (hb : Below w5.heap.size w5 w6) => old_blk B5.out hb)
  have s1 : IntKind.i64.wrap ((nv : Int) + (m : Int)) = (nv : Int) + (m : Int) := by have := HBD.out; exact dr_i _ (by omega)
  have s2 : wrap64 ((nv : Int) + (m : Int)) = (nv : Int) + (m : Int) := by have := HBD.out; exact dr_w _ (by omega)
  have s3 : IntKind.i64.wrap ((nv : Int) + (m : Int) - (lo : Int)) = (nv : Int) + (mo : Int) := dr_e nv m lo mo HSUM.out HBD.out
  have s4' : wrap64 ((nv : Int) + (m : Int) - (lo : Int)) = (nv : Int) + (mo : Int) := dr_f nv m lo mo HSUM.out HBD.out
  go_wp2_with (first | (go_at_call 24; (with_reducible refine HALL.out.mono ?_); rintro e w6 ⟨u, rfl, hO, hB, hE⟩; obtain ⟨A23, c23, hu23, _⟩ := hO.form; rw [← HMQ.out] at hu23; subst hu23; have CL := Aside0.mk (clone_calls _ _ _ w6 hO hE HQ2.out); have BA := Aside0.mk hB; have BHQ := Aside0.mk (BH6.out w6 hB); replace BH6 := BHQ; clear hO hB hE HALL BHQ) | (go_at_call 33; (with_reducible refine CL.out.mono ?_); rintro e w7 ⟨u2, rfl, hO, hB⟩; obtain ⟨A25, c25, hu25, _⟩ := hO.form; rw [← HMQ.out] at hu25; subst hu25; have BC := Aside0.mk hB; have KH7 := Aside0.mk (show w7.cell? ⟨gh, 0, none⟩ = some (.int .i64 k) from (blk_cell (old_blk BH6.out hB) 0).trans rfl); have DF0 := dfn_calls q w6.heap.size A25 c25 m HMQ.out k gh w7 hO KH7.out (fun ad e => by have := (OwnJ.adr hO e).1; have := blk_lt BH6.out; omega) (by rw [HMQ.out]; exact HQ2.out) hB.size; rw [← HLO.out] at DF0; have DF := Aside0.mk DF0; clear hO hB CL DF0) | (go_at_call 32; (with_reducible refine DF.out.mono ?_); rintro e w8 ⟨A27, c27, rfl, hR, hF1, hF2, hF3⟩; have R8 := Aside0.mk hR; have F81 := Aside0.mk hF1; have F82 := Aside0.mk hF2; have F83 := Aside0.mk hF3; have HNEW := Aside0.mk (new_calls (oth k q) A27 c27 lo HLO.out w8 hR HB4.out); clear hR hF1 hF2 hF3 DF) | (go_at_call 25; (with_reducible refine HNEW.out.mono ?_); rintro e w9 ⟨d2, A2, rfl, hd, hb⟩; have HD := Aside0.mk hd; have HB9 := Aside0.mk hb; clear hd hb HNEW; have L6 := Aside0.mk (DL.out.1.below BA.out); have L7 := Aside0.mk (L6.out.below BC.out); have L8 := Aside0.mk (L7.out.kept (w1 := w8) (fun j hj => F82.out j (L6.out.foot_lt j hj).2)); have FR8 := Aside0.mk (show FrL w5 w8 base (foot g d r A (delM M k)) (foot g d r A (delM M k)) from ⟨Nat.le_trans (Nat.le_trans BA.out.size BC.out.size) F83.out, fun j hj _ => ((F82.out j (Nat.lt_of_lt_of_le hj BA.out.size)).trans (BC.out.block j (Nat.lt_of_lt_of_le hj BA.out.size))).trans (BA.out.block j hj), fun w0 e hb0 => F81.out w0 (by have := DL.out.1.base_le; have := BA.out.size; omega) (by have := DL.out.1.base_le; have := BA.out.size; have := BC.out.size; omega) (below_all BC.out (by have := DL.out.1.base_le; have := BA.out.size; omega) (below_all BA.out (by have := DL.out.1.base_le; omega) hb0)), fun j hj => .inl hj⟩); obtain ⟨k0, k1, z0, z1⟩ := (L8.out.below HB9.out).cells) | ((with_reducible refine gate_store (t := 51) (p := 32) rfl ?_); refine store_event2 (w1 := w9.setCell ⟨g, 0, none⟩ (.pointer (some ⟨d2, 0, none⟩))) ?hg ?hn ?hr ?_; (case hg => rfl); (case hn => rfl); (case hr => first | (go_simp; done) | (go_simp; rfl)); intro wz hW_; have HWZ := Aside0.mk hW_; clear hW_ k0 k1 z0 z1; have NQ := Aside0.mk (L8.out.newq HB9.out HD.out HWZ.out); have E1 : (binOp .eql 52 (.map (some r)) (.map none)).run Try.prog wz = .ok (.bool false) wz := run_eql_map_nil wz _ _ _ (some r) Try.underlying52; obtain ⟨k0, k1, z0, z1⟩ := NQ.out.1.cells))
  go_ret
  have F5 : FrL w w5 base (foot g d r A M) (foot g d r A (delM M k)) := (FrL.of_below _ BD2.out LA.out.base_le).trans FR5.out
  exact ⟨rfl, _, ⟨d2, r, A2, delM M k, NQ.out.1, rfl⟩, (F5.trans FR8.out).trans NQ.out.2⟩
set_option maxHeartbeats 40000000 in
set_option maxRecDepth 100000 in
theorem lndrop_zero (base g : Nat) (k : Int) (w : World) (hg0 : w.heap[g]? = some (.cells #[.pointer none, .map none] 54 (0, 0))) (hbg : base ≤ g) :
    Calls Try.prog 20 #[.pointer (some ⟨g, 0, none⟩), .int .i64 k] w fun e w' => e = .returned (.int .i64 0) ∧ ∃ F', Ln w' base g [] (fun _ => []) F' ∧ FrL w w' base (fun j => j = g) F' := by
  have hu := Try.underlying3
  have G0 := Aside0.mk hg0
  have HBG := Aside0.mk hbg
  have GLT := Aside0.mk (blk_lt hg0)
  obtain ⟨q, hq⟩ : ∃ q : List Jb, q = [] := ⟨_, rfl⟩
  have HQ := Aside0.mk hq
  have HMQ := Aside0.mk (show 0 = q.length from by rw [hq]; rfl)
  obtain ⟨lo, hlo⟩ : ∃ lo, lo = (oth k q).length := ⟨_, rfl⟩
  have HLO := Aside0.mk hlo
  have HL0 := Aside0.mk (show lo = 0 from by rw [hlo, hq]; rfl)
  have HQ2 := Aside0.mk (show q.length ≤ 2097152 from by rw [hq]; exact Nat.zero_le _)
  have HB4 := Aside0.mk (show (oth k q).length < 1048576 from by rw [hq]; exact Nat.zero_lt_succ _)
  obtain ⟨m, hm⟩ : ∃ m : Nat, m = 0 := ⟨_, rfl⟩
  have HM0 := Aside0.mk hm
  rw [← hm] at HMQ
  clear hg0 hbg hq hlo hm
  go_enter Try.func20, Try.ntmps20
  go_wp2_with (first | ((with_reducible refine gate_dst (N := 3) rfl ?_); refine box_event ?hg (N := 3) ?hd (cs := #[.int .i64 k]) (t := 3) ?hr ?_; (case hd => rfl); (case hg => rfl); (case hr => first | (go_simp; done) | (go_simp; rfl)); intro gh hg_ w1 hbox hb; have GH := Aside0.mk hg_; have BH := Aside0.mk hbox; have BW1 := Aside0.mk hb; clear hbox hb hg_))
  have G1 := Aside0.mk (old_blk G0.out BW1.out)
  refine region_drew (fun W_ => W_.heap[g]? = some (.cells #[.pointer none, .map none] 54 (0, 0)) ∧ W_.heap[gh]? = some (.cells #[.int .i64 k] 3 (0, 0))) (by kernel_rfl) (fun d1 hd1 he1 => ?_)
  have G2 := Aside0.mk (old_blk G1.out hd1)
  have B2 := Aside0.mk (old_blk BH.out hd1)
  have BD1 := Aside0.mk (below_tr BW1.out hd1)
  refine ⟨⟨G2.out, B2.out⟩, fun hHeld => ?_⟩
  refine wpAnyH_take (i := 0) (v := .pointer (some ⟨g, 0, none⟩)) rfl (by kernel_rfl) (by kernel_rfl) (by kernel_rfl) (fun _ _ _ h => h) (Or.inl ⟨by rfl, ?_⟩) (by assumption) ?_
  · intro W_ hSw
    obtain ⟨s0, s1⟩ := hSw
    have q0 := (blk_cell s0 0).trans rfl
    have q1 := (blk_cell s0 1).trans rfl
    have qh := (blk_cell s1 0).trans rfl
    clear s0 s1
    first | (go_simp; done) | (go_simp; with_reducible rfl) | (go_simp; rfl)
  try simp only [Act.put, List.getElem_toArray, List.getElem_cons_succ, List.getElem_cons_zero, List.setIfInBounds_toArray, List.set_cons_zero, List.set_cons_succ]
  refine wpAnyH_take (i := 1) (v := .pointer (some ⟨g, 0, none⟩)) rfl (by kernel_rfl) (by kernel_rfl) (by kernel_rfl) (fun _ _ _ h => h) (Or.inl ⟨by rfl, ?_⟩) (by assumption) ?_
  · intro W_ hSw
    obtain ⟨s0, s1⟩ := hSw
    have q0 := (blk_cell s0 0).trans rfl
    have q1 := (blk_cell s0 1).trans rfl
    have qh := (blk_cell s1 0).trans rfl
    clear s0 s1
    first | (go_simp; done) | (go_simp; with_reducible rfl) | (go_simp; rfl)
  try simp only [Act.put, List.getElem_toArray, List.getElem_cons_succ, List.getElem_cons_zero, List.setIfInBounds_toArray, List.set_cons_zero, List.set_cons_succ]
  refine wpAnyH_take (i := 2) (v := .pointer (some ⟨g, 1, none⟩)) rfl (by kernel_rfl) (by kernel_rfl) (by kernel_rfl) (fun _ _ _ h => h) (Or.inl ⟨by rfl, ?_⟩) (by assumption) ?_
  · intro W_ hSw
    obtain ⟨s0, s1⟩ := hSw
    have q0 := (blk_cell s0 0).trans rfl
    have q1 := (blk_cell s0 1).trans rfl
    have qh := (blk_cell s1 0).trans rfl
    clear s0 s1
    first | (go_simp; done) | (go_simp; with_reducible rfl) | (go_simp; rfl)
  try simp only [Act.put, List.getElem_toArray, List.getElem_cons_succ, List.getElem_cons_zero, List.setIfInBounds_toArray, List.set_cons_zero, List.set_cons_succ]
  refine wpAnyH_take (i := 3) (v := .map none) rfl (by kernel_rfl) (by kernel_rfl) (by kernel_rfl) (fun _ _ _ h => h) (Or.inl ⟨by rfl, ?_⟩) (by assumption) ?_
  · intro W_ hSw
    obtain ⟨s0, s1⟩ := hSw
    have q0 := (blk_cell s0 0).trans rfl
    have q1 := (blk_cell s0 1).trans rfl
    have qh := (blk_cell s1 0).trans rfl
    clear s0 s1
    first | (go_simp; done) | (go_simp; with_reducible rfl) | (go_simp; rfl)
  try simp only [Act.put, List.getElem_toArray, List.getElem_cons_succ, List.getElem_cons_zero, List.setIfInBounds_toArray, List.set_cons_zero, List.set_cons_succ]
  refine wpAnyH_take (i := 4) (v := .int .i64 k) rfl (by kernel_rfl) (by kernel_rfl) (by kernel_rfl) (fun _ _ _ h => h) (Or.inl ⟨by rfl, ?_⟩) (by assumption) ?_
  · intro W_ hSw
    obtain ⟨s0, s1⟩ := hSw
    have q0 := (blk_cell s0 0).trans rfl
    have q1 := (blk_cell s0 1).trans rfl
    have qh := (blk_cell s1 0).trans rfl
    clear s0 s1
    first | (go_simp; done) | (go_simp; with_reducible rfl) | (go_simp; rfl)
  try simp only [Act.put, List.getElem_toArray, List.getElem_cons_succ, List.getElem_cons_zero, List.setIfInBounds_toArray, List.set_cons_zero, List.set_cons_succ]
  refine wpAnyH_take (i := 5) (v := .slice none 0 0) rfl (by kernel_rfl) (by kernel_rfl) (by kernel_rfl) (fun _ _ _ h => h) (Or.inl ⟨by rfl, ?_⟩) (by assumption) ?_
  · intro W_ hSw
    obtain ⟨s0, s1⟩ := hSw
    have q0 := (blk_cell s0 0).trans rfl
    have q1 := (blk_cell s0 1).trans rfl
    have qh := (blk_cell s1 0).trans rfl
    have RL := run_look_nil W_ k
    clear s0 s1
    first | (go_simp; done) | (go_simp; with_reducible rfl) | (go_simp; rfl)
  try simp only [Act.put, List.getElem_toArray, List.getElem_cons_succ, List.getElem_cons_zero, List.setIfInBounds_toArray, List.set_cons_zero, List.set_cons_succ]
  refine wpAnyH_take (i := 6) (v := .int .i64 0) rfl (by kernel_rfl) (by kernel_rfl) (by kernel_rfl) (fun _ _ _ h => h) (Or.inl ⟨by rfl, ?_⟩) (by assumption) ?_
  · intro W_ hSw
    obtain ⟨s0, s1⟩ := hSw
    have q0 := (blk_cell s0 0).trans rfl
    have q1 := (blk_cell s0 1).trans rfl
    have qh := (blk_cell s1 0).trans rfl
    clear s0 s1
    first | (go_simp; done) | (go_simp; with_reducible rfl) | (go_simp; rfl)
  try simp only [Act.put, List.getElem_toArray, List.getElem_cons_succ, List.getElem_cons_zero, List.setIfInBounds_toArray, List.set_cons_zero, List.set_cons_succ]
  refine wpAnyH_take (i := 7) (v := .int .i64 0) rfl (by kernel_rfl) (by kernel_rfl) (by kernel_rfl) (fun _ _ _ h => h) (Or.inl ⟨by rfl, ?_⟩) (by assumption) ?_
  · intro W_ hSw
    obtain ⟨s0, s1⟩ := hSw
    have q0 := (blk_cell s0 0).trans rfl
    have q1 := (blk_cell s0 1).trans rfl
    have qh := (blk_cell s1 0).trans rfl
    clear s0 s1
    first | (go_simp; done) | (go_simp; with_reducible rfl) | (go_simp; rfl)
  try simp only [Act.put, List.getElem_toArray, List.getElem_cons_succ, List.getElem_cons_zero, List.setIfInBounds_toArray, List.set_cons_zero, List.set_cons_succ]
  clear hHeld
  refine wpAnyH_done (by kernel_rfl) ?_ _
  go_wp2_with fail
  refine region_drew (fun W_ => W_.heap[g]? = some (.cells #[.pointer none, .map none] 54 (0, 0)) ∧ W_.heap[gh]? = some (.cells #[.int .i64 k] 3 (0, 0))) (by kernel_rfl) (fun w5 hd2 he2 => ?_)
  have G5 := Aside0.mk (old_blk G2.out hd2)
  have B5 := Aside0.mk (old_blk B2.out hd2)
  have BD2 := Aside0.mk (below_tr BD1.out hd2)
  refine ⟨⟨G5.out, B5.out⟩, fun hHeld => ?_⟩
  refine wpAnyH_take (i := 0) (v := .pointer (some ⟨g, 0, none⟩)) rfl (by kernel_rfl) (by kernel_rfl) (by kernel_rfl) (fun _ _ _ h => h) (Or.inl ⟨by rfl, ?_⟩) (by assumption) ?_
  · intro W_ hSw
    obtain ⟨s0, s1⟩ := hSw
    have q0 := (blk_cell s0 0).trans rfl
    have q1 := (blk_cell s0 1).trans rfl
    have qh := (blk_cell s1 0).trans rfl
    clear s0 s1
    first | (go_simp; done) | (go_simp; with_reducible rfl) | (go_simp; rfl)
  try simp only [Act.put, List.getElem_toArray, List.getElem_cons_succ, List.getElem_cons_zero, List.setIfInBounds_toArray, List.set_cons_zero, List.set_cons_succ]
  refine wpAnyH_take (i := 1) (v := .pointer (some ⟨g, 0, none⟩)) rfl (by kernel_rfl) (by kernel_rfl) (by kernel_rfl) (fun _ _ _ h => h) (Or.inl ⟨by rfl, ?_⟩) (by assumption) ?_
  · intro W_ hSw
    obtain ⟨s0, s1⟩ := hSw
    have q0 := (blk_cell s0 0).trans rfl
    have q1 := (blk_cell s0 1).trans rfl
    have qh := (blk_cell s1 0).trans rfl
    clear s0 s1
    first | (go_simp; done) | (go_simp; with_reducible rfl) | (go_simp; rfl)
  try simp only [Act.put, List.getElem_toArray, List.getElem_cons_succ, List.getElem_cons_zero, List.setIfInBounds_toArray, List.set_cons_zero, List.set_cons_succ]
  refine wpAnyH_take (i := 2) (v := .pointer (some ⟨g, 1, none⟩)) rfl (by kernel_rfl) (by kernel_rfl) (by kernel_rfl) (fun _ _ _ h => h) (Or.inl ⟨by rfl, ?_⟩) (by assumption) ?_
  · intro W_ hSw
    obtain ⟨s0, s1⟩ := hSw
    have q0 := (blk_cell s0 0).trans rfl
    have q1 := (blk_cell s0 1).trans rfl
    have qh := (blk_cell s1 0).trans rfl
    clear s0 s1
    first | (go_simp; done) | (go_simp; with_reducible rfl) | (go_simp; rfl)
  try simp only [Act.put, List.getElem_toArray, List.getElem_cons_succ, List.getElem_cons_zero, List.setIfInBounds_toArray, List.set_cons_zero, List.set_cons_succ]
  refine wpAnyH_take (i := 3) (v := .map none) rfl (by kernel_rfl) (by kernel_rfl) (by kernel_rfl) (fun _ _ _ h => h) (Or.inl ⟨by rfl, ?_⟩) (by assumption) ?_
  · intro W_ hSw
    obtain ⟨s0, s1⟩ := hSw
    have q0 := (blk_cell s0 0).trans rfl
    have q1 := (blk_cell s0 1).trans rfl
    have qh := (blk_cell s1 0).trans rfl
    clear s0 s1
    first | (go_simp; done) | (go_simp; with_reducible rfl) | (go_simp; rfl)
  try simp only [Act.put, List.getElem_toArray, List.getElem_cons_succ, List.getElem_cons_zero, List.setIfInBounds_toArray, List.set_cons_zero, List.set_cons_succ]
  refine wpAnyH_take (i := 4) (v := .int .i64 k) rfl (by kernel_rfl) (by kernel_rfl) (by kernel_rfl) (fun _ _ _ h => h) (Or.inl ⟨by rfl, ?_⟩) (by assumption) ?_
  · intro W_ hSw
    obtain ⟨s0, s1⟩ := hSw
    have q0 := (blk_cell s0 0).trans rfl
    have q1 := (blk_cell s0 1).trans rfl
    have qh := (blk_cell s1 0).trans rfl
    clear s0 s1
    first | (go_simp; done) | (go_simp; with_reducible rfl) | (go_simp; rfl)
  try simp only [Act.put, List.getElem_toArray, List.getElem_cons_succ, List.getElem_cons_zero, List.setIfInBounds_toArray, List.set_cons_zero, List.set_cons_succ]
  clear hHeld
  refine next_one (i := 5) (by kernel_rfl) ?_
  refine cons_del_nil 5 20 21 k (by kernel_rfl) (by kernel_rfl) (by kernel_rfl) ⟨⟨G5.out, B5.out⟩, ?_⟩ AllReadyH.nil
  refine wpAnyH_done (by kernel_rfl) ?_ _
  have HALL := Aside0.mk (lnall_none g none w5 ((blk_cell G5.out 0).trans rfl) (span_nil w5))
  have s1 : IntKind.i64.wrap (0 + (m : Int)) = 0 := by rw [HM0.out]; rfl
  have s2 : IntKind.i64.wrap (m : Int) = 0 := by rw [HM0.out]; rfl
  have s3 : wrap64 (m : Int) = 0 := by have := HM0.out; rw [dr_w _ (by omega)]; omega
  have s4' : IntKind.i64.wrap (0 - (lo : Int)) = 0 := by rw [HL0.out]; rfl
  have s5 : wrap64 (-(lo : Int)) = 0 := by have := HL0.out; rw [dr_w _ (by omega)]; omega
  have s6 : IntKind.i64.wrap (-(lo : Int)) = 0 := by rw [HL0.out]; rfl
  have s7 : IntKind.i64.wrap ((m : Int) - (lo : Int)) = 0 := by rw [HL0.out, HM0.out]; rfl
  go_wp2_with (first | (go_at_call 24; (with_reducible refine HALL.out.mono ?_); rintro e w6 ⟨rfl, rfl⟩; have CL := Aside0.mk (clone_calls (.slice none 0 0) w5.heap.size q w5 (by rw [HQ.out]; exact own_nil _ _ _ _) (fun _ => rfl) HQ2.out); have BH6 := Aside0.mk B5.out; clear HALL) | (go_at_call 33; (with_reducible refine CL.out.mono ?_); rintro e w7 ⟨u2, rfl, hO, hB⟩; obtain ⟨A25, c25, hu25, _⟩ := hO.form; rw [← HMQ.out] at hu25; subst hu25; have BC := Aside0.mk hB; have KH7 := Aside0.mk (show w7.cell? ⟨gh, 0, none⟩ = some (.int .i64 k) from (blk_cell (old_blk BH6.out hB) 0).trans rfl); have DF0 := dfn_calls q w5.heap.size A25 c25 m HMQ.out k gh w7 hO KH7.out (fun ad e => by have := (OwnJ.adr hO e).1; have := blk_lt BH6.out; omega) (by rw [HMQ.out]; exact HQ2.out) hB.size; rw [← HLO.out] at DF0; have DF := Aside0.mk DF0; clear hO hB CL DF0) | (go_at_call 32; (with_reducible refine DF.out.mono ?_); rintro e w8 ⟨A27, c27, rfl, hR, hF1, hF2, hF3⟩; have R8 := Aside0.mk hR; have F81 := Aside0.mk hF1; have F82 := Aside0.mk hF2; have F83 := Aside0.mk hF3; have HNEW := Aside0.mk (new_calls (oth k q) A27 c27 lo HLO.out w8 hR HB4.out); clear hR hF1 hF2 hF3 DF) | (go_at_call 25; (with_reducible refine HNEW.out.mono ?_); rintro e w9 ⟨d2, A2, rfl, hd, hb⟩; have HD := Aside0.mk hd; have HB9 := Aside0.mk hb; clear hd hb HNEW; have G8 := Aside0.mk (show w8.heap[g]? = some (.cells #[.pointer none, .map none] 54 (0, 0)) from (F82.out g (blk_lt G5.out)).trans (old_blk G5.out BC.out)); have G9 := Aside0.mk (old_blk G8.out HB9.out); have k0 := (blk_cell G9.out 0).trans rfl; have k1 := (blk_cell G9.out 1).trans rfl; have z0 := blk_frozen G9.out 0; have z1 := blk_frozen G9.out 1) | ((with_reducible refine gate_store (t := 51) (p := 32) rfl ?_); refine store_event2 (w1 := w9.setCell ⟨g, 0, none⟩ (.pointer (some ⟨d2, 0, none⟩))) ?hg ?hn ?hr ?_; (case hg => rfl); (case hn => rfl); (case hr => first | (go_simp; done) | (go_simp; rfl)); intro wz hW_; have HWZ := Aside0.mk hW_; clear hW_ k0 k1 z0 z1; have GZ := Aside0.mk (show wz.heap[g]? = some (.cells #[.pointer (some ⟨d2, 0, none⟩), .map none] 54 (0, 0)) from by rw [HWZ.out]; exact blk_put G9.out 0 _ rfl); have E1 : (binOp .eql 52 (.map none) (.map none)).run Try.prog wz = .ok (.bool true) wz := run_eql_map_nil wz _ _ _ none Try.underlying52; have k0 := (blk_cell GZ.out 0).trans rfl; have k1 := (blk_cell GZ.out 1).trans rfl) | ((with_reducible refine gate_dst (N := 39) rfl ?_); refine map_event ?hg (N := 39) ?hd (t := 52) ?ho ?hr ?_; (case hd => rfl); (case hg => rfl); (case ho => rfl); (case hr => rfl); intro r2 hr wm hmap hb2; have HR2 := Aside0.mk hr; have HM2 := Aside0.mk hmap; have BM2 := Aside0.mk hb2; clear hr hmap hb2 k0 k1 E1; have GM := Aside0.mk (old_blk GZ.out BM2.out); have k0 := (blk_cell GM.out 0).trans rfl; have k1 := (blk_cell GM.out 1).trans rfl; have z0 := blk_frozen GM.out 0; have z1 := blk_frozen GM.out 1) | ((with_reducible refine gate_store (t := 52) (p := 41) rfl ?_); refine store_event2 (w1 := wm.setCell ⟨g, 1, none⟩ (.map (some r2))) ?hg ?hn ?hr ?_; (case hg => rfl); (case hn => rfl); (case hr => first | (go_simp; done) | (go_simp; rfl)); intro wy hW_; have HWY := Aside0.mk hW_; clear hW_ k0 k1 z0 z1; have GZ2 := Aside0.mk (show wy.heap[g]? = some (.cells #[.pointer (some ⟨d2, 0, none⟩), .map (some r2)] 54 (0, 0)) from by rw [HWY.out]; exact blk_put GM.out 1 _ rfl)))
  go_ret
  have z1 := BD2.out.size
  have z2 := BC.out.size
  have z3 := F83.out
  have z4 := HB9.out.size
  have z5 : wz.heap.size = w9.heap.size := by rw [HWZ.out, size_set]
  have z6 := BM2.out.size
  have z7 : wy.heap.size = wm.heap.size := by rw [HWY.out, size_set]
  have z8 := GLT.out
  have z9 := HBG.out
  have hr2 : r2 = wz.heap.size := HR2.out
  have o1 : ∀ j, j ≠ g → wz.heap[j]? = w9.heap[j]? := fun j hj => by rw [HWZ.out]; exact heap_other hj _
  have o2 : ∀ j, j ≠ g → wy.heap[j]? = wm.heap[j]? := fun j hj => by rw [HWY.out]; exact heap_other hj _
  have hD := HD.out
  rw [HQ.out] at hD
  have hd2 := hD.dlt
  have hDz : DqJ wz w8.heap.size d2 A2 [] := hD.kept (o1 d2 (by omega)) (fun j e => o1 j (by have := (hD.room_lt e).1; omega))
  have hDm := hDz.below BM2.out
  have hDy : DqJ wy w8.heap.size d2 A2 [] := hDm.kept (o2 d2 (by omega)) (fun j e => o2 j (by have := (hD.room_lt e).1; omega))
  refine ⟨by first | rfl | (simp; done), _, ⟨d2, r2, A2, [], ⟨z9, by omega, GZ2.out, hDy.mono (by omega), ⟨#[], 0, (o2 r2 (by omega)).trans HM2.out, rfl⟩, fun p hp => absurd hp (by simp), List.Pairwise.nil, fun _ _ => rfl⟩, rfl⟩, ⟨by omega, fun j hj hne => ?_, fun w0 e hb0 => ?_, fun j hj => ?_⟩⟩
  · exact (o2 j hne).trans ((BM2.out.block j (by omega)).trans ((o1 j hne).trans ((HB9.out.block j (by omega)).trans ((F82.out j (by omega)).trans ((BC.out.block j (by omega)).trans (BD2.out.block j hj))))))
  · rw [HWY.out]
    refine below_set (below_all BM2.out (by omega) ?_) (by omega)
    rw [HWZ.out]
    exact below_set (below_all HB9.out (by omega) (F81.out w0 (by omega) (by omega) (below_all BC.out (by omega) (below_all BD2.out (by omega) hb0)))) (by omega)
  · rcases hj with e | e | e | e | ⟨p, hp, _⟩
    · exact .inl e
    · exact .inr (by omega)
    · exact .inr (by omega)
    · exact .inr (by have := (hD.room_lt e).1; omega)
    · exact absurd hp (by simp)
end Go.Proofs.Ytnegagkjhnpgmaa.Sc
