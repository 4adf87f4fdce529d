/- Jobs of one handle are done in order: the plain part. -/
import Derived.Test.YtnegagkjhnpgmaaScRow
namespace Go.Proofs.Ytnegagkjhnpgmaa.Sc
open Go.RowKit
set_option linter.unusedVariables false
set_option linter.unusedSimpArgs false
/-- What lies aside behind a Next that waits for one handle. -/
def addS (S : Int → List Jb) (b : Int) (pre : List Jb) : Int → List Jb := fun h => if h = b then S b ++ pre else S h
theorem nx_one (b : Int) : ∀ (q : List Jb) (S : Int → List Jb), ∃ pre, (∀ y ∈ pre, y.h = b) ∧ ((nx [b] q S = (none, [], addS S b pre) ∧ q = pre) ∨ (∃ x q2, x.h ≠ b ∧ q = pre ++ x :: q2 ∧ nx [b] q S = (some x, q2, addS S b pre)))
  | [], S => ⟨[], by simp, .inl ⟨by
      have : addS S b [] = S := by
        funext h
        unfold addS
        by_cases e : h = b
        · rw [if_pos e, List.append_nil, e]
        · rw [if_neg e]
      rw [this]
      rfl, rfl⟩⟩
  | y :: q, S => by
    by_cases e : y.h = b
    · obtain ⟨pre, h1, h2⟩ := nx_one b q (put S y)
      have hS : addS (put S y) b pre = addS S b (y :: pre) := by
        funext h
        unfold addS put
        by_cases e2 : h = b
        · rw [if_pos e2, if_pos e2, if_pos e.symm, List.append_assoc]
          rfl
        · rw [if_neg e2, if_neg e2, if_neg (fun e3 => e2 (e3.trans e))]
      have hn : nx [b] (y :: q) S = nx [b] q (put S y) := nx_wait q S (by rw [e]; simp)
      rw [hn]
      refine ⟨y :: pre, fun z hz => ?_, ?_⟩
      · rcases List.mem_cons.1 hz with rfl | hz
        · exact e
        · exact h1 z hz
      · rw [← hS]
        rcases h2 with ⟨h3, h4⟩ | ⟨x, q2, h3, h4, h5⟩
        · exact .inl ⟨h3, by rw [h4]⟩
        · exact .inr ⟨x, q2, h3, by rw [h4]; rfl, h5⟩
    · have hn : nx [b] (y :: q) S = (some y, q, S) := nx_free q S (by simp [e])
      have hS : addS S b [] = S := by
        funext h
        unfold addS
        by_cases e2 : h = b
        · rw [if_pos e2, List.append_nil, e2]
        · rw [if_neg e2]
      exact ⟨[], by simp, .inr ⟨y, q, e, rfl, by rw [hn, hS]⟩⟩
/-- The order's invariant: each handle's jobs, those aside ahead, are in order, and behind what was done last. -/
structure OI (n : Nat) (last : Int → Int) (q : List Jb) (S : Int → List Jb) (bl : Int) (done : Nat) : Prop where
  hq : ∀ x ∈ q, 0 ≤ x.h ∧ x.h ≤ 3
  hs : ∀ h, ∀ x ∈ S h, x.h = h ∧ 0 ≤ x.h ∧ x.h ≤ 3
  only : ∀ h, h ≠ bl → S h = []
  ord : ∀ h, (S h ++ own h q).Pairwise (fun a b => a.sz < b.sz)
  big : ∀ h, ∀ x ∈ S h ++ own h q, last h < x.sz
  cnt : q.length + (S 0).length + (S 1).length + (S 2).length + (S 3).length + done = n
section
variable {n done : Nat} {last : Int → Int} {q : List Jb} {S : Int → List Jb} {bl : Int}
theorem own_nil' (k : Int) : own k [] = [] := rfl
theorem own_app (k : Int) (a b : List Jb) : own k (a ++ b) = own k a ++ own k b := List.filter_append ..
theorem own_all {k : Int} {l : List Jb} (h : ∀ x ∈ l, x.h = k) : own k l = l := List.filter_eq_self.2 fun x hx => decide_eq_true (h x hx)
theorem own_none {k : Int} {l : List Jb} (h : ∀ x ∈ l, x.h ≠ k) : own k l = [] := List.filter_eq_nil_iff.2 fun x hx => by simp [h x hx]
theorem own_mem {k : Int} {l : List Jb} {x : Jb} (h : x ∈ own k l) : x ∈ l ∧ x.h = k := by
  unfold own at h
  obtain ⟨h1, h2⟩ := List.mem_filter.1 h
  exact ⟨h1, of_decide_eq_true h2⟩
theorem oth_mem {k : Int} {l : List Jb} {x : Jb} (h : x ∈ oth k l) : x ∈ l ∧ x.h ≠ k := by
  unfold oth at h
  obtain ⟨h1, h2⟩ := List.mem_filter.1 h
  exact ⟨h1, by simpa using h2⟩
theorem own_of_oth {k h : Int} (l : List Jb) (e : h ≠ k) : own h (oth k l) = own h l := by
  unfold own oth
  rw [List.filter_filter]
  refine List.filter_congr fun x hx => ?_
  by_cases e2 : x.h = h
  · simp [e2, e]
  · simp [e2]
theorem own_of_own {k h : Int} (l : List Jb) (e : h ≠ k) : own h (own k l) = [] := own_none fun x hx e2 => e ((own_mem hx).2 ▸ e2.symm)
/-- Behind a Back all is in the line. -/
theorem OI.back (h : OI n last q S bl done) : OI n last (bk bl q S) (fun _ => []) (-1) done ∧ cut S bl = fun _ => [] := by
  have hc : cut S bl = fun _ => [] := by
    funext k
    unfold cut
    by_cases e : k = bl
    · rw [if_pos e]
    · rw [if_neg e]; exact h.only k e
  refine ⟨?_, hc⟩
  by_cases h0 : S bl = []
  · have hS : S = fun _ => [] := by
      funext k
      by_cases e : k = bl
      · rw [e, h0]
      · exact h.only k e
    have hb : bk bl q S = q := by unfold bk; rw [if_pos h0]
    rw [hb]
    subst hS
    exact ⟨h.hq, fun _ x hx => absurd hx (by simp), fun _ _ => rfl, h.ord, h.big, h.cnt⟩
  · have hb : bk bl q S = oth bl q ++ (S bl ++ own bl q) := by unfold bk; rw [if_neg h0]
    have key : ∀ k, own k (bk bl q S) = S k ++ own k q := fun k => by
      rw [hb, own_app, own_app]
      by_cases e : k = bl
      · subst e
        rw [own_none (l := oth k q) (fun x hx => (oth_mem hx).2), own_all (l := S k) (fun x hx => (h.hs k x hx).1), own_all (l := own k q) (fun x hx => (own_mem hx).2)]
        rfl
      · rw [own_of_oth q e, own_of_own q e, own_none (l := S bl) (fun x hx e2 => e (e2.symm.trans (h.hs bl x hx).1)), h.only k e]
        simp
    have hlen : (bk bl q S).length = q.length + (S bl).length := by
      rw [hb, List.length_append, List.length_append]
      have := own_oth bl q
      omega
    have hbl : 0 ≤ bl ∧ bl ≤ 3 := by
      cases hx : S bl with
      | nil => exact absurd hx h0
      | cons x l =>
        obtain ⟨h1, h2⟩ := h.hs bl x (by rw [hx]; simp)
        rw [← h1]; exact h2
    have hcn := h.cnt
    refine ⟨fun x hx => ?_, fun _ x hx => absurd hx (by simp), fun _ _ => rfl, fun k => by rw [key, List.nil_append]; exact h.ord k, fun k x hx => by rw [key, List.nil_append] at hx; exact h.big k x hx, ?_⟩
    · rw [hb] at hx
      rcases List.mem_append.1 hx with hx | hx
      · exact h.hq x (oth_mem hx).1
      · rcases List.mem_append.1 hx with hx | hx
        · exact (h.hs bl x hx).2
        · exact h.hq x (own_mem hx).1
    · rw [hlen]
      simp only [List.length_nil]
      have hz : ∀ k, k ≠ bl → (S k).length = 0 := fun k e => by rw [h.only k e]; rfl
      have hcase : bl = 0 ∨ bl = 1 ∨ bl = 2 ∨ bl = 3 := by omega
      rcases hcase with e | e | e | e
      · have := hz 1 (by omega); have := hz 2 (by omega); have := hz 3 (by omega); rw [e]; omega
      · have := hz 0 (by omega); have := hz 2 (by omega); have := hz 3 (by omega); rw [e]; omega
      · have := hz 0 (by omega); have := hz 1 (by omega); have := hz 3 (by omega); rw [e]; omega
      · have := hz 0 (by omega); have := hz 1 (by omega); have := hz 2 (by omega); rw [e]; omega
theorem addS_len (b : Int) (pre : List Jb) (hp : ∀ y ∈ pre, y.h = b ∧ 0 ≤ y.h ∧ y.h ≤ 3) : (addS (fun _ => []) b pre 0).length + (addS (fun _ => []) b pre 1).length + (addS (fun _ => []) b pre 2).length + (addS (fun _ => []) b pre 3).length = pre.length := by
  cases pre with
  | nil => simp [addS]
  | cons y pre =>
    obtain ⟨h1, h2, h3⟩ := hp y (by simp)
    have hcase : b = 0 ∨ b = 1 ∨ b = 2 ∨ b = 3 := by omega
    rcases hcase with e | e | e | e <;> subst e <;> simp [addS]
def setI (last : Int → Int) (k v : Int) : Int → Int := fun h => if h = k then v else last h
theorem OI.next (h : OI n last q (fun _ => []) (-1) done) (b : Int) :
    (∃ q2 S2, nx [b] q (fun _ => []) = (none, q2, S2) ∧ OI n last q2 S2 b done) ∨
    (∃ x q2 S2, nx [b] q (fun _ => []) = (some x, q2, S2) ∧ 0 ≤ x.h ∧ x.h ≤ 3 ∧ x.h ≠ b ∧ last x.h < x.sz ∧ OI n (setI last x.h x.sz) q2 S2 b (done + 1)) := by
  obtain ⟨pre, h1, h2⟩ := nx_one b q (fun _ => [])
  have hcn := h.cnt
  simp only [List.length_nil] at hcn
  rcases h2 with ⟨h3, h4⟩ | ⟨x, q2, h3, h4, h5⟩
  · left
    refine ⟨_, _, h3, fun x hx => absurd hx (by simp), fun k x hx => ?_, fun k e => ?_, fun k => ?_, fun k x hx => ?_, ?_⟩
    · unfold addS at hx
      split at hx
      · rename_i e
        have hx' : x ∈ pre := by simpa using hx
        exact ⟨(h1 x hx').trans e.symm, h.hq x (by rw [h4]; exact hx')⟩
      · exact absurd hx (by simp)
    · unfold addS; rw [if_neg e]
    · rw [own_nil', List.append_nil]
      unfold addS
      split
      · rename_i e
        have := h.ord b
        rw [List.nil_append, h4, own_all (l := pre) h1] at this
        exact this
      · exact List.Pairwise.nil
    · rw [own_nil', List.append_nil] at hx
      unfold addS at hx
      split at hx
      · rename_i e
        have := h.big b x (by rw [List.nil_append, h4, own_all (l := pre) h1]; simpa using hx)
        rw [e]; exact this
      · exact absurd hx (by simp)
    · have := addS_len b pre (fun y hy => ⟨h1 y hy, h.hq y (by rw [h4]; exact hy)⟩)
      simp only [List.length_nil]
      rw [h4] at hcn
      omega
  · right
    have hxm : x ∈ q := by rw [h4]; simp
    have hxo : own x.h q = x :: own x.h q2 := by
      rw [h4, own_app, own_none (l := pre) (fun y hy e => h3 (e.symm.trans (h1 y hy)))]
      unfold own
      simp
    have hxs := h.ord x.h
    rw [List.nil_append, hxo] at hxs
    refine ⟨x, q2, _, h5, (h.hq x hxm).1, (h.hq x hxm).2, h3, h.big x.h x (by rw [List.nil_append, hxo]; simp), fun y hy => h.hq y (by rw [h4]; simp [hy]), fun k y hy => ?_, fun k e => ?_, fun k => ?_, fun k y hy => ?_, ?_⟩
    · unfold addS at hy
      split at hy
      · rename_i e
        have hy' : y ∈ pre := by simpa using hy
        exact ⟨(h1 y hy').trans e.symm, h.hq y (by rw [h4]; simp [hy'])⟩
      · exact absurd hy (by simp)
    · unfold addS; rw [if_neg e]
    · have ho := h.ord k
      rw [List.nil_append, h4, own_app] at ho
      unfold addS
      by_cases e : k = b
      · rw [if_pos e]
        rw [e, own_all (l := pre) h1] at ho
        rw [e]
        have e2 : own b (x :: q2) = own b q2 := by unfold own; simp [h3]
        rw [e2] at ho
        simpa using ho
      · rw [if_neg e, List.nil_append]
        rw [own_none (l := pre) (fun y hy e2 => e (e2.symm.trans (h1 y hy))), List.nil_append] at ho
        by_cases e2 : x.h = k
        · have e3 : own k (x :: q2) = x :: own k q2 := by unfold own; simp [e2]
          rw [e3] at ho
          exact (List.pairwise_cons.1 ho).2
        · have e3 : own k (x :: q2) = own k q2 := by unfold own; simp [e2]
          rw [e3] at ho
          exact ho
    · have hb := h.big k
      rw [List.nil_append] at hb
      unfold setI
      unfold addS at hy
      by_cases e : k = b
      · rw [if_neg (fun e2 => h3 (e2.symm.trans e))]
        refine hb y ?_
        rw [if_pos e, List.nil_append] at hy
        rw [h4, own_app, e, own_all (l := pre) h1]
        have e2 : own b (x :: q2) = own b q2 := by unfold own; simp [h3]
        rw [e2, ← e]
        rw [e] at hy ⊢
        exact hy
      · rw [if_neg e, List.nil_append] at hy
        by_cases e2 : k = x.h
        · rw [if_pos e2]
          subst e2
          exact (List.pairwise_cons.1 hxs).1 y hy
        · rw [if_neg e2]
          refine hb y ?_
          rw [h4, own_app]
          refine List.mem_append_right _ ?_
          have e5 : ¬ x.h = k := fun e4 => e2 e4.symm
          have e3 : own k (x :: q2) = own k q2 := by unfold own; simp [e5]
          rw [e3]
          exact hy
    · have := addS_len b pre (fun y hy => ⟨h1 y hy, h.hq y (by rw [h4]; simp [hy])⟩)
      rw [h4, List.length_append, List.length_cons] at hcn
      omega
theorem OI.len (h : OI n last q S bl done) : q.length ≤ n ∧ done ≤ n ∧ ∀ k, (S k).length + q.length ≤ n := by
  have hc := h.cnt
  refine ⟨by omega, by omega, fun k => ?_⟩
  cases hx : S k with
  | nil => simp only [List.length_nil]; omega
  | cons x l =>
    obtain ⟨h1, h2, h3⟩ := h.hs k x (by rw [hx]; simp)
    have hcase : k = 0 ∨ k = 1 ∨ k = 2 ∨ k = 3 := by omega
    rw [← hx]
    rcases hcase with e | e | e | e <;> subst e <;> omega
end
/-- The jobs that the handles say. -/
def jo (l : List Int) (i : Nat) : Jb := ⟨l.getD i 0 % 4, none, 0, 0, (i : Int) + 1, ⟨#[]⟩⟩
def jos (l : List Int) (n : Nat) : List Jb := (List.range n).map (jo l)
theorem jos_len (l : List Int) (n : Nat) : (jos l n).length = n := by simp [jos]
theorem jos_next (l : List Int) (n : Nat) : jos l (n + 1) = jos l n ++ [jo l n] := by simp [jos, List.range_succ]
theorem jos_sorted (l : List Int) (n : Nat) : (jos l n).Pairwise (fun a b => a.sz < b.sz) := by
  unfold jos
  rw [List.pairwise_map]
  refine List.Pairwise.imp ?_ (List.pairwise_lt_range)
  intro a b h
  show (a : Int) + 1 < (b : Int) + 1
  omega
theorem jos_start (l : List Int) (n : Nat) : OI n (fun _ => 0) (jos l n) (fun _ => []) (-1) 0 := by
  refine ⟨fun x hx => ?_, fun _ x hx => absurd hx (by simp), fun _ _ => rfl, fun h => ?_, fun h x hx => ?_, by simp [jos_len]⟩
  · unfold jos at hx
    obtain ⟨i, _, rfl⟩ := List.mem_map.1 hx
    show 0 ≤ l.getD i 0 % 4 ∧ l.getD i 0 % 4 ≤ 3
    omega
  · rw [List.nil_append]
    exact (jos_sorted l n).filter _
  · rw [List.nil_append] at hx
    have hx := (own_mem hx).1
    unfold jos at hx
    obtain ⟨i, _, rfl⟩ := List.mem_map.1 hx
    show (0 : Int) < (i : Int) + 1
    omega
end Go.Proofs.Ytnegagkjhnpgmaa.Sc
