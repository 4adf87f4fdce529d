/- The deque's All, for jobs. -/
import Derived.Test.YtnegagkjhnpgmaaScNew
import Derived.Deep.AppendLies
namespace Go.Proofs.Ytnegagkjhnpgmaa.Sc
open Go.RowKit Go.Proofs.YtnegagkjhnpgmaaW.PrintWords Go.Proofs.YtnegagkjhnpgmaaW.PrintMore Go.Proofs.YtnegagkjhnpgmaaW.PrintLast Go.Proofs.Ytnegagkjhnpgmaa.Dq
set_option linter.unusedVariables false
set_option linter.unusedSimpArgs false
attribute [local go_sem] max2_int min2_int max_two min_two
attribute [local go_sem ↓] Go.wp_at_zero Go.wp_at_succ
/-- A row of jobs of one's own. -/
def OwnJ (W : World) (base : Nat) (v : Value) (L : List Jb) : Prop := W.ownsRow base 29 4 v L.length (flat L)
set_option maxHeartbeats 1000000 in
theorem span_all (g n : Nat) (hn : n ≤ 2097152) (w : World) (h2 : w.cell? ⟨g, 2, none⟩ = some (.int .i64 n)) :
    Calls Try.prog 41 #[.pointer (some ⟨g, 0, none⟩), .int .i64 0, .int .i64 (-1)] w fun e w' => e = .returned (.tuple #[.int .i64 0, .int .i64 n]) ∧ w = w' := by
  have HL := Aside0.mk (len_calls g n w h2)
  have m1 : wrap64 ((n : Int) - 1) = (n : Int) - 1 := by unfold wrap64; omega
  have m2 : wrap64 (-1 + (n : Int)) = (n : Int) - 1 := by unfold wrap64; omega
  have m3 : wrap64 ((n : Int) - 1 + 1) = (n : Int) := by unfold wrap64; omega
  have m4 : (-1 + (n : Int)) = (n : Int) - 1 := by omega
  have m5 : ((n : Int) - 1 + 1) = (n : Int) := by omega
  by_cases h0 : n = 0
  · subst h0
    go_enter Try.func41, Try.ntmps41
    go_wp2_with (first | (go_at_call 30; (with_reducible refine Calls.mono HL.out ?_); rintro e w' ⟨rfl, rfl⟩))
    go_ret2
    exact ⟨rfl, rfl⟩
  · have h1 : ¬ ((0 : Int) > (n : Int) - 1) := by omega
    have h3 : ¬ ((n : Int) - 1 < 0) := by omega
    have h4 : decide ((n : Int) - 1 < 0) = false := decide_eq_false h3
    clear h2
    go_enter Try.func41, Try.ntmps41
    go_wp2_with (first | (go_at_call 30; (with_reducible refine Calls.mono HL.out ?_); rintro e w' ⟨rfl, rfl⟩))
    go_ret2
    exact ⟨by first | rfl | simp, rfl⟩
def RelC (l : List Jb) (w : World) (v7 v8 : Value) (wr : World) : Prop :=
  ∃ k : Nat, k ≤ l.length ∧ v8 = .int .i64 k ∧ OwnJ wr w.heap.size v7 (l.take k) ∧ Below w.heap.size w wr
theorem wrap_small (k : Nat) (h : k ≤ 2097152) : wrap64 ((k : Int) + 1) = (k : Int) + 1 := by unfold wrap64; omega
theorem wrap_small2 (k : Nat) (h : k ≤ 2097152) : IntKind.i64.wrap ((k : Int) + 1) = (k : Int) + 1 := by rw [IntKind.wrap_i64]; omega
theorem lit_small (k : Nat) (h : k ≤ 2097152) : (k + 1) * 56 ≤ 140737488355328 := by omega
theorem max_small (k : Nat) (h : k ≤ 2097152) : k + 1 ≤ maxLen := by simp only [maxLen]; omega
theorem take_next (l : List Jb) (k : Nat) (hk : k < l.length) : l.take (k + 1) = l.take k ++ [l[k]'hk] := List.take_succ_eq_append_getElem hk
theorem own_next {W : World} {base k n : Nat} {v : Value} {l : List Jb} {x : Jb} (_ : (flat (l.take k)).length = k * 4) (hx : l.take (k + 1) = l.take k ++ [x]) (h : W.ownsRow base 29 4 v (k + 1) (flat (l.take k) ++ [.int .i64 x.h, .slice x.A x.n x.c, .int .i64 x.sz, .string x.ft])) (hk : k < n) (hn : n = l.length) : OwnJ W base v (l.take (k + 1)) := by
  unfold OwnJ
  rw [List.length_take_of_le (by omega), hx, flat_append]
  exact h
set_option maxHeartbeats 4000000 in
set_option maxRecDepth 100000 in
theorem cut_all (g base : Nat) (A : Option Addr) (l : List Jb) (w : World) (h : DqJ w base g A l) :
    Calls Try.prog 40 #[.pointer (some ⟨g, 0, none⟩), .int .i64 0, .int .i64 (-1)] w fun e w' => ∃ v, e = .returned v ∧ OwnJ w' w.heap.size v l ∧ Below w.heap.size w w' := by
  have huj := Try.underlying29
  obtain ⟨R, f, h⟩ := h
  have hle := h.rep.le
  have hcap := h.cap
  have HSP := Aside0.mk (span_all g l.length (by omega) w h.cells.2.2.1)
  obtain ⟨n, hn⟩ : ∃ n, n = l.length := ⟨_, rfl⟩
  rw [← hn] at HSP
  have H := Aside0.mk h
  have HC := Aside0.mk hcap
  have HE := Aside0.mk hle
  have HN := Aside0.mk hn
  obtain ⟨i0, hi0, hzz⟩ := Option.map_eq_some_iff.1 infoJ
  simp only [Prod.mk.injEq] at hzz
  have HI := Aside0.mk hi0
  have HZ0 := Aside0.mk hzz.1
  have HZ1 := Aside0.mk hzz.2.1
  have HZ2 := Aside0.mk hzz.2.2
  clear h hn hcap hle hi0 hzz
  go_enter Try.func40, Try.ntmps40
  go_wp2_with (first | (go_at_call 41; (with_reducible refine HSP.out.mono ?_); rintro e w' ⟨rfl, rfl⟩))
  go_loopw [7, 8] (fun v7 v8 wr => RelC l w v7 v8 wr) (fun _ v8 _ => n - (intOf v8).toNat)
  case atStart => exact ⟨0, Nat.zero_le _, rfl, own_nil _ _ _ _, Below.refl _ _⟩
  case round =>
    obtain ⟨k, hkb, rfl, hown, hB⟩ := hrel
    by_cases hlt : k < n
    · have hkl : k < l.length := by rw [← HN.out]; exact hlt
      have c1 : decide ((k : Int) < (n : Int)) = true := decide_eq_true (by omega)
      have c2 : decide (k < n) = true := decide_eq_true hlt
      have hd := H.out.below hB
      have hm0 : 0 < R.length := by have := HE.out; omega
      obtain ⟨r, e', hR, hbr⟩ : ∃ r, A = some ⟨r, 0, none⟩ ∧ Room wr r R ∧ base ≤ r := by
        rcases hd.room with e | h'
        · rw [e.1] at hm0; exact absurd hm0 (by simp)
        · exact h'
      subst e'
      obtain ⟨k0, k1, k2, z0, z1, z2⟩ := hd.cells
      obtain ⟨s, hs⟩ : ∃ s, s = slotN R.length f k := ⟨_, rfl⟩
      have hslt : s < R.length := by rw [hs]; exact slotN_lt (by have := HE.out; omega) hd.rep.fr
      have hat := hd.rep.at_ k hkl
      rw [← hs, List.getElem?_eq_getElem hslt] at hat
      have hxe : R[s]'hslt = l[k]'hkl := by simpa using hat
      obtain ⟨y0, y1, y2, y3⟩ := hR.at s hslt
      rw [hxe] at y0 y1 y2 y3
      have hnx := take_next l k hkl
      obtain ⟨V, hV⟩ : ∃ V, V = l[k]'hkl := ⟨_, rfl⟩
      rw [← hV] at y0 y1 y2 y3 hnx
      have hfb := hd.rep.fr
      have HS := Aside0.mk (fun (W : World) h0 h1 => slot_calls g f k R.length (some ⟨r, 0, none⟩) W h0 h1 (by have := HC.out; omega) HC.out (by have := HC.out; have := HE.out; omega))
      rw [← hs] at HS
      have hgs := H.out.lt
      have hrs := (H.out.room_lt rfl).1
      obtain ⟨m, hmm⟩ : ∃ m, m = R.length := ⟨_, rfl⟩
      rw [← hmm] at k0 HS hslt
      obtain ⟨Vh, VA, Vn, Vc, Vs, Vf⟩ := V
      have i1 : (0 : Int) ≤ (s : Int) := Int.natCast_nonneg _
      have i2 : (s : Int) < (m : Int) := by omega
      have i3 := eq_true i1
      have i4 := eq_true i2
      have hbs : w.heap.size ≤ wr.heap.size := hB.size
      have n7 : some g ≠ u7.ownBlock := fun e => by have := own_base hown g e.symm; omega
      have n8 : some r ≠ u7.ownBlock := fun e => by have := own_base hown r e.symm; omega
      have hk9 : k ≤ 2097152 := Nat.le_trans (Nat.le_of_lt hkl) (Nat.le_trans HE.out HC.out)
      have hwrap := wrap_small k hk9
      have hwrap2 := wrap_small2 k hk9
      have HLB := Aside0.mk (lit_small k hk9)
      have HLM := Aside0.mk (max_small k hk9)
      have HB := Aside0.mk hB
      have hlk : (l.take k).length = k := List.length_take_of_le (Nat.le_of_lt hkl)
      have HO := Aside0.mk (show wr.ownsRow w.heap.size 29 4 u7 k (flat (l.take k)) from by have h_ := hown; unfold OwnJ at h_; rw [hlk] at h_; exact h_)
      have HNX := Aside0.mk hnx
      have Hlt := Aside0.mk hlt
      clear hd hat hV hs hmm hm0 hfb hB hown hnx hlt hkb hkl hxe hR hbr z0 z1 z2 hslt k2 hlk hk9
      go_wp2
      go_region_held3 (fun w' => w'.cell? ⟨g, 0, none⟩ = some (.slice (some ⟨r, 0, none⟩) m m) ∧ w'.cell? ⟨g, 1, none⟩ = some (.int .i64 (f : Int)) ∧ w'.cell? ⟨r, s * 4, none⟩ = some (.int .i64 Vh) ∧ w'.cell? ⟨r, s * 4 + 1, none⟩ = some (.slice VA Vn Vc) ∧ w'.cell? ⟨r, s * 4 + 2, none⟩ = some (.int .i64 Vs) ∧ w'.cell? ⟨r, s * 4 + 3, none⟩ = some (.string Vf))
        (first | go_keep | (go_split_ands; refine ⟨?_, ?_, ?_, ?_, ?_, ?_⟩ <;> (rw [hgrow.cell_far _ (by simp; omega) (by first | exact n7 | exact n8)]; assumption)))
        (first | (go_at_call 37; refine (HS.out _ (by assumption) (by assumption)).mono ?_; rintro e w' ⟨rfl, rfl⟩) | ((refine step_append_lies _ (by rfl) _ _ _ (by rfl) w.heap.size 29 i0 _ 4 56 Try.underlying36 HI.out HZ0.out HZ1.out HZ2.out rfl (by omega) u7 k _ (by rfl) ((HO.out.alloc _).drew) ⟨wr.heap.size, 0, none⟩ 1 1 [.int .i64 Vh, .slice VA Vn Vc, .int .i64 Vs, .string Vf] (by rfl) (by rfl) (World.news_of_block (cs := #[.int .i64 Vh, .slice VA Vn Vc, .int .i64 Vs, .string Vf]) (t := 29) (fr := (0, 0)) (heap_alloc_new wr _)) (by simp [Value.oneCell']) (by omega) HLM.out HLB.out (by simp; omega) (wr.heap.size + 1) (by simp) ?_; intro gg cap w1 hown1 hgrow hat hlt)))
      have HO1 := Aside0.mk (own_next HO.out.1 HNX.out hown1 Hlt.out HN.out)
      have HB1 := Aside0.mk (show Below w.heap.size w w1 from pw_below_grown (below_drew (HB.out.alloc hbs _)) _ (by simp; omega) hgrow (own_base HO.out))
      clear hown1 hgrow hat hlt
      go_wp2
      go_roundw
      case rel => exact ⟨k + 1, by have := Hlt.out; have := HN.out; omega, by simp, HO1.out, HB1.out⟩
      case measure => have := Hlt.out; simp [intOf] <;> omega
    · have c1 : decide ((k : Int) < (n : Int)) = false := decide_eq_false (by omega)
      have c2 : decide (k < n) = false := decide_eq_false hlt
      have hk : l.take k = l := List.take_of_length_le (by have := HN.out; omega)
      rw [hk] at hown
      have HO := Aside0.mk hown
      have HB := Aside0.mk hB
      clear hown hB hlt hk
      go_wp2
      go_ret
      exact ⟨_, rfl, HO.out, HB.out⟩
set_option maxHeartbeats 1000000 in
theorem all_calls (g base : Nat) (A : Option Addr) (l : List Jb) (w : World) (h : DqJ w base g A l) :
    Calls Try.prog 35 #[.pointer (some ⟨g, 0, none⟩)] w fun e w' => ∃ v, e = .returned v ∧ OwnJ w' w.heap.size v l ∧ Below w.heap.size w w' := by
  have HC := Aside0.mk (cut_all g base A l w h)
  clear h
  go_enter Try.func35, Try.ntmps35
  go_wp2_with (first | (go_at_call 40; (with_reducible refine HC.out.mono ?_); rintro e w' ⟨v, rfl, hO, hB⟩; have HO := Aside0.mk hO; have HB := Aside0.mk hB; clear hO hB))
  go_ret
  exact ⟨_, rfl, HO.out, HB.out⟩
end Go.Proofs.Ytnegagkjhnpgmaa.Sc
