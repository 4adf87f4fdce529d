/- The statements' small words on lists of texts: far, alive. -/
import Derived.Test.YtbficlkjlhigjaaListDrop
import Derived.Test.YtbficlkjlhigjaaListRef
import Derived.Test.YtbficlkjlhigjaaListFind
namespace Go.Proofs.Ytbficlkjlhigjaa.Dq
open Go.RowKit Go.Proofs.YtbficlkjlhigjaaW.PrintWords Go.Proofs.YtbficlkjlhigjaaW.PrintMore Go.Proofs.YtbficlkjlhigjaaW.PrintLast Go.Proofs.Ytbficlkjlhigjaa.X Go.Proofs.Ytbficlkjlhigjaa.Y
set_option linter.unusedVariables false
set_option linter.unusedSimpArgs false
attribute [local go_sem ↓] Go.wp_at_zero Go.wp_at_succ
theorem far_calls (v : Value) (l : List ByteArray) (w : World) (h : Rd w v l) (hl : l.length ≤ 9223372036854775000) :
    Calls Try.prog 8 #[v] w fun e w' => ∃ b : Bool, e = .returned (.bool b) ∧ (b = false → l.length ≤ 200) ∧ Drawn0 w w' := by
  obtain ⟨A, c, rfl, hc, hr⟩ := h
  obtain ⟨b, ⟨K, hK⟩, hb⟩ := far_ev l hl
  refine (mewslaw21_far.calls K A c l b w (C_of_readsOf hr) hc (hK K (Nat.le_refl _))).mono fun e w' he => ?_
  exact ⟨b, he.1, hb, he.2⟩
theorem find_calls (w0 : World) (B g : Nat) (l : List ByteArray) (s : ByteArray) (rank cnt most : Int) (w : World) (h : St w0 B g l w) (hk : -9223372036854775808 ≤ rank ∧ rank ≤ 9223372036854775807) (hl : l.length ≤ 1000000) :
    Calls Try.prog 15 #[.pointer (some ⟨g, 0, none⟩), .string s, .int .i64 rank, .int .i64 cnt, .int .i64 most] w fun e w' => ∃ v, e = .returned v ∧ w'.ownsRow w.heap.size 3 1 v (findL l s rank cnt most).length (nums .i64 (findL l s rank cnt most)) ∧ Below w.heap.size w w' := by
  by_cases c : rank = 0 ∨ cnt < 0 ∨ most < 0
  · refine (find_bad g s rank cnt most w c).mono fun e w' he => ?_
    obtain ⟨rfl, rfl⟩ := he
    have e : findL l s rank cnt most = [] := by unfold findL; rw [if_pos c]
    rw [e]
    exact ⟨_, rfl, own_nil _ _ _ _, Below.refl _ _⟩
  · exact find_good w0 B g l s rank cnt most w h hk (by omega) (by omega) (by omega) hl
abbrev tA : ByteArray := ⟨#[97]⟩
abbrev tB : ByteArray := ⟨#[98]⟩
abbrev tC : ByteArray := ⟨#[99]⟩
set_option maxHeartbeats 4000000 in
set_option maxRecDepth 100000 in
theorem alive_calls (w : World) : Calls Try.prog 9 #[] w fun e w' => e = .returned (.bool true) ∧ Below w.heap.size w w' := by
  obtain ⟨B, hB⟩ : ∃ B, B = w.heap.size := ⟨_, rfl⟩
  rw [← hB]
  have HB := Aside0.mk hB
  go_enter Try.func9, Try.ntmps9
  clear hB
  go_wp2_with fail
  go_at_call 10
  have hn : Calls Try.prog 10 #[.slice (some ⟨w.heap.size, 0, none⟩) 5 5] (w.alloc (.cells #[.string tA, .string tB, .string tA, .string tC, .string tA] 9)) _ := St.new (c := 5) (l := [tA, tB, tA, tC, tA]) (w := w) (B := B) (by rw [HB.out]; exact below_alloc (Below.refl _ _) _) (by rw [HB.out]; simp) (reads_lit w [tA, tB, tA, tC, tA] (by decide)) (by decide)
  with_reducible refine Calls.mono hn ?_
  clear hn
  rintro e w1 ⟨g, rfl, -, h1, -⟩
  have H1 := Aside0.mk h1
  clear h1
  go_wp2_with fail
  go_at_call 15
  have hn := find_calls w B g _ tA (-1) 2 0 w1 H1.out (by decide) (by decide)
  rw [show findL ([tA, tB, tA, tC, tA] : List ByteArray) tA (-1) 2 0 = [4, 2] by decide] at hn
  with_reducible refine Calls.mono hn ?_
  clear hn
  rintro e w2 ⟨v2, rfl, hr2, hb2⟩
  obtain ⟨A2, c2, e2, hq2⟩ := own_reads_of (enc := Value.int .i64) (d := 0) (show w2.ownsRow w1.heap.size 3 1 v2 ([4, 2] : List Int).length (encs (Value.int .i64) [4, 2]) from hr2)
  replace e2 : v2 = .slice A2 2 c2 := e2
  subst e2
  obtain ⟨ad2, e2, hc2⟩ := hq2.2.2 (by decide)
  subst e2
  have k0 : w2.cell? (ad2.add 0) = some (.int .i64 4) := hc2 0 (by decide)
  have k1 : w2.cell? (ad2.add 1) = some (.int .i64 2) := hc2 1 (by decide)
  have k2 : w2.cell? ad2 = some (.int .i64 4) := by
    rw [show ad2.add 0 = ad2 by unfold Addr.add; rfl] at k0
    exact k0
  have k3 : w2.cell? { block := ad2.block, off := ad2.off + 1 } = some (.int .i64 2) := by
    have hw := hq2.1
    first | exact k1 | (rw [← k1]; congr 1)
  have H2 := Aside0.mk (H1.out.below hb2)
  clear hr2 hq2 hb2 hc2
  go_wp2_with fail
  go_at_call 11
  have hn := drop_calls w B g _ (-2) tA w2 H2.out (by decide) (by decide)
  rw [show dropL ([tA, tB, tA, tC, tA] : List ByteArray) (-2) tA = ([tA, tB, tC], 2) by decide] at hn
  with_reducible refine Calls.mono hn ?_
  clear hn k0 k1 k2 k3
  rintro e w3 ⟨rfl, h3⟩
  have H3 := Aside0.mk h3
  clear h3
  go_wp2_with fail
  go_at_call 14
  with_reducible refine Calls.mono H3.out.all ?_
  rintro e w6 ⟨v6, rfl, hr6, hb6, -⟩
  have H6 := Aside0.mk (H3.out.below hb6)
  have HR6 := Aside0.mk hr6
  clear hr6 hb6
  go_wp2_with fail
  go_at_call 13
  have hn : Calls Try.prog 13 #[v6, .slice (some ⟨w6.heap.size, 0, none⟩) 3 3] (w6.alloc (.cells #[.string tA, .string tB, .string tC] 9)) _ := rsame_calls _ _ [tA, tB, tC] _ (HR6.out.below (below_alloc (Below.refl _ _) _)) (rd_lit w6 [tA, tB, tC] (by decide)) (by decide)
  with_reducible refine Calls.mono hn ?_
  clear hn
  rintro e w7 ⟨rfl, hw7⟩
  have H7 := Aside0.mk ((H6.out.below (below_alloc (Below.refl _ _) _)).below hw7.below)
  clear hw7
  go_wp2
  go_ret
  exact ⟨rfl, H7.out.out⟩
end Go.Proofs.Ytbficlkjlhigjaa.Dq
