/- The document's short ends; alive. -/
import Derived.Test.YtehnogggokfcaaaEvFin
namespace Go.Proofs.Ytehnogggokfcaaa.Ev
open Go.RowKit Go.Proofs.YtehnogggokfcaaaW.PrintWords Go.Proofs.YtehnogggokfcaaaW.PrintMore Go.Proofs.YtehnogggokfcaaaW.PrintLast Go.Proofs.Ytehnogggokfcaaa.Y Go.Proofs.Ytehnogggokfcaaa.X Go.Proofs.Ytehnogggokfcaaa.Pure Go.Proofs.Ytehnogggokfcaaa.LM
set_option linter.unusedVariables false
set_option linter.unusedSimpArgs false
attribute [local go_sem ↓] Go.wp_at_zero Go.wp_at_succ
noncomputable section
/-- What Put has told is taken. -/
theorem take_of_put (x : S26) (hi : In x) (hs : Sm x) (h : (putS x).2 = 0) (w : World) : Calls Try.prog 12 #[.string (putS x).1] w fun e w' => ∃ A c, e = .returned (.tuple #[.agg (ecL (ecOf x A c)), .int .i64 0]) ∧ x.f6.length ≤ c ∧ Kd.C k43 w' A x.f6.length x.f6 ∧ Below w.heap.size w w' := by
  obtain ⟨k, h0, h8, hk, hb⟩ := putS_ok x h
  rw [putS_bare k h0 h8 x hk hb]
  have h9 := args_len k x hs
  have hn := nm_size k h8
  exact take_words (joinB (nm k :: argsP k x)) (nm k) (argsP k x) (argsP k x).length rfl (by omega) (join_size k h8 x hi hs) (by omega) (split_join _) (x, 0) (by rw [kind_nm ⟨k, by omega⟩ h0]; have hka := kind_args k h0 h8 x hi; rw [hb] at hka; exact hka.symm) w
def evA : S26 := ⟨2, 3, (⟨#[71, 69, 84, 32, 97, 10]⟩ : ByteArray), 0, 0, ⟨⟨#[]⟩, 0, 0⟩, []⟩
theorem evA_in : In evA := ⟨⟨by decide, by decide⟩, i64_0, i64_0, i64_0, i64_0, fun q h => by cases h⟩
theorem evA_sm : Sm evA := ⟨by decide, by decide, by decide, fun q h => by cases h⟩
theorem lineA_split : splitB (⟨#[98, 121, 116, 101, 115, 32, 51, 32, 34, 71, 69, 84, 32, 97, 92, 110, 34]⟩ : ByteArray) = some [⟨#[98, 121, 116, 101, 115]⟩, ⟨#[51]⟩, (⟨#[71, 69, 84, 32, 97, 10]⟩ : ByteArray)] := by decide +kernel
theorem kindA : kindOf (up ⟨#[98, 121, 116, 101, 115]⟩) = 2 := by decide +kernel
theorem pvA : pv ⟨#[51]⟩ = 3 ∧ pk ⟨#[51]⟩ = true := by decide +kernel
theorem joinA : joinB [nm 2, tx 3, (⟨#[71, 69, 84, 32, 97, 10]⟩ : ByteArray)] = (⟨#[66, 89, 84, 69, 83, 32, 51, 32, 34, 71, 69, 84, 32, 97, 92, 120, 48, 97, 34]⟩ : ByteArray) := by decide +kernel
theorem takeA (w : World) : Calls Try.prog 12 #[.string (⟨#[98, 121, 116, 101, 115, 32, 51, 32, 34, 71, 69, 84, 32, 97, 92, 110, 34]⟩ : ByteArray)] w fun e w' => ∃ A c, e = .returned (.tuple #[.agg (ecL (ecOf evA A c)), .int .i64 0]) ∧ evA.f6.length ≤ c ∧ Kd.C k43 w' A evA.f6.length evA.f6 ∧ Below w.heap.size w w' :=
  take_words (⟨#[98, 121, 116, 101, 115, 32, 51, 32, 34, 71, 69, 84, 32, 97, 92, 110, 34]⟩ : ByteArray) ⟨#[98, 121, 116, 101, 115]⟩ [⟨#[51]⟩, (⟨#[71, 69, 84, 32, 97, 10]⟩ : ByteArray)] 2 rfl (by decide) (by decide) (by decide) lineA_split (evA, 0) (by rw [kindA, kind_2, pvA.2, pvA.1]; rfl) w
theorem putA (A : Option Addr) (c : Nat) (w : World) : Calls Try.prog 8 #[.agg (ecL (ecOf evA A c))] w fun e w' => e = .returned (.tuple #[.string (⟨#[66, 89, 84, 69, 83, 32, 51, 32, 34, 71, 69, 84, 32, 97, 92, 120, 48, 97, 34]⟩ : ByteArray), .int .i64 0]) ∧ Below w.heap.size w w' := by
  have h := put_kind evA 2 rfl (by decide) (by decide) evA_in evA_sm A c w (Nat.zero_le _) ⟨rfl, by decide, fun h => absurd h (by decide)⟩ ((⟨#[66, 89, 84, 69, 83, 32, 51, 32, 34, 71, 69, 84, 32, 97, 92, 120, 48, 97, 34]⟩ : ByteArray), 0) (by unfold putP; rw [if_pos ⟨⟨by decide, by decide⟩, eqP_iff.2 rfl⟩]; exact congrArg (fun z => (z, (0 : Int))) joinA.symm)
  exact h
set_option maxHeartbeats 8000000 in
set_option maxRecDepth 100000 in
theorem alive_c (w : World) : Calls Try.prog 7 #[] w fun e w' => e = .returned (.bool true) ∧ Below w.heap.size w w' := by
  have hu := Try.underlying26
  have B_0 := Aside0.mk (Below.refl w.heap.size w)
  go_enter Try.func7, Try.ntmps7
  go_wp2_with (first | (go_at_call 12; have c_ := takeA w; (with_reducible refine Calls.mono c_ ?_); clear c_; rintro e_ wv1 ⟨AT, cT, he_, hcT, hCT, hb⟩; (replace he_ : e_ = .returned (.tuple #[.agg #[.int .i64 2, .int .i64 3, .string (⟨#[71, 69, 84, 32, 97, 10]⟩ : ByteArray), .int .i64 0, .int .i64 0, .string (⟨#[]⟩ : ByteArray), .int .i64 0, .int .i64 0, .slice AT 0 cT], .int .i64 0]) := he_); subst he_; have B_1 := Aside0.mk (below_all_ B_0.out hb); clear hcT hCT hb) | ((with_reducible refine gate_dst (N := 1) rfl ?_); refine box_event ?hg (N := 1) ?hd (cs := #[.int .i64 0, .int .i64 0, .string (⟨#[]⟩ : ByteArray), .int .i64 0, .int .i64 0, .string (⟨#[]⟩ : ByteArray), .int .i64 0, .int .i64 0, .slice none 0 0]) (t := 26) ?hr ?_; (case hd => rfl); (case hg => rfl); (case hr => first | (go_simp; done) | (go_simp; rfl)); intro g1 hg_ wa1 hbox hb; have G1 := Aside0.mk hg_; have Z1 := Aside0.mk (show EB wa1 g1 ⟨0, 0, ⟨#[]⟩, 0, 0, ⟨#[]⟩, 0, 0, none, 0, 0⟩ from hbox); have BZ1 := Aside0.mk hb; clear hbox hb hg_; obtain ⟨u0, u1, u2, u3, u4, u5, u6, u7, u8⟩ := Z1.out.cells; dsimp only at u0 u1 u2 u3 u4 u5 u6 u7 u8; obtain ⟨v0, v1, v2, v3, v4, v5, v6, v7, v8⟩ := Z1.out.free) | ((with_reducible refine gate_store (t := 26) (p := 1) rfl ?_); refine ev_store (w1 := (((((((((wa1.setCell ⟨g1, 0, none⟩ (.int .i64 2)).setCell ⟨g1, 1, none⟩ (.int .i64 3)).setCell ⟨g1, 2, none⟩ (.string (⟨#[71, 69, 84, 32, 97, 10]⟩ : ByteArray))).setCell ⟨g1, 3, none⟩ (.int .i64 0)).setCell ⟨g1, 4, none⟩ (.int .i64 0)).setCell ⟨g1, 5, none⟩ (.string (⟨#[]⟩ : ByteArray))).setCell ⟨g1, 6, none⟩ (.int .i64 0)).setCell ⟨g1, 7, none⟩ (.int .i64 0)).setCell ⟨g1, 8, none⟩ (.slice AT 0 cT))) ?hg ?hn ?hr ?_; (case hg => rfl); (case hn => rfl); (case hr => first | (go_simp; done) | (go_simp; rfl)); intro wv2 hW_; have HW1 := Aside0.mk hW_; clear hW_; clear u0 u1 u2 u3 u4 u5 u6 u7 u8 v0 v1 v2 v3 v4 v5 v6 v7 v8; have BT1 := Aside0.mk (show Below wv1.heap.size wv1 wv2 from by rw [HW1.out]; exact w9_below BZ1.out (Nat.le_of_eq G1.out.symm) ⟨2, 3, (⟨#[71, 69, 84, 32, 97, 10]⟩ : ByteArray), 0, 0, ⟨#[]⟩, 0, 0, AT, 0, cT⟩); have B_2 := Aside0.mk (below_all_ B_1.out BT1.out); have Ep_2 := Aside0.mk (show EB wv2 g1 ⟨2, 3, (⟨#[71, 69, 84, 32, 97, 10]⟩ : ByteArray), 0, 0, ⟨#[]⟩, 0, 0, AT, 0, cT⟩ from by rw [HW1.out]; exact EB.put Z1.out ⟨2, 3, (⟨#[71, 69, 84, 32, 97, 10]⟩ : ByteArray), 0, 0, ⟨#[]⟩, 0, 0, AT, 0, cT⟩); clear HW1; obtain ⟨p0, p1, p2, p3, p4, p5, p6, p7, p8⟩ := Ep_2.out.cells; dsimp only at p0 p1 p2 p3 p4 p5 p6 p7 p8) | (go_at_call 8; have c_ := putA AT cT wv2; (replace c_ : Calls Try.prog 8 #[.agg #[.int .i64 2, .int .i64 3, .string (⟨#[71, 69, 84, 32, 97, 10]⟩ : ByteArray), .int .i64 0, .int .i64 0, .string (⟨#[]⟩ : ByteArray), .int .i64 0, .int .i64 0, .slice AT 0 cT]] wv2 (fun e w' => e = .returned (.tuple #[.string (⟨#[66, 89, 84, 69, 83, 32, 51, 32, 34, 71, 69, 84, 32, 97, 92, 120, 48, 97, 34]⟩ : ByteArray), .int .i64 0]) ∧ Below wv2.heap.size wv2 w') := c_); (with_reducible refine Calls.mono c_ ?_); clear c_; rintro _ wv3 ⟨rfl, hb⟩; clear p0 p1 p2 p3 p4 p5 p6 p7 p8; have Ep_3 := Aside0.mk (show EB _ g1 ⟨2, 3, (⟨#[71, 69, 84, 32, 97, 10]⟩ : ByteArray), 0, 0, ⟨#[]⟩, 0, 0, AT, 0, cT⟩ from Ep_2.out.below hb); have B_3 := Aside0.mk (below_all_ B_2.out hb); clear hb; obtain ⟨p0, p1, p2, p3, p4, p5, p6, p7, p8⟩ := Ep_3.out.cells; dsimp only at p0 p1 p2 p3 p4 p5 p6 p7 p8))
  go_ret
  exact ⟨rfl, B_3.out⟩
end
end Go.Proofs.Ytehnogggokfcaaa.Ev
