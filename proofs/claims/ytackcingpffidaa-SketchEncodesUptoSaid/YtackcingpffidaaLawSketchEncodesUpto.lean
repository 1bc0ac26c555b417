/- For every input whose bulk is at most 1048576 the law SketchEncodes of chapter 16 returns true and leaves its arguments as they read: the row, from the plain law and the walk. Condition: the bound on the bulk. -/
import Derived.Test.YtackcingpffidaaRows
import Derived.WalkKit
import Derived.ProofKit
import Derived.OpenShut
import Derived.ShutString
import Derived.ChangeOld
import Derived.Below
import Derived.SizedLaws
import Derived.Deep.CondSized
import Derived.Test.YtackcingpffidaaBulk
import Derived.Test.YtackcingpffidaaZe2
import Derived.Test.YtackcingpffidaaZe8
import Derived.Test.YtackcingpffidaaZe12
import Derived.Test.YtackcingpffidaaZe13
namespace Go.Proofs.Ytackcingpffidaa.sketchEncodesUpto
open Go.ChangeShapes Go.WideShapes Go.ChangeAt Go.RowKit Go.Proofs.Ytackcingpffidaa.P Go.Proofs.Ytackcingpffidaa.Reads Go.Proofs.YtackcingpffidaaW.PrintWords
open Go.ChangeMaps (open_string shut_string)
set_option linter.unusedVariables false
theorem own : ownKnob Try.prog.godebug = none := by kernel_rfl
theorem laidOut : laidOutB Try.prog = true := by kernel_rfl
set_option maxRecDepth 100000 in
theorem lifted (os : Os) (started : os.Started) (H : Type) (enc : TypeId × Value → H) (F : Stop.Interp) :
    ReturnsInHanded {} Try.checked os 3 .any ((Rows.OpenSpec.upto Rows.sketchEncodesSpec).pre6 enc Try.prog Try.f3 Rows.sketchEncodesUptoRow.domain false) (((Rows.OpenSpec.upto Rows.sketchEncodesSpec).at F).post enc Try.prog Try.f3 false true false false) := by
  refine returnsInHanded_of_cond_sized (C := Try.checked) (s := (Rows.OpenSpec.upto Rows.sketchEncodesSpec)) (k := Rows.uptoSmall) rfl own started (by kernel_rfl) Try.func3
    (OpenSpec.witness (enc := enc) (C := Try.checked) (s := (Rows.OpenSpec.upto Rows.sketchEncodesSpec)) (k := Rows.uptoSmall) rfl false ⟨#[], #[.agg #[.int .i64 0, .int .i64 0, .slice none 0 0, .bool false, .slice none 0 0, .slice none 0 0, .slice none 0 0], .slice none 0 0, .slice none 0 0], []⟩ 8 (by kernel_rfl) (by kernel_rfl) (by kernel_rfl) (x := ([.agg [.lit (.int .i64 0), .lit (.int .i64 0), .nil, .lit (.bool false), .nil, .nil, .nil], .nil, .nil], [], [])) (by kernel_rfl) rfl (by kernel_rfl)) ?_
  intro W base args ds gs before hval0 hW hcnd hk0 hsz0 _
  have hsz : (DataW.weightsEach Try.prog (Try.f3.params.toList ++ Rows.sketchEncodesSpec.plain.varTypes Try.prog) (ds ++ gs)).all (· ≤ reachBytes) = true := hsz0
  have hval : ∀ (j : Nat) t v, Try.f3.params[j]? = some t → args[j]? = some v → Value.okWide Try.prog W .any base t v := hval0
  have hW' := hW
  obtain ⟨p, q, hA0, hV, rfl, hfz, hnd⟩ := hW
  have hA : DataW.TrodAll enc Try.prog W 0 (fun _ => true) true Try.f3.params.toList args.toList ds p := hA0
  rw [Try.params3] at hA hval hsz
  obtain ⟨v0, vs0, d0, ds0, p0, q0, hargs, rfl, rfl, h0, r0⟩ := trodAll_cons hA
  obtain ⟨v1, vs1, d1, ds1, p1, q1, rfl, rfl, rfl, h1, r1⟩ := trodAll_cons r0
  obtain ⟨v2, vs2, d2, ds2, p2, q2, rfl, rfl, rfl, h2, r2⟩ := trodAll_cons r1
  obtain ⟨rfl, rfl, rfl⟩ := trodAll_nil r2
  obtain rfl : args = #[v0, v1, v2] := by cases args; simp_all
  obtain ⟨rfl, rfl⟩ := trodVars_none hV
  have lt0 : ∀ x ∈ p0, x.block < W.heap.size := by obtain ⟨m, hm⟩ := h0; exact DataW.trod_lt m _ _ _ hm
  obtain ⟨c0, rfl, _⟩ := okWide_struct Try.underlying26 (hval 0 26 v0 rfl rfl)
  obtain ⟨x0, K0, g0⟩ := rd26.arg h0 hsz (j := 0) rfl rfl
  obtain ⟨A0_2, c0_2, A0_4, c0_4, A0_5, c0_5, A0_6, c0_6, hcs0, l0_2, C0_2, l0_4, C0_4, l0_5, C0_5, l0_6, C0_6⟩ := k26_open K0
  obtain rfl : c0 = #[.int .i64 x0.f0, .int .i64 x0.f1, .slice A0_2 x0.f2.length c0_2, .bool x0.f3, .slice A0_4 x0.f4.length c0_4, .slice A0_5 x0.f5.length c0_5, .slice A0_6 x0.f6.length c0_6] := Array.toList_inj.1 hcs0
  clear hcs0
  have lt1 : ∀ x ∈ p1, x.block < W.heap.size := by obtain ⟨m, hm⟩ := h1; exact DataW.trod_lt m _ _ _ hm
  obtain ⟨a1, len1, cap1, rfl⟩ := okWide_slice Try.underlying27 (hval 1 27 v1 rfl rfl)
  obtain ⟨x1, K1, g1⟩ := (Rd.slice (Rd.int Try.underlying5 (by kernel_rfl)) Try.underlying27 (by kernel_rfl) (B := 1) (by kernel_rfl)).arg h1 hsz (j := 1) rfl rfl
  have u1 := Bulk.slice_small h1 Try.underlying27 hk0 (j := 1) rfl
  obtain ⟨rfl, cc1, C1⟩ := slice_val K1
  have lt2 : ∀ x ∈ p2, x.block < W.heap.size := by obtain ⟨m, hm⟩ := h2; exact DataW.trod_lt m _ _ _ hm
  obtain ⟨a2, len2, cap2, rfl⟩ := okWide_slice Try.underlying27 (hval 2 27 v2 rfl rfl)
  obtain ⟨x2, K2, g2⟩ := (Rd.slice (Rd.int Try.underlying5 (by kernel_rfl)) Try.underlying27 (by kernel_rfl) (B := 1) (by kernel_rfl)).arg h2 hsz (j := 2) rfl rfl
  have u2 := Bulk.slice_small h2 Try.underlying27 hk0 (j := 2) rfl
  obtain ⟨rfl, cc2, C2⟩ := slice_val K2
  clear hA0 hval0 hsz0 hsz
  obtain ⟨k, hp⟩ := sketchEncodes_upto_pure x0 x1 x2 g0 g1 g2 u1 u2
  refine (laminalaw16_SketchEncodes.calls k x0.f0 x0.f1 A0_2 c0_2 x0.f2 x0.f3 A0_4 c0_4 x0.f4 A0_5 c0_5 x0.f5 A0_6 c0_6 x0.f6 a1 cap1 x1 a2 cap2 x2 true W C0_2 l0_2 C0_4 l0_4 C0_5 l0_5 C0_6 l0_6 C1 cc1 C2 cc2 hp).mono fun e W' ⟨he, bel0⟩ => ?_
  have bel := bel0
  subst he
  exact ⟨_, rfl, _, _, _, [], _, [], hW', trodAll_mk1 (shut_bool Try.underlying4 _), (trodAll_cons_mk (Below.trod laidOut (by kernel_rfl) (of_decide_eq_true (by kernel_rfl)) h0 bel lt0) (trodAll_cons_mk (Below.trod laidOut (by kernel_rfl) (of_decide_eq_true (by kernel_rfl)) h1 bel lt1) (trodAll_cons_mk (Below.trod laidOut (by kernel_rfl) (of_decide_eq_true (by kernel_rfl)) h2 bel lt2) trodAll_mk0))), rfl, bel.frame _, fun h => by cases h⟩
theorem over : Rows.sketchEncodesUptoRow.holds Try.pinned (Rows.OpenSpec.upto Rows.sketchEncodesSpec) :=
  OpenClaim.holds_of_cond 3 Try.f3 rfl rfl rfl rfl rfl rfl rfl ⟨rfl, rfl, rfl, rfl, rfl⟩ rfl rfl rfl rfl rfl (by kernel_rfl) Try.func3 (by kernel_rfl)
    (of_decide_eq_true (by kernel_rfl)) (by unfold Func.isWrapper; first | (rw [if_pos (by decide +kernel)]; kernel_rfl) | (rw [if_neg (by decide +kernel)]; exact ⟨rfl, rfl⟩))
    (fun os started H enc _ F => lifted os started H enc F)
theorem proved : Rows.SketchEncodesUptoSaid := over
#print axioms proved
end Go.Proofs.Ytackcingpffidaa.sketchEncodesUpto
namespace Go.Proofs.Ytackcingpffidaa
/-- The row, under a short name, for the claim. -/
theorem sketchEncodesUpto_holds : Rows.SketchEncodesUptoSaid := sketchEncodesUpto.proved
end Go.Proofs.Ytackcingpffidaa
