/- For every input whose bulk is at most 1048576 the law ValueEncodes of chapter 04 returns true and leaves its arguments as they read: the row, from the plain law and the walk. Condition: the bound on the bulk. -/
import Derived.Test.YtiklldjfcdblbaaRows
import Derived.Test.YtiklldjfcdblbaaPx42
import Derived.Test.YtiklldjfcdblbaaKinds
import Derived.Test.YtiklldjfcdblbaaPureValueEncodes
import Derived.WalkKit
import Derived.ProofKit
import Derived.OpenShut
import Derived.ShutString
import Derived.ChangeOld
import Derived.Below
import Derived.SizedLaws
import Derived.Deep.CondSized
import Derived.Test.YtiklldjfcdblbaaBulk
namespace Go.Proofs.Ytiklldjfcdblbaa.valueEncodesUpto
open Go.ChangeShapes Go.WideShapes Go.ChangeAt Go.RowKit Go.Proofs.Ytiklldjfcdblbaa.P Go.Proofs.Ytiklldjfcdblbaa.Reads Go.Proofs.YtiklldjfcdblbaaW.PrintWords
open Go.ChangeMaps (open_string shut_string)
set_option linter.unusedVariables false
theorem own : ownKnob Try.prog.godebug = none := by kernel_rfl
theorem laidOut : laidOutB Try.prog = true := by kernel_rfl
set_option maxRecDepth 100000 in
theorem lifted (os : Os) (started : os.Started) (H : Type) (enc : TypeId × Value → H) (F : Stop.Interp) :
    ReturnsInHanded {} Try.checked os 10 .any ((Rows.OpenSpec.upto Rows.valueEncodesSpec).pre6 enc Try.prog Try.f10 Rows.valueEncodesUptoRow.domain false) (((Rows.OpenSpec.upto Rows.valueEncodesSpec).at F).post enc Try.prog Try.f10 false true false false) := by
  refine returnsInHanded_of_cond_sized (C := Try.checked) (s := (Rows.OpenSpec.upto Rows.valueEncodesSpec)) (k := Rows.uptoSmall) rfl own started (by kernel_rfl) Try.func10
    (OpenSpec.witness (enc := enc) (C := Try.checked) (s := (Rows.OpenSpec.upto Rows.valueEncodesSpec)) (k := Rows.uptoSmall) rfl false ⟨#[], #[.slice none 0 0], []⟩ 8 (by kernel_rfl) (by kernel_rfl) (by kernel_rfl) (x := ([.nil], [], [])) (by kernel_rfl) rfl (by kernel_rfl)) ?_
  intro W base args ds gs before hval0 hW hcnd hk0 hsz0 _
  have hsz : (DataW.weightsEach Try.prog (Try.f10.params.toList ++ Rows.valueEncodesSpec.plain.varTypes Try.prog) (ds ++ gs)).all (· ≤ reachBytes) = true := hsz0
  have hval : ∀ (j : Nat) t v, Try.f10.params[j]? = some t → args[j]? = some v → Value.okWide Try.prog W .any base t v := hval0
  have hW' := hW
  obtain ⟨p, q, hA0, hV, rfl, hfz, hnd⟩ := hW
  have hA : DataW.TrodAll enc Try.prog W 0 (fun _ => true) true Try.f10.params.toList args.toList ds p := hA0
  rw [Try.params10] at hA hval hsz
  obtain ⟨v0, vs0, d0, ds0, p0, q0, hargs, rfl, rfl, h0, r0⟩ := trodAll_cons hA
  obtain ⟨rfl, rfl, rfl⟩ := trodAll_nil r0
  obtain rfl : args = #[v0] := by cases args; simp_all
  obtain ⟨rfl, rfl⟩ := trodVars_none hV
  have lt0 : ∀ x ∈ p0, x.block < W.heap.size := by obtain ⟨m, hm⟩ := h0; exact DataW.trod_lt m _ _ _ hm
  obtain ⟨a0, len0, cap0, rfl⟩ := okWide_slice Try.underlying37 (hval 0 37 v0 rfl rfl)
  obtain ⟨x0, K0, g0⟩ := (Rd.slice rd23 Try.underlying37 (by kernel_rfl) (B := 32) (by kernel_rfl)).arg h0 hsz (j := 0) rfl rfl
  have u0 := Bulk.slice_small h0 Try.underlying37 hk0 (j := 0) rfl
  obtain ⟨rfl, cc0, C0⟩ := slice_val K0
  clear hA0 hval0 hsz0 hsz
  obtain ⟨k, hp⟩ := valueEncodes_upto_pure x0 g0 u0
  refine (laminalaw04_ValueEncodes.calls k a0 cap0 x0 true W C0 cc0 hp).mono fun e W' ⟨he, bel0⟩ => ?_
  have bel := bel0
  subst he
  exact ⟨_, rfl, _, _, _, [], _, [], hW', trodAll_mk1 (shut_bool Try.underlying4 _), (trodAll_cons_mk (Below.trod laidOut (by kernel_rfl) (of_decide_eq_true (by kernel_rfl)) h0 bel lt0) trodAll_mk0), rfl, bel.frame _, fun h => by cases h⟩
theorem over : Rows.valueEncodesUptoRow.holds Try.pinned (Rows.OpenSpec.upto Rows.valueEncodesSpec) :=
  OpenClaim.holds_of_cond 10 Try.f10 rfl rfl rfl rfl rfl rfl rfl ⟨rfl, rfl, rfl, rfl, rfl⟩ rfl rfl rfl rfl rfl (by kernel_rfl) Try.func10 (by kernel_rfl)
    (of_decide_eq_true (by kernel_rfl)) (by unfold Func.isWrapper; first | (rw [if_pos (by decide +kernel)]; kernel_rfl) | (rw [if_neg (by decide +kernel)]; exact ⟨rfl, rfl⟩))
    (fun os started H enc _ F => lifted os started H enc F)
theorem proved : Rows.ValueEncodesUptoSaid := over
#print axioms proved
end Go.Proofs.Ytiklldjfcdblbaa.valueEncodesUpto
namespace Go.Proofs.Ytiklldjfcdblbaa
/-- The row, under a short name, for the claim. -/
theorem valueEncodesUpto_holds : Rows.ValueEncodesUptoSaid := valueEncodesUpto.proved
end Go.Proofs.Ytiklldjfcdblbaa
