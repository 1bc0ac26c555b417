/- For every input whose bulk is at most 1048576 the law ValueOrders of chapter 04 returns true and leaves its arguments as they read: the row, from the plain law and the walk. Condition: the bound on the bulk. -/
import Derived.Test.YtiklldjfcdblbaaRows
import Derived.Test.YtiklldjfcdblbaaPx43
import Derived.Test.YtiklldjfcdblbaaKinds
import Derived.Test.YtiklldjfcdblbaaPureValueOrders
import Derived.WalkKit
import Derived.ProofKit
import Derived.OpenShut
import Derived.ShutString
import Derived.ChangeOld
import Derived.Below
import Derived.SizedLaws
import Derived.Deep.CondSized
import Derived.Test.YtiklldjfcdblbaaBulk
namespace Go.Proofs.Ytiklldjfcdblbaa.valueOrdersUpto
open Go.ChangeShapes Go.WideShapes Go.ChangeAt Go.RowKit Go.Proofs.Ytiklldjfcdblbaa.P Go.Proofs.Ytiklldjfcdblbaa.Reads Go.Proofs.YtiklldjfcdblbaaW.PrintWords
open Go.ChangeMaps (open_string shut_string)
set_option linter.unusedVariables false
theorem own : ownKnob Try.prog.godebug = none := by kernel_rfl
theorem laidOut : laidOutB Try.prog = true := by kernel_rfl
set_option maxRecDepth 100000 in
theorem lifted (os : Os) (started : os.Started) (H : Type) (enc : TypeId × Value → H) (F : Stop.Interp) :
    ReturnsInHanded {} Try.checked os 11 .any ((Rows.OpenSpec.upto Rows.valueOrdersSpec).pre6 enc Try.prog Try.f11 Rows.valueOrdersUptoRow.domain false) (((Rows.OpenSpec.upto Rows.valueOrdersSpec).at F).post enc Try.prog Try.f11 false true false false) := by
  refine returnsInHanded_of_cond_sized (C := Try.checked) (s := (Rows.OpenSpec.upto Rows.valueOrdersSpec)) (k := Rows.uptoSmall) rfl own started (by kernel_rfl) Try.func11
    (OpenSpec.witness (enc := enc) (C := Try.checked) (s := (Rows.OpenSpec.upto Rows.valueOrdersSpec)) (k := Rows.uptoSmall) rfl false ⟨#[], #[.slice none 0 0, .slice none 0 0, .slice none 0 0], []⟩ 8 (by kernel_rfl) (by kernel_rfl) (by kernel_rfl) (x := ([.nil, .nil, .nil], [], [])) (by kernel_rfl) rfl (by kernel_rfl)) ?_
  intro W base args ds gs before hval0 hW hcnd hk0 hsz0 _
  have hsz : (DataW.weightsEach Try.prog (Try.f11.params.toList ++ Rows.valueOrdersSpec.plain.varTypes Try.prog) (ds ++ gs)).all (· ≤ reachBytes) = true := hsz0
  have hval : ∀ (j : Nat) t v, Try.f11.params[j]? = some t → args[j]? = some v → Value.okWide Try.prog W .any base t v := hval0
  have hW' := hW
  obtain ⟨p, q, hA0, hV, rfl, hfz, hnd⟩ := hW
  have hA : DataW.TrodAll enc Try.prog W 0 (fun _ => true) true Try.f11.params.toList args.toList ds p := hA0
  rw [Try.params11] at hA hval hsz
  obtain ⟨v0, vs0, d0, ds0, p0, q0, hargs, rfl, rfl, h0, r0⟩ := trodAll_cons hA
  obtain ⟨v1, vs1, d1, ds1, p1, q1, rfl, rfl, rfl, h1, r1⟩ := trodAll_cons r0
  obtain ⟨v2, vs2, d2, ds2, p2, q2, rfl, rfl, rfl, h2, r2⟩ := trodAll_cons r1
  obtain ⟨rfl, rfl, rfl⟩ := trodAll_nil r2
  obtain rfl : args = #[v0, v1, v2] := by cases args; simp_all
  obtain ⟨rfl, rfl⟩ := trodVars_none hV
  have lt0 : ∀ x ∈ p0, x.block < W.heap.size := by obtain ⟨m, hm⟩ := h0; exact DataW.trod_lt m _ _ _ hm
  obtain ⟨a0, len0, cap0, rfl⟩ := okWide_slice Try.underlying38 (hval 0 38 v0 rfl rfl)
  obtain ⟨x0, K0, g0⟩ := (Rd.slice rd23 Try.underlying38 (by kernel_rfl) (B := 32) (by kernel_rfl)).arg h0 hsz (j := 0) rfl rfl
  have u0 := Bulk.slice_small h0 Try.underlying38 hk0 (j := 0) rfl
  obtain ⟨rfl, cc0, C0⟩ := slice_val K0
  have lt1 : ∀ x ∈ p1, x.block < W.heap.size := by obtain ⟨m, hm⟩ := h1; exact DataW.trod_lt m _ _ _ hm
  obtain ⟨a1, len1, cap1, rfl⟩ := okWide_slice Try.underlying38 (hval 1 38 v1 rfl rfl)
  obtain ⟨x1, K1, g1⟩ := (Rd.slice rd23 Try.underlying38 (by kernel_rfl) (B := 32) (by kernel_rfl)).arg h1 hsz (j := 1) rfl rfl
  have u1 := Bulk.slice_small h1 Try.underlying38 hk0 (j := 1) rfl
  obtain ⟨rfl, cc1, C1⟩ := slice_val K1
  have lt2 : ∀ x ∈ p2, x.block < W.heap.size := by obtain ⟨m, hm⟩ := h2; exact DataW.trod_lt m _ _ _ hm
  obtain ⟨a2, len2, cap2, rfl⟩ := okWide_slice Try.underlying38 (hval 2 38 v2 rfl rfl)
  obtain ⟨x2, K2, g2⟩ := (Rd.slice rd23 Try.underlying38 (by kernel_rfl) (B := 32) (by kernel_rfl)).arg h2 hsz (j := 2) rfl rfl
  have u2 := Bulk.slice_small h2 Try.underlying38 hk0 (j := 2) rfl
  obtain ⟨rfl, cc2, C2⟩ := slice_val K2
  clear hA0 hval0 hsz0 hsz
  obtain ⟨k, hp⟩ := valueOrders_upto_pure x0 x1 x2 g0 g1 g2 u0 u1 u2
  refine (laminalaw04_ValueOrders.calls k a0 cap0 x0 a1 cap1 x1 a2 cap2 x2 true W C0 cc0 C1 cc1 C2 cc2 hp).mono fun e W' ⟨he, bel0⟩ => ?_
  have bel := bel0
  subst he
  exact ⟨_, rfl, _, _, _, [], _, [], hW', trodAll_mk1 (shut_bool Try.underlying4 _), (trodAll_cons_mk (Below.trod laidOut (by kernel_rfl) (of_decide_eq_true (by kernel_rfl)) h0 bel lt0) (trodAll_cons_mk (Below.trod laidOut (by kernel_rfl) (of_decide_eq_true (by kernel_rfl)) h1 bel lt1) (trodAll_cons_mk (Below.trod laidOut (by kernel_rfl) (of_decide_eq_true (by kernel_rfl)) h2 bel lt2) trodAll_mk0))), rfl, bel.frame _, fun h => by cases h⟩
theorem over : Rows.valueOrdersUptoRow.holds Try.pinned (Rows.OpenSpec.upto Rows.valueOrdersSpec) :=
  OpenClaim.holds_of_cond 11 Try.f11 rfl rfl rfl rfl rfl rfl rfl ⟨rfl, rfl, rfl, rfl, rfl⟩ rfl rfl rfl rfl rfl (by kernel_rfl) Try.func11 (by kernel_rfl)
    (of_decide_eq_true (by kernel_rfl)) (by unfold Func.isWrapper; first | (rw [if_pos (by decide +kernel)]; kernel_rfl) | (rw [if_neg (by decide +kernel)]; exact ⟨rfl, rfl⟩))
    (fun os started H enc _ F => lifted os started H enc F)
theorem proved : Rows.ValueOrdersUptoSaid := over
#print axioms proved
end Go.Proofs.Ytiklldjfcdblbaa.valueOrdersUpto
namespace Go.Proofs.Ytiklldjfcdblbaa
/-- The row, under a short name, for the claim. -/
theorem valueOrdersUpto_holds : Rows.ValueOrdersUptoSaid := valueOrdersUpto.proved
end Go.Proofs.Ytiklldjfcdblbaa
