/- The plain law of ValueTests: the program's Test, Arith, Negate and Concat give what the reference's give, for valid values and any operator. -/
import Derived.Test.YtiklldjfcdblbaaV2
import Derived.Test.YtiklldjfcdblbaaPx32
namespace Go.Proofs.Ytiklldjfcdblbaa.P
open Go.RowKit Go.Proofs.YtiklldjfcdblbaaW.PrintWords Go.Proofs.YtiklldjfcdblbaaW.PrintLast
theorem boolean_same (b : Bool) : value_boolean.f b = laminaref04_Boolean.f b := rfl
def bo (b : Bool) : Int × Int × ByteArray := if b = true then (1, 1, (⟨#[]⟩ : ByteArray)) else (1, 0, (⟨#[]⟩ : ByteArray))
theorem boolean_bo (b : Bool) : value_boolean.f b = some (bo b) := by unfold value_boolean.f bo; cases b <;> rfl
theorem ref_boolean_bo (b : Bool) : laminaref04_Boolean.f b = some (bo b) := by unfold laminaref04_Boolean.f bo; cases b <;> rfl
def holdsB (op c : Int) : Bool := if op = 1 then c == 0 else if op = 2 then c != 0 else if op = 3 then decide (c < 0) else if op = 4 then decide (c ≤ 0) else if op = 5 then decide (c > 0) else if op = 6 then decide (c ≥ 0) else false
/-- The result of a test. -/
def ts (op a0 a1 : Int) (a2 : ByteArray) (b0 b1 : Int) (b2 : ByteArray) : Int × Int × ByteArray :=
  if a0 = 0 ∨ a0 ≠ b0 ∨ op < 1 ∨ op > 6 then NUL else bo (holdsB op (vc a0 a1 a2 b0 b1 b2))
theorem test_tail (k : Nat) (op a0 a1 : Int) (a2 : ByteArray) (b0 b1 : Int) (b2 : ByteArray) : value_Test.j0 (k + 1) op false a0 a1 a2 b0 b1 b2 = some (bo (holdsB op (vc a0 a1 a2 b0 b1 b2))) := by
  simp only [value_Test.j0, compare_vc, boolean_bo, Bool.false_eq_true, if_false, Option.bind_some, holdsB]
  repeat' split
  all_goals rfl
theorem test_ts (op a0 a1 : Int) (a2 : ByteArray) (b0 b1 : Int) (b2 : ByteArray) : Ev (fun k => value_Test.f k op a0 a1 a2 b0 b1 b2) (ts op a0 a1 a2 b0 b1 b2) := by
  refine Ev.fin (fun k => ?_)
  unfold value_Test.f ts
  by_cases h0 : a0 = 0
  · rw [if_pos h0, if_pos (.inl h0)]
    rfl
  by_cases h1 : a0 = b0
  · rw [if_neg h0, if_pos h1]
    by_cases h2 : op < 1
    · rw [if_pos h2, if_pos (.inr (.inr (.inl h2)))]
      rfl
    · rw [if_neg h2]
      by_cases h3 : op > 6
      · rw [if_pos (.inr (.inr (.inr h3))), decide_eq_true h3]
        rfl
      · rw [if_neg (by omega), decide_eq_false h3]
        exact test_tail k op a0 a1 a2 b0 b1 b2
  · rw [if_neg h0, if_neg h1, if_pos (.inr (.inl h1))]
    rfl
theorem holds_holdsB (op c : Int) : laminaref04_Holds.f op c = some (holdsB op c) := by
  unfold laminaref04_Holds.f holdsB
  repeat' split
  all_goals rfl
theorem ref_test_ts (op a0 a1 : Int) (a2 : ByteArray) (b0 b1 : Int) (b2 : ByteArray) (ha : V a0 a1 a2) (hb : V b0 b1 b2) : Ev (fun k => laminaref04_Test.f k op a0 a1 a2 b0 b1 b2) (ts op a0 a1 a2 b0 b1 b2) := by
  refine Ev.fin (fun k => ?_)
  unfold laminaref04_Test.f ts
  by_cases h0 : a0 = 0
  · rw [if_pos h0, if_pos (.inl h0)]
    rfl
  by_cases h1 : a0 = b0
  · rw [if_neg h0, if_pos h1]
    by_cases h2 : op < 1
    · rw [if_pos h2, if_pos (.inr (.inr (.inl h2)))]
      rfl
    · rw [if_neg h2]
      by_cases h3 : op > 6
      · rw [if_pos (.inr (.inr (.inr h3))), decide_eq_true h3]
        rfl
      · rw [if_neg (by omega), decide_eq_false h3]
        simp only [laminaref04_Test.j0, ref_compare_vc _ _ _ _ _ _ ha hb, holds_holdsB, ref_boolean_bo, Bool.false_eq_true, if_false, Option.bind_some]
  · rw [if_neg h0, if_neg h1, if_pos (.inr (.inl h1))]
    rfl
theorem same3 (v : Int × Int × ByteArray) : (v.1 == v.1 && (v.2.1 == v.2.1 && (v.2.2.toList == v.2.2.toList))) = true := by simp
theorem valueTests_pure : ∀ (x0 : Int) (x1 : S23) (x2 : S23), (Lit.int .i64 x0).wf = true → G23 x1 → G23 x2 → ∃ k, laminalaw04_ValueTests.f k x0 x1.f0 x1.f1 x1.f2 x2.f0 x2.f1 x2.f2 = some true := by
  intro op a b _ ga gb
  refine Ev.rounds ?_
  unfold laminalaw04_ValueTests.f
  obtain ⟨t, ht, hv⟩ := ref_valid_dec a.f0 a.f1 a.f2
  obtain ⟨u, hu, hw⟩ := ref_valid_dec b.f0 b.f1 b.f2
  have skip : Ev (fun k => laminalaw04_ValueTests.j0 k op true a.f0 a.f1 a.f2 b.f0 b.f1 b.f2) true := Ev.succ (Ev.congr (fun k => by simp only [laminalaw04_ValueTests.j0]; rw [if_pos trivial]) awake_bind)
  refine (Ev.const ht).bind ?_
  cases t with
  | false =>
    simp only [Bool.false_eq_true, if_false]
    exact skip
  | true =>
    simp only [if_true]
    refine (Ev.const hu).bind ?_
    cases u with
    | false => exact skip
    | true =>
      have va := hv.1 rfl
      have vb := hw.1 rfl
      obtain ⟨r2, p2, q2⟩ := arith_both op a.f0 a.f1 a.f2 b.f0 b.f1 b.f2 va vb (I64.of ga.2.1) (I64.of gb.2.1)
      obtain ⟨r3, p3, q3⟩ := negate_both a.f0 a.f1 a.f2
      obtain ⟨r4, p4, q4⟩ := concat_both a.f0 a.f1 a.f2 b.f0 b.f1 b.f2 va vb
      refine Ev.succ ?_
      simp only [laminalaw04_ValueTests.j0, Bool.not_true, Bool.false_eq_true, if_false]
      refine (test_ts op a.f0 a.f1 a.f2 b.f0 b.f1 b.f2).bind ((ref_test_ts op a.f0 a.f1 a.f2 b.f0 b.f1 b.f2 va vb).bind ?_)
      simp only [same3, if_true]
      refine p2.bind (q2.bind ?_)
      simp only [same3, if_true]
      refine (Ev.const p3).bind ((Ev.const q3).bind ?_)
      simp only [same3, if_true]
      refine (Ev.const p4).bind ((Ev.const q4).bind ?_)
      simp only [same3, if_true]
      exact awake_bind
end Go.Proofs.Ytiklldjfcdblbaa.P
