/- The plain law of ValueValid: the program's Valid and the reference's say the same of every value. -/
import Derived.Test.YtiklldjfcdblbaaPx13
import Derived.Test.YtiklldjfcdblbaaKinds
namespace Go.Proofs.Ytiklldjfcdblbaa.P
open Go.RowKit Go.Proofs.YtiklldjfcdblbaaW.PrintWords Go.Proofs.YtiklldjfcdblbaaW.PrintLast
theorem awake_true : laminalaw04_awake.f 20 = some true := by kernel_rfl
theorem valid_same (a b : Int) (s : ByteArray) : value_Valid.f a b s = laminaref04_Valid.f a b s := by
  unfold value_Valid.f laminaref04_Valid.f
  by_cases h : s.toList = ([] : List UInt8)
  · have hb : (s.toList == ([] : List UInt8)) = true := by simpa using h
    rw [if_pos h, hb]
    by_cases h1 : b = 1
    · simp [h1]
    · have h2 : (b == 1) = false := by simpa using h1
      simp [h1, h2]
  · have hb : (s.toList == ([] : List UInt8)) = false := by simpa using h
    rw [if_neg h, hb]
    by_cases h1 : b = 1 <;> simp [h1]
theorem ref_valid_some (a b : Int) (s : ByteArray) : ∃ t, laminaref04_Valid.f a b s = some t := by
  unfold laminaref04_Valid.f
  repeat' split
  all_goals exact ⟨_, rfl⟩
theorem valueValid_pure : ∀ (x0 : S23), G23 x0 → ∃ k, laminalaw04_ValueValid.f k x0.f0 x0.f1 x0.f2 = some true := by
  intro x _
  obtain ⟨t, ht⟩ := ref_valid_some x.f0 x.f1 x.f2
  refine ⟨20, ?_⟩
  unfold laminalaw04_ValueValid.f
  rw [valid_same, ht, awake_true]
  simp
end Go.Proofs.Ytiklldjfcdblbaa.P
