/- The plain law of ValueAssigns: the program's Assignable and the reference's give one error for every value and column. -/
import Derived.Test.YtiklldjfcdblbaaV0
import Derived.Test.YtiklldjfcdblbaaPx25
namespace Go.Proofs.Ytiklldjfcdblbaa.P
open Go.RowKit Go.Proofs.YtiklldjfcdblbaaW.PrintWords Go.Proofs.YtiklldjfcdblbaaW.PrintLast
theorem assignable_same (a b : Int) (s n : ByteArray) (t : Int) (nn : Bool) : ∃ e, laminaref04_Assignable.f a b s n t nn = some e ∧ Ev (fun k => value_Assignable.f k a b s n t nn) e := by
  unfold laminaref04_Assignable.f value_Assignable.f
  by_cases h0 : a = 0
  · subst h0
    cases nn
    · exact ⟨0, by simp, Ev.succ ⟨0, fun k _ => by simp [value_Assignable.j0]⟩⟩
    · exact ⟨17, by simp, Ev.succ ⟨0, fun k _ => by simp [value_Assignable.j0]⟩⟩
  · by_cases h1 : a = t
    · exact ⟨0, by rw [if_neg h0, if_pos h1], Ev.fin (fun k => by rw [if_neg h0]; simp only [value_Assignable.j0]; rw [if_neg (by simp), if_neg h0, if_pos h1])⟩
    · exact ⟨7, by simp [h0, h1], Ev.succ ⟨0, fun k _ => by simp [value_Assignable.j0, h0, h1]⟩⟩
theorem valueAssigns_pure : ∀ (x0 : S23) (x1 : S44), G23 x0 → G44 x1 → ∃ k, laminalaw04_ValueAssigns.f k x0.f0 x0.f1 x0.f2 x1.f0 x1.f1 x1.f2 = some true := by
  intro x c _ _
  refine Ev.rounds ?_
  unfold laminalaw04_ValueAssigns.f
  obtain ⟨t, ht, _⟩ := ref_valid_dec x.f0 x.f1 x.f2
  obtain ⟨e, he, hv⟩ := assignable_same x.f0 x.f1 x.f2 c.f0 c.f1 c.f2
  refine (Ev.const ht).bind ?_
  cases t
  · simp only [Bool.false_eq_true, if_false]
    exact awake_bind
  · simp only [if_true]
    refine hv.bind ((Ev.const he).bind ?_)
    simp only [if_true]
    exact awake_bind
end Go.Proofs.Ytiklldjfcdblbaa.P
