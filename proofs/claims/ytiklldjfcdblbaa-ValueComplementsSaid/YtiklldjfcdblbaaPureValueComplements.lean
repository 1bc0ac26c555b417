/- The plain law of ValueComplements: for comparable values exactly one of <, = and > holds, and each negated operator is the negation. -/
import Derived.Test.YtiklldjfcdblbaaV0
import Derived.Test.YtiklldjfcdblbaaKinds
import Derived.Test.YtiklldjfcdblbaaPx19
import Derived.Test.YtiklldjfcdblbaaPx8
import Derived.Test.YtiklldjfcdblbaaPx18
namespace Go.Proofs.Ytiklldjfcdblbaa.P
open Go.RowKit Go.Proofs.YtiklldjfcdblbaaW.PrintWords Go.Proofs.YtiklldjfcdblbaaW.PrintLast
def NUL : Int × Int × ByteArray := (0, 0, (⟨#[]⟩ : ByteArray))
def bo (b : Bool) : Int × Int × ByteArray := if b = true then (1, 1, (⟨#[]⟩ : ByteArray)) else (1, 0, (⟨#[]⟩ : ByteArray))
theorem boolean_bo (b : Bool) : value_boolean.f b = some (bo b) := by unfold value_boolean.f bo; cases b <;> rfl
def holdsB (op c : Int) : Bool := if op = 1 then c == 0 else if op = 2 then c != 0 else if op = 3 then decide (c < 0) else if op = 4 then decide (c ≤ 0) else if op = 5 then decide (c > 0) else if op = 6 then decide (c ≥ 0) else false
/-- The result of a test. -/
def ts (op a0 a1 : Int) (a2 : ByteArray) (b0 b1 : Int) (b2 : ByteArray) : Int × Int × ByteArray :=
  if a0 = 0 ∨ a0 ≠ b0 ∨ op < 1 ∨ op > 6 then NUL else bo (holdsB op (vc a0 a1 a2 b0 b1 b2))
theorem test_tail (k : Nat) (op a0 a1 : Int) (a2 : ByteArray) (b0 b1 : Int) (b2 : ByteArray) : value_Test.j0 (k + 1) op false a0 a1 a2 b0 b1 b2 = some (bo (holdsB op (vc a0 a1 a2 b0 b1 b2))) := by
  simp only [value_Test.j0, compare_vc, boolean_bo, Bool.false_eq_true, if_false, Option.bind_some, holdsB]
  repeat' split
  all_goals rfl
theorem test_ts (op a0 a1 : Int) (a2 : ByteArray) (b0 b1 : Int) (b2 : ByteArray) : Ev (fun k => value_Test.f k op a0 a1 a2 b0 b1 b2) (ts op a0 a1 a2 b0 b1 b2) := by
  refine Ev.fin (fun k => ?_)
  unfold value_Test.f ts
  by_cases h0 : a0 = 0
  · rw [if_pos h0, if_pos (.inl h0)]
    rfl
  by_cases h1 : a0 = b0
  · rw [if_neg h0, if_pos h1]
    by_cases h2 : op < 1
    · rw [if_pos h2, if_pos (.inr (.inr (.inl h2)))]
      rfl
    · rw [if_neg h2]
      by_cases h3 : op > 6
      · rw [if_pos (.inr (.inr (.inr h3))), decide_eq_true h3]
        rfl
      · rw [if_neg (by omega), decide_eq_false h3]
        exact test_tail k op a0 a1 a2 b0 b1 b2
  · rw [if_neg h0, if_neg h1, if_pos (.inr (.inl h1))]
    rfl
theorem not_bo (b : Bool) : value_Not.f (bo b).1 (bo b).2.1 (bo b).2.2 = some (bo (!b)) := by cases b <;> rfl
theorem not_nul : value_Not.f NUL.1 NUL.2.1 NUL.2.2 = some NUL := rfl
theorem vc_range (a0 a1 : Int) (a2 : ByteArray) (b0 b1 : Int) (b2 : ByteArray) : vc a0 a1 a2 b0 b1 b2 = -1 ∨ vc a0 a1 a2 b0 b1 b2 = 0 ∨ vc a0 a1 a2 b0 b1 b2 = 1 := by
  have hs : ∀ a b : Int, sgn a b = -1 ∨ sgn a b = 0 ∨ sgn a b = 1 := by
    intro a b
    unfold sgn
    repeat' split
    all_goals simp
  have hc : Lib.compareBytes a2.data.toList b2.data.toList = -1 ∨ Lib.compareBytes a2.data.toList b2.data.toList = 0 ∨ Lib.compareBytes a2.data.toList b2.data.toList = 1 := by
    rw [compareBytes_less]
    repeat' split
    all_goals simp
  unfold vc
  repeat' split
  all_goals first | exact hs _ _ | exact hc | simp
theorem diff3 (v : Int × Int × ByteArray) : (!(v.1 == v.1) || (!(v.2.1 == v.2.1) || (!(v.2.2.toList == v.2.2.toList)))) = false := by simp
theorem valueComplements_pure : ∀ (x0 : S23) (x1 : S23), G23 x0 → G23 x1 → ∃ k, laminalaw04_ValueComplements.f k x0.f0 x0.f1 x0.f2 x1.f0 x1.f1 x1.f2 = some true := by
  intro a b _ _
  refine Ev.rounds ?_
  unfold laminalaw04_ValueComplements.f
  obtain ⟨t, ht, _⟩ := ref_valid_dec a.f0 a.f1 a.f2
  obtain ⟨u, hu, _⟩ := ref_valid_dec b.f0 b.f1 b.f2
  have skip : Ev (fun k => laminalaw04_ValueComplements.j0 k true a.f0 a.f1 a.f2 b.f0 b.f1 b.f2) true := Ev.succ (Ev.congr (fun k => by simp only [laminalaw04_ValueComplements.j0]; rw [if_pos trivial]) awake_bind)
  rw [ht, hu]
  simp only [Option.bind_some]
  cases t with
  | false => exact skip
  | true =>
    cases u with
    | false => exact skip
    | true =>
      simp only [if_true, Bool.not_true]
      refine Ev.succ (Ev.congr (fun k => by simp only [laminalaw04_ValueComplements.j0, Bool.false_eq_true, if_false]; rfl) ((test_ts 3 a.f0 a.f1 a.f2 b.f0 b.f1 b.f2).bind ((test_ts 1 a.f0 a.f1 a.f2 b.f0 b.f1 b.f2).bind ((test_ts 5 a.f0 a.f1 a.f2 b.f0 b.f1 b.f2).bind ((test_ts 6 a.f0 a.f1 a.f2 b.f0 b.f1 b.f2).bind ?_)))))
      by_cases hn : a.f0 = 0 ∨ a.f0 ≠ b.f0
      · have e : ∀ op, ts op a.f0 a.f1 a.f2 b.f0 b.f1 b.f2 = NUL := fun op => by
          unfold ts
          exact if_pos (hn.elim .inl fun h => .inr (.inl h))
        simp only [e, not_nul, Option.bind_some, diff3, Bool.false_eq_true, if_false]
        refine Ev.bind (a := NUL) (Ev.congr (fun k => rfl) (by have h := test_ts 2 a.f0 a.f1 a.f2 b.f0 b.f1 b.f2; rw [e] at h; exact h)) ?_
        simp only [diff3, Bool.false_eq_true, if_false]
        refine Ev.bind (a := NUL) (Ev.congr (fun k => rfl) (by have h := test_ts 4 a.f0 a.f1 a.f2 b.f0 b.f1 b.f2; rw [e] at h; exact h)) ?_
        simp only [diff3, Bool.false_eq_true, if_false]
        have fin : Ev (fun k => laminalaw04_ValueComplements.j1 k true NUL.1 NUL.2.1 NUL.2.2 NUL.1 NUL.2.1 NUL.2.2 NUL.1 NUL.2.1 NUL.2.2) true := Ev.succ (Ev.congr (fun k => by simp only [laminalaw04_ValueComplements.j1, NUL]; rfl) awake_bind)
        by_cases h0 : a.f0 = 0
        · simp only [h0, if_true]
          exact fin
        · have h1 : (a.f0 != b.f0) = true := by
            rcases hn with h | h
            · exact absurd h h0
            · exact bne_iff_ne.mpr h
          simp only [h0, if_false, h1]
          exact fin
      · have h0 : ¬ a.f0 = 0 := fun h => hn (.inl h)
        have h1 : a.f0 = b.f0 := by
          by_cases h : a.f0 = b.f0
          · exact h
          · exact absurd (.inr h) hn
        have e : ∀ op, ¬ op < 1 → ¬ op > 6 → ts op a.f0 a.f1 a.f2 b.f0 b.f1 b.f2 = bo (holdsB op (vc a.f0 a.f1 a.f2 b.f0 b.f1 b.f2)) := fun op h2 h3 => by
          unfold ts
          exact if_neg (fun h => h.elim h0 (fun h => h.elim (fun h => h h1) (fun h => h.elim h2 h3)))
        have g2 := test_ts 2 a.f0 a.f1 a.f2 b.f0 b.f1 b.f2
        have g4 := test_ts 4 a.f0 a.f1 a.f2 b.f0 b.f1 b.f2
        have hr := vc_range a.f0 a.f1 a.f2 b.f0 b.f1 b.f2
        rw [e 2 (by decide) (by decide)] at g2
        rw [e 4 (by decide) (by decide)] at g4
        rw [e 3 (by decide) (by decide), e 1 (by decide) (by decide), e 5 (by decide) (by decide), e 6 (by decide) (by decide)]
        generalize vc a.f0 a.f1 a.f2 b.f0 b.f1 b.f2 = c at *
        have k6 : holdsB 6 c = !holdsB 3 c := by rcases hr with rfl | rfl | rfl <;> rfl
        have k2 : holdsB 2 c = !holdsB 1 c := by rcases hr with rfl | rfl | rfl <;> rfl
        have k4 : holdsB 4 c = !holdsB 5 c := by rcases hr with rfl | rfl | rfl <;> rfl
        rw [k6]
        rw [k2] at g2
        rw [k4] at g4
        simp only [not_bo, Option.bind_some, diff3, Bool.false_eq_true, if_false]
        refine g2.bind ?_
        simp only [diff3, Bool.false_eq_true, if_false]
        refine g4.bind ?_
        have h2 : (a.f0 != b.f0) = false := by rw [h1]; simp
        simp only [diff3, Bool.false_eq_true, if_false, h0, h2]
        refine Ev.succ (Ev.congr (fun k => ?_) awake_bind)
        simp only [laminalaw04_ValueComplements.j1, Bool.false_eq_true, if_false]
        have hsum : wrap64 (wrap64 ((bo (holdsB 3 c)).2.1 + (bo (holdsB 1 c)).2.1) + (bo (holdsB 5 c)).2.1) = 1 := by
          rcases hr with rfl | rfl | rfl
          · show wrap64 (wrap64 (1 + 0) + 0) = 1
            unfold wrap64
            omega
          · show wrap64 (wrap64 (0 + 1) + 0) = 1
            unfold wrap64
            omega
          · show wrap64 (wrap64 (0 + 0) + 1) = 1
            unfold wrap64
            omega
        rw [if_pos hsum]
end Go.Proofs.Ytiklldjfcdblbaa.P
