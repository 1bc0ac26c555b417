/- The plain law of ValueCompares: the program's CompareRows, Compare and Equal give what the reference's give, for valid rows. -/
import Derived.Test.YtiklldjfcdblbaaV1
import Derived.Test.YtiklldjfcdblbaaPx23
namespace Go.Proofs.Ytiklldjfcdblbaa.P
open Go.RowKit Go.Proofs.YtiklldjfcdblbaaW.PrintWords Go.Proofs.YtiklldjfcdblbaaW.PrintLast
theorem compares_loop (xs ys : List S23) (hn : xs.length < 9223372036854775807) (hx : ∀ x ∈ xs, VS x) (hv : ∀ y ∈ ys, VS y) : ∀ (d i : Nat), i + d = xs.length → i ≤ ys.length →
    Ev (fun k => laminalaw04_ValueCompares.l0 k xs ys (i : Int)) true := by
  intro d
  induction d with
  | zero =>
    intro i hi hy
    refine Ev.succ (Ev.succ (Ev.congr (fun k => ?_) awake_bind))
    simp only [laminalaw04_ValueCompares.l0]
    rw [if_neg (by omega)]
    simp only [laminalaw04_ValueCompares.j2]
    rw [if_neg (by simp)]
  | succ d ih =>
    intro i hi hy
    have hlt : i < xs.length := by omega
    by_cases hly : i < ys.length
    · refine Ev.succ (Ev.succ (Ev.congr (f := fun k => laminalaw04_ValueCompares.l0 k xs ys ((i + 1 : Nat) : Int)) (fun k => ?_) (ih (i + 1) (by omega) (by omega))))
      simp only [laminalaw04_ValueCompares.l0]
      rw [if_pos (by omega), decide_eq_true (show (i : Int) < (ys.length : Int) by omega)]
      simp only [laminalaw04_ValueCompares.j2]
      unfold value_Equal.f laminaref04_Equal.f
      rw [if_pos trivial, if_pos (by omega), if_pos (by omega), if_pos (by omega), rd_at xs i hlt, rd_at ys i hly, compare_vc, ref_compare_vc _ _ _ _ _ _ (hx _ (List.getElem_mem hlt)) (hv _ (List.getElem_mem hly)), wrap_small (by omega)]
      simp
    · refine Ev.succ (Ev.succ (Ev.congr (fun k => ?_) awake_bind))
      simp only [laminalaw04_ValueCompares.l0]
      rw [if_pos (by omega), decide_eq_false (show ¬ (i : Int) < (ys.length : Int) by omega)]
      simp only [laminalaw04_ValueCompares.j2]
      rw [if_neg (by simp)]
theorem small {xs : List S23} (h : xs.length * 32 ≤ 140737488351232) : xs.length < 9223372036854775807 := by omega
theorem valueCompares_pure : ∀ (x0 : List (S23)) (x1 : List (S23)), (x0.length * 32 ≤ 140737488351232 ∧ ∀ y ∈ x0, G23 y) → (x1.length * 32 ≤ 140737488351232 ∧ ∀ y ∈ x1, G23 y) → ∃ k, laminalaw04_ValueCompares.f k x0 x1 = some true := by
  intro xs ys hx hy
  refine Ev.rounds ?_
  unfold laminalaw04_ValueCompares.f
  have hn := small hx.1
  have hm := small hy.1
  obtain ⟨t, ht, hv⟩ := valid_rows xs hn
  obtain ⟨u, hu, hw⟩ := valid_rows ys hm
  have skip : Ev (fun k => laminalaw04_ValueCompares.j0 k xs ys true) true := Ev.succ (Ev.congr (fun k => by simp only [laminalaw04_ValueCompares.j0]; rw [if_pos trivial]) awake_bind)
  refine ht.bind ?_
  cases t with
  | false =>
    simp only [Bool.false_eq_true, if_false]
    exact skip
  | true =>
    simp only [if_true]
    refine hu.bind ?_
    cases u with
    | false => exact skip
    | true =>
      have main : Ev (fun k => (value_CompareRows.f k xs ys).bind fun a => (laminaref04_CompareRows.f k xs ys).bind fun b => if a = b then laminalaw04_ValueCompares.l0 k xs ys 0 else none) true := by
        refine (rows_ev xs ys hn).bind ((ref_rows_ev xs ys hn (hv.1 rfl) (hw.1 rfl)).bind ?_)
        simp only [if_true]
        exact compares_loop xs ys hn (hv.1 rfl) (hw.1 rfl) xs.length 0 (by omega) (by omega)
      refine Ev.succ (Ev.congr (fun k => ?_) main)
      simp [laminalaw04_ValueCompares.j0]
end Go.Proofs.Ytiklldjfcdblbaa.P
