/- The plain law of ValueOrders: CompareRows is antisymmetric and transitive, and sort keys stand in the order of the rows. Condition: at most 1048576 values a row. -/
import Derived.Test.YtiklldjfcdblbaaPx43
import Derived.Test.YtiklldjfcdblbaaV8
import Derived.Test.YtiklldjfcdblbaaKinds
namespace Go.Proofs.Ytiklldjfcdblbaa.P
open Go.RowKit Go.Proofs.YtiklldjfcdblbaaW.PrintWords Go.Proofs.YtiklldjfcdblbaaW.PrintLast Go.Proofs.YtiklldjfcdblbaaW.PrintMore
theorem less_ci (p q : List Int) (hp : Bytes p) (hq : Bytes q) : Op.bytesLess (strOfNums p).toList (strOfNums q).toList = decide (ci p q < 0) := by
  have h1 : ∀ r : List Int, Bytes r → (strOfNums r).toList.map (fun b => (b.toNat : Int)) = r := fun r hr => by
    have h := bytes_back r hr
    rw [Lib.toList_data]
    exact h
  have h := compareBytes_less (strOfNums p).toList (strOfNums q).toList
  rw [compareBytes_ci, h1 p hp, h1 q hq] at h
  rw [h]
  by_cases c1 : Op.bytesLess (strOfNums p).toList (strOfNums q).toList = true
  · rw [if_pos c1, c1]
    rfl
  · rw [if_neg c1]
    by_cases c2 : Op.bytesLess (strOfNums q).toList (strOfNums p).toList = true
    · rw [if_pos c2]
      simpa using c1
    · rw [if_neg c2]
      simpa using c1
theorem i64_of_good {l : List S23} (h : ∀ y ∈ l, G23 y) : ∀ x ∈ l, I64v x := by
  intro x hx
  have := (h x hx).2.1
  simp only [Lit.wf, IntKind.min, IntKind.max, IntKind.signed, IntKind.bits, Bool.and_eq_true, decide_eq_true_eq, if_true] at this
  unfold I64v
  omega
theorem valueOrders_upto_pure : ∀ (x0 : List (S23)) (x1 : List (S23)) (x2 : List (S23)), (x0.length * 32 ≤ 140737488351232 ∧ ∀ y ∈ x0, G23 y) → (x1.length * 32 ≤ 140737488351232 ∧ ∀ y ∈ x1, G23 y) → (x2.length * 32 ≤ 140737488351232 ∧ ∀ y ∈ x2, G23 y) → x0.length ≤ 1048576 → x1.length ≤ 1048576 → x2.length ≤ 1048576 → ∃ k, laminalaw04_ValueOrders.f k x0 x1 x2 = some true := by
  intro xs ys zs hx hy hz nx ny nz
  refine Ev.rounds ?_
  obtain ⟨t, ht, hv⟩ := valid_rows xs (by omega)
  obtain ⟨u, hu, hw⟩ := valid_rows ys (by omega)
  obtain ⟨w, hww, hq⟩ := valid_rows zs (by omega)
  have ix := i64_of_good hx.2
  have iy := i64_of_good hy.2
  have iz := i64_of_good hz.2
  unfold laminalaw04_ValueOrders.f
  have skip : Ev (fun k => laminalaw04_ValueOrders.j0 k xs ys zs true) true := Ev.succ (Ev.congr (fun k => by simp only [laminalaw04_ValueOrders.j0]; rw [if_pos trivial]) awake_bind)
  refine ht.bind ?_
  cases t with
  | false =>
    simp only [Bool.false_eq_true, if_false]
    exact skip
  | true =>
    simp only [if_true]
    refine hu.bind ?_
    cases u with
    | false => exact skip
    | true =>
      simp only [if_true]
      refine hww.bind ?_
      cases w with
      | false => exact skip
      | true =>
        have vx := hv.1 rfl
        have vy := hw.1 rfl
        have last : Ev (fun k => laminalaw04_ValueOrders.j1 k xs ys (rc xs ys) false) true := by
          have main : Ev (fun k => (value_SortKey.f k xs).bind fun p => (value_SortKey.f k ys).bind fun q => if ((decide (rc xs ys < 0)) == (Op.bytesLess ((strOfNums p).toList) ((strOfNums q).toList))) = true then (if ((decide (rc xs ys > 0)) == (Op.bytesLess ((strOfNums q).toList) ((strOfNums p).toList))) = true then ((laminalaw04_awake.f k).bind fun t => some t) else none) else none) true := by
            refine (sk_ev xs nx vx ix).bind ((sk_ev ys ny vy iy).bind ?_)
            rw [less_ci _ _ (keys_bytes xs vx) (keys_bytes ys vy), less_ci _ _ (keys_bytes ys vy) (keys_bytes xs vx), ci_keys xs ys ix iy, ci_keys ys xs iy ix, ← ci_keys xs ys ix iy, ← ci_keys ys xs iy ix, ci_swap (keys xs) (keys ys)]
            refine Ev.congr (fun k => ?_) awake_bind
            rw [if_pos (by simp), if_pos (by simp)]
          refine Ev.succ (Ev.congr (fun k => ?_) main)
          simp [laminalaw04_ValueOrders.j1]
        have hs : rc ys xs = -rc xs ys := by rw [← ci_keys xs ys ix iy, ← ci_keys ys xs iy ix, ci_swap]
        have ht1 : rc xs ys ≤ 0 → rc ys zs ≤ 0 → rc xs zs ≤ 0 := by
          rw [← ci_keys xs ys ix iy, ← ci_keys ys zs iy iz, ← ci_keys xs zs ix iz]
          exact ci_trans _ _ _
        have ht2 : 0 ≤ rc xs ys → 0 ≤ rc ys zs → 0 ≤ rc xs zs := by
          rw [← ci_keys xs ys ix iy, ← ci_keys ys zs iy iz, ← ci_keys xs zs ix iz]
          have h := ci_trans (keys zs) (keys ys) (keys xs)
          rw [ci_swap (keys ys) (keys zs), ci_swap (keys xs) (keys ys), ci_swap (keys xs) (keys zs)] at h
          omega
        have hr : rc xs ys = -1 ∨ rc xs ys = 0 ∨ rc xs ys = 1 := by rw [← ci_keys xs ys ix iy]; exact ci_range _ _
        refine Ev.succ (Ev.congr (fun k => by simp only [laminalaw04_ValueOrders.j0, Bool.not_true, Bool.false_eq_true, if_false]; rfl) ((rows_ev xs ys (by omega)).bind ((rows_ev ys zs (by omega)).bind ((rows_ev xs zs (by omega)).bind ((rows_ev ys xs (by omega)).bind ?_)))))
        generalize rc xs ys = a at *
        generalize rc ys zs = b at *
        generalize rc xs zs = c at *
        generalize rc ys xs = d at *
        refine Ev.congr (fun k => ?_) last
        rw [if_pos (by unfold wrap64; omega)]
        by_cases a1 : a ≤ 0
        · rw [if_pos a1]
          by_cases b1 : b ≤ 0
          · rw [if_pos b1, if_neg (by omega)]
            by_cases a2 : a ≥ 0
            · rw [if_pos a2]
              by_cases b2 : b ≥ 0
              · rw [if_pos b2, decide_eq_false (by omega)]
              · rw [if_neg b2]
            · rw [if_neg a2]
          · rw [if_neg b1]
            by_cases a2 : a ≥ 0
            · rw [if_pos a2, if_pos (by omega), decide_eq_false (by omega)]
            · rw [if_neg a2]
        · rw [if_neg a1, if_pos (by omega)]
          by_cases b2 : b ≥ 0
          · rw [if_pos b2, decide_eq_false (by omega)]
          · rw [if_neg b2]
end Go.Proofs.Ytiklldjfcdblbaa.P
