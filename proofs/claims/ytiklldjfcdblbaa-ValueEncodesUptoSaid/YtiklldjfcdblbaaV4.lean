/- Plain facts on rows of values: the program's CompareRows and the reference's are one order. Conditions: the hypotheses that stand. -/
import Derived.Test.YtiklldjfcdblbaaPx19
import Derived.Test.YtiklldjfcdblbaaPx21
import Derived.Test.YtiklldjfcdblbaaV1
namespace Go.Proofs.Ytiklldjfcdblbaa.P
open Go.RowKit Go.Proofs.YtiklldjfcdblbaaW.PrintWords Go.Proofs.YtiklldjfcdblbaaW.PrintLast
def vcs (a b : S23) : Int := vc a.f0 a.f1 a.f2 b.f0 b.f1 b.f2
/-- The order of two rows. -/
def rc : List S23 → List S23 → Int
  | [], [] => 0
  | [], _ :: _ => -1
  | _ :: _, [] => 1
  | a :: x, b :: y => if vcs a b = 0 then rc x y else vcs a b
theorem rc_end (xs ys : List S23) (i : Nat) (h : i ≤ xs.length ∧ i ≤ ys.length ∧ (i = xs.length ∨ i = ys.length)) : rc (xs.drop i) (ys.drop i) = sgn xs.length ys.length := by
  obtain ⟨h1, h2, h3⟩ := h
  unfold sgn
  rcases Nat.lt_trichotomy xs.length ys.length with h | h | h
  · rw [List.drop_of_length_le (by omega), if_pos (by omega), drop_at ys i (by omega)]
    rfl
  · rw [List.drop_of_length_le (by omega), List.drop_of_length_le (by omega), if_neg (by omega), if_neg (by omega)]
    rfl
  · rw [List.drop_of_length_le (l := ys) (by omega), if_neg (by omega), if_pos (by omega), drop_at xs i (by omega)]
    rfl
theorem rows_loop (xs ys : List S23) (hn : xs.length < 9223372036854775807) : ∀ (d i : Nat), i + d = xs.length → i ≤ ys.length →
    Ev (fun k => value_CompareRows.l0 k xs ys (i : Int)) (rc (xs.drop i) (ys.drop i)) := by
  intro d
  induction d with
  | zero =>
    intro i hi hy
    refine Ev.succ (Ev.succ ⟨0, fun k _ => ?_⟩)
    simp only [value_CompareRows.l0]
    rw [if_neg (by omega)]
    simp only [value_CompareRows.j1]
    rw [if_neg (by simp), sign_sgn, rc_end xs ys i ⟨by omega, hy, .inl (by omega)⟩]
    rfl
  | succ d ih =>
    intro i hi hy
    have hlt : i < xs.length := by omega
    by_cases hly : i < ys.length
    · rw [drop_at xs i hlt, drop_at ys i hly]
      have hone : ∀ k, value_CompareRows.l0 (k + 1 + 1) xs ys (i : Int) = if vcs xs[i] ys[i] = 0 then value_CompareRows.l0 k xs ys ((i + 1 : Nat) : Int) else some (vcs xs[i] ys[i]) := by
        intro k
        simp only [value_CompareRows.l0]
        rw [if_pos (by omega), decide_eq_true (show (i : Int) < (ys.length : Int) by omega)]
        simp only [value_CompareRows.j1]
        rw [if_pos trivial, if_pos (by omega), if_pos (by omega), if_pos (by omega), rd_at xs i hlt, rd_at ys i hly, compare_vc, wrap_small (by omega)]
        rfl
      unfold rc
      by_cases h0 : vcs xs[i] ys[i] = 0
      · rw [if_pos h0]
        refine Ev.succ (Ev.succ (Ev.congr (f := fun k => value_CompareRows.l0 k xs ys ((i + 1 : Nat) : Int)) (fun k => ?_) (ih (i + 1) (by omega) (by omega))))
        rw [hone, if_pos h0]
      · rw [if_neg h0]
        refine Ev.succ (Ev.succ ⟨0, fun k _ => ?_⟩)
        show value_CompareRows.l0 (k + 1 + 1) xs ys (i : Int) = _
        rw [hone, if_neg h0]
    · refine Ev.succ (Ev.succ ⟨0, fun k _ => ?_⟩)
      simp only [value_CompareRows.l0]
      rw [if_pos (by omega), decide_eq_false (show ¬ (i : Int) < (ys.length : Int) by omega)]
      simp only [value_CompareRows.j1]
      rw [if_neg (by simp), sign_sgn, rc_end xs ys i ⟨by omega, hy, .inr (by omega)⟩]
      rfl
theorem rows_ev (xs ys : List S23) (hn : xs.length < 9223372036854775807) : Ev (fun k => value_CompareRows.f k xs ys) (rc xs ys) := by
  show Ev (fun k => value_CompareRows.l0 k xs ys 0) _
  simpa using rows_loop xs ys hn xs.length 0 (by omega) (by omega)
theorem ref_rows_loop (xs ys : List S23) (hn : xs.length < 9223372036854775807) (hx : ∀ x ∈ xs, VS x) (hv : ∀ y ∈ ys, VS y) : ∀ (d i : Nat), i + d = xs.length → i ≤ ys.length →
    Ev (fun k => laminaref04_CompareRows.l0 k xs ys (i : Int)) (rc (xs.drop i) (ys.drop i)) := by
  intro d
  induction d with
  | zero =>
    intro i hi hy
    refine Ev.succ (Ev.succ ⟨0, fun k _ => ?_⟩)
    simp only [laminaref04_CompareRows.l0]
    rw [if_neg (by omega)]
    simp only [laminaref04_CompareRows.j1]
    rw [if_neg (by simp), ref_sign_sgn, rc_end xs ys i ⟨by omega, hy, .inl (by omega)⟩]
    rfl
  | succ d ih =>
    intro i hi hy
    have hlt : i < xs.length := by omega
    by_cases hly : i < ys.length
    · rw [drop_at xs i hlt, drop_at ys i hly]
      have hone : ∀ k, laminaref04_CompareRows.l0 (k + 1 + 1) xs ys (i : Int) = if vcs xs[i] ys[i] = 0 then laminaref04_CompareRows.l0 k xs ys ((i + 1 : Nat) : Int) else some (vcs xs[i] ys[i]) := by
        intro k
        simp only [laminaref04_CompareRows.l0]
        rw [if_pos (by omega), decide_eq_true (show (i : Int) < (ys.length : Int) by omega)]
        simp only [laminaref04_CompareRows.j1]
        rw [if_pos trivial, if_pos (by omega), if_pos (by omega), if_pos (by omega), rd_at xs i hlt, rd_at ys i hly, ref_compare_vc _ _ _ _ _ _ (hx _ (List.getElem_mem hlt)) (hv _ (List.getElem_mem hly)), wrap_small (by omega)]
        rfl
      unfold rc
      by_cases h0 : vcs xs[i] ys[i] = 0
      · rw [if_pos h0]
        refine Ev.succ (Ev.succ (Ev.congr (f := fun k => laminaref04_CompareRows.l0 k xs ys ((i + 1 : Nat) : Int)) (fun k => ?_) (ih (i + 1) (by omega) (by omega))))
        rw [hone, if_pos h0]
      · rw [if_neg h0]
        refine Ev.succ (Ev.succ ⟨0, fun k _ => ?_⟩)
        show laminaref04_CompareRows.l0 (k + 1 + 1) xs ys (i : Int) = _
        rw [hone, if_neg h0]
    · refine Ev.succ (Ev.succ ⟨0, fun k _ => ?_⟩)
      simp only [laminaref04_CompareRows.l0]
      rw [if_pos (by omega), decide_eq_false (show ¬ (i : Int) < (ys.length : Int) by omega)]
      simp only [laminaref04_CompareRows.j1]
      rw [if_neg (by simp), ref_sign_sgn, rc_end xs ys i ⟨by omega, hy, .inr (by omega)⟩]
      rfl
theorem ref_rows_ev (xs ys : List S23) (hn : xs.length < 9223372036854775807) (hx : ∀ x ∈ xs, VS x) (hv : ∀ y ∈ ys, VS y) : Ev (fun k => laminaref04_CompareRows.f k xs ys) (rc xs ys) := by
  show Ev (fun k => laminaref04_CompareRows.l0 k xs ys 0) _
  simpa using ref_rows_loop xs ys hn hx hv xs.length 0 (by omega) (by omega)
end Go.Proofs.Ytiklldjfcdblbaa.P
