/- Plain facts on rows of values: the reference's ValidRow says whether every value is valid. Conditions: the hypotheses that stand. -/
import Derived.Test.YtiklldjfcdblbaaPx18
import Derived.Test.YtiklldjfcdblbaaV0
namespace Go.Proofs.Ytiklldjfcdblbaa.P
open Go.RowKit Go.Proofs.YtiklldjfcdblbaaW.PrintWords Go.Proofs.YtiklldjfcdblbaaW.PrintLast
theorem wrap_small {i : Nat} (h : i < 9223372036854775807) : wrap64 ((i : Int) + 1) = ((i + 1 : Nat) : Int) := by unfold wrap64; omega
theorem rd_at (xs : List S23) (i : Nat) (h : i < xs.length) : rd_T23 xs (i : Int) = xs[i] := by
  unfold rd_T23
  rw [Int.toNat_natCast, List.getD_eq_getElem?_getD, List.getElem?_eq_getElem h]
  rfl
theorem drop_at {α : Type} (xs : List α) (i : Nat) (h : i < xs.length) : xs.drop i = xs[i] :: xs.drop (i + 1) := List.drop_eq_getElem_cons h

def VS (x : S23) : Prop := V x.f0 x.f1 x.f2
theorem validRow_loop (xs : List S23) (hn : xs.length < 9223372036854775807) : ∀ (d i : Nat), i + d = xs.length →
    ∃ t, Ev (fun k => laminaref04_ValidRow.l0 k xs (i : Int)) t ∧ (t = true ↔ ∀ x ∈ xs.drop i, VS x) := by
  intro d
  induction d with
  | zero =>
    intro i hi
    refine ⟨true, Ev.succ ⟨0, fun k _ => ?_⟩, ?_⟩
    · simp only [laminaref04_ValidRow.l0]
      rw [if_neg (by omega)]
    · rw [List.drop_of_length_le (by omega)]
      simp
  | succ d ih =>
    intro i hi
    have hlt : i < xs.length := by omega
    obtain ⟨t, ht, htv⟩ := ref_valid_dec xs[i].f0 xs[i].f1 xs[i].f2
    rw [drop_at xs i hlt]
    cases t with
    | false =>
      refine ⟨false, Ev.succ ⟨0, fun k _ => ?_⟩, ?_⟩
      · simp only [laminaref04_ValidRow.l0]
        rw [if_pos (by omega), if_pos (by omega), rd_at xs i hlt, ht]
        rfl
      · constructor
        · intro h
          cases h
        · intro h
          exact htv.2 (h _ List.mem_cons_self)
    | true =>
      obtain ⟨u, hu, huv⟩ := ih (i + 1) (by omega)
      refine ⟨u, Ev.step (fun k => ?_) hu, ?_⟩
      · simp only [laminaref04_ValidRow.l0]
        rw [if_pos (by omega), if_pos (by omega), rd_at xs i hlt, ht, wrap_small (by omega)]
        rfl
      · rw [huv]
        constructor
        · intro h x hx
          rcases List.mem_cons.1 hx with rfl | hx
          · exact htv.1 rfl
          · exact h x hx
        · exact fun h x hx => h x (List.mem_cons_of_mem _ hx)
theorem valid_rows (xs : List S23) (hn : xs.length < 9223372036854775807) : ∃ t, Ev (fun k => laminalaw04_valid.f k xs) t ∧ (t = true ↔ ∀ x ∈ xs, VS x) := by
  obtain ⟨t, ht, hv⟩ := validRow_loop xs hn xs.length 0 (by omega)
  exact ⟨t, ht.bind (Ev.now t), by simpa using hv⟩

end Go.Proofs.Ytiklldjfcdblbaa.P
