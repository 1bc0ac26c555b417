/- Plain facts on varints, of the reference: its Decode reads the same number as the program's. Conditions: the hypotheses that stand. -/
import Derived.Test.YtiklldjfcdblbaaPx14
import Derived.Test.YtiklldjfcdblbaaV3
namespace Go.Proofs.Ytiklldjfcdblbaa.P
open Go.RowKit Go.Proofs.YtiklldjfcdblbaaW.PrintWords Go.Proofs.YtiklldjfcdblbaaW.PrintLast Go.Proofs.YtiklldjfcdblbaaW.PrintMore
theorem u64_nat {n : Nat} (h : n < 18446744073709551616) : IntKind.u64.wrap (n : Int) = (n : Int) := by rw [IntKind.wrap_u64]; omega
theorem ref_step (n i : Nat) (hi : i ≤ 9) (hn : n < 128 ^ i) (c : Int) (h0 : 0 ≤ c) (h1 : c ≤ 255) (h9 : i = 9 → c ≤ 1) :
    IntKind.u64.wrap ((n : Int) + (IntKind.u64.wrap ((IntKind.u64.wrap (Int.tmod c 128)) * ((128 ^ i : Nat) : Int)))) = ((n + (c % 128).toNat * 128 ^ i : Nat) : Int) := by
  have hlt : n + (c % 128).toNat * 128 ^ i < 2 ^ 64 := by
    by_cases h : i = 9
    · subst h
      have : (c % 128).toNat ≤ 1 := by have := h9 rfl; omega
      have h2 : (c % 128).toNat * 128 ^ 9 ≤ 1 * 128 ^ 9 := Nat.mul_le_mul_right _ this
      have h3 : 128 ^ 9 + 128 ^ 9 = 2 ^ 64 := by decide
      omega
    · have h2 := pow_bd (by omega) hn (c := (c % 128).toNat) (by omega)
      have h3 : 128 ^ (i + 1) ≤ 128 ^ 9 := Nat.pow_le_pow_right (by decide) (by omega)
      have h4 : 128 ^ 9 < 2 ^ 64 := by decide
      omega
  rw [Int.tmod_eq_emod_of_nonneg h0, show c % 128 = (((c % 128).toNat : Nat) : Int) by omega, u64_nat (by omega), Int.toNat_natCast, ← Int.natCast_mul, u64_nat (by omega), ← Int.natCast_add, u64_nat (by omega)]
theorem ref_dec_loop (b : List Int) (hb : Bytes b) (hl : b.length < 4611686018427387904) (off : Nat) : ∀ (d i n : Nat), off + i + d = b.length → i ≤ 9 → n < 128 ^ i →
    Ev (fun k => laminaref01_Decode.l0 k b (off : Int) (n : Int) ((128 ^ i : Nat) : Int) (i : Int)) (vres off n i (vd i (b.drop (off + i)))) := by
  intro d
  induction d with
  | zero =>
    intro i n hd hi hn
    refine Ev.fin fun k => ?_
    rw [List.drop_of_length_le (by omega)]
    simp only [laminaref01_Decode.l0]
    rw [show ((off : Int) + (i : Int)) = ((off + i : Nat) : Int) by omega, wrap_nat (by omega), if_pos (by omega)]
    rfl
  | succ d ih =>
    intro i n hd hi hn
    have hlt : off + i < b.length := by omega
    have hc := hb _ (List.getElem_mem hlt)
    rw [drop_at b (off + i) hlt]
    have hone : ∀ k, laminaref01_Decode.l0 (k + 1) b (off : Int) (n : Int) ((128 ^ i : Nat) : Int) (i : Int) = laminaref01_Decode.j2 k b off n ((128 ^ i : Nat) : Int) i b[off + i] (decide ((i = 9 ∧ b[off + i] > 1) ∨ (0 < i ∧ b[off + i] = 0))) := by
      intro k
      simp only [laminaref01_Decode.l0]
      rw [show ((off : Int) + (i : Int)) = ((off + i : Nat) : Int) by omega, wrap_nat (by omega), if_neg (by omega), if_pos (by omega), if_pos (by omega), rd_nat b _ hlt]
      by_cases h9 : i = 9
      · rw [if_pos (by omega)]
        by_cases h1 : b[off + i] > 1
        · rw [if_pos h1, decide_eq_true (.inl ⟨h9, h1⟩)]
        · rw [if_neg h1, if_pos (by omega)]
          congr 1
          by_cases h0 : b[off + i] = 0
          · rw [decide_eq_true (.inr ⟨by omega, h0⟩)]
            exact beq_iff_eq.mpr h0
          · rw [decide_eq_false (by omega)]
            exact beq_eq_false_iff_ne.mpr h0
      · rw [if_neg (by omega)]
        by_cases h0 : 0 < i
        · rw [if_pos (by omega)]
          congr 1
          by_cases h1 : b[off + i] = 0
          · rw [decide_eq_true (.inr ⟨h0, h1⟩)]
            exact beq_iff_eq.mpr h1
          · rw [decide_eq_false (by omega)]
            exact beq_eq_false_iff_ne.mpr h1
        · rw [if_neg (by omega), decide_eq_false (by omega)]
    generalize b[off + i] = c at *
    simp only [vd]
    by_cases hbad : (i = 9 ∧ c > 1) ∨ (0 < i ∧ c = 0)
    · have hv : (if i = 9 ∧ c > 1 then (0, 0, 4) else if c ≥ 128 then (if (vd (i + 1) (b.drop (off + i + 1))).2.2 = 0 then ((c - 128).toNat + 128 * (vd (i + 1) (b.drop (off + i + 1))).1, (vd (i + 1) (b.drop (off + i + 1))).2.1 + 1, 0) else (0, 0, (vd (i + 1) (b.drop (off + i + 1))).2.2)) else if c = 0 ∧ 0 < i then (0, 0, 4) else (c.toNat, 1, 0) : Nat × Nat × Int) = (0, 0, 4) := by
        by_cases h1 : i = 9 ∧ c > 1
        · rw [if_pos h1]
        · rw [if_neg h1, if_neg (by omega), if_pos (by omega)]
      rw [hv]
      refine Ev.succ (Ev.fin fun k => ?_)
      show laminaref01_Decode.l0 (k + 1 + 1) b (off : Int) (n : Int) _ (i : Int) = _
      rw [hone, decide_eq_true hbad]
      simp [laminaref01_Decode.j2, vres]
    · rw [if_neg (by omega)]
      have hj : ∀ k, laminaref01_Decode.l0 (k + 1 + 1) b (off : Int) (n : Int) ((128 ^ i : Nat) : Int) (i : Int) = if c < 128 then some (((n + (c % 128).toNat * 128 ^ i : Nat) : Int), ((off + i + 1 : Nat) : Int), 0) else laminaref01_Decode.l0 k b (off : Int) ((n + (c % 128).toNat * 128 ^ i : Nat) : Int) (IntKind.u64.wrap (((128 ^ i : Nat) : Int) * 128)) ((i + 1 : Nat) : Int) := by
        intro k
        rw [hone, decide_eq_false hbad]
        simp only [laminaref01_Decode.j2]
        rw [if_neg (by simp), ref_step n i hi hn c hc.1 hc.2 (by omega), show wrap64 ((i : Int) + 1) = ((i + 1 : Nat) : Int) by unfold wrap64; omega, show ((off : Int) + (i : Int)) = ((off + i : Nat) : Int) by omega, wrap_nat (n := off + i) (by omega), show wrap64 (((off + i : Nat) : Int) + 1) = ((off + i + 1 : Nat) : Int) by unfold wrap64; omega]
      by_cases h2 : c ≥ 128
      · rw [if_pos h2]
        have hi8 : i ≤ 8 := by omega
        have hpb := pow_bd hi8 hn (c := (c % 128).toNat) (by omega)
        have h := ih (i + 1) (n + (c % 128).toNat * 128 ^ i) (by omega) (by omega) hpb.1
        rw [vres_more off n i (c % 128).toNat _ _ rfl] at h
        rw [show (c - 128).toNat = (c % 128).toNat by omega]
        refine Ev.succ (Ev.succ (Ev.congr (f := fun k => laminaref01_Decode.l0 k b (off : Int) ((n + (c % 128).toNat * 128 ^ i : Nat) : Int) ((128 ^ (i + 1) : Nat) : Int) ((i + 1 : Nat) : Int)) (fun k => ?_) h))
        show laminaref01_Decode.l0 (k + 1 + 1) b (off : Int) (n : Int) _ (i : Int) = _
        have h3 : 128 ^ (i + 1) ≤ 128 ^ 9 := Nat.pow_le_pow_right (by decide) (by omega)
        have h4 : 128 ^ 9 < 18446744073709551616 := by decide
        rw [hj, if_neg (by omega), show ((128 ^ i : Nat) : Int) * 128 = ((128 ^ (i + 1) : Nat) : Int) by rw [Nat.pow_succ]; rfl, u64_nat (by omega)]
      · rw [if_neg h2, if_neg (by omega)]
        refine Ev.succ (Ev.fin fun k => ?_)
        show laminaref01_Decode.l0 (k + 1 + 1) b (off : Int) (n : Int) _ (i : Int) = _
        rw [hj, if_pos (by omega)]
        unfold vres
        rw [if_pos rfl, show (c % 128).toNat = c.toNat by omega, Nat.mul_comm]
theorem ref_dec_ev (b : List Int) (hb : Bytes b) (hl : b.length < 4611686018427387904) (off : Nat) (ho : off ≤ b.length) : Ev (fun k => laminaref01_Decode.f k b (off : Int)) (vres off 0 0 (vd 0 (b.drop off))) := by
  have h := ref_dec_loop b hb hl off (b.length - off) 0 0 (by omega) (by omega) (by decide)
  rw [Nat.add_zero] at h
  refine Ev.succ (Ev.congr (fun k => ?_) h)
  unfold laminaref01_Decode.f
  rw [if_neg (by omega), decide_eq_false (by omega)]
  simp only [laminaref01_Decode.j0]
  rw [if_neg (by simp)]
  rfl
end Go.Proofs.Ytiklldjfcdblbaa.P
