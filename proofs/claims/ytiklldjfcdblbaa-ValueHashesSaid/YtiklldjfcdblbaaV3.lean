/- Plain facts on varints: the program's Decode and the reference's read one number, and what they read is its encoding. Conditions: the hypotheses that stand. -/
import Derived.Test.YtiklldjfcdblbaaPx3
import Derived.Test.YtiklldjfcdblbaaPx14
import Derived.Test.YtiklldjfcdblbaaPx6
import Derived.Test.YtiklldjfcdblbaaV1
import Derived.Laws.BitsAllLaws
namespace Go.Proofs.Ytiklldjfcdblbaa.P
open Go.RowKit Go.Proofs.YtiklldjfcdblbaaW.PrintWords Go.Proofs.YtiklldjfcdblbaaW.PrintLast Go.Proofs.YtiklldjfcdblbaaW.PrintMore
/-- The encoding of a number. -/
def venc (n : Nat) : List Int := if h : n < 128 then [(n : Int)] else ((n % 128 + 128 : Nat) : Int) :: venc (n / 128)
/-- A number read at the front of a list of bytes, i bytes of it having been read: the number, how many bytes, the error. -/
def vd (i : Nat) : List Int → Nat × Nat × Int
  | [] => (0, 0, 2)
  | c :: l => if i = 9 ∧ c > 1 then (0, 0, 4) else if c ≥ 128 then (if (vd (i + 1) l).2.2 = 0 then ((c - 128).toNat + 128 * (vd (i + 1) l).1, (vd (i + 1) l).2.1 + 1, 0) else (0, 0, (vd (i + 1) l).2.2)) else if c = 0 ∧ 0 < i then (0, 0, 4) else (c.toNat, 1, 0)
def Bytes (l : List Int) : Prop := ∀ c ∈ l, 0 ≤ c ∧ c ≤ 255
theorem vd_ok : ∀ (l : List Int) (i : Nat), Bytes l → i ≤ 9 → (vd i l).2.2 = 0 →
    1 ≤ (vd i l).2.1 ∧ (vd i l).2.1 ≤ l.length ∧ (vd i l).1 * 128 ^ i < 2 ^ 64 ∧ (0 < i → 0 < (vd i l).1) ∧ venc (vd i l).1 = l.take (vd i l).2.1
  | [], i, _, _, h => by simp [vd] at h
  | c :: l, i, hb, hi, h => by
    have hc := hb c List.mem_cons_self
    have hbl : Bytes l := fun x hx => hb x (List.mem_cons_of_mem _ hx)
    simp only [vd] at h ⊢
    by_cases h1 : i = 9 ∧ c > 1
    · rw [if_pos h1] at h
      exact absurd h (by simp)
    rw [if_neg h1] at h ⊢
    by_cases h2 : c ≥ 128
    · rw [if_pos h2] at h ⊢
      by_cases h3 : (vd (i + 1) l).2.2 = 0
      · rw [if_pos h3] at h ⊢
        have hi9 : i ≤ 8 := by omega
        obtain ⟨a1, a2, a3, a4, a5⟩ := vd_ok l (i + 1) hbl (by omega) h3
        have hp := a4 (by omega)
        generalize (vd (i + 1) l).1 = n at *
        generalize (vd (i + 1) l).2.1 = m at *
        have hc2 : (c - 128).toNat < 128 := by omega
        dsimp only
        refine ⟨by omega, by rw [List.length_cons]; omega, ?_, by omega, ?_⟩
        · have e : 128 ^ (i + 1) = 128 ^ i * 128 := Nat.pow_succ ..
          have hpow : 128 ^ i ≤ 128 ^ 8 := Nat.pow_le_pow_right (by decide) hi9
          rw [e] at a3
          have h64 : ∃ q, 2 ^ 64 = q * (128 ^ i * 128) := by
            refine ⟨2 ^ (64 - 7 * (i + 1)), ?_⟩
            rw [show (128 : Nat) = 2 ^ 7 from rfl, ← Nat.pow_mul, ← Nat.pow_add, ← Nat.pow_add]
            congr 1
            omega
          obtain ⟨q, hq⟩ := h64
          rw [hq] at a3 ⊢
          have hnq : n < q := Nat.lt_of_mul_lt_mul_right a3
          have hpos : 0 < 128 ^ i := Nat.pow_pos (by decide)
          calc ((c - 128).toNat + 128 * n) * 128 ^ i < (128 + 128 * n) * 128 ^ i := Nat.mul_lt_mul_of_pos_right (by omega) hpos
            _ = (n + 1) * (128 ^ i * 128) := by rw [show 128 + 128 * n = (n + 1) * 128 by omega, Nat.mul_assoc, Nat.mul_comm 128]
            _ ≤ q * (128 ^ i * 128) := Nat.mul_le_mul_right _ hnq
        · rw [List.take_succ_cons, ← a5]
          conv => lhs; unfold venc
          rw [dif_neg (by omega), show ((c - 128).toNat + 128 * n) % 128 = (c - 128).toNat by omega, show ((c - 128).toNat + 128 * n) / 128 = n by omega]
          congr 1
          omega
      · rw [if_neg h3] at h
        exact absurd h h3
    · rw [if_neg h2] at h ⊢
      by_cases h3 : c = 0 ∧ 0 < i
      · rw [if_pos h3] at h
        exact absurd h (by simp)
      rw [if_neg h3]
      dsimp only
      refine ⟨Nat.le_refl _, by simp, ?_, by omega, ?_⟩
      · by_cases h9 : i = 9
        · subst h9
          have : c.toNat ≤ 1 := by omega
          calc c.toNat * 128 ^ 9 ≤ 1 * 128 ^ 9 := Nat.mul_le_mul_right _ this
            _ < 2 ^ 64 := by decide
        · have : 128 ^ i ≤ 128 ^ 8 := Nat.pow_le_pow_right (by decide) (by omega)
          calc c.toNat * 128 ^ i ≤ 128 * 128 ^ 8 := Nat.mul_le_mul (by omega) this
            _ < 2 ^ 64 := by decide
      · show venc c.toNat = [c]
        unfold venc
        rw [dif_pos (by omega)]
        congr 1
        omega
theorem shl_pow (x : Int) (i : Nat) (hi : i ≤ 9) (h0 : 0 ≤ x) (h : x * 128 ^ i < 2 ^ 64) : shl .u64 x (7 * (i : Int)) = x * 128 ^ i := by
  unfold shl
  have e : (7 * (i : Int)).toNat = 7 * i := by omega
  rw [e, Nat.min_eq_left (by show 7 * i ≤ 64; omega), Int.pow_mul, show (2 : Int) ^ 7 = 128 from rfl]
  have hp : (0 : Int) < 128 ^ i := Int.pow_pos (by decide)
  rw [IntKind.wrap_u64]
  have h1 : 0 ≤ x * 128 ^ i := Int.mul_nonneg h0 (Int.le_of_lt hp)
  exact Int.emod_eq_of_lt h1 h
theorem or_add (n x i : Nat) (hi : i ≤ 9) (hn : n < 128 ^ i) (h : x * 128 ^ i < 2 ^ 64) : Go.bits .or .u64 (n : Int) ((x : Int) * 128 ^ i) = ((n + x * 128 ^ i : Nat) : Int) := by
  have hp : 0 < 128 ^ i := Nat.pow_pos (by decide)
  have hn64 : n < 18446744073709551616 := by
    have : 128 ^ i ≤ 128 ^ 9 := Nat.pow_le_pow_right (by decide) hi
    have e9 : 128 ^ 9 < 18446744073709551616 := by decide
    omega
  have hm := u64_or_nat n (x * 128 ^ i) hn64 (by omega)
  rw [show ((x : Int) * 128 ^ i) = ((x * 128 ^ i : Nat) : Int) by push_cast; rfl, hm]
  congr 1
  rw [show (128 : Nat) ^ i = 2 ^ (7 * i) by rw [Nat.pow_mul]] at *
  rw [Nat.or_comm, Nat.mul_comm, ← Nat.two_pow_add_eq_or_of_lt hn, Nat.add_comm, Nat.mul_comm]
theorem and127 (c : Int) (h0 : 0 ≤ c) (h1 : c ≤ 255) : Go.bits .and .u8 c 127 = c % 128 := by
  have h := u8_and c 127 h0 (by omega) (by decide) (by decide)
  rw [h]
  have e : c.toNat &&& (127 : Int).toNat = c.toNat % 128 := Nat.and_two_pow_sub_one_eq_mod c.toNat 7
  rw [e]
  omega
/-- What a varint's reading tells, from the number and the bytes that are read. -/
def vres (off n i : Nat) (r : Nat × Nat × Int) : Int × Int × Int := if r.2.2 = 0 then (((n + 128 ^ i * r.1 : Nat) : Int), ((off + i + r.2.1 : Nat) : Int), 0) else (0, 0, r.2.2)
theorem wrap_nat {n : Nat} (h : n < 9223372036854775808) : wrap64 (n : Int) = (n : Int) := by unfold wrap64; omega
theorem rd_nat (b : List Int) (i : Nat) (h : i < b.length) : rd b (i : Int) = b[i] := by
  unfold rd
  rw [Int.toNat_natCast, List.getD_eq_getElem?_getD, List.getElem?_eq_getElem h]
  rfl
theorem vres_more (off n i c : Nat) (r : Nat × Nat × Int) (c2 : Nat) (hc : c2 = n + c * 128 ^ i) :
    vres off c2 (i + 1) r = vres off n i (if r.2.2 = 0 then (c + 128 * r.1, r.2.1 + 1, 0) else (0, 0, r.2.2)) := by
  unfold vres
  by_cases h : r.2.2 = 0
  · simp only [h, if_true]
    subst hc
    refine Prod.ext ?_ (Prod.ext ?_ rfl)
    · show ((n + c * 128 ^ i + 128 ^ (i + 1) * r.1 : Nat) : Int) = ((n + 128 ^ i * (c + 128 * r.1) : Nat) : Int)
      congr 1
      rw [Nat.pow_succ, Nat.mul_add, Nat.mul_comm c, Nat.add_assoc, Nat.mul_assoc]
    · show ((off + (i + 1) + r.2.1 : Nat) : Int) = ((off + i + (r.2.1 + 1) : Nat) : Int)
      congr 1
      omega
  · simp only [h, if_false]
theorem pow_bd {i : Nat} (hi : i ≤ 8) {n c : Nat} (hn : n < 128 ^ i) (hc : c < 128) : n + c * 128 ^ i < 128 ^ (i + 1) ∧ c * 128 ^ i < 2 ^ 64 := by
  have h1 : (c + 1) * 128 ^ i ≤ 128 * 128 ^ i := Nat.mul_le_mul_right _ hc
  have h2 : 128 ^ (i + 1) = 128 * 128 ^ i := by rw [Nat.pow_succ, Nat.mul_comm]
  have h3 : 128 ^ (i + 1) ≤ 128 ^ 9 := Nat.pow_le_pow_right (by decide) (by omega)
  have h4 : 128 ^ 9 < 2 ^ 64 := by decide
  rw [Nat.add_mul, Nat.one_mul] at h1
  omega
/-- The number behind one more byte. -/
theorem or_step (n i : Nat) (hi : i ≤ 9) (hn : n < 128 ^ i) (c : Int) (h0 : 0 ≤ c) (h1 : c ≤ 255) (h9 : i = 9 → c ≤ 1) :
    Go.bits .or .u64 (n : Int) (shl .u64 (IntKind.u64.wrap (Go.bits .and .u8 c 127)) (wrap64 (7 * (i : Int)))) = ((n + (c % 128).toNat * 128 ^ i : Nat) : Int) := by
  have hlt : (c % 128).toNat * 128 ^ i < 2 ^ 64 := by
    by_cases h : i = 9
    · subst h
      have : (c % 128).toNat ≤ 1 := by have := h9 rfl; omega
      calc (c % 128).toNat * 128 ^ 9 ≤ 1 * 128 ^ 9 := Nat.mul_le_mul_right _ this
        _ < 2 ^ 64 := by decide
    · exact (pow_bd (by omega) hn (by omega)).2
  rw [and127 c h0 h1, IntKind.wrap_u64, show c % 128 % 18446744073709551616 = ((c % 128).toNat : Int) by omega, show wrap64 (7 * (i : Int)) = 7 * (i : Int) by unfold wrap64; omega, shl_pow _ i hi (by omega) (by have := hlt; exact_mod_cast this)]
  exact or_add n _ i hi hn hlt
theorem dec_loop (b : List Int) (hb : Bytes b) (hl : b.length < 4611686018427387904) (off : Nat) : ∀ (d i n : Nat), off + i + d = b.length → i ≤ 9 → n < 128 ^ i →
    Ev (fun k => varint_Decode.l0 k b (off : Int) (n : Int) (i : Int)) (vres off n i (vd i (b.drop (off + i)))) := by
  intro d
  induction d with
  | zero =>
    intro i n hd hi hn
    refine Ev.fin fun k => ?_
    rw [List.drop_of_length_le (by omega)]
    simp only [varint_Decode.l0]
    rw [if_pos (by omega), show ((off : Int) + (i : Int)) = ((off + i : Nat) : Int) by omega, wrap_nat (by omega), if_pos (by omega)]
    rfl
  | succ d ih =>
    intro i n hd hi hn
    have hlt : off + i < b.length := by omega
    have hc := hb _ (List.getElem_mem hlt)
    rw [drop_at b (off + i) hlt]
    have hone : ∀ k, varint_Decode.l0 (k + 1) b (off : Int) (n : Int) (i : Int) = varint_Decode.j2 k b off n i b[off + i] i (decide (i = 9 ∧ b[off + i] > 1)) := by
      intro k
      simp only [varint_Decode.l0]
      rw [if_pos (by omega), show ((off : Int) + (i : Int)) = ((off + i : Nat) : Int) by omega, wrap_nat (by omega), if_neg (by omega), if_pos (by omega), if_pos (by omega), rd_nat b _ hlt]
      by_cases h9 : i = 9
      · rw [if_pos (by omega)]
        congr 1
        simp [h9]
      · rw [if_neg (by omega)]
        congr 1
        simp [h9]
    generalize b[off + i] = c at *
    simp only [vd]
    by_cases h1 : i = 9 ∧ c > 1
    · rw [if_pos h1]
      refine Ev.succ (Ev.fin fun k => ?_)
      show varint_Decode.l0 (k + 1 + 1) b (off : Int) (n : Int) (i : Int) = _
      rw [hone, decide_eq_true h1]
      simp [varint_Decode.j2, vres]
    · rw [if_neg h1]
      have hj : ∀ k, varint_Decode.l0 (k + 1 + 1) b (off : Int) (n : Int) (i : Int) = if c ≥ 128 then varint_Decode.l0 k b (off : Int) ((n + (c % 128).toNat * 128 ^ i : Nat) : Int) ((i + 1 : Nat) : Int) else if c = 0 ∧ 0 < i then some (0, 0, 4) else some (((n + (c % 128).toNat * 128 ^ i : Nat) : Int), ((off + i + 1 : Nat) : Int), 0) := by
        intro k
        rw [hone, decide_eq_false h1]
        simp only [varint_Decode.j2]
        have h7 : wrap64 (7 * (i : Int)) = 7 * (i : Int) := by clear ih hone; unfold wrap64; omega
        rw [if_neg (by simp), or_step n i hi hn c hc.1 hc.2 (by omega), if_pos (by rw [h7]; omega), show wrap64 ((i : Int) + 1) = ((i + 1 : Nat) : Int) by unfold wrap64; omega, show ((off : Int) + (i : Int)) = ((off + i : Nat) : Int) by omega, wrap_nat (n := off + i) (by omega), show wrap64 (((off + i : Nat) : Int) + 1) = ((off + i + 1 : Nat) : Int) by unfold wrap64; omega]
        by_cases h2 : c ≥ 128
        · rw [if_pos h2, if_pos h2]
        · rw [if_neg h2, if_neg h2]
          by_cases h3 : c = 0
          · rw [if_pos h3]
            by_cases h4 : 0 < i
            · rw [if_pos (by omega), if_pos ⟨h3, h4⟩]
            · rw [if_neg (by omega), if_neg (by omega)]
          · rw [if_neg h3, if_neg (by omega)]
      by_cases h2 : c ≥ 128
      · rw [if_pos h2]
        have hi8 : i ≤ 8 := by omega
        have hpb := pow_bd hi8 hn (c := (c % 128).toNat) (by omega)
        have h := ih (i + 1) (n + (c % 128).toNat * 128 ^ i) (by omega) (by omega) hpb.1
        rw [vres_more off n i (c % 128).toNat _ _ rfl] at h
        rw [show (c - 128).toNat = (c % 128).toNat by omega]
        refine Ev.succ (Ev.succ (Ev.congr (f := fun k => varint_Decode.l0 k b (off : Int) ((n + (c % 128).toNat * 128 ^ i : Nat) : Int) ((i + 1 : Nat) : Int)) (fun k => ?_) h))
        show varint_Decode.l0 (k + 1 + 1) b (off : Int) (n : Int) (i : Int) = _
        rw [hj, if_pos h2]
      · rw [if_neg h2]
        refine Ev.succ (Ev.fin fun k => ?_)
        show varint_Decode.l0 (k + 1 + 1) b (off : Int) (n : Int) (i : Int) = _
        rw [hj, if_neg h2]
        by_cases h3 : c = 0 ∧ 0 < i
        · rw [if_pos h3, if_pos h3]
          rfl
        · rw [if_neg h3, if_neg h3]
          unfold vres
          rw [if_pos rfl, show (c % 128).toNat = c.toNat by omega, Nat.mul_comm]
theorem dec_ev (b : List Int) (hb : Bytes b) (hl : b.length < 4611686018427387904) (off : Nat) (ho : off ≤ b.length) : Ev (fun k => varint_Decode.f k b (off : Int)) (vres off 0 0 (vd 0 (b.drop off))) := by
  have h := dec_loop b hb hl off (b.length - off) 0 0 (by omega) (by omega) (by decide)
  rw [Nat.add_zero] at h
  refine Ev.succ (Ev.congr (fun k => ?_) h)
  unfold varint_Decode.f
  rw [if_neg (by omega), decide_eq_false (by omega)]
  simp only [varint_Decode.j0]
  rw [if_neg (by simp)]
  rfl
end Go.Proofs.Ytiklldjfcdblbaa.P
