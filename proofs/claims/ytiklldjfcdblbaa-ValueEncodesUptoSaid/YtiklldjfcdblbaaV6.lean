/- Plain facts on encodings: both varint encoders write one text, both zigzags are one map and its inverse. Conditions: the hypotheses that stand. -/
import Derived.Test.YtiklldjfcdblbaaPx6
import Derived.Test.YtiklldjfcdblbaaPx6
import Derived.Test.YtiklldjfcdblbaaPx4
import Derived.Test.YtiklldjfcdblbaaPx15
import Derived.Test.YtiklldjfcdblbaaV3
import Derived.Lib.Zigzag
namespace Go.Proofs.Ytiklldjfcdblbaa.P
open Go.RowKit Go.Proofs.YtiklldjfcdblbaaW.PrintWords Go.Proofs.YtiklldjfcdblbaaW.PrintLast Go.Proofs.YtiklldjfcdblbaaW.PrintMore
theorem venc_len : ∀ (i n : Nat), n < 128 ^ i → (venc n).length ≤ max i 1 := by
  intro i
  induction i with
  | zero =>
    intro n hn
    have : n = 0 := by simpa using hn
    subst this
    unfold venc
    simp
  | succ i ih =>
    intro n hn
    unfold venc
    by_cases h : n < 128
    · rw [dif_pos h]
      simp
    · rw [dif_neg h, List.length_cons]
      have h1 : n / 128 < 128 ^ i := by
        rw [Nat.pow_succ] at hn
        exact Nat.div_lt_of_lt_mul (by rw [Nat.mul_comm]; exact hn)
      have := ih _ h1
      have h2 : i ≠ 0 := by
        rintro rfl
        simp at h1
        exact h h1
      omega
theorem venc_len64 {n : Nat} (h : n < 18446744073709551616) : (venc n).length ≤ 10 := venc_len 10 n (Nat.lt_trans h (by decide))
theorem or128 (n : Nat) : Go.bits .or .u8 ((n : Int) % 256) 128 = ((n % 128 + 128 : Nat) : Int) := by
  rw [u8_or _ 128 (by omega) (by omega) (by decide) (by decide)]
  congr 1
  have e : ((n : Int) % 256).toNat = n % 256 := by omega
  have hk : 128 + n % 128 = 128 ||| n % 128 := Nat.two_pow_add_eq_or_of_lt (show n % 128 < 2 ^ 7 by omega) 1
  rw [e, show (128 : Int).toNat = 128 from rfl]
  have h1 : n % 256 = n / 128 % 2 * 128 + n % 128 := by omega
  rcases Nat.mod_two_eq_zero_or_one (n / 128) with h | h
  · rw [h1, h, Nat.zero_mul, Nat.zero_add, Nat.or_comm, ← hk]
    omega
  · rw [h1, h, Nat.one_mul, hk, Nat.or_comm, ← Nat.or_assoc, Nat.or_self, ← hk]
    omega
theorem enc_loop : ∀ (i n : Nat) (acc : List Int), n < 128 ^ i → acc.length + (venc n).length ≤ 140737488355328 → Ev (fun k => varint_Encode.l0 k (n : Int) acc) (acc ++ venc n) := by
  intro i
  induction i with
  | zero =>
    intro n acc hn hl
    have : n = 0 := by simpa using hn
    subst this
    unfold venc at hl ⊢
    refine Ev.fin fun k => ?_
    simp only [varint_Encode.l0]
    simp at hl
    rw [if_neg (by decide), if_pos (by omega)]
    rfl
  | succ i ih =>
    intro n acc hn hl
    unfold venc at hl ⊢
    by_cases h : n < 128
    · rw [dif_pos h] at hl ⊢
      refine Ev.fin fun k => ?_
      simp only [varint_Encode.l0]
      simp at hl
      rw [if_neg (by omega), if_pos (by omega), show (n : Int) % 256 = (n : Int) by omega]
    · rw [dif_neg h] at hl ⊢
      rw [List.length_cons] at hl
      have h1 : n / 128 < 128 ^ i := by
        rw [Nat.pow_succ] at hn
        exact Nat.div_lt_of_lt_mul (by rw [Nat.mul_comm]; exact hn)
      have hr := ih (n / 128) (acc ++ [((n % 128 + 128 : Nat) : Int)]) h1 (by rw [List.length_append]; simp only [List.length_cons, List.length_nil]; omega)
      rw [List.append_assoc] at hr
      refine Ev.step (fun k => ?_) hr
      simp only [varint_Encode.l0]
      rw [if_pos (by omega), if_pos (by omega), or128, show (n : Int) / 128 = ((n / 128 : Nat) : Int) by omega]
theorem enc_ev (n : Nat) (h : n < 18446744073709551616) : Ev (fun k => varint_Encode.f k (n : Int)) (venc n) := by
  have := venc_len64 h
  exact enc_loop 10 n [] (Nat.lt_trans h (by decide)) (by simp; omega)
/-- The zigzag map of a number of 64 bits. -/
def zz (x : Int) : Nat := if 0 ≤ x then (2 * x).toNat else (-2 * x - 1).toNat
theorem zz_lt {x : Int} (h0 : -9223372036854775808 ≤ x) (h1 : x ≤ 9223372036854775807) : zz x < 18446744073709551616 := by unfold zz; split <;> omega
theorem xor_zero (n : Nat) (h : n < 18446744073709551616) : Go.bits .xor .u64 (n : Int) 0 = (n : Int) := by
  have := bits_xor_u64_nat n 0 h (by decide)
  rw [Nat.xor_zero] at this
  exact this
theorem xor_ones (n : Nat) (h : n < 18446744073709551616) : Go.bits .xor .u64 (n : Int) 18446744073709551615 = ((18446744073709551615 - n : Nat) : Int) := by
  have := bits_xor_u64_nat n 18446744073709551615 h (by decide)
  rw [Nat.xor_comm, Lib.xor_ones64 n h] at this
  exact this
theorem zigzag_zz (x : Int) (h0 : -9223372036854775808 ≤ x) (h1 : x ≤ 9223372036854775807) : varint_ZigZag.f x = some (zz x : Int) := by
  unfold varint_ZigZag.f zz
  rw [IntKind.wrap_u64, IntKind.wrap_u64, IntKind.wrap_u64]
  by_cases h : 0 ≤ x
  · rw [if_pos h, show x / 9223372036854775808 % 18446744073709551616 = 0 by omega, show x % 18446744073709551616 * 2 % 18446744073709551616 = ((2 * x).toNat : Int) by omega, xor_zero _ (by omega)]
  · rw [if_neg h, show x / 9223372036854775808 % 18446744073709551616 = 18446744073709551615 by omega, show x % 18446744073709551616 * 2 % 18446744073709551616 = ((2 * x + 18446744073709551616).toNat : Int) by omega, xor_ones _ (by omega)]
    congr 2
    omega
theorem i64_bits (x : Nat) (hx : x < 9223372036854775808) : (BitVec.ofInt 64 (x : Int)).toNat = x := by
  rw [BitVec.toNat_ofInt]
  omega
theorem i64_xor_zero (x : Nat) (hx : x < 9223372036854775808) : Go.bits .xor .i64 (x : Int) 0 = (x : Int) := by
  show IntKind.i64.wrap ((BitVec.ofInt 64 (x : Int) ^^^ BitVec.ofInt 64 0).toNat : Int) = _
  rw [BitVec.toNat_xor, i64_bits x hx, show (BitVec.ofInt 64 0).toNat = 0 by decide, Nat.xor_zero, IntKind.wrap_i64]
  omega
theorem i64_xor_ones (x : Nat) (hx : x < 9223372036854775808) : Go.bits .xor .i64 (x : Int) (-1) = -(x : Int) - 1 := by
  show IntKind.i64.wrap ((BitVec.ofInt 64 (x : Int) ^^^ BitVec.ofInt 64 (-1)).toNat : Int) = _
  rw [BitVec.toNat_xor, i64_bits x hx, show (BitVec.ofInt 64 (-1)).toNat = 2 ^ 64 - 1 by decide, Nat.xor_comm, Lib.xor_ones64 x (by omega), IntKind.wrap_i64]
  omega
/-- The inverse. -/
def uz (n : Nat) : Int := if n % 2 = 0 then (n / 2 : Nat) else -((n / 2 : Nat) : Int) - 1
theorem uz_bd (n : Nat) (h : n < 18446744073709551616) : -9223372036854775808 ≤ uz n ∧ uz n ≤ 9223372036854775807 := by unfold uz; split <;> omega
theorem zz_uz (n : Nat) : zz (uz n) = n := by
  unfold zz uz
  by_cases h : n % 2 = 0
  · rw [if_pos h, if_pos (by omega)]
    omega
  · rw [if_neg h, if_neg (by omega)]
    omega
theorem unzigzag_uz (n : Nat) (h : n < 18446744073709551616) : varint_UnZigZag.f (n : Int) = some (uz n) := by
  unfold varint_UnZigZag.f uz
  rw [Lib.u64_and1 _ (by omega) (by omega), show wrap64 ((n : Int) / 2) = ((n / 2 : Nat) : Int) by unfold wrap64; omega]
  by_cases h2 : n % 2 = 0
  · rw [if_pos h2, show wrap64 (-(wrap64 ((n : Int) % 2))) = 0 by unfold wrap64; omega]
    congr 1
    have e := i64_xor_zero (n / 2) (by omega)
    exact e
  · rw [if_neg h2, show wrap64 (-(wrap64 ((n : Int) % 2))) = -1 by unfold wrap64; omega]
    congr 1
    have e := i64_xor_ones (n / 2) (by omega)
    exact e
theorem ref_unzigzag_uz (n : Nat) (h : n < 18446744073709551616) : laminaref01_UnZigZag.f (n : Int) = some (uz n) := by
  unfold laminaref01_UnZigZag.f uz
  rw [Int.tmod_eq_emod_of_nonneg (by omega), Int.tdiv_eq_ediv_of_nonneg (by omega), IntKind.wrap_u64]
  by_cases h2 : n % 2 = 0
  · rw [if_pos (by omega), if_pos h2]
    congr 1
    unfold wrap64
    omega
  · rw [if_neg (by omega), if_neg h2]
    congr 1
    unfold wrap64
    omega
end Go.Proofs.Ytiklldjfcdblbaa.P
