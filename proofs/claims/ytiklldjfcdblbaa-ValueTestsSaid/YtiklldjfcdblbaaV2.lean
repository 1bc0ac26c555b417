/- Plain facts on arithmetic: the program's Arith, Negate and Concat give what the reference's give, for numbers of 64 bits. Conditions: the hypotheses that stand. -/
import Derived.Test.YtiklldjfcdblbaaPx10
import Derived.Test.YtiklldjfcdblbaaPx30
import Derived.Test.YtiklldjfcdblbaaPx30
import Derived.Test.YtiklldjfcdblbaaPx31
import Derived.Test.YtiklldjfcdblbaaPx31
import Derived.Test.YtiklldjfcdblbaaPx31
import Derived.Test.YtiklldjfcdblbaaV0
import Derived.Laws.Bits64
import Derived.Laws.Bits64b
namespace Go.Proofs.Ytiklldjfcdblbaa.P
open Go.RowKit Go.Proofs.YtiklldjfcdblbaaW.PrintWords Go.Proofs.YtiklldjfcdblbaaW.PrintLast
def I64 (n : Int) : Prop := -9223372036854775808 ≤ n ∧ n ≤ 9223372036854775807
instance (n : Int) : Decidable (I64 n) := inferInstanceAs (Decidable (-9223372036854775808 ≤ n ∧ n ≤ 9223372036854775807))
theorem I64.of {n : Int} (h : (Lit.int .i64 n).wf = true) : I64 n := by
  simp only [Lit.wf, IntKind.min, IntKind.max, IntKind.signed, IntKind.bits, Bool.and_eq_true, decide_eq_true_eq, if_true] at h
  unfold I64
  omega
theorem and_low (x : Int) (h0 : 0 ≤ x) (h1 : x < 18446744073709551616) : Go.bits .and .u64 x 4294967295 = x % 4294967296 := by
  have h := bits_and_u64_nat x.toNat 4294967295 (by omega) (by omega)
  rw [show ((x.toNat : Nat) : Int) = x by omega] at h
  have e : x.toNat &&& 4294967295 = x.toNat % 4294967296 := Nat.and_two_pow_sub_one_eq_mod x.toNat 32
  rw [show ((4294967295 : Nat) : Int) = 4294967295 from rfl, e] at h
  rw [h]
  omega
theorem u64_id {n : Int} (h0 : 0 ≤ n) (h1 : n < 18446744073709551616) : IntKind.u64.wrap n = n := by rw [IntKind.wrap_u64]; omega
theorem mul_bd {a b : Int} (ha : 0 ≤ a ∧ a ≤ 4294967295) (hb : 0 ≤ b ∧ b ≤ 4294967295) : 0 ≤ a * b ∧ a * b ≤ 18446744065119617025 := by
  refine ⟨Int.mul_nonneg ha.1 hb.1, ?_⟩
  exact Int.le_trans (Int.mul_le_mul_of_nonneg_right ha.2 hb.1) (by have := Int.mul_le_mul_of_nonneg_left hb.2 (show (0 : Int) ≤ 4294967295 by decide); omega)
/-- The high word of a product is 0 just if the product fits. -/
theorem mul64 (x y : Int) (hx : 0 ≤ x ∧ x < 18446744073709551616) (hy : 0 ≤ y ∧ y < 18446744073709551616) : ∃ hi lo, bits_Mul64.f x y = some (hi, lo) ∧ lo = (x * y) % 18446744073709551616 ∧ hi = x * y / 18446744073709551616 := by
  unfold bits_Mul64.f
  rw [and_low x hx.1 hx.2, and_low y hy.1 hy.2]
  have e1 : x = x / 4294967296 * 4294967296 + x % 4294967296 := by omega
  have e2 : y = y / 4294967296 * 4294967296 + y % 4294967296 := by omega
  have p11 := mul_bd (a := x / 4294967296) (b := y / 4294967296) (by omega) (by omega)
  have p10 := mul_bd (a := x / 4294967296) (b := y % 4294967296) (by omega) (by omega)
  have p01 := mul_bd (a := x % 4294967296) (b := y / 4294967296) (by omega) (by omega)
  have p00 := mul_bd (a := x % 4294967296) (b := y % 4294967296) (by omega) (by omega)
  have hxy : x * y = x / 4294967296 * (y / 4294967296) * 18446744073709551616 + (x / 4294967296 * (y % 4294967296) + x % 4294967296 * (y / 4294967296)) * 4294967296 + x % 4294967296 * (y % 4294967296) := by
    conv => lhs; rw [e1, e2]
    generalize x / 4294967296 = x1
    generalize x % 4294967296 = x0
    generalize y / 4294967296 = y1
    generalize y % 4294967296 = y0
    rw [Int.add_mul, Int.mul_add, Int.mul_add]
    have a1 : x1 * 4294967296 * (y1 * 4294967296) = x1 * y1 * 18446744073709551616 := by
      rw [Int.mul_assoc x1, ← Int.mul_assoc 4294967296 y1 4294967296, Int.mul_comm 4294967296 y1, Int.mul_assoc y1, ← Int.mul_assoc x1 y1, show (4294967296 : Int) * 4294967296 = 18446744073709551616 from rfl]
    have a2 : x1 * 4294967296 * y0 = x1 * y0 * 4294967296 := by rw [Int.mul_right_comm]
    have a3 : x0 * (y1 * 4294967296) = x0 * y1 * 4294967296 := by rw [Int.mul_assoc]
    rw [a1, a2, a3]
    omega
  rw [hxy]
  generalize x / 4294967296 * (y / 4294967296) = q11 at *
  generalize x / 4294967296 * (y % 4294967296) = q10 at *
  generalize x % 4294967296 * (y / 4294967296) = q01 at *
  generalize x % 4294967296 * (y % 4294967296) = q00 at *
  clear hxy e1 e2 hx hy
  rw [u64_id (n := q00) (by omega) (by omega), u64_id (n := q10) (by omega) (by omega), u64_id (n := q01) (by omega) (by omega), u64_id (n := q11) (by omega) (by omega)]
  rw [u64_id (n := q10 + q00 / 4294967296) (by omega) (by omega)]
  rw [and_low _ (by omega) (by omega)]
  rw [u64_id (n := (q10 + q00 / 4294967296) % 4294967296 + q01) (by omega) (by omega)]
  rw [u64_id (n := q11 + (q10 + q00 / 4294967296) / 4294967296) (by omega) (by omega)]
  rw [u64_id (n := q11 + (q10 + q00 / 4294967296) / 4294967296 + ((q10 + q00 / 4294967296) % 4294967296 + q01) / 4294967296) (by omega) (by omega)]
  refine ⟨_, _, rfl, by rw [IntKind.wrap_u64], ?_⟩
  omega
/-- The absolute value as the program makes it. -/
def mag (a : Int) : Int := if a < 0 then -a else a
theorem mag_bd {a : Int} (h : I64 a) : 0 ≤ mag a ∧ mag a ≤ 9223372036854775808 := by unfold I64 at h; unfold mag; split <;> omega
theorem mag_neg {a : Int} (h : I64 a) (hn : a < 0) : IntKind.u64.wrap (-(IntKind.u64.wrap a)) = mag a := by unfold I64 at h; unfold mag; rw [if_pos hn, IntKind.wrap_u64, IntKind.wrap_u64]; omega
theorem mag_pos {a : Int} (h : I64 a) (hn : ¬ a < 0) : IntKind.u64.wrap a = mag a := by unfold I64 at h; unfold mag; rw [if_neg hn, IntKind.wrap_u64]; omega
theorem mag_mul (a b : Int) : mag a * mag b = if decide (a < 0) = decide (b < 0) then a * b else -(a * b) := by
  unfold mag
  by_cases ha : a < 0 <;> by_cases hb : b < 0 <;> simp [ha, hb, Int.neg_mul, Int.mul_neg]
theorem times_tail (a b : Int) (ha : I64 a) (hb : I64 b) (k : Nat) : ∃ n ok, value_times.j1 (k + 1) a b (mag a) (mag b) = some (n, ok) ∧ (ok = true ↔ I64 (a * b)) ∧ (ok = true → n = a * b) := by
  have hma := mag_bd ha
  have hmb := mag_bd hb
  obtain ⟨hi, lo, hm, hlo, hhi⟩ := mul64 (mag a) (mag b) ⟨hma.1, by omega⟩ ⟨hmb.1, by omega⟩
  have hnn : 0 ≤ mag a * mag b := Int.mul_nonneg hma.1 hmb.1
  have hmm := mag_mul a b
  simp only [value_times.j1, hm, Option.bind_some]
  generalize mag a * mag b = m at *
  by_cases hz : hi = 0
  · have hlt : m < 18446744073709551616 := by omega
    have hl : lo = m := by omega
    subst hl
    rw [if_pos hz]
    by_cases hs : decide (a < 0) = decide (b < 0)
    · rw [if_pos hs] at hmm
      rw [if_neg (by simpa using hs), ← hmm]
      refine ⟨_, _, rfl, ?_, ?_⟩
      · unfold I64
        simp
        omega
      · intro h
        have h' : lo < 9223372036854775808 := by simpa using h
        unfold wrap64
        omega
    · rw [if_neg hs] at hmm
      rw [if_pos (by simpa using hs)]
      have hab : a * b = -lo := by omega
      rw [hab]
      refine ⟨_, _, rfl, ?_, ?_⟩
      · unfold I64
        simp
        omega
      · intro h
        have h' : lo ≤ 9223372036854775808 := by simpa using h
        rw [IntKind.wrap_u64]
        unfold wrap64
        omega
  · rw [if_neg hz]
    refine ⟨_, _, rfl, ?_, by simp⟩
    have hge : 18446744073709551616 ≤ m := by omega
    unfold I64
    simp
    split at hmm <;> omega
theorem times_ev (a b : Int) (ha : I64 a) (hb : I64 b) : ∃ n ok, Ev (fun k => value_times.f k a b) (n, ok) ∧ (ok = true ↔ I64 (a * b)) ∧ (ok = true → n = a * b) := by
  obtain ⟨n, ok, h1, h2, h3⟩ := times_tail a b ha hb 0
  refine ⟨n, ok, ?_, h2, h3⟩
  refine Ev.succ (Ev.fin (fun k => ?_))
  show value_times.f (k + 1 + 1) a b = _
  have e : value_times.j1 (k + 1) a b (mag a) (mag b) = some (n, ok) := h1
  unfold value_times.f
  by_cases hna : a < 0
  · rw [if_pos hna, mag_neg ha hna]
    simp only [value_times.j0]
    by_cases hnb : b < 0
    · rw [if_pos hnb, mag_neg hb hnb]
      exact e
    · rw [if_neg hnb, mag_pos hb hnb]
      exact e
  · rw [if_neg hna, mag_pos ha hna]
    simp only [value_times.j0]
    by_cases hnb : b < 0
    · rw [if_pos hnb, mag_neg hb hnb]
      exact e
    · rw [if_neg hnb, mag_pos hb hnb]
      exact e
/-- A multiple of 2^64 that is small is 0. -/
theorem fits_of_div (a b : Int) (hb : I64 b) (h0 : b ≠ 0) (h1 : b ≠ -1) : (wrap64 (Int.tdiv (wrap64 (a * b)) b) = a) ↔ I64 (a * b) := by
  have hw : I64 (wrap64 (a * b)) := by unfold I64 wrap64; omega
  have hq : ∃ q, wrap64 (a * b) = a * b - 18446744073709551616 * q := ⟨(a * b + 9223372036854775808) / 18446744073709551616, by unfold wrap64; omega⟩
  obtain ⟨q, hq⟩ := hq
  generalize wrap64 (a * b) = n at *
  have hd := Int.tmod_add_mul_tdiv n b
  have hlt : Int.natAbs (Int.tmod n b) < Int.natAbs b := by
    rw [Int.natAbs_tmod]
    exact Nat.mod_lt _ (by omega)
  have hab := Int.natAbs_tdiv n b
  have hI : I64 (Int.tdiv n b) := by
    by_cases hb1 : b = 1
    · rw [hb1, Int.tdiv_one]
      exact hw
    · have hle : (Int.tdiv n b).natAbs ≤ n.natAbs / 2 := by
        rw [hab]
        exact Nat.div_le_div_left (by omega) (by decide)
      unfold I64 at hw ⊢
      omega
  have hid : wrap64 (Int.tdiv n b) = Int.tdiv n b := by unfold I64 at hI; unfold wrap64; omega
  rw [hid]
  constructor
  · intro h
    rw [h] at hd
    have hc : b * a = a * b := Int.mul_comm b a
    unfold I64 at *
    omega
  · intro h
    have hn : n = a * b := by unfold I64 at *; omega
    rw [hn]
    exact Int.mul_tdiv_cancel a h0
theorem multiply_ev (a b : Int) (ha : I64 a) (hb : I64 b) : ∃ n ok, Ev (fun k => laminaref04_multiply.f k a b) (n, ok) ∧ (ok = true ↔ I64 (a * b)) ∧ (ok = true → n = a * b) := by
  by_cases hz : a = 0 ∨ b = 0
  · refine ⟨0, true, Ev.fin (fun k => ?_), ?_, ?_⟩
    · unfold laminaref04_multiply.f
      by_cases h0 : a = 0
      · rw [if_pos h0]
        rfl
      · rw [if_neg h0]
        have : b = 0 := by omega
        subst this
        rfl
    · rcases hz with rfl | rfl <;> simp [I64]
    · rcases hz with rfl | rfl <;> simp
  have h0 : a ≠ 0 := fun h => hz (.inl h)
  have h1 : b ≠ 0 := fun h => hz (.inr h)
  have hf : ∀ k, laminaref04_multiply.f (k + 1) a b = if a = (-1) then (some (wrap64 (-b), (b != (-9223372036854775808)))) else (if b = (-1) then (some (wrap64 (-a), (a != (-9223372036854775808)))) else (some (wrap64 (a * b), ((wrap64 (Int.tdiv (wrap64 (a * b)) b)) == a)))) := by
    intro k
    unfold laminaref04_multiply.f
    rw [if_neg h0, beq_eq_false_iff_ne.mpr h1]
    simp only [laminaref04_multiply.j0]
    rw [if_neg (by simp), if_neg h1]
  by_cases h2 : a = -1
  · refine ⟨_, _, Ev.fin (fun k => by rw [hf, if_pos h2]), ?_, ?_⟩
    · subst h2
      unfold I64 at *
      simp
      omega
    · subst h2
      intro h
      have h' : b ≠ -9223372036854775808 := by simpa using h
      unfold I64 at *
      unfold wrap64
      omega
  by_cases h3 : b = -1
  · refine ⟨_, _, Ev.fin (fun k => by rw [hf, if_neg h2, if_pos h3]), ?_, ?_⟩
    · subst h3
      unfold I64 at *
      simp
      omega
    · subst h3
      intro h
      have h' : a ≠ -9223372036854775808 := by simpa using h
      unfold I64 at *
      unfold wrap64
      omega
  · have hd := fits_of_div a b hb h1 h3
    refine ⟨_, _, Ev.fin (fun k => by rw [hf, if_neg h2, if_neg h3]), ?_, ?_⟩
    · rw [← hd]
      simp
    · intro h
      have h' := hd.1 (by simpa using h)
      unfold I64 at h'
      unfold wrap64
      omega
/-- The result of an operator on two numbers: none, or a number. -/
def NUL : Int × Int × ByteArray := (0, 0, (⟨#[]⟩ : ByteArray))
def num (n : Int) (ok : Bool) : Int × Int × ByteArray := if ok = true then (2, n, (⟨#[]⟩ : ByteArray)) else NUL
theorem number_add (k : Nat) (a b : Int) (ha : I64 a) (hb : I64 b) : laminaref04_number.f k 9 a b = some (wrap64 (a + b), decide (I64 (a + b))) := by
  unfold laminaref04_number.f
  rw [if_pos rfl]
  have hov : b > 0 → (a > wrap64 (9223372036854775807 - b) ↔ ¬ I64 (a + b)) := by unfold I64 at *; unfold wrap64; omega
  have hun : b < 0 → (a < wrap64 (-9223372036854775808 - b) ↔ ¬ I64 (a + b)) := by unfold I64 at *; unfold wrap64; omega
  by_cases hb0 : b > 0
  · rw [if_pos hb0]
    by_cases hf : I64 (a + b)
    · rw [if_neg (fun h => (hov hb0).1 h hf), if_neg (by omega), decide_eq_true hf]
      rfl
    · rw [if_pos ((hov hb0).2 hf), decide_eq_false hf]
      rfl
  · rw [if_neg hb0]
    by_cases hb1 : b < 0
    · rw [if_pos hb1]
      by_cases hf : I64 (a + b)
      · rw [decide_eq_true hf, decide_eq_false (fun h => (hun hb1).1 h hf)]
        rfl
      · rw [decide_eq_false hf, decide_eq_true ((hun hb1).2 hf)]
        rfl
    · rw [if_neg hb1, decide_eq_true (show I64 (a + b) by unfold I64 at *; omega)]
      rfl
theorem number_sub (k : Nat) (a b : Int) (ha : I64 a) (hb : I64 b) : laminaref04_number.f k 10 a b = some (wrap64 (a - b), decide (I64 (a - b))) := by
  unfold laminaref04_number.f
  rw [if_neg (by decide), if_pos rfl]
  have hov : b < 0 → (a > wrap64 (9223372036854775807 + b) ↔ ¬ I64 (a - b)) := by unfold I64 at *; unfold wrap64; omega
  have hun : b > 0 → (a < wrap64 (-9223372036854775808 + b) ↔ ¬ I64 (a - b)) := by unfold I64 at *; unfold wrap64; omega
  by_cases hb0 : b < 0
  · rw [if_pos hb0]
    by_cases hf : I64 (a - b)
    · rw [if_neg (fun h => (hov hb0).1 h hf), if_neg (by omega), decide_eq_true hf]
      rfl
    · rw [if_pos ((hov hb0).2 hf), decide_eq_false hf]
      rfl
  · rw [if_neg hb0]
    by_cases hb1 : b > 0
    · rw [if_pos hb1]
      by_cases hf : I64 (a - b)
      · rw [decide_eq_true hf, decide_eq_false (fun h => (hun hb1).1 h hf)]
        rfl
      · rw [decide_eq_false hf, decide_eq_true ((hun hb1).2 hf)]
        rfl
    · rw [if_neg hb1, decide_eq_true (show I64 (a - b) by unfold I64 at *; omega)]
      rfl
theorem arith_add (k : Nat) (a b : Int) (ha : I64 a) (hb : I64 b) : value_Arith.j0 (k + 1) 9 false 2 a (⟨#[]⟩ : ByteArray) 2 b (⟨#[]⟩ : ByteArray) = some (num (wrap64 (a + b)) (decide (I64 (a + b)))) := by
  have ht : (decide (wrap64 (a + b) > a) == decide (b > 0)) = decide (I64 (a + b)) := by
    by_cases hf : I64 (a + b)
    · rw [decide_eq_true hf]
      by_cases hb0 : b > 0
      · rw [decide_eq_true hb0, decide_eq_true (by unfold I64 at *; unfold wrap64; omega)]
        rfl
      · rw [decide_eq_false hb0, decide_eq_false (by unfold I64 at *; unfold wrap64; omega)]
        rfl
    · rw [decide_eq_false hf]
      by_cases hb0 : b > 0
      · rw [decide_eq_true hb0, decide_eq_false (by unfold I64 at *; unfold wrap64; omega)]
        rfl
      · rw [decide_eq_false hb0, decide_eq_true (by unfold I64 at *; unfold wrap64; omega)]
        rfl
  simp only [value_Arith.j0, Bool.false_eq_true, if_false, if_true]
  rw [ht]
  cases decide (I64 (a + b)) <;> rfl
theorem arith_sub (k : Nat) (a b : Int) (ha : I64 a) (hb : I64 b) : value_Arith.j0 (k + 1) 10 false 2 a (⟨#[]⟩ : ByteArray) 2 b (⟨#[]⟩ : ByteArray) = some (num (wrap64 (a - b)) (decide (I64 (a - b)))) := by
  have ht : (decide (wrap64 (a - b) < a) == decide (b > 0)) = decide (I64 (a - b)) := by
    by_cases hf : I64 (a - b)
    · rw [decide_eq_true hf]
      by_cases hb0 : b > 0
      · rw [decide_eq_true hb0, decide_eq_true (by unfold I64 at *; unfold wrap64; omega)]
        rfl
      · rw [decide_eq_false hb0, decide_eq_false (by unfold I64 at *; unfold wrap64; omega)]
        rfl
    · rw [decide_eq_false hf]
      by_cases hb0 : b > 0
      · rw [decide_eq_true hb0, decide_eq_false (by unfold I64 at *; unfold wrap64; omega)]
        rfl
      · rw [decide_eq_false hb0, decide_eq_true (by unfold I64 at *; unfold wrap64; omega)]
        rfl
  simp only [value_Arith.j0, Bool.false_eq_true, if_false, if_true]
  rw [if_neg (by decide), ht]
  cases decide (I64 (a - b)) <;> rfl
/-- What the reference's number tells. -/
theorem number_ev (op a b : Int) (ha : I64 a) (hb : I64 b) : ∃ n ok, Ev (fun k => laminaref04_number.f k op a b) (n, ok) ∧ Ev (fun k => value_Arith.j0 k op false 2 a (⟨#[]⟩ : ByteArray) 2 b (⟨#[]⟩ : ByteArray)) (num n ok) := by
  have small : ∀ {n : Int} {ok : Bool}, (∀ k, value_Arith.j0 (k + 1) op false 2 a (⟨#[]⟩ : ByteArray) 2 b (⟨#[]⟩ : ByteArray) = some (num n ok)) → Ev (fun k => value_Arith.j0 k op false 2 a (⟨#[]⟩ : ByteArray) 2 b (⟨#[]⟩ : ByteArray)) (num n ok) := fun h => Ev.fin h
  by_cases h9 : op = 9
  · subst h9
    exact ⟨wrap64 (a + b), decide (I64 (a + b)), ⟨0, fun k _ => number_add k a b ha hb⟩, small fun k => arith_add k a b ha hb⟩
  by_cases h10 : op = 10
  · subst h10
    exact ⟨wrap64 (a - b), decide (I64 (a - b)), ⟨0, fun k _ => number_sub k a b ha hb⟩, small fun k => arith_sub k a b ha hb⟩
  by_cases h11 : op = 11
  · subst h11
    obtain ⟨n, ok, h1, h2, h3⟩ := multiply_ev a b ha hb
    obtain ⟨n', ok', h1', h2', h3'⟩ := times_ev a b ha hb
    obtain rfl : ok = ok' := by rw [Bool.eq_iff_iff, h2, h2']
    refine ⟨n, ok, ?_, ?_⟩
    · refine Ev.congr (fun k => ?_) (h1.bind (f := fun _ bt => some (bt.1, bt.2)) (Ev.now (n, ok)))
      simp [laminaref04_number.f]
    · have main : Ev (fun k => (value_times.f k a b).bind fun bt => if bt.2 = true then (value_integer.f bt.1).bind fun b2 => some (b2.1, b2.2.1, b2.2.2) else some (0, 0, (⟨#[]⟩ : ByteArray))) (num n ok) := by
        refine h1'.bind ?_
        cases ok
        · exact Ev.const rfl
        · have e : n = n' := (h3 rfl).trans (h3' rfl).symm
          subst e
          exact Ev.const rfl
      refine Ev.succ (Ev.congr (fun k => ?_) main)
      simp [value_Arith.j0]
  by_cases h12 : op = 12
  · subst h12
    by_cases hb0 : b = 0
    · subst hb0
      exact ⟨0, false, Ev.all (fun k => by simp [laminaref04_number.f]), small fun k => by simp [value_Arith.j0, num, NUL]⟩
    by_cases hc : a = -9223372036854775808 ∧ b = -1
    · obtain ⟨rfl, rfl⟩ := hc
      exact ⟨0, false, Ev.all (fun k => by simp [laminaref04_number.f]), small fun k => by simp [value_Arith.j0, num, NUL]⟩
    · refine ⟨wrap64 (Int.tdiv a b), true, Ev.all fun k => ?_, small fun k => ?_⟩
      · unfold laminaref04_number.f
        rw [if_neg (by decide), if_neg (by decide), if_neg (by decide), if_pos rfl, if_neg hb0]
        by_cases h1 : a = -9223372036854775808
        · rw [if_pos h1, if_neg (fun h => hc ⟨h1, h⟩)]
        · rw [if_neg h1]
      · simp only [value_Arith.j0, Bool.false_eq_true, if_false]
        rw [if_neg (by decide), if_neg (by decide), if_neg (by decide), if_pos trivial, if_neg hb0]
        by_cases h1 : b = -1
        · rw [if_pos h1, if_neg (fun h => hc ⟨h, h1⟩)]
          rfl
        · rw [if_neg h1]
          rfl
  by_cases h13 : op = 13
  · subst h13
    by_cases hb0 : b = 0
    · subst hb0
      exact ⟨0, false, Ev.all (fun k => by simp [laminaref04_number.f]), small fun k => by simp [value_Arith.j0, num, NUL]⟩
    by_cases h1 : b = -1
    · subst h1
      exact ⟨0, true, Ev.all (fun k => by simp [laminaref04_number.f]), small fun k => by simp [value_Arith.j0, num, value_integer.f]⟩
    · exact ⟨Int.tmod a b, true, Ev.all (fun k => by simp [laminaref04_number.f, hb0, h1]), small fun k => by simp [value_Arith.j0, num, value_integer.f, hb0, h1]⟩
  · exact ⟨0, false, Ev.all (fun k => by simp [laminaref04_number.f, h9, h10, h11, h12, h13]), small fun k => by simp [value_Arith.j0, num, NUL, h9, h10, h11, h12, h13]⟩
theorem arith_both (op a0 a1 : Int) (a2 : ByteArray) (b0 b1 : Int) (b2 : ByteArray) (ha : V a0 a1 a2) (hb : V b0 b1 b2) (wa : I64 a1) (wb : I64 b1) :
    ∃ v, Ev (fun k => value_Arith.f k op a0 a1 a2 b0 b1 b2) v ∧ Ev (fun k => laminaref04_Arith.f k op a0 a1 a2 b0 b1 b2) v := by
  by_cases h0 : a0 = 2
  · by_cases h1 : b0 = 2
    · subst h0; subst h1
      obtain rfl : a2 = ⟨#[]⟩ := by unfold V at ha; rcases ha with h | h | h | h <;> first | (exact h.2) | (exact absurd h.1 (by decide))
      obtain rfl : b2 = ⟨#[]⟩ := by unfold V at hb; rcases hb with h | h | h | h <;> first | (exact h.2) | (exact absurd h.1 (by decide))
      obtain ⟨n, ok, hn, hv⟩ := number_ev op a1 b1 wa wb
      refine ⟨num n ok, Ev.congr (fun k => ?_) hv, ?_⟩
      · unfold value_Arith.f
        rfl
      · have main : Ev (fun k => (laminaref04_number.f k op a1 b1).bind fun bt => if bt.2 = true then (laminaref04_Integer.f bt.1).bind fun b2 => some (b2.1, b2.2.1, b2.2.2) else some (0, 0, (⟨#[]⟩ : ByteArray))) (num n ok) := by
          refine hn.bind ?_
          cases ok <;> exact Ev.const rfl
        refine Ev.succ (Ev.congr (fun k => ?_) main)
        unfold laminaref04_Arith.f
        rfl
    · subst h0
      refine ⟨NUL, Ev.fin fun k => ?_, Ev.fin fun k => ?_⟩
      · unfold value_Arith.f
        rw [if_pos rfl, bne_iff_ne.mpr h1]
        rfl
      · unfold laminaref04_Arith.f
        rw [if_pos rfl, bne_iff_ne.mpr h1]
        rfl
  · refine ⟨NUL, Ev.fin fun k => ?_, Ev.fin fun k => ?_⟩
    · unfold value_Arith.f
      rw [if_neg h0]
      rfl
    · unfold laminaref04_Arith.f
      rw [if_neg h0]
      rfl
theorem negate_both (a0 a1 : Int) (a2 : ByteArray) : ∃ v, value_Negate.f a0 a1 a2 = some v ∧ laminaref04_Negate.f a0 a1 a2 = some v := by
  unfold value_Negate.f laminaref04_Negate.f
  by_cases h0 : a0 = 2
  · by_cases h1 : a1 = -9223372036854775808
    · exact ⟨NUL, by rw [if_pos h0, if_pos h1]; rfl, by rw [if_pos h0, if_pos h1]; rfl⟩
    · exact ⟨num (wrap64 (-a1)) true, by rw [if_pos h0, if_neg h1]; rfl, by rw [if_pos h0, if_neg h1]; rfl⟩
  · exact ⟨NUL, by rw [if_neg h0]; rfl, by rw [if_neg h0]; rfl⟩
theorem concat_both (a0 a1 : Int) (a2 : ByteArray) (b0 b1 : Int) (b2 : ByteArray) (ha : V a0 a1 a2) (hb : V b0 b1 b2) : ∃ v, value_Concat.f a0 a1 a2 b0 b1 b2 = some v ∧ laminaref04_Concat.f a0 a1 a2 b0 b1 b2 = some v := by
  have h : value_Concat.f a0 a1 a2 b0 b1 b2 = laminaref04_Concat.f a0 a1 a2 b0 b1 b2 := rfl
  rw [← h]
  suffices hs : ∃ v, value_Concat.f a0 a1 a2 b0 b1 b2 = some v by
    obtain ⟨v, hv⟩ := hs
    exact ⟨v, hv, hv⟩
  unfold value_Concat.f
  by_cases h0 : a0 = 3
  · rw [if_pos h0]
    by_cases h1 : b0 = 3
    · rw [if_pos h1]
      have s1 : a2.size ≤ 4096 := by unfold V at ha; omega
      have s2 : b2.size ≤ 4096 := by unfold V at hb; omega
      by_cases h2 : wrap64 ((a2.size : Int) + (b2.size : Int)) > 4096
      · rw [if_pos h2]
        exact ⟨_, rfl⟩
      · rw [if_neg h2, if_pos (by omega)]
        exact ⟨_, rfl⟩
    · rw [if_neg h1]
      exact ⟨_, rfl⟩
  · rw [if_neg h0]
    exact ⟨_, rfl⟩
end Go.Proofs.Ytiklldjfcdblbaa.P
