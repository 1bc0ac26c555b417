/- The reference's encoding of a value is the program's. Conditions: the hypotheses that stand. -/
import Derived.Test.YtiklldjfcdblbaaPx6
import Derived.Test.YtiklldjfcdblbaaPx38
import Derived.Test.YtiklldjfcdblbaaV6
import Derived.Test.YtiklldjfcdblbaaV1
namespace Go.Proofs.Ytiklldjfcdblbaa.P
open Go.RowKit Go.Proofs.YtiklldjfcdblbaaW.PrintWords Go.Proofs.YtiklldjfcdblbaaW.PrintLast Go.Proofs.YtiklldjfcdblbaaW.PrintMore
theorem tdiv_nat (n m : Nat) : Int.tdiv (n : Int) (m : Int) = ((n / m : Nat) : Int) := rfl
theorem tmod_nat (n m : Nat) : Int.tmod (n : Int) (m : Int) = ((n % m : Nat) : Int) := rfl
theorem ref_enc_loop : ∀ (i n : Nat) (acc : List Int), n < 128 ^ i → n < 18446744073709551616 → acc.length + (venc n).length ≤ 140737488355328 → Ev (fun k => laminaref01_Encode.l0 k (n : Int) acc) (acc ++ venc n) := by
  intro i
  induction i with
  | zero =>
    intro n acc hn hb hl
    have : n = 0 := by simpa using hn
    subst this
    unfold venc at hl ⊢
    refine Ev.fin fun k => ?_
    simp only [laminaref01_Encode.l0]
    simp at hl
    rw [if_neg (by decide), if_pos (by omega)]
    rfl
  | succ i ih =>
    intro n acc hn hb hl
    unfold venc at hl ⊢
    by_cases h : n < 128
    · rw [dif_pos h] at hl ⊢
      refine Ev.fin fun k => ?_
      simp only [laminaref01_Encode.l0]
      simp at hl
      rw [if_neg (by omega), if_pos (by omega), show (n : Int) % 256 = (n : Int) by omega]
    · rw [dif_neg h] at hl ⊢
      rw [List.length_cons] at hl
      have h1 : n / 128 < 128 ^ i := by
        rw [Nat.pow_succ] at hn
        exact Nat.div_lt_of_lt_mul (by rw [Nat.mul_comm]; exact hn)
      have hr := ih (n / 128) (acc ++ [((n % 128 + 128 : Nat) : Int)]) h1 (by omega) (by rw [List.length_append]; simp only [List.length_cons, List.length_nil]; omega)
      rw [List.append_assoc] at hr
      refine Ev.step (fun k => ?_) hr
      simp only [laminaref01_Encode.l0]
      have e1 : Int.tdiv (n : Int) 128 = ((n / 128 : Nat) : Int) := rfl
      have e2 : Int.tmod (n : Int) 128 = ((n % 128 : Nat) : Int) := rfl
      rw [if_pos (by omega), if_pos (by omega), e1, e2, IntKind.wrap_u64, IntKind.wrap_u64, show ((n / 128 : Nat) : Int) % 18446744073709551616 = ((n / 128 : Nat) : Int) by omega, show (128 + ((n % 128 : Nat) : Int)) % 18446744073709551616 % 256 = ((n % 128 + 128 : Nat) : Int) by omega]
theorem ref_enc_ev (n : Nat) (h : n < 18446744073709551616) : Ev (fun k => laminaref01_Encode.f k (n : Int)) (venc n) := by
  have := venc_len64 h
  exact ref_enc_loop 10 n [] (Nat.lt_trans h (by decide)) h (by simp; omega)
theorem ref_zigzag_zz (x : Int) (h0 : -9223372036854775808 ≤ x) (h1 : x ≤ 9223372036854775807) : laminaref01_ZigZag.f x = some (zz x : Int) := by
  unfold laminaref01_ZigZag.f zz
  rw [IntKind.wrap_u64, IntKind.wrap_u64, IntKind.wrap_u64, IntKind.wrap_u64, IntKind.wrap_u64]
  by_cases h : 0 ≤ x
  · rw [if_pos h, if_pos (by omega)]
    congr 1
    omega
  · rw [if_neg h, if_neg (by omega)]
    congr 1
    unfold wrap64
    omega
section
variable (xss : List (List Int)) (hn : xss.length < 9223372036854775807) (hl : ∀ (i : Nat) (h : i < xss.length), xss[i].length < 9223372036854775807)
include hn hl
theorem concat_inner (i : Nat) (hi : i < xss.length) (B : Nat) (hB : B < 140737488355328) (rest : List Int) (ih : ∀ acc : List Int, acc.length ≤ B → Ev (fun k => laminaref01_Concat.l0 k xss acc ((i + 1 : Nat) : Int)) (acc ++ rest)) :
    ∀ (e j : Nat) (acc : List Int), j + e = xss[i].length → acc.length + e ≤ B → Ev (fun k => laminaref01_Concat.l1 k xss acc (i : Int) (j : Int)) (acc ++ xss[i].drop j ++ rest) := by
  have hrd : rd_L4 xss (i : Int) = xss[i] := by
    unfold rd_L4
    rw [Int.toNat_natCast, List.getD_eq_getElem?_getD, List.getElem?_eq_getElem hi]
    rfl
  have hli := hl i hi
  intro e
  induction e with
  | zero =>
    intro j acc hj ha
    rw [List.drop_of_length_le (by omega), List.append_nil]
    refine Ev.step (fun k => ?_) (ih acc (by omega))
    simp only [laminaref01_Concat.l1]
    rw [if_pos (by omega), if_pos (by omega), hrd, if_neg (by omega), wrap_small (by omega)]
  | succ e ihe =>
    intro j acc hj ha
    have hjl : j < xss[i].length := by omega
    have h := ihe (j + 1) (acc ++ [xss[i][j]]) (by omega) (by rw [List.length_append]; simp only [List.length_cons, List.length_nil]; omega)
    rw [List.drop_eq_getElem_cons hjl, show acc ++ xss[i][j] :: xss[i].drop (j + 1) ++ rest = acc ++ [xss[i][j]] ++ xss[i].drop (j + 1) ++ rest by simp only [List.append_assoc, List.cons_append, List.nil_append]]
    refine Ev.step (fun k => ?_) h
    simp only [laminaref01_Concat.l1]
    have hr : rd xss[i] (j : Int) = xss[i][j] := by
      unfold rd
      rw [Int.toNat_natCast, List.getD_eq_getElem?_getD, List.getElem?_eq_getElem hjl]
      rfl
    rw [if_pos (by omega), if_pos (by omega), hrd, if_pos (by omega), if_pos (by omega), if_pos (by omega), hr, wrap_small (by omega)]
theorem concat_loop : ∀ (d i : Nat) (acc : List Int), i + d = xss.length → acc.length + (xss.drop i).flatten.length < 140737488355328 → Ev (fun k => laminaref01_Concat.l0 k xss acc (i : Int)) (acc ++ (xss.drop i).flatten) := by
  intro d
  induction d with
  | zero =>
    intro i acc hd _
    rw [List.drop_of_length_le (by omega)]
    refine Ev.fin fun k => ?_
    simp only [laminaref01_Concat.l0]
    rw [if_neg (by omega)]
    simp
  | succ d ih =>
    intro i acc hd ha
    have hi : i < xss.length := by omega
    rw [List.drop_eq_getElem_cons hi, List.flatten_cons] at ha ⊢
    rw [List.length_append] at ha
    have h := concat_inner xss hn hl i hi (acc.length + xss[i].length) (by omega) (xss.drop (i + 1)).flatten (fun a hle => ih (i + 1) a (by omega) (by omega)) xss[i].length 0 acc (by omega) (Nat.le_refl _)
    rw [List.drop_zero] at h
    rw [← List.append_assoc]
    refine Ev.step (fun k => ?_) h
    simp only [laminaref01_Concat.l0]
    rw [if_pos (by omega)]
    rfl
theorem concat_ev (h : xss.flatten.length < 140737488355328) : Ev (fun k => laminaref01_Concat.f k xss) xss.flatten := by
  have := concat_loop xss hn hl xss.length 0 [] (by omega) (by simpa using h)
  exact this
end
theorem concat2 (x y : List Int) (h : x.length + y.length < 140737488355328) : Ev (fun k => laminaref01_Concat.f k [x, y]) (x ++ y) := by
  have h2 := concat_ev [x, y] (by simp) (fun i hi => by
    match i, hi with
    | 0, _ => show x.length < _; omega
    | 1, _ => show y.length < _; omega) (by simpa using h)
  simpa using h2
theorem text_ev9 (s : ByteArray) (h : s.size ≤ 4096) : Ev (fun k => laminaref01_Text.f k s) (venc s.size ++ bytesOf s) := by
  have hb := venc_len64 (n := s.size) (by omega)
  have main : Ev (fun k => (laminaref01_Encode.f k (s.size : Int)).bind fun t => laminaref01_Concat.f k [t, bytesOf s]) (venc s.size ++ bytesOf s) :=
    (ref_enc_ev s.size (by omega)).bind (concat2 _ _ (by rw [bytesOf_length]; omega))
  refine Ev.congr (fun k => ?_) main
  unfold laminaref01_Text.f
  rw [if_pos (by omega)]
/-- The encoding of a value. -/
def enc (a b : Int) (s : ByteArray) : List Int := if a = 1 then [1, b] else if a = 2 then 2 :: venc (zz b) else if a = 3 then 3 :: (venc s.size ++ bytesOf s) else [0]
theorem ref_encode_ev (a b : Int) (s : ByteArray) (hv : V a b s) (hb : -9223372036854775808 ≤ b ∧ b ≤ 9223372036854775807) : Ev (fun k => laminaref04_Encode.f k a b s) (enc a b s) := by
  unfold V at hv
  unfold enc laminaref04_Encode.f
  by_cases k1 : a = 1
  · rw [if_pos k1]
    refine Ev.all fun k => ?_
    rw [if_pos k1, show b % 256 = b by omega]
  by_cases k2 : a = 2
  · rw [if_neg k1, if_pos k2]
    have hz := zz_lt hb.1 hb.2
    have hl := venc_len64 hz
    have main : Ev (fun k => (laminaref01_Encode.f k (zz b : Int)).bind fun t => (laminaref01_Concat.f k [[2], t]).bind fun u => some u) (2 :: venc (zz b)) :=
      (ref_enc_ev (zz b) hz).bind ((concat2 [2] (venc (zz b)) (by simp only [List.length_cons, List.length_nil]; omega)).bind (Ev.const rfl))
    refine Ev.congr (fun k => ?_) main
    rw [if_neg k1, if_pos k2, ref_zigzag_zz b hb.1 hb.2]
    rfl
  by_cases k3 : a = 3
  · rw [if_neg k1, if_neg k2, if_pos k3]
    have hs : s.size ≤ 4096 := by omega
    have hl := venc_len64 (n := s.size) (by omega)
    have main : Ev (fun k => (laminaref01_Text.f k s).bind fun t => (laminaref01_Concat.f k [[3], t]).bind fun u => some u) (3 :: (venc s.size ++ bytesOf s)) :=
      (text_ev9 s hs).bind ((concat2 [3] (venc s.size ++ bytesOf s) (by rw [List.length_append, bytesOf_length]; simp only [List.length_cons, List.length_nil]; omega)).bind (Ev.const rfl))
    refine Ev.congr (fun k => ?_) main
    rw [if_neg k1, if_neg k2, if_pos k3]
  · rw [if_neg k1, if_neg k2, if_neg k3]
    refine Ev.all fun k => ?_
    rw [if_neg k1, if_neg k2, if_neg k3]
theorem encode_ev (a b : Int) (s : ByteArray) (hv : V a b s) (hb : -9223372036854775808 ≤ b ∧ b ≤ 9223372036854775807) : Ev (fun k => value_Encode.f k a b s) (enc a b s) := by
  unfold V at hv
  unfold enc value_Encode.f
  simp only [Option.bind_some]
  by_cases k1 : a = 1
  · rw [if_pos k1]
    refine Ev.all fun k => ?_
    rw [if_pos k1, show b % 256 = b by omega, k1]
    rfl
  by_cases k2 : a = 2
  · rw [if_neg k1, if_pos k2]
    have hz := zz_lt hb.1 hb.2
    have hl := venc_len64 hz
    have main : Ev (fun k => (varint_Encode.f k (zz b : Int)).bind fun t => if ([2] : List Int).length + t.length < 140737488355328 then some (([2] : List Int) ++ t) else none) (2 :: venc (zz b)) := by
      refine (enc_ev (zz b) hz).bind (Ev.const ?_)
      rw [if_pos (by simp only [List.length_cons, List.length_nil]; omega)]
      rfl
    refine Ev.congr (fun k => ?_) main
    rw [if_neg k1, if_pos k2, zigzag_zz b hb.1 hb.2, k2]
    rfl
  by_cases k3 : a = 3
  · rw [if_neg k1, if_neg k2, if_pos k3]
    have hs : s.size ≤ 4096 := by omega
    have hl := venc_len64 (n := s.size) (by omega)
    have main : Ev (fun k => (varint_Encode.f k (s.size : Int)).bind fun t => if ([3] : List Int).length + t.length < 140737488355328 then ((some (([3] : List Int) ++ t)).bind fun y => if y.length + s.size < 140737488355328 then some (y ++ bytesOf s) else none) else none) (3 :: (venc s.size ++ bytesOf s)) := by
      refine (enc_ev s.size (by omega)).bind (Ev.const ?_)
      rw [if_pos (by simp only [List.length_cons, List.length_nil]; omega), Option.bind_some, if_pos (by rw [List.length_append]; simp only [List.length_cons, List.length_nil]; omega)]
      simp
    refine Ev.congr (fun k => ?_) main
    rw [if_neg k1, if_neg k2, if_pos k3, IntKind.wrap_u64, show (s.size : Int) % 18446744073709551616 = (s.size : Int) by omega, k3]
    rfl
  · rw [if_neg k1, if_neg k2, if_neg k3]
    refine Ev.all fun k => ?_
    rw [if_neg k1, if_neg k2, if_neg k3, show a % 256 = 0 by omega]
end Go.Proofs.Ytiklldjfcdblbaa.P
