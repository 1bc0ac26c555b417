/- What Go functions of the given program return, told as Lean functions, and the walks that show it, with plain facts on them: YH, YI, YT, V1, V2, YJ, PureSketchEncodes. Conditions: the hypotheses that stand at each theorem. -/
import Derived.Test.YtackcingpffidaaZe0
import Derived.Test.YtackcingpffidaaZe1
import Derived.Test.YtackcingpffidaaZe2
import Derived.Test.YtackcingpffidaaZe8
import Derived.Test.YtackcingpffidaaZe9
import Derived.Test.YtackcingpffidaaZe11
import Derived.Test.YtackcingpffidaaZe12
namespace Go.Proofs.Ytackcingpffidaa.P
open Go.RowKit Go.Proofs.YtackcingpffidaaW.PrintWords Go.Proofs.YtackcingpffidaaW.PrintLast Go.Proofs.YtackcingpffidaaW.PrintMore
set_option linter.unusedVariables false
theorem vd_venc (n : Nat) : ∀ (i : Nat) (r : List Int), i ≤ 9 → n * 128 ^ i < 2 ^ 64 → (0 < i → 0 < n) → vd i (venc n ++ r) = (n, (venc n).length, 0) := by
 induction n using Nat.strongRecOn with
 | _ n ih =>
  intro i r hi hn h0
  unfold venc
  by_cases h : n < 128
  ·rw [dif_pos h, List.singleton_append]
   unfold vd
   rw [if_neg (show ¬(i = 9 ∧ (n : Int) > 1) by rintro ⟨rfl, h2⟩; have : (128 : Nat) ^ 9 = 9223372036854775808 := by decide
                                                rw [this] at hn; omega), if_neg (by omega), if_neg (by rintro ⟨h1, h2⟩; have := h0 h2; omega)]
   simp
  ·rw [dif_neg h, List.cons_append]
   have hi9 : i ≠ 9 := by
    rintro rfl
    have : (128 : Nat) ^ 9 = 9223372036854775808 := by decide
    rw [this] at hn
    omega
   have h1 : n / 128 * 128 ^ (i + 1) < 2 ^ 64 := by
    refine Nat.lt_of_le_of_lt ?_ hn
    rw [Nat.pow_succ, Nat.mul_comm (128 ^ i), ← Nat.mul_assoc]
    exact Nat.mul_le_mul_right _ (Nat.div_mul_le_self n 128)
   have e := ih (n / 128) (by omega) (i + 1) r (by omega) h1 (fun _ => by omega)
   unfold vd
   rw [if_neg (by omega), if_pos (by omega), e]
   simp only [if_true, List.length_cons]
   congr 1
   omega
/-- The bytes X stand at t. -/
def At (L : List Int) (t : Nat) (X : List Int) : Prop := t ≤ L.length ∧ ∃ r, L.drop t = X ++ r
theorem At.mk0 (A X B : List Int) : At (A ++ X ++ B) A.length X := ⟨by rw [List.append_assoc, List.length_append]; omega, B, by rw [List.append_assoc, List.drop_left]⟩
theorem At.le {L : List Int} {t : Nat} {X : List Int} (h : At L t X) : t + X.length ≤ L.length := by
 obtain ⟨h1, r, h2⟩ := h
 have := congrArg List.length h2
 rw [List.length_drop, List.length_append] at this
 omega
theorem At.split {L : List Int} {t : Nat} {X Y : List Int} (h : At L t (X ++ Y)) : At L t X ∧ At L (t + X.length) Y := by
 have hl := h.le
 obtain ⟨h1, r, h2⟩ := h
 rw [List.length_append] at hl
 refine ⟨⟨h1, Y ++ r, by rw [h2, List.append_assoc]⟩, by omega, r, ?_⟩
 rw [← List.drop_drop, h2, List.append_assoc, List.drop_left]
theorem At.cons {L : List Int} {t : Nat} {c : Int} {Y : List Int} (h : At L t (c :: Y)) : ∃ hl : t < L.length, L[t] = c ∧ At L (t + 1) Y := by
 have hl := h.le
 have h3 : At L (t + 1) Y := (At.split (X := [c]) h).2
 obtain ⟨h1, r, h2⟩ := h
 rw [List.length_cons] at hl
 refine ⟨by omega, ?_, h3⟩
 rw [drop_at L t (by omega), List.cons_append] at h2
 exact (List.cons.inj h2).1
theorem At.vd {L : List Int} {t n : Nat} (h : At L t (venc n)) (hn : n < 18446744073709551616) : Go.Proofs.Ytackcingpffidaa.P.vd 0 (L.drop t) = (n, (venc n).length, 0) := by
 obtain ⟨_, r, h2⟩ := h
 rw [h2]
 exact vd_venc n 0 r (by decide) (by simpa using hn) (fun h => absurd h (Nat.lt_irrefl 0))
theorem uz_zz (x : Int) : uz (zz x) = x := by
 unfold uz zz
 split <;> split <;> omega
theorem str_back (s : ByteArray) : strOfNums (bytesOf s) = s := by
 obtain ⟨⟨l⟩⟩ := s
 have h : ((fun n : Int => UInt8.ofNat n.toNat) ∘ fun b : UInt8 => (b.toNat : Int)) = id := by
  funext b
  simp
 unfold bytesOf strOfNums
 simp [h]
section
variable (L : List Int) (hb : Bytes L) (hl : L.length < 4611686018427387904)
include hb hl
theorem vint_at {t n : Nat} (h : At L t (venc n)) (hn : n < 18446744073709551616) : Ev (fun k => vintS k L (t : Int) 0) ((n : Int), ((t + (venc n).length : Nat) : Int), 0) := by
 have e := h.vd hn
 have h1 := lib_vint L hb hl t h.1 (by rw [e])
 rw [e] at h1
 exact h1
theorem num_at {t n : Nat} (h : At L t (venc n)) (hn : n ≤ 2147483647) : Ev (fun k => numS k L (t : Int) 0) ((n : Int), ((t + (venc n).length : Nat) : Int), 0) := by
 refine (vint_at L hb hl h (by omega)).bind (Ev.const ?_)
 rw [if_pos rfl, if_neg (show ¬ 2147483647 < (n : Int) by omega)]
 simp only [wrap_nat (show n < 9223372036854775808 by omega)]
theorem lim_at {t n m : Nat} (h : At L t (venc n)) (hn : n ≤ m) (hm : m ≤ 2147483647) : Ev (fun k => limS k (m : Int) L (t : Int) 0) ((n : Int), ((t + (venc n).length : Nat) : Int), 0) := by
 refine (num_at L hb hl h (by omega)).bind (Ev.const ?_)
 rw [if_pos rfl, if_neg (show ¬ (m : Int) < (n : Int) by omega)]
omit hb hl in
theorem dv_at {t : Nat} {a b : Int} {s : ByteArray} (hv : V a b s) (hi : -9223372036854775808 ≤ b ∧ b ≤ 9223372036854775807) (h : At L t (enc a b s)) : dv L t = (a, b, s, ((t + (enc a b s).length : Nat) : Int), 0) := by
 unfold V at hv
 unfold enc at h ⊢
 by_cases h1 : a = 1
 ·rw [if_pos h1] at h ⊢
  obtain ⟨l1, e1, h⟩ := h.cons
  obtain ⟨l2, e2, h⟩ := h.cons
  have hs : s = ⟨#[]⟩ := by rcases hv with h | h | h | h <;> first | omega | exact h.2.2
  subst h1 hs
  unfold dv
  rw [dif_pos l1, if_neg (by omega), if_pos e1, dif_pos l2, if_neg (by rw [e2]; omega), e2]
  simp
 rw [if_neg h1] at h ⊢
 by_cases h2 : a = 2
 ·rw [if_pos h2] at h ⊢
  obtain ⟨l1, e1, h⟩ := h.cons
  have hs : s = ⟨#[]⟩ := by rcases hv with h | h | h | h <;> first | omega | exact h.2
  subst h2 hs
  have e := h.vd (zz_lt hi.1 hi.2)
  unfold dv
  rw [dif_pos l1, if_neg (by omega), if_neg (by omega), if_pos e1, e, if_pos rfl]
  simp only [uz_zz, List.length_cons]
  congr 5
  omega
 rw [if_neg h2] at h ⊢
 by_cases h3 : a = 3
 ·rw [if_pos h3] at h ⊢
  obtain ⟨l1, e1, h⟩ := h.cons
  obtain ⟨hx, hy⟩ := h.split
  have hbs : b = 0 ∧ s.size ≤ 4096 := by rcases hv with h | h | h | h <;> first | omega | exact h.2
  obtain ⟨rfl, hs⟩ := hbs
  subst h3
  have e := hx.vd (n := s.size) (by omega)
  have hle := hy.le
  rw [bytesOf_length] at hle
  obtain ⟨_, r, hr⟩ := hy
  unfold dv
  rw [dif_pos l1, if_neg (by omega), if_neg (by omega), if_neg (by omega), if_pos e1, e]
  show (if (0 : Int) = 0 then (if s.size > 4096 then bad 3 else if s.size > L.length - (t + 1 + (venc s.size).length) then bad 2 else (3, 0, strOfNums ((L.take (t + 1 + (venc s.size).length + s.size)).drop (t + 1 + (venc s.size).length)), ((t + 1 + (venc s.size).length + s.size : Nat) : Int), 0)) else bad 0) = _
  rw [if_pos rfl, if_neg (by omega), if_neg (by omega)]
  have ht : (L.take (t + 1 + (venc s.size).length + s.size)).drop (t + 1 + (venc s.size).length) = bytesOf s := by
   rw [List.drop_take, hr, show t + 1 + (venc s.size).length + s.size - (t + 1 + (venc s.size).length) = (bytesOf s).length by rw [bytesOf_length]; omega, List.take_left]
  simp only [ht, str_back, List.length_cons, List.length_append, bytesOf_length]
  congr 5
  omega
 rw [if_neg h3] at h ⊢
 obtain ⟨l1, e1, h⟩ := h.cons
 have h0 : a = 0 ∧ b = 0 ∧ s = ⟨#[]⟩ := by rcases hv with h | h | h | h <;> first | exact h | omega
 obtain ⟨rfl, rfl, rfl⟩ := h0
 unfold dv
 rw [dif_pos l1, if_pos e1]
 simp
end
def un (x : Int) : Nat := (IntKind.u64.wrap x).toNat
theorem un_eq (x : Int) : IntKind.u64.wrap x = (un x : Int) := by unfold un; rw [IntKind.wrap_u64]; omega
theorem un_lt (x : Int) : un x < 18446744073709551616 := by unfold un; rw [IntKind.wrap_u64]; omega
def eM : List Int → Int → List Int
 | [], _ => []
 | h :: t, last => venc (un (h - last)) ++ eM t h
def eC : List Int → List Int
 | [] => []
 | n :: t => venc (un n) ++ eC t
def eF (R : List Int) : List S39 → Nat → List Int
 | [], _ => []
 | f :: t, i => enc f.f0 f.f1 f.f2 ++ (venc (un (rd R ((2 * i : Nat) : Int))) ++ (venc (un (rd R ((2 * i + 1 : Nat) : Int))) ++ eF R t (i + 1)))
/-- A sketch's bytes. -/
def eAll (a0 a1 : Int) (M : List Int) (b : Bool) (C : List Int) (F : List S39) (R : List Int) : List Int :=
 venc (un a0) ++ (venc (un a1) ++ (venc M.length ++ (eM M 0 ++ ((if b then (1 : Int) else 0) :: (eC C ++ (venc F.length ++ eF R F 0))))))
/-- A value as the encoders take it. -/
def VE (f : S39) : Prop := V f.f0 f.f1 f.f2 ∧ -9223372036854775808 ≤ f.f1 ∧ f.f1 ≤ 9223372036854775807
theorem lib_venc (x : Int) : Ev (fun k => varint_Encode.f k (IntKind.u64.wrap x)) (venc (un x)) := by rw [un_eq]; exact enc_ev _ (un_lt x)
theorem ref_venc (x : Int) : Ev (fun k => laminaref01_Encode.f k (IntKind.u64.wrap x)) (venc (un x)) := by rw [un_eq]; exact ref_enc_ev _ (un_lt x)
theorem un_nat {n : Nat} (h : n < 18446744073709551616) : un (n : Int) = n := by unfold un; rw [IntKind.wrap_u64]; omega
theorem encM_ev : ∀ (M : List Int) (last : Int), Ev (fun k => encM k M last) (eM M last)
 | [], _ => Ev.all fun _ => rfl
 | h :: t, last => (lib_venc (h - last)).bind ((encM_ev t h).bind (Ev.now _))
theorem encC_ev : ∀ (C : List Int), Ev (fun k => encC k C) (eC C)
 | [] => Ev.all fun _ => rfl
 | n :: t => (lib_venc n).bind ((encC_ev t).bind (Ev.now _))
theorem encF_ev (R : List Int) : ∀ (F : List S39) (i : Nat), (∀ f ∈ F, VE f) → 2 * (i + F.length) ≤ R.length → Ev (fun k => encF k R F i) (eF R F i)
 | [], _, _, _ => Ev.all fun _ => rfl
 | f :: t, i, hv, hr => by
  rw [List.length_cons] at hr
  have hf := hv f List.mem_cons_self
  refine Ev.congr (fun k => if_pos (by omega)) ((encode_ev _ _ _ hf.1 hf.2).bind ((lib_venc _).bind ((lib_venc _).bind ((encF_ev R t (i + 1) (fun x hx => hv x (List.mem_cons_of_mem _ hx)) (by omega)).bind (Ev.now _)))))
theorem eM_len : ∀ (M : List Int) (last : Int), (eM M last).length ≤ 10 * M.length
 | [], _ => Nat.le_refl _
 | h :: t, last => by
  have h1 := venc_len64 (un_lt (h - last))
  have h2 := eM_len t h
  unfold eM
  rw [List.length_append, List.length_cons]
  omega
theorem eC_len : ∀ (C : List Int), (eC C).length ≤ 10 * C.length
 | [] => Nat.le_refl _
 | n :: t => by
  have h1 := venc_len64 (un_lt n)
  have h2 := eC_len t
  unfold eC
  rw [List.length_append, List.length_cons]
  omega
theorem enc_len {f : S39} (hf : VE f) : (enc f.f0 f.f1 f.f2).length ≤ 4200 := by
 obtain ⟨hv, hi⟩ := hf
 unfold V at hv
 unfold enc
 split
 ·simp
 ·split
  ·have := venc_len64 (zz_lt hi.1 hi.2)
   rw [List.length_cons]
   omega
  ·split
   ·have h1 : f.f2.size ≤ 4096 := by rcases hv with h | h | h | h <;> first | omega | exact h.2.2
    have := venc_len64 (n := f.f2.size) (by omega)
    rw [List.length_cons, List.length_append, bytesOf_length]
    omega
   ·simp
theorem eF_len (R : List Int) : ∀ (F : List S39) (i : Nat), (∀ f ∈ F, VE f) → (eF R F i).length ≤ 5000 * F.length
 | [], _, _ => Nat.le_refl _
 | f :: t, i, hv => by
  have h1 := enc_len (hv f List.mem_cons_self)
  have h2 := venc_len64 (un_lt (rd R ((2 * i : Nat) : Int)))
  have h3 := venc_len64 (un_lt (rd R ((2 * i + 1 : Nat) : Int)))
  have h4 := eF_len R t (i + 1) (fun x hx => hv x (List.mem_cons_of_mem _ hx))
  unfold eF
  simp only [List.length_append, List.length_cons]
  omega
theorem l2_one (a0 a1 : Int) (M : List Int) (b : Bool) (C : List Int) (F : List S39) (R : List Int) (acc : List (List Int)) (i : Nat) (hi : i < F.length) (hF : F.length ≤ 17) (ha : acc.length ≤ 1000) (hr : 2 * i + 1 < R.length) : ∀ k, laminaref16_Encode.l2 (k + 1) acc (i : Int) a0 a1 M b C F R = (laminaref04_Encode.f k F[i].f0 F[i].f1 F[i].f2).bind fun x => (laminaref01_Encode.f k (IntKind.u64.wrap (rd R ((2 * i : Nat) : Int)))).bind fun y => (laminaref01_Encode.f k (IntKind.u64.wrap (rd R ((2 * i + 1 : Nat) : Int)))).bind fun z => laminaref16_Encode.l2 k (acc ++ [x] ++ [y] ++ [z]) ((i + 1 : Nat) : Int) a0 a1 M b C F R := by
 have hrd : rd_T39 F (i : Int) = F[i] := by
  unfold rd_T39
  rw [Int.toNat_natCast, List.getD_eq_getElem?_getD, List.getElem?_eq_getElem hi]
  rfl
 have w1 : wrap64 (2 * (i : Int)) = ((2 * i : Nat) : Int) := by unfold wrap64; omega
 have w2 : wrap64 (((2 * i : Nat) : Int) + 1) = ((2 * i + 1 : Nat) : Int) := by unfold wrap64; omega
 have w3 : wrap64 ((i : Int) + 1) = ((i + 1 : Nat) : Int) := by unfold wrap64; omega
 intro k
 simp only [laminaref16_Encode.l2]
 simp only [w1, w2, w3, hrd]
 refine (if_pos (by omega)).trans ?_
 refine (if_pos (by omega)).trans ?_
 refine congrArg _ (funext fun x => ?_)
 refine (if_pos (by omega)).trans ?_
 refine (Option.bind_some _ _).trans ?_
 refine (if_pos (by omega)).trans ?_
 refine (if_pos (by omega)).trans ?_
 refine congrArg _ (funext fun y => ?_)
 refine (if_pos (by simp only [List.length_append, List.length_cons, List.length_nil]; omega)).trans ?_
 refine (Option.bind_some _ _).trans ?_
 refine (if_pos (by omega)).trans ?_
 refine (if_pos (by omega)).trans ?_
 refine congrArg _ (funext fun z => ?_)
 exact if_pos (by simp only [List.length_append, List.length_cons, List.length_nil]; omega)
theorem l1_end (a0 a1 : Int) (M : List Int) (b : Bool) (C : List Int) (F : List S39) (R : List Int) (acc : List (List Int)) (i : Nat) (hi : i = C.length) (ha : acc.length ≤ 1000) : ∀ k, laminaref16_Encode.l1 (k + 1) acc (i : Int) a0 a1 M b C F R = (laminaref01_Encode.f k (IntKind.u64.wrap (F.length : Int))).bind fun x => laminaref16_Encode.l2 k (acc ++ [x]) ((0 : Nat) : Int) a0 a1 M b C F R := by
 intro k
 simp only [laminaref16_Encode.l1]
 rw [if_neg (by omega)]
 refine congrArg _ (funext fun x => ?_)
 exact if_pos (by omega)
theorem l1_one (a0 a1 : Int) (M : List Int) (b : Bool) (C : List Int) (F : List S39) (R : List Int) (acc : List (List Int)) (i : Nat) (hi : i < C.length) (hC : C.length = 256) (ha : acc.length ≤ 1000) : ∀ k, laminaref16_Encode.l1 (k + 1) acc (i : Int) a0 a1 M b C F R = (laminaref01_Encode.f k (IntKind.u64.wrap C[i])).bind fun x => laminaref16_Encode.l1 k (acc ++ [x]) ((i + 1 : Nat) : Int) a0 a1 M b C F R := by
 have hrd : rd C (i : Int) = C[i] := rd_nat C i hi
 have w3 : wrap64 ((i : Int) + 1) = ((i + 1 : Nat) : Int) := by unfold wrap64; omega
 intro k
 simp only [laminaref16_Encode.l1]
 simp only [w3, hrd]
 refine (if_pos (by omega)).trans ?_
 refine (if_pos (by omega)).trans ?_
 refine congrArg _ (funext fun x => ?_)
 exact if_pos (by omega)
theorem l0_one (a0 a1 : Int) (M : List Int) (b : Bool) (C : List Int) (F : List S39) (R : List Int) (acc : List (List Int)) (i : Nat) (last : Int) (hi : i < M.length) (hM : M.length ≤ 32) (ha : acc.length ≤ 1000) : ∀ k, laminaref16_Encode.l0 (k + 1) acc last (i : Int) a0 a1 M b C F R = (laminaref01_Encode.f k (IntKind.u64.wrap (M[i] - last))).bind fun x => laminaref16_Encode.l0 k (acc ++ [x]) M[i] ((i + 1 : Nat) : Int) a0 a1 M b C F R := by
 have hrd : rd M (i : Int) = M[i] := rd_nat M i hi
 have w3 : wrap64 ((i : Int) + 1) = ((i + 1 : Nat) : Int) := by unfold wrap64; omega
 intro k
 simp only [laminaref16_Encode.l0]
 simp only [w3, hrd]
 refine (if_pos (by omega)).trans ?_
 refine (if_pos (by omega)).trans ?_
 refine congrArg _ (funext fun x => ?_)
 exact if_pos (by omega)
theorem flat_le (acc : List (List Int)) (j : Nat) (hj : j < acc.length) : acc[j].length ≤ acc.flatten.length := by
 obtain ⟨s, t, h1⟩ := List.append_of_mem (List.getElem_mem hj)
 have h2 := congrArg (fun l : List (List Int) => l.flatten.length) h1
 simp only [List.flatten_append, List.flatten_cons, List.length_append] at h2
 omega
section
variable (a0 a1 : Int) (M : List Int) (b : Bool) (C : List Int) (F : List S39) (R : List Int)
variable (hM : M.length ≤ 32) (hC : C.length = 256) (hF : F.length ≤ 17) (hR : R.length = 2 * F.length) (hv : ∀ f ∈ F, VE f)
include hM hC hF hv
theorem eAll_len : (eAll a0 a1 M b C F R).length ≤ 1000000 := by
 have h1 := venc_len64 (un_lt a0)
 have h2 := venc_len64 (un_lt a1)
 have h3 := venc_len64 (n := M.length) (by omega)
 have h4 := venc_len64 (n := F.length) (by omega)
 have h5 := eM_len M 0
 have h6 := eC_len C
 have h7 := eF_len R F 0 hv
 unfold eAll
 simp only [List.length_append, List.length_cons]
 omega
include hR
theorem lib_encode : Ev (fun k => sketch_Encode.f k a0 a1 M b C F R) (eAll a0 a1 M b C F R) := by
 have hl := eAll_len a0 a1 M b C F R hM hC hF hv
 have e1 := enc_ev M.length (by omega)
 have e2 := enc_ev F.length (by omega)
 unfold sketch_Encode.f
 refine Ev.congr (fun k => if_neg (by omega)) ((lib_venc a0).bind ((lib_venc a1).bind (e1.bind ((encM_ev M 0).bind ((encC_ev C).bind (e2.bind ((encF_ev R F 0 hv (by omega)).bind (Ev.const ?_))))))))
 unfold eAll at hl ⊢
 rw [if_pos (by omega)]
omit hM hC in
theorem ref_l2 : ∀ (d i : Nat) (acc : List (List Int)), i + d = F.length → acc.length + 3 * d ≤ 1000 → (acc.flatten ++ eF R (F.drop i) i).length < 140737488355328 → Ev (fun k => laminaref16_Encode.l2 k acc (i : Int) a0 a1 M b C F R) (acc.flatten ++ eF R (F.drop i) i) := by
 intro d
 induction d with
 | zero =>
  intro i acc hd ha hl
  rw [List.drop_of_length_le (by omega)] at hl ⊢
  simp only [eF, List.append_nil] at hl ⊢
  refine Ev.step (fun k => ?_) ((concat_ev acc (by omega) (fun j hj => by have h1_ := flat_le acc j hj; omega) hl).bind (Ev.now _))
  simp only [laminaref16_Encode.l2]
  rw [if_neg (by omega)]
 | succ d ih =>
  intro i acc hd ha hl
  have hlt : i < F.length := by omega
  have hf := hv _ (List.getElem_mem hlt)
  have hx : acc.flatten ++ eF R (F.drop i) i = (acc ++ [enc F[i].f0 F[i].f1 F[i].f2] ++ [venc (un (rd R ((2 * i : Nat) : Int)))] ++ [venc (un (rd R ((2 * i + 1 : Nat) : Int)))]).flatten ++ eF R (F.drop (i + 1)) (i + 1) := by
   rw [drop_at F i hlt]
   simp [eF, List.flatten_append, List.append_assoc]
  rw [hx] at hl ⊢
  have h := ih (i + 1) (acc ++ [enc F[i].f0 F[i].f1 F[i].f2] ++ [venc (un (rd R ((2 * i : Nat) : Int)))] ++ [venc (un (rd R ((2 * i + 1 : Nat) : Int)))]) (by omega) (by simp only [List.length_append, List.length_cons, List.length_nil]; omega) hl
  exact Ev.succ (Ev.congr (l2_one a0 a1 M b C F R acc i hlt hF (by omega) (by omega)) ((ref_encode_ev _ _ _ hf.1 hf.2).bind ((ref_venc _).bind ((ref_venc _).bind h))))
omit hM in
theorem ref_l1 : ∀ (d i : Nat) (acc : List (List Int)), i + d = C.length → acc.length + d ≤ 400 → (acc.flatten ++ (eC (C.drop i) ++ (venc F.length ++ eF R F 0))).length < 140737488355328 → Ev (fun k => laminaref16_Encode.l1 k acc (i : Int) a0 a1 M b C F R) (acc.flatten ++ (eC (C.drop i) ++ (venc F.length ++ eF R F 0))) := by
 intro d
 induction d with
 | zero =>
  intro i acc hd ha hl
  rw [List.drop_of_length_le (by omega)] at hl ⊢
  have hx : acc.flatten ++ (eC [] ++ (venc F.length ++ eF R F 0)) = (acc ++ [venc F.length]).flatten ++ eF R (F.drop 0) 0 := by simp [eC, List.flatten_append]
  rw [hx] at hl ⊢
  have h := ref_l2 a0 a1 M b C F R hF hR hv F.length 0 (acc ++ [venc F.length]) (by omega) (by simp only [List.length_append, List.length_cons, List.length_nil]; omega) hl
  have e := ref_venc (F.length : Int)
  rw [un_nat (n := F.length) (by omega)] at e
  exact Ev.succ (Ev.congr (l1_end a0 a1 M b C F R acc i (by omega) (by omega)) (e.bind h))
 | succ d ih =>
  intro i acc hd ha hl
  have hlt : i < C.length := by omega
  have hx : acc.flatten ++ (eC (C.drop i) ++ (venc F.length ++ eF R F 0)) = (acc ++ [venc (un C[i])]).flatten ++ (eC (C.drop (i + 1)) ++ (venc F.length ++ eF R F 0)) := by
   rw [drop_at C i hlt]
   simp [eC, List.flatten_append]
  rw [hx] at hl ⊢
  have h := ih (i + 1) (acc ++ [venc (un C[i])]) (by omega) (by simp only [List.length_append, List.length_cons, List.length_nil]; omega) hl
  exact Ev.succ (Ev.congr (l1_one a0 a1 M b C F R acc i hlt hC (by omega)) ((ref_venc _).bind h))
theorem ref_l0 : ∀ (d i : Nat) (last : Int) (acc : List (List Int)), i + d = M.length → acc.length + d ≤ 100 → (acc.flatten ++ (eM (M.drop i) last ++ ((if b then (1 : Int) else 0) :: (eC C ++ (venc F.length ++ eF R F 0))))).length < 140737488355328 →
  Ev (fun k => laminaref16_Encode.l0 k acc last (i : Int) a0 a1 M b C F R) (acc.flatten ++ (eM (M.drop i) last ++ ((if b then (1 : Int) else 0) :: (eC C ++ (venc F.length ++ eF R F 0))))) := by
 intro d
 induction d with
 | zero =>
  intro i last acc hd ha hl
  rw [List.drop_of_length_le (by omega)] at hl ⊢
  have hx : acc.flatten ++ (eM [] last ++ ((if b then (1 : Int) else 0) :: (eC C ++ (venc F.length ++ eF R F 0)))) = (acc ++ [[if b then (1 : Int) else 0]]).flatten ++ (eC (C.drop 0) ++ (venc F.length ++ eF R F 0)) := by simp [eM, List.flatten_append]
  rw [hx] at hl ⊢
  have h := ref_l1 a0 a1 M b C F R hC hF hR hv C.length 0 (acc ++ [[if b then (1 : Int) else 0]]) (by omega) (by simp only [List.length_append, List.length_cons, List.length_nil]; omega) hl
  have hj : Ev (fun k => laminaref16_Encode.j1 k (acc ++ [[if b then (1 : Int) else 0]]) a0 a1 M b C F R) ((acc ++ [[if b then (1 : Int) else 0]]).flatten ++ (eC (C.drop 0) ++ (venc F.length ++ eF R F 0))) := Ev.step (fun k => by simp only [laminaref16_Encode.j1]; rfl) h
  refine Ev.succ (Ev.congr (fun k => ?_) hj)
  simp only [laminaref16_Encode.l0]
  rw [if_neg (by omega)]
  cases b <;> simp [show acc.length < 5864062014805 by omega]
 | succ d ih =>
  intro i last acc hd ha hl
  have hlt : i < M.length := by omega
  have hx : acc.flatten ++ (eM (M.drop i) last ++ ((if b then (1 : Int) else 0) :: (eC C ++ (venc F.length ++ eF R F 0)))) = (acc ++ [venc (un (M[i] - last))]).flatten ++ (eM (M.drop (i + 1)) M[i] ++ ((if b then (1 : Int) else 0) :: (eC C ++ (venc F.length ++ eF R F 0)))) := by
   rw [drop_at M i hlt]
   simp [eM, List.flatten_append]
  rw [hx] at hl ⊢
  have h := ih (i + 1) M[i] (acc ++ [venc (un (M[i] - last))]) (by omega) (by simp only [List.length_append, List.length_cons, List.length_nil]; omega) hl
  exact Ev.succ (Ev.congr (l0_one a0 a1 M b C F R acc i last hlt hM (by omega)) ((ref_venc _).bind h))
theorem ref_encode : Ev (fun k => laminaref16_Encode.f k a0 a1 M b C F R) (eAll a0 a1 M b C F R) := by
 have hl := eAll_len a0 a1 M b C F R hM hC hF hv
 have hx : eAll a0 a1 M b C F R = ([venc (un a0), venc (un a1), venc M.length] : List (List Int)).flatten ++ (eM (M.drop 0) 0 ++ ((if b then (1 : Int) else 0) :: (eC C ++ (venc F.length ++ eF R F 0)))) := by simp [eAll]
 rw [hx] at hl ⊢
 have h := ref_l0 a0 a1 M b C F R hM hC hF hR hv M.length 0 0 [venc (un a0), venc (un a1), venc M.length] (by omega) (by simp; omega) (by omega)
 have e := ref_venc (M.length : Int)
 rw [un_nat (n := M.length) (by omega)] at e
 exact (ref_venc a0).bind ((ref_venc a1).bind (e.bind h))
end
abbrev R9 := Int × Int × List Int × Bool × List Int × List S39 × List Int × Int × Int
/-- The end, behind all that is read. -/
def dEnd (k : Nat) (a0 a1 : Int) (M : List Int) (b : Bool) (C : List Int) (y5 : List S39 × List Int × Int × Int) : Option R9 := if y5.2.2.2 = 0 then
  (sketch_Valid.f k a0 a1 M b C y5.1 y5.2.1).bind fun ok => if ok = true then some (a0, a1, M, b, C, y5.1, y5.2.1, y5.2.2.1, 0) else some (0, 0, [], false, [], [], [], 0, 4)
 else some (0, 0, [], false, [], [], [], 0, y5.2.2.2)
end Go.Proofs.Ytackcingpffidaa.P
namespace Go.Proofs.Ytackcingpffidaa.P
open Go.RowKit Go.Proofs.YtackcingpffidaaW.PrintWords Go.Proofs.YtackcingpffidaaW.PrintLast Go.Proofs.YtackcingpffidaaW.PrintMore
set_option linter.unusedVariables false
set_option maxRecDepth 1000000 in
theorem awake_true : laminalaw16_awake.f 40 = some true := by kernel_rfl
theorem awake_ev : Ev (fun k => laminalaw16_awake.f k) true := Ev.of laminalaw16_awake.mono awake_true
/-! ### the fences -/
theorem allN_iff (p : Nat → Bool) : ∀ m i, allN p i m = true ↔ ∀ j, i ≤ j → j < i + m → p j = true
 | 0, _ => by simp [allN]; intro j h1 h2; omega
 | m + 1, i => by
  simp only [allN, Bool.and_eq_true, allN_iff p m (i + 1)]
  constructor
  ·rintro ⟨h0, h⟩ j h1 h2
   by_cases e : j = i
   ·subst e; exact h0
   ·exact h j (by omega) (by omega)
  ·intro h
   exact ⟨h i (Nat.le_refl _) (by omega), fun j h1 h2 => h j (by omega) (by omega)⟩
theorem rF_fOk (l : List S39) (h : ∀ j, j < l.length → vV (rd_T39 l (j : Nat)) = true) (i : Nat) (hi : i < l.length) : rF l i = fOk l i := by
 unfold rF fOk
 rw [rvV_same]
 by_cases h0 : 0 < i
 ·have h1 := h (i - 1) (by omega)
  rw [show ((i - 1 : Nat) : Int) = (i : Int) - 1 from by omega] at h1
  rw [rcV_same _ _ h1 (h i hi)]
 ·simp [h0]
theorem fences_same (l : List S39) (r : List Int) (n : Int) : rfencesB l r n = fencesB l r n := by
 unfold rfencesB fencesB
 by_cases h17 : 17 < l.length
 ·rw [if_pos h17, if_pos h17]
 rw [if_neg h17, if_neg h17]
 by_cases hk : (l.length = 0) = (n = 0)
 ·rw [if_pos hk, if_pos hk]
  by_cases hr : r.length = 2 * l.length
  ·rw [if_pos hr, if_pos hr]
   rw [Bool.eq_iff_iff]
   simp only [Bool.and_eq_true, allN_iff]
   have hR : ∀ i : Nat, rR r n l.length i = true ↔ (0 ≤ rd r (2 * (i : Int)) ∧ rd r (2 * (i : Int)) ≤ n ∧ 0 ≤ rd r (2 * (i : Int) + 1) ∧ rd r (2 * (i : Int) + 1) ≤ n ∧ (i = 0 → rd r (2 * (i : Int)) = 0) ∧ (i + 1 = l.length → rd r (2 * (i : Int) + 1) = n) ∧ (0 < i → rd r (2 * (i : Int) - 2) ≤ rd r (2 * (i : Int)) ∧ rd r (2 * (i : Int) - 1) ≤ rd r (2 * (i : Int) + 1) ∧ rd r (2 * (i : Int) - 1) ≤ rd r (2 * (i : Int)))) := by
    intro i
    unfold rR
    simp only [Bool.and_eq_true, Bool.not_eq_true', decide_eq_false_iff_not, Bool.and_eq_false_iff, Bool.or_eq_false_iff, beq_eq_false_iff_ne, bne_eq_false_iff_eq, Int.not_lt, ne_eq]
    constructor
    ·rintro ⟨⟨⟨⟨⟨⟨h1, h2⟩, h3⟩, h4⟩, h5⟩, h6⟩, h7⟩
     refine ⟨h1, h2, h3, h4, fun e => ?_, fun e => ?_, fun e => ?_⟩
     ·rcases h5 with h5 | h5
      ·exact absurd e h5
      ·exact h5
     ·rcases h6 with h6 | h6
      ·exact absurd e h6
      ·exact h6
     ·rcases h7 with h7 | h7
      ·exact absurd e h7
      ·exact ⟨h7.1.1, h7.1.2, h7.2⟩
    ·rintro ⟨h1, h2, h3, h4, h5, h6, h7⟩
     refine ⟨⟨⟨⟨⟨⟨h1, h2⟩, h3⟩, h4⟩, ?_⟩, ?_⟩, ?_⟩
     ·by_cases e : i = 0
      ·exact .inr (h5 e)
      ·exact .inl e
     ·by_cases e : i + 1 = l.length
      ·exact .inr (h6 e)
      ·exact .inl e
     ·by_cases e : 0 < i
      ·exact .inr ⟨⟨(h7 e).1, (h7 e).2.1⟩, (h7 e).2.2⟩
      ·exact .inl e
   have hr2 : ∀ i : Nat, rOk r n i = true ↔ (0 ≤ rd r (i : Int) ∧ rd r (i : Int) ≤ n ∧ (2 ≤ i → rd r ((i : Int) - 2) ≤ rd r (i : Int))) := by
    intro i
    unfold rOk
    simp only [Bool.and_eq_true, Bool.not_eq_true', decide_eq_false_iff_not, Bool.and_eq_false_iff, Int.not_lt]
    constructor
    ·rintro ⟨⟨h1, h2⟩, h3⟩
     exact ⟨h1, h2, fun e => h3.resolve_left (fun h => h e)⟩
    ·rintro ⟨h1, h2, h3⟩
     refine ⟨⟨h1, h2⟩, ?_⟩
     by_cases e : 2 ≤ i
     ·exact .inr (h3 e)
     ·exact .inl e
   have ht : ∀ i : Nat, tOk r i = true ↔ rd r (2 * (i : Int) - 1) ≤ rd r (2 * (i : Int)) := by
    intro i
    unfold tOk
    simp
   constructor
   ·intro h
    have hF : ∀ j, j < l.length → rF l j = true ∧ rR r n l.length j = true := fun j hj => by
     have := h j (Nat.zero_le _) (by omega)
     exact this
    have hv : ∀ j, j < l.length → vV (rd_T39 l (j : Nat)) = true := fun j hj => by
     have h1 := (hF j hj).1
     unfold rF at h1
     simp only [Bool.and_eq_true] at h1
     rw [← rvV_same]
     exact h1.1.1.1
    refine ⟨⟨⟨fun j _ hj => ?_, fun j _ hj => ?_⟩, fun j h1 hj => ?_⟩, ?_⟩
    ·rw [← rF_fOk l hv j (by omega)]; exact (hF j (by omega)).1
    ·rw [hr2]
     have h2 := (hR (j / 2)).1 (hF (j / 2) (by omega)).2
     rcases Nat.mod_two_eq_zero_or_one j with e | e
     ·rw [show (j : Int) = 2 * ((j / 2 : Nat) : Int) from by omega]
      exact ⟨h2.1, h2.2.1, fun hj2 => (h2.2.2.2.2.2.2 (by omega)).1⟩
     ·rw [show (j : Int) = 2 * ((j / 2 : Nat) : Int) + 1 from by omega]
      refine ⟨h2.2.2.1, h2.2.2.2.1, fun hj2 => ?_⟩
      rw [show 2 * ((j / 2 : Nat) : Int) + 1 - 2 = 2 * ((j / 2 : Nat) : Int) - 1 from by omega]
      exact (h2.2.2.2.2.2.2 (by omega)).2.1
    ·rw [ht]
     exact (((hR j).1 (hF j (by omega)).2).2.2.2.2.2.2 (by omega)).2.2
    ·by_cases h0 : l.length = 0
     ·simp [h0]
     ·have ha := (hR 0).1 (hF 0 (by omega)).2
      have hb := (hR (l.length - 1)).1 (hF (l.length - 1) (by omega)).2
      have h1 := ha.2.2.2.2.1 rfl
      have h2 := hb.2.2.2.2.2.1 (by omega)
      rw [show 2 * ((l.length - 1 : Nat) : Int) + 1 = 2 * (l.length : Int) - 1 from by omega] at h2
      have h1' : rd r 0 = 0 := by simpa using h1
      simp [h1', h2]
   ·rintro ⟨⟨⟨hF, hr_⟩, ht_⟩, he⟩ j _ hj
    have hv : ∀ j, j < l.length → vV (rd_T39 l (j : Nat)) = true := fun j hj => by
     have h1 := hF j (Nat.zero_le _) (by omega)
     unfold fOk at h1
     simp only [Bool.and_eq_true] at h1
     exact h1.1.1.1
    refine ⟨by rw [rF_fOk l hv j (by omega)]; exact hF j (Nat.zero_le _) hj, ?_⟩
    rw [hR]
    have h0 := (hr2 (2 * j)).1 (hr_ (2 * j) (Nat.zero_le _) (by omega))
    have h1 := (hr2 (2 * j + 1)).1 (hr_ (2 * j + 1) (Nat.zero_le _) (by omega))
    rw [show ((2 * j : Nat) : Int) = 2 * (j : Int) from by omega] at h0
    rw [show ((2 * j + 1 : Nat) : Int) = 2 * (j : Int) + 1 from by omega] at h1
    have he' : rd r 0 = 0 ∧ rd r (2 * (l.length : Int) - 1) = n := by
     simp only [Bool.or_eq_true, beq_iff_eq, Bool.and_eq_true] at he
     rcases he with he | he
     ·omega
     ·exact he
    refine ⟨h0.1, h0.2.1, h1.1, h1.2.1, fun e => ?_, fun e => ?_, fun e => ⟨h0.2.2 (by omega), ?_, ?_⟩⟩
    ·subst e; simpa using he'.1
    ·rw [show 2 * (j : Int) + 1 = 2 * (l.length : Int) - 1 from by omega]; exact he'.2
    ·have := h1.2.2 (by omega)
     rwa [show 2 * (j : Int) + 1 - 2 = 2 * (j : Int) - 1 from by omega] at this
    ·have := (ht j).1 (ht_ j (by omega) (by omega))
     exact this
  ·rw [if_neg hr, if_neg hr]
 ·rw [if_neg hk, if_neg hk]
end Go.Proofs.Ytackcingpffidaa.P
namespace Go.Proofs.Ytackcingpffidaa.P
open Go.RowKit Go.Proofs.YtackcingpffidaaW.PrintWords Go.Proofs.YtackcingpffidaaW.PrintLast Go.Proofs.YtackcingpffidaaW.PrintMore
set_option linter.unusedVariables false
set_option linter.unusedSimpArgs false
theorem Ev_pos {α : Type} {p : Prop} [Decidable p] {a b : Nat → Option α} {r : α} (h : p) (e : Ev a r) : Ev (fun k => if p then a k else b k) r := Ev.congr (fun _ => if_pos h) e
theorem Ev_neg {α : Type} {p : Prop} [Decidable p] {a b : Nat → Option α} {r : α} (h : ¬ p) (e : Ev b r) : Ev (fun k => if p then a k else b k) r := Ev.congr (fun _ => if_neg h) e
theorem wrap64_small {x : Int} (h0 : 0 ≤ x) (h1 : x < 9223372036854775808) : wrap64 x = x := by unfold wrap64; omega
/-! ### counters -/
section
variable (a0 a1 : Int) (M : List Int) (c : Bool) (C : List Int) (F : List S39) (R : List Int)
theorem ref_row (hC : C.length = 256) (r : Nat) (hr : r < 4) (B : Bool) (hB : Ev (fun k => laminaref16_validCounters.l0 k ((r + 1 : Nat) : Int) a0 a1 M c C F R) B) : ∀ (m x : Nat) (left : Int), x + m = 64 →
  Ev (fun k => laminaref16_validCounters.l1 k (r : Int) left (x : Int) a0 a1 M c C F R) (rowB (((C.take ((r + 1) * 64)).drop (r * 64)).drop x) left && B)
 | 0, x, left, h => by
  obtain rfl : x = 64 := by omega
  rw [List.drop_of_length_le (by rw [List.length_drop, List.length_take]; omega)]
  refine Ev.succ ?_
  simp only [laminaref16_validCounters.l1]
  refine Ev_neg (by omega) ?_
  by_cases h0 : left = 0
  ·refine Ev_pos h0 ?_
   subst h0
   rw [wrap64_small (by omega) (by omega)]
   simpa [rowB] using hB
  ·refine Ev_neg h0 ?_
   have : rowB [] left = false := by simp [rowB, h0]
   rw [this]
   exact Ev.now _
 | m + 1, x, left, h => by
  have hd : ((C.take ((r + 1) * 64)).drop (r * 64)).drop x = rd C ((r * 64 + x : Nat) : Int) :: ((C.take ((r + 1) * 64)).drop (r * 64)).drop (x + 1) := by
   rw [List.drop_eq_getElem_cons (by rw [List.length_drop, List.length_take]; omega)]
   congr 1
   unfold rd
   rw [Int.toNat_natCast, List.getD_eq_getElem?_getD, List.getElem?_eq_getElem (by omega), List.getElem_drop, List.getElem_take]
   rfl
  rw [hd]
  have hi : wrap64 (wrap64 ((r : Int) * 64) + (x : Int)) = ((r * 64 + x : Nat) : Int) := by rw [wrap64_small (x := (r : Int) * 64) (by omega) (by omega), wrap64_small (by omega) (by omega)]; omega
  refine Ev.succ ?_
  simp only [laminaref16_validCounters.l1]
  rw [hi]
  refine Ev_pos (by omega) (Ev_pos (by omega) (Ev_pos (by omega) ?_))
  generalize rd C ((r * 64 + x : Nat) : Int) = v
  by_cases h1 : v < 0
  ·refine Ev_pos h1 ?_
   simp only [rowB, if_pos h1, Bool.false_and]
   exact Ev.now _
  ·by_cases h2 : v > left
   ·refine Ev_neg h1 (Ev_pos h2 ?_)
    simp only [rowB, if_neg h1, if_pos (show left < v from h2), Bool.false_and]
    exact Ev.now _
   ·refine Ev_neg h1 (Ev_neg h2 ?_)
    simp only [rowB, if_neg h1, if_neg (show ¬ left < v from h2)]
    rw [wrap64_small (x := (x : Int) + 1) (by omega) (by omega)]
    have := ref_row hC r hr B hB m (x + 1) (wrap64 (left - v)) (by omega)
    simpa using this
theorem ref_cnt (hC : C.length = 256) : ∀ (m r : Nat), r + m = 4 → Ev (fun k => laminaref16_validCounters.l0 k (r : Int) a0 a1 M c C F R) (cntF C (wrap64 (a0 - a1)) m)
 | 0, r, h => by
  obtain rfl : r = 4 := by omega
  refine Ev.succ ?_
  simp only [laminaref16_validCounters.l0]
  exact Ev_neg (by omega) (Ev.now _)
 | m + 1, r, h => by
  refine Ev.succ ?_
  simp only [laminaref16_validCounters.l0, laminaref16_values.f, Option.bind_some]
  refine Ev_pos (by omega) ?_
  have := ref_row a0 a1 M c C F R hC r (by omega) _ (ref_cnt hC m (r + 1) (by omega)) 64 0 (wrap64 (a0 - a1)) rfl
  rw [List.drop_zero] at this
  simp only [cntF]
  rw [show 3 - m = r from by omega]
  exact this
theorem ref_counters : Ev (fun k => laminaref16_validCounters.f k a0 a1 M c C F R) (cntB C (wrap64 (a0 - a1))) := by
 unfold laminaref16_validCounters.f cntB
 by_cases h : C.length = 256
 ·refine Ev.congr (fun k => if_pos (by omega)) ?_
  rw [show (C.length == 256) = true from by simp [h], Bool.true_and]
  exact ref_cnt a0 a1 M c C F R h 4 0 rfl
 ·refine Ev.congr (fun k => if_neg (by omega)) ?_
  rw [show (C.length == 256) = false from by simp [h], Bool.false_and]
  exact Ev.now _
/-! ### hashes -/
def upB (M : List Int) (j : Nat) : Bool := !(decide (rd M (j : Int) ≤ rd M ((j : Int) - 1)))
theorem ref_up (hM : M.length ≤ 4611686018427387904) : ∀ (m i : Nat), 1 ≤ i → M.length - i = m → Ev (fun k => laminaref16_validHashes.l0 k (i : Int) a0 a1 M c C F R) (allN (upB M) i m)
 | 0, i, h1, h => by
  refine Ev.succ ?_
  simp only [laminaref16_validHashes.l0]
  exact Ev_neg (by omega) (Ev.now _)
 | m + 1, i, h1, h => by
  refine Ev.succ ?_
  simp only [laminaref16_validHashes.l0]
  rw [wrap64_small (x := (i : Int) - 1) (by omega) (by omega)]
  refine Ev_pos (by omega) (Ev_pos (by omega) (Ev_pos (by omega) (Ev_pos (by omega) ?_)))
  by_cases h2 : rd M (i : Int) ≤ rd M ((i : Int) - 1)
  ·refine Ev_pos h2 ?_
   rw [allN_bad _ _ _ (by simp [upB, h2])]
   exact Ev.now _
  ·refine Ev_neg h2 ?_
   rw [allN_next _ _ _ (by simp [upB, h2]), wrap64_small (x := (i : Int) + 1) (by omega) (by omega)]
   have := ref_up hM m (i + 1) (by omega) (by omega)
   simpa using this
theorem lib_up (n : Int) (hM : M.length ≤ 4611686018427387904) : ∀ (m i : Nat), 1 ≤ i → M.length - i = m → Ev (fun k => sketch_Valid.l0 k n (i : Int) a0 a1 M c C F R) (allN (upB M) i m && (cntB C n && fencesB F R n))
 | 0, i, h1, h => by
  refine Ev.succ ?_
  simp only [sketch_Valid.l0, sketch_validCounters.f, sketch_validFences.f, Option.bind_some]
  refine Ev_neg (by omega) ?_
  simp only [allN, Bool.true_and]
  cases cntB C n with
  | true => exact Ev.now _
  | false => exact Ev.now _
 | m + 1, i, h1, h => by
  refine Ev.succ ?_
  simp only [sketch_Valid.l0]
  rw [wrap64_small (x := (i : Int) - 1) (by omega) (by omega)]
  refine Ev_pos (by omega) (Ev_pos (by omega) (Ev_pos (by omega) (Ev_pos (by omega) ?_)))
  by_cases h2 : rd M (i : Int) ≤ rd M ((i : Int) - 1)
  ·refine Ev_pos h2 ?_
   rw [allN_bad _ _ _ (by simp [upB, h2])]
   exact Ev.now _
  ·refine Ev_neg h2 ?_
   rw [allN_next _ _ _ (by simp [upB, h2]), wrap64_small (x := (i : Int) + 1) (by omega) (by omega)]
   have := lib_up n hM m (i + 1) (by omega) (by omega)
   simpa using this
/-- The checks of numbers, hashes and completeness that need no loop fail. -/
def badB (a0 a1 n : Int) (len : Nat) (c : Bool) : Bool := decide (a1 < 0) || decide (a0 < a1) || decide (32 < len) || decide (n < (len : Int)) || (decide (0 < n) && decide (len = 0)) || (!c && decide (len < 32))
def validB (a0 a1 : Int) (M : List Int) (c : Bool) (C : List Int) (F : List S39) (R : List Int) : Bool :=
 !badB a0 a1 (wrap64 (a0 - a1)) M.length c && (allN (upB M) 1 (M.length - 1) && (cntB C (wrap64 (a0 - a1)) && fencesB F R (wrap64 (a0 - a1))))
theorem lib_valid (hM : M.length ≤ 4611686018427387904) : Ev (fun k => sketch_Valid.f k a0 a1 M c C F R) (validB a0 a1 M c C F R) := by
 unfold sketch_Valid.f
 simp only [sketch_count.f, Option.bind_some]
 have hj : ∀ b, Ev (fun k => sketch_Valid.j0 k (wrap64 (a0 - a1)) b a0 a1 M c C F R) (!b && (allN (upB M) 1 (M.length - 1) && (cntB C (wrap64 (a0 - a1)) && fencesB F R (wrap64 (a0 - a1))))) := by
  intro b
  refine Ev.succ ?_
  simp only [sketch_Valid.j0]
  cases b with
  | true => exact Ev.now _
  | false => exact lib_up a0 a1 M c C F R _ hM (M.length - 1) 1 (Nat.le_refl _) rfl
 unfold validB
 generalize wrap64 (a0 - a1) = n at *
 generalize hV : (allN (upB M) 1 (M.length - 1) && (cntB C n && fencesB F R n)) = V at *
 have key : ∀ b, badB a0 a1 n M.length c = b → Ev (fun k => sketch_Valid.j0 k n b a0 a1 M c C F R) (!badB a0 a1 n M.length c && V) := fun b h => by rw [h]; exact hj b
 unfold badB at key ⊢
 by_cases h1 : a1 < 0
 ·exact Ev_pos h1 (key true (by simp [h1]))
 by_cases h2 : a1 > a0
 ·exact (Ev_neg h1 (Ev_pos h2 (key true (by simp [show a0 < a1 from h2]))))
 by_cases h3 : (M.length : Int) > mn n 32
 ·refine Ev_neg h1 (Ev_neg h2 (Ev_pos h3 (key true ?_)))
  have : 32 < M.length ∨ n < (M.length : Int) := by unfold mn at h3; split at h3 <;> omega
  rcases this with h | h <;> simp [h]
 have h3a : ¬ 32 < M.length := by unfold mn at h3; split at h3 <;> omega
 have h3b : ¬ n < (M.length : Int) := by unfold mn at h3; split at h3 <;> omega
 by_cases h4 : n > 0
 ·by_cases h5 : (M.length : Int) = 0
  ·have h5' : M.length = 0 := by omega
   exact (Ev_neg h1 (Ev_neg h2 (Ev_neg h3 (Ev_pos h4 (Ev_pos h5 (key true (by simp [show 0 < n from h4, h5'])))))))
  ·have h5' : ¬ M.length = 0 := by omega
   cases c with
   | true => exact (Ev_neg h1 (Ev_neg h2 (Ev_neg h3 (Ev_pos h4 (Ev_neg h5 (Ev_pos rfl (key false (by simp [h1, show ¬ a0 < a1 from h2, h3a, h3b, h5', show ¬ M = [] from fun e => h5' (by simp [e])]))))))))
   | false => exact (Ev_neg h1 (Ev_neg h2 (Ev_neg h3 (Ev_pos h4 (Ev_neg h5 (Ev_neg (by simp) (key _ (by rw [Bool.eq_iff_iff]; simp [h1, show ¬ a0 < a1 from h2, h3a, h3b, h5', show ¬ M = [] from fun e => h5' (by simp [e])] <;> omega))))))))
 ·cases c with
  | true => exact (Ev_neg h1 (Ev_neg h2 (Ev_neg h3 (Ev_neg h4 (Ev_pos rfl (key false (by simp [h1, show ¬ a0 < a1 from h2, h3a, h3b, show ¬ 0 < n from h4])))))))
  | false => exact (Ev_neg h1 (Ev_neg h2 (Ev_neg h3 (Ev_neg h4 (Ev_neg (by simp) (key _ (by rw [Bool.eq_iff_iff]; simp [h1, show ¬ a0 < a1 from h2, h3a, h3b, show ¬ 0 < n from h4] <;> omega)))))))
theorem ref_hashes (hM : M.length ≤ 4611686018427387904) : Ev (fun k => laminaref16_validHashes.f k a0 a1 M c C F R) (!(decide (32 < M.length) || decide (wrap64 (a0 - a1) < (M.length : Int)) || (decide (0 < wrap64 (a0 - a1)) && decide (M.length = 0)) || (!c && decide (M.length < 32))) && allN (upB M) 1 (M.length - 1)) := by
 unfold laminaref16_validHashes.f
 simp only [laminaref16_values.f, Option.bind_some]
 have hj : ∀ b, Ev (fun k => laminaref16_validHashes.j0 k b a0 a1 M c C F R) (!b && allN (upB M) 1 (M.length - 1)) := by
  intro b
  refine Ev.succ ?_
  simp only [laminaref16_validHashes.j0]
  cases b with
  | true => exact Ev.now _
  | false => exact ref_up a0 a1 M c C F R hM (M.length - 1) 1 (Nat.le_refl _) rfl
 generalize wrap64 (a0 - a1) = n at *
 generalize hV : allN (upB M) 1 (M.length - 1) = V at *
 have key : ∀ b, (decide (32 < M.length) || decide (n < (M.length : Int)) || (decide (0 < n) && decide (M.length = 0)) || (!c && decide (M.length < 32))) = b → Ev (fun k => laminaref16_validHashes.j0 k b a0 a1 M c C F R) (!(decide (32 < M.length) || decide (n < (M.length : Int)) || (decide (0 < n) && decide (M.length = 0)) || (!c && decide (M.length < 32))) && V) := fun b h => by rw [h]; exact hj b
 by_cases h3a : (M.length : Int) > 32
 ·have h32 : 32 < M.length := by omega
  exact (Ev_pos h3a (key true (by simp [h32])))
 by_cases h3b : (M.length : Int) > n
 ·exact (Ev_neg h3a (Ev_pos h3b (key true (by simp [show n < (M.length : Int) from h3b]))))
 have h3a' : ¬ 32 < M.length := by omega
 have h3b' : ¬ n < (M.length : Int) := h3b
 by_cases h4 : n > 0
 ·by_cases h5 : (M.length : Int) = 0
  ·have h5' : M.length = 0 := by omega
   exact (Ev_neg h3a (Ev_neg h3b (Ev_pos h4 (Ev_pos h5 (key true (by simp [show 0 < n from h4, h5']))))))
  ·have h5' : ¬ M.length = 0 := by omega
   cases c with
   | true => exact (Ev_neg h3a (Ev_neg h3b (Ev_pos h4 (Ev_neg h5 (Ev_pos rfl (key false (by simp [h3a', h3b', h5', show ¬ M = [] from fun e => h5' (by simp [e])])))))))
   | false => exact (Ev_neg h3a (Ev_neg h3b (Ev_pos h4 (Ev_neg h5 (Ev_neg (by simp) (key _ (by rw [Bool.eq_iff_iff]; simp [h3a', h3b', h5', show ¬ M = [] from fun e => h5' (by simp [e])] <;> omega)))))))
 ·cases c with
  | true => exact (Ev_neg h3a (Ev_neg h3b (Ev_neg h4 (Ev_pos rfl (key false (by simp [h3a', h3b', show ¬ 0 < n from h4]))))))
  | false => exact (Ev_neg h3a (Ev_neg h3b (Ev_neg h4 (Ev_neg (by simp) (key _ (by rw [Bool.eq_iff_iff]; simp [h3a', h3b', show ¬ 0 < n from h4] <;> omega))))))
theorem ref_valid (hM : M.length ≤ 4611686018427387904) : Ev (fun k => laminaref16_Valid.f k a0 a1 M c C F R) (validB a0 a1 M c C F R) := by
 unfold laminaref16_Valid.f validB badB
 have hH := ref_hashes a0 a1 M c C F R hM
 have hC := ref_counters a0 a1 M c C F R
 by_cases h1 : a1 ≥ 0
 ·by_cases h2 : a1 ≤ a0
  ·refine Ev_pos h1 (Ev_pos h2 ?_)
   simp only [laminaref16_validFences.f, Option.bind_some, fences_same]
   have e1 : decide (a1 < 0) = false := decide_eq_false (by omega)
   have e2 : decide (a0 < a1) = false := decide_eq_false (by omega)
   rw [e1, e2, Bool.false_or, Bool.false_or]
   refine Ev.bind (a := _) hH ?_
   generalize (decide (32 < M.length) || decide (wrap64 (a0 - a1) < (M.length : Int)) || (decide (0 < wrap64 (a0 - a1)) && decide (M.length = 0)) || (!c && decide (M.length < 32))) = b
   cases b with
   | true => exact Ev.now _
   | false =>
    cases allN (upB M) 1 (M.length - 1) with
    | false => exact Ev.now _
    | true =>
     refine Ev_pos rfl ?_
     refine Ev.bind (a := _) hC ?_
     cases cntB C (wrap64 (a0 - a1)) with
     | false => exact Ev.now _
     | true => exact Ev.now _
  ·refine Ev_pos h1 (Ev_neg h2 ?_)
   rw [show decide (a0 < a1) = true from decide_eq_true (by omega)]
   simp only [Bool.or_true, Bool.true_or, Bool.not_true, Bool.false_and]
   exact Ev.now _
 ·refine Ev_neg h1 ?_
  rw [show decide (a1 < 0) = true from decide_eq_true (by omega)]
  simp only [Bool.true_or, Bool.not_true, Bool.false_and]
  exact Ev.now _
end
theorem un_small {x : Int} (h0 : 0 ≤ x) (h1 : x ≤ 2147483647) : (un x : Int) = x := by rw [← un_eq, IntKind.wrap_u64]; omega
theorem un_le {x : Int} (h0 : 0 ≤ x) (h1 : x ≤ 2147483647) : un x ≤ 2147483647 := by have := un_small h0 h1; omega
section
variable (L : List Int) (hb : Bytes L) (hl : L.length < 4611686018427387904)
include hb hl
theorem small_at {t : Nat} {x : Int} (h : At L t (venc (un x))) (h0 : 0 ≤ x) (h1 : x ≤ 2147483647) : Ev (fun k => numS k L (t : Int) 0) (x, ((t + (venc (un x)).length : Nat) : Int), 0) := by
 have e := num_at L hb hl h (un_le h0 h1)
 rwa [un_small h0 h1] at e
theorem dM_at : ∀ (M : List Int) (last : Int) (t : Nat), (∀ h ∈ M, 0 ≤ h ∧ h < 18446744073709551616) → At L t (eM M last) → Ev (fun k => dM k L M.length last (t : Int) 0) (M, ((t + (eM M last).length : Nat) : Int), 0)
 | [], _, _, _, _ => Ev.all fun _ => rfl
 | h :: r, last, t, hm, ha => by
  obtain ⟨h1, h2⟩ := ha.split
  have hh := hm h List.mem_cons_self
  have e := vint_at L hb hl h1 (un_lt _)
  have e2 := dM_at r h (t + (venc (un (h - last))).length) (fun x hx => hm x (List.mem_cons_of_mem _ hx)) h2
  have w : IntKind.u64.wrap (last + (un (h - last) : Int)) = h := by rw [← un_eq, IntKind.wrap_u64, IntKind.wrap_u64]; omega
  have e3 : Ev (fun k => (vintS k L (t : Int) 0).bind fun x => (dM k L r.length (IntKind.u64.wrap (last + x.1)) x.2.1 x.2.2).bind fun y => some (IntKind.u64.wrap (last + x.1) :: y.1, y.2)) (h :: r, ((t + (venc (un (h - last))).length + (eM r h).length : Nat) : Int), 0) := by
   refine e.bind ?_
   simp only [w]
   exact e2.bind (Ev.now _)
  rw [Nat.add_assoc, ← List.length_append] at e3
  exact e3
theorem dC_at : ∀ (C : List Int) (t : Nat), (∀ h ∈ C, 0 ≤ h ∧ h ≤ 2147483647) → At L t (eC C) → Ev (fun k => dC k L C.length (t : Int) 0) (C, ((t + (eC C).length : Nat) : Int), 0)
 | [], _, _, _ => Ev.all fun _ => rfl
 | h :: r, t, hm, ha => by
  obtain ⟨h1, h2⟩ := ha.split
  have hh := hm h List.mem_cons_self
  have e := small_at L hb hl h1 hh.1 hh.2
  have e2 := dC_at r (t + (venc (un h)).length) (fun x hx => hm x (List.mem_cons_of_mem _ hx)) h2
  have e3 : Ev (fun k => (numS k L (t : Int) 0).bind fun x => (dC k L r.length x.2.1 x.2.2).bind fun y => some (x.1 :: y.1, y.2)) (h :: r, ((t + (venc (un h)).length + (eC r).length : Nat) : Int), 0) := by
   refine e.bind ?_
   exact e2.bind (Ev.all fun _ => rfl)
  have w : (((t + (venc (un h)).length + (eC r).length : Nat)) : Int) = ((t + (eC (h :: r)).length : Nat) : Int) := by
   rw [show eC (h :: r) = venc (un h) ++ eC r from rfl, List.length_append]
   omega
  simp only [w] at e3
  exact e3
theorem dF_at (R : List Int) (hR : ∀ h ∈ R, 0 ≤ h ∧ h ≤ 2147483647) : ∀ (F : List S39) (i t : Nat), (∀ f ∈ F, VE f) → R.length = 2 * (i + F.length) → At L t (eF R F i) → Ev (fun k => dF k L F.length (t : Int) 0) (F, R.drop (2 * i), ((t + (eF R F i).length : Nat) : Int), 0)
 | [], i, t, _, hr, _ => by
  rw [List.drop_of_length_le (by simp at hr; omega)]
  exact Ev.all fun _ => rfl
 | f :: r, i, t, hv, hr, ha => by
  rw [List.length_cons] at hr
  have hf := hv f List.mem_cons_self
  obtain ⟨h1, h2⟩ := ha.split
  obtain ⟨h2, h3⟩ := h2.split
  obtain ⟨h3, h4⟩ := h3.split
  have d1 : 2 * i < R.length := by omega
  have d2 : 2 * i + 1 < R.length := by omega
  have r1 : rd R ((2 * i : Nat) : Int) = R[2 * i] := rd_nat R _ d1
  have r2 : rd R ((2 * i + 1 : Nat) : Int) = R[2 * i + 1] := rd_nat R _ d2
  have q1 := hR _ (List.getElem_mem d1)
  have q2 := hR _ (List.getElem_mem d2)
  have e1 := lib_dec L hb hl t h1.1
  rw [dv_at L hf.1 hf.2 h1] at e1
  have e2 := small_at L hb hl h2 (by rw [r1]; exact q1.1) (by rw [r1]; exact q1.2)
  have e3 := small_at L hb hl h3 (by rw [r2]; exact q2.1) (by rw [r2]; exact q2.2)
  have e4 := dF_at R hR r (i + 1) _ (fun x hx => hv x (List.mem_cons_of_mem _ hx)) (by omega) h4
  have w : R.drop (2 * i) = R[2 * i] :: R[2 * i + 1] :: R.drop (2 * (i + 1)) := by rw [drop_at R (2 * i) d1, drop_at R (2 * i + 1) d2]; rfl
  rw [w]
  have e5 : Ev (fun k => (value_Decode.f k L (t : Int)).bind fun v => (numS k L v.2.2.2.1 v.2.2.2.2).bind fun x => (numS k L x.2.1 x.2.2).bind fun y => (dF k L r.length y.2.1 y.2.2).bind fun z => some ((⟨v.1, v.2.1, v.2.2.1⟩ : S39) :: z.1, x.1 :: y.1 :: z.2.1, z.2.2)) (f :: r, rd R ((2 * i : Nat) : Int) :: rd R ((2 * i + 1 : Nat) : Int) :: R.drop (2 * (i + 1)), ((t + (enc f.f0 f.f1 f.f2).length + (venc (un (rd R ((2 * i : Nat) : Int)))).length + (venc (un (rd R ((2 * i + 1 : Nat) : Int)))).length + (eF R r (i + 1)).length : Nat) : Int), 0) := by
   refine e1.bind ?_
   refine e2.bind ?_
   refine e3.bind ?_
   exact e4.bind (Ev.all fun _ => rfl)
  have w2 : ((t + (enc f.f0 f.f1 f.f2).length + (venc (un (rd R ((2 * i : Nat) : Int)))).length + (venc (un (rd R ((2 * i + 1 : Nat) : Int)))).length + (eF R r (i + 1)).length : Nat) : Int) = ((t + (eF R (f :: r) i).length : Nat) : Int) := by
   rw [show eF R (f :: r) i = enc f.f0 f.f1 f.f2 ++ (venc (un (rd R ((2 * i : Nat) : Int))) ++ (venc (un (rd R ((2 * i + 1 : Nat) : Int))) ++ eF R r (i + 1))) from rfl]
   simp only [List.length_append]
   omega
  rw [w2, r1, r2] at e5
  exact Ev.congr (fun k => if_pos rfl) e5
theorem decode_at {t : Nat} {a0 a1 : Int} {M : List Int} {b : Bool} {C : List Int} {F : List S39} {R : List Int} (hM : M.length ≤ 32) (hC : C.length = 256) (hF : F.length ≤ 17) (hR : R.length = 2 * F.length) (hv : ∀ f ∈ F, VE f)
  (h0 : 0 ≤ a0 ∧ a0 ≤ 2147483647) (h1 : 0 ≤ a1 ∧ a1 ≤ 2147483647) (hm : ∀ h ∈ M, 0 ≤ h ∧ h < 18446744073709551616) (hc : ∀ h ∈ C, 0 ≤ h ∧ h ≤ 2147483647) (hr : ∀ h ∈ R, 0 ≤ h ∧ h ≤ 2147483647)
  (hok : Ev (fun k => sketch_Valid.f k a0 a1 M b C F R) true) (h : At L t (eAll a0 a1 M b C F R)) : Ev (fun k => sketch_Decode.f k L (t : Int)) (a0, a1, M, b, C, F, R, ((t + (eAll a0 a1 M b C F R).length : Nat) : Int), 0) := by
 have hle := h.1
 obtain ⟨g1, g⟩ := h.split
 obtain ⟨g2, g⟩ := g.split
 obtain ⟨g3, g⟩ := g.split
 obtain ⟨g4, g⟩ := g.split
 obtain ⟨l5, g5, g⟩ := g.cons
 obtain ⟨g6, g⟩ := g.split
 obtain ⟨g7, g8⟩ := g.split
 have e1 := small_at L hb hl g1 h0.1 h0.2
 have e2 := small_at L hb hl g2 h1.1 h1.2
 have e3 := lim_at L hb hl g3 hM (by decide)
 have e4 := dM_at L hb hl M 0 _ hm g4
 have e6 := dC_at L hb hl C _ hc g6
 have e7 := lim_at L hb hl g7 hF (by decide)
 have e8 := dF_at L hb hl R hr F 0 _ hv (by omega) g8
 rw [Nat.mul_zero, List.drop_zero] at e8
 have e5 : ∀ u : Nat, ∀ hu : u < L.length, L[u] = (if b then (1 : Int) else 0) → flagS L (u : Int) 0 = some (b, ((u + 1 : Nat) : Int), 0) := by
  intro u hu hx
  have hrd : rd L (u : Int) = L[u] := rd_nat L u hu
  unfold flagS
  rw [if_pos rfl, if_neg (by omega), if_pos (by omega), hrd, hx]
  cases b <;> simp
 have e5 := e5 _ l5 g5
 rw [hC] at e6
 have e9 : Ev (fun k => (numS k L (t : Int) 0).bind fun x1 => (numS k L x1.2.1 x1.2.2).bind fun x2 => (limS k 32 L x2.2.1 x2.2.2).bind fun x3 => (dM k L x3.1.toNat 0 x3.2.1 x3.2.2).bind fun y3 => (flagS L y3.2.1 y3.2.2).bind fun x4 => (dC k L 256 x4.2.1 x4.2.2).bind fun y4 =>
   (limS k 17 L y4.2.1 y4.2.2).bind fun x5 => (dF k L x5.1.toNat x5.2.1 x5.2.2).bind fun y5 => dEnd k x1.1 x2.1 y3.1 x4.1 y4.1 y5)
   (a0, a1, M, b, C, F, R, ((t + (venc (un a0)).length + (venc (un a1)).length + (venc M.length).length + (eM M 0).length + 1 + (eC C).length + (venc F.length).length + (eF R F 0).length : Nat) : Int), 0) := by
  refine e1.bind ?_
  refine e2.bind ?_
  refine e3.bind ?_
  simp only [Int.toNat_natCast]
  refine e4.bind ?_
  refine (Ev.const e5).bind ?_
  refine e6.bind ?_
  refine e7.bind ?_
  simp only [Int.toNat_natCast]
  refine e8.bind ?_
  exact Ev.congr (fun k => if_pos rfl) (hok.bind (Ev.const (if_pos rfl)))
 have hx : (t + (venc (un a0)).length + (venc (un a1)).length + (venc M.length).length + (eM M 0).length + 1 + (eC C).length + (venc F.length).length + (eF R F 0).length) = t + (eAll a0 a1 M b C F R).length := by
  unfold eAll
  simp only [List.length_append, List.length_cons]
  omega
 rw [hx] at e9
 exact Ev.congr (fun k => if_neg (by omega)) e9
end
theorem row_in : ∀ (l : List Int) (left : Int), 0 ≤ left → left ≤ 2147483647 → rowB l left = true → ∀ c ∈ l, 0 ≤ c ∧ c ≤ left
 | [], _, _, _, _, _, hc => absurd hc List.not_mem_nil
 | x :: r, left, h0, h1, h, c, hc => by
  unfold rowB at h
  by_cases hx : x < 0
  ·rw [if_pos hx] at h; cases h
  rw [if_neg hx] at h
  by_cases hy : left < x
  ·rw [if_pos hy] at h; cases h
  rw [if_neg hy] at h
  have hw : wrap64 (left - x) = left - x := wrap64_small (by omega) (by omega)
  rw [hw] at h
  rcases List.mem_cons.1 hc with rfl | hc
  ·omega
  ·have := row_in r (left - x) (by omega) (by omega) h c hc
   omega
theorem cnt_in {C : List Int} {n : Int} (h0 : 0 ≤ n) (h1 : n ≤ 2147483647) (h : cntB C n = true) : C.length = 256 ∧ ∀ c ∈ C, 0 ≤ c ∧ c ≤ 2147483647 := by
 unfold cntB at h
 rw [Bool.and_eq_true] at h
 have hC : C.length = 256 := by simpa using h.1
 refine ⟨hC, fun c hc => ?_⟩
 have h2 := h.2
 simp only [cntF, Bool.and_eq_true] at h2
 obtain ⟨r0, r1, r2, r3, _⟩ := h2
 obtain ⟨j, hj, rfl⟩ := List.mem_iff_getElem.1 hc
 have key : ∀ i, i < 4 → rowB ((C.take ((i + 1) * 64)).drop (i * 64)) n = true → i * 64 ≤ j → j < (i + 1) * 64 → 0 ≤ C[j] ∧ C[j] ≤ 2147483647 := by
  intro i hi hr h3 h4
  have hm : C[j] ∈ (C.take ((i + 1) * 64)).drop (i * 64) := by
   refine List.mem_iff_getElem.2 ⟨j - i * 64, by rw [List.length_drop, List.length_take]; omega, ?_⟩
   rw [List.getElem_drop, List.getElem_take]
   congr 1
   omega
  have := row_in _ n h0 h1 hr _ hm
  omega
 by_cases g0 : j < 64
 ·exact key 0 (by omega) r0 (by omega) (by omega)
 by_cases g1 : j < 128
 ·exact key 1 (by omega) r1 (by omega) (by omega)
 by_cases g2 : j < 192
 ·exact key 2 (by omega) r2 (by omega) (by omega)
 ·exact key 3 (by omega) r3 (by omega) (by omega)
/-- What a valid sketch of few rows gives. -/
theorem enc_of {a0 a1 : Int} {M : List Int} {c : Bool} {C : List Int} {F : List S39} {R : List Int} (ha : a0 ≤ 2147483647) (h : validB a0 a1 M c C F R = true) :
  (0 ≤ a1 ∧ a1 ≤ a0) ∧ M.length ≤ 32 ∧ C.length = 256 ∧ F.length ≤ 17 ∧ R.length = 2 * F.length ∧ (∀ f ∈ F, V f.f0 f.f1 f.f2) ∧ (∀ x ∈ C, 0 ≤ x ∧ x ≤ 2147483647) ∧ (∀ x ∈ R, 0 ≤ x ∧ x ≤ 2147483647) := by
 unfold validB badB at h
 simp only [Bool.and_eq_true, Bool.not_eq_true', Bool.or_eq_false_iff, decide_eq_false_iff_not] at h
 obtain ⟨⟨⟨⟨⟨⟨h1, h2⟩, h3⟩, h4⟩, h5⟩, h6⟩, h7, h8, h9⟩ := h
 have hn0 : wrap64 (a0 - a1) = a0 - a1 := wrap64_small (by omega) (by omega)
 rw [hn0] at h8 h9
 obtain ⟨hC, hc⟩ := cnt_in (by omega) (by omega) h8
 unfold fencesB at h9
 by_cases h17 : 17 < F.length
 ·rw [if_pos h17] at h9; exact absurd h9 (by decide)
 rw [if_neg h17] at h9
 by_cases hk : (F.length = 0) = (a0 - a1 = 0)
 rotate_left
 ·rw [if_neg hk] at h9; exact absurd h9 (by decide)
 rw [if_pos hk] at h9
 by_cases hr : R.length = 2 * F.length
 rotate_left
 ·rw [if_neg hr] at h9; exact absurd h9 (by decide)
 rw [if_pos hr] at h9
 simp only [Bool.and_eq_true, allN_iff] at h9
 obtain ⟨⟨⟨hf, hg⟩, _⟩, _⟩ := h9
 refine ⟨by omega, by omega, hC, by omega, hr, fun f hm => ?_, hc, fun x hm => ?_⟩
 ·obtain ⟨j, hj, rfl⟩ := List.mem_iff_getElem.1 hm
  have := hf j (Nat.zero_le _) (by omega)
  unfold fOk at this
  simp only [Bool.and_eq_true] at this
  have hrd : rd_T39 F (j : Int) = F[j] := by
   unfold rd_T39
   rw [Int.toNat_natCast, List.getD_eq_getElem?_getD, List.getElem?_eq_getElem hj]
   rfl
  have h_ := this.1.1.1
  rw [hrd] at h_
  exact V_of _ h_
 ·obtain ⟨j, hj, rfl⟩ := List.mem_iff_getElem.1 hm
  have := hg j (Nat.zero_le _) (by omega)
  have hrd : rd R (j : Int) = R[j] := rd_nat R j hj
  unfold rOk at this
  simp only [Bool.and_eq_true, Bool.not_eq_true', decide_eq_false_iff_not, hrd] at this
  omega
theorem bytes_wf {l : List Int} (h : ∀ y ∈ l, (Lit.int .u8 y).wf = true) : Bytes l := by
 intro c hc
 have := h c hc
 simp only [Lit.wf, IntKind.min, IntKind.max, IntKind.signed, IntKind.bits, Bool.and_eq_true, decide_eq_true_eq, Bool.false_eq_true, if_false] at this
 omega
theorem venc_bytes (n : Nat) : Bytes (venc n) := by
 induction n using Nat.strongRecOn with
 | _ n ih =>
  unfold venc
  by_cases h : n < 128
  ·rw [dif_pos h]
   intro c hc
   have := List.mem_singleton.1 hc
   omega
  ·rw [dif_neg h]
   intro c hc
   rcases List.mem_cons.1 hc with rfl | hc
   ·omega
   ·exact ih (n / 128) (by omega) c hc
theorem Bytes.append {x y : List Int} (hx : Bytes x) (hy : Bytes y) : Bytes (x ++ y) := fun c hc => (List.mem_append.1 hc).elim (hx c) (hy c)
theorem Bytes.cons {x : Int} {y : List Int} (hx : 0 ≤ x ∧ x ≤ 255) (hy : Bytes y) : Bytes (x :: y) := fun c hc => (List.mem_cons.1 hc).elim (fun e => e ▸ hx) (hy c)
theorem Bytes.nil : Bytes [] := fun _ hc => absurd hc List.not_mem_nil
theorem str_bytes (s : ByteArray) : Bytes (bytesOf s) := by
 intro c hc
 unfold bytesOf at hc
 obtain ⟨b, _, rfl⟩ := List.mem_map.1 hc
 have := b.toNat_lt
 omega
theorem eM_bytes : ∀ (M : List Int) (last : Int), Bytes (eM M last)
 | [], _ => Bytes.nil
 | h :: t, last => (venc_bytes _).append (eM_bytes t h)
theorem eC_bytes : ∀ (C : List Int), Bytes (eC C)
 | [] => Bytes.nil
 | h :: t => (venc_bytes _).append (eC_bytes t)
theorem enc_bytes {f : S39} (hv : V f.f0 f.f1 f.f2) : Bytes (enc f.f0 f.f1 f.f2) := by
 unfold V at hv
 unfold enc
 split
 ·exact Bytes.cons (by decide) (Bytes.cons (by omega) Bytes.nil)
 ·split
  ·exact Bytes.cons (by decide) (venc_bytes _)
  ·split
   ·exact Bytes.cons (by decide) ((venc_bytes _).append (str_bytes _))
   ·exact Bytes.cons (by decide) Bytes.nil
theorem eF_bytes (R : List Int) : ∀ (F : List S39) (i : Nat), (∀ f ∈ F, V f.f0 f.f1 f.f2) → Bytes (eF R F i)
 | [], _, _ => Bytes.nil
 | f :: t, i, hv => (enc_bytes (hv f List.mem_cons_self)).append ((venc_bytes _).append ((venc_bytes _).append (eF_bytes R t (i + 1) fun x hx => hv x (List.mem_cons_of_mem _ hx))))
theorem eAll_bytes (a0 a1 : Int) (M : List Int) (b : Bool) (C : List Int) (F : List S39) (R : List Int) (hv : ∀ f ∈ F, V f.f0 f.f1 f.f2) : Bytes (eAll a0 a1 M b C F R) :=
 (venc_bytes _).append ((venc_bytes _).append ((venc_bytes _).append ((eM_bytes _ _).append (Bytes.cons (by cases b <;> simp) ((eC_bytes _).append ((venc_bytes _).append (eF_bytes R F 0 hv)))))))
theorem i64_wf {x : Int} (h : (Lit.int .i64 x).wf = true) : -9223372036854775808 ≤ x ∧ x ≤ 9223372036854775807 := by
 simp only [Lit.wf, IntKind.min, IntKind.max, IntKind.signed, IntKind.bits, Bool.and_eq_true, decide_eq_true_eq, if_true] at h
 omega
theorem u64_wf {x : Int} (h : (Lit.int .u64 x).wf = true) : 0 ≤ x ∧ x < 18446744073709551616 := by
 simp only [Lit.wf, IntKind.min, IntKind.max, IntKind.signed, IntKind.bits, Bool.and_eq_true, decide_eq_true_eq, Bool.false_eq_true, if_false] at h
 omega
theorem sketchEncodes_upto_pure : ∀ (x0 : S26) (x1 x2 : List Int), G26 x0 → (x1.length * 1 ≤ 140737488351232 ∧ ∀ y ∈ x1, (Lit.int .u8 y).wf = true) → (x2.length * 1 ≤ 140737488351232 ∧ ∀ y ∈ x2, (Lit.int .u8 y).wf = true) → x1.length ≤ 1048576 → x2.length ≤ 1048576 → ∃ k, EncRow k x0.f0 x0.f1 x0.f2 x0.f3 x0.f4 x0.f5 x0.f6 x1 x2 true := by
 intro x0 x1 x2 g0 g1 g2 u1 u2
 obtain ⟨q0, q1, q2, _, q4, q5, q6⟩ := g0
 obtain ⟨k1, h1⟩ := awake_ev
 obtain ⟨k2, h2⟩ := ref_valid x0.f0 x0.f1 x0.f2 x0.f3 x0.f4 x0.f5 x0.f6 (by have := q2.1; omega)
 cases hv : validB x0.f0 x0.f1 x0.f2 x0.f3 x0.f4 x0.f5 x0.f6 with
 | false =>
  have hv2 : ∀ k, k2 ≤ k → laminaref16_Valid.f k x0.f0 x0.f1 x0.f2 x0.f3 x0.f4 x0.f5 x0.f6 = some false := fun k hk => by rw [← hv]; exact h2 k hk
  exact ⟨k1 + k2, rfl, by omega, h1 _ (by omega), Or.inl (hv2 _ (by omega))⟩
 | true =>
  have hv2 : ∀ k, k2 ≤ k → laminaref16_Valid.f k x0.f0 x0.f1 x0.f2 x0.f3 x0.f4 x0.f5 x0.f6 = some true := fun k hk => by rw [← hv]; exact h2 k hk
  by_cases ha : 2147483647 < x0.f0
  ·exact ⟨k1 + k2, rfl, by omega, h1 _ (by omega), Or.inr ⟨hv2 _ (by omega), Or.inl ha⟩⟩
  ·obtain ⟨⟨p0, p1⟩, hM, hC, hF, hR, hV, hc, hr⟩ := enc_of (by omega) hv
   have hVE : ∀ f ∈ x0.f5, VE f := fun f hf => ⟨hV f hf, i64_wf (q5.2 f hf).2.1⟩
   obtain ⟨k3, h3⟩ := lib_encode x0.f0 x0.f1 x0.f2 x0.f3 x0.f4 x0.f5 x0.f6 hM hC hF hR hVE
   obtain ⟨k4, h4⟩ := ref_encode x0.f0 x0.f1 x0.f2 x0.f3 x0.f4 x0.f5 x0.f6 hM hC hF hR hVE
   have hlen := eAll_len x0.f0 x0.f1 x0.f2 x0.f3 x0.f4 x0.f5 x0.f6 hM hC hF hVE
   have hok := lib_valid x0.f0 x0.f1 x0.f2 x0.f3 x0.f4 x0.f5 x0.f6 (by have := q2.1; omega)
   rw [hv] at hok
   have hB : Bytes (x1 ++ eAll x0.f0 x0.f1 x0.f2 x0.f3 x0.f4 x0.f5 x0.f6 ++ x2) := ((bytes_wf g1.2).append (eAll_bytes _ _ _ _ _ _ _ hV)).append (bytes_wf g2.2)
   obtain ⟨k5, h5⟩ := decode_at (x1 ++ eAll x0.f0 x0.f1 x0.f2 x0.f3 x0.f4 x0.f5 x0.f6 ++ x2) hB (by simp only [List.length_append]; omega) hM hC hF hR hVE ⟨by omega, by omega⟩ ⟨p0, by omega⟩ (fun h hh => u64_wf (q2.2 h hh)) hc hr hok (At.mk0 _ _ _)
   refine ⟨k1 + k2 + k3 + k4 + k5, rfl, by omega, h1 _ (by omega), Or.inr ⟨hv2 _ (by omega), Or.inr ⟨by omega, _, _, h3 _ (by omega), h4 _ (by omega), by omega, h5 _ (by omega), ?_⟩⟩⟩
   unfold wrap64
   omega
end Go.Proofs.Ytackcingpffidaa.P
