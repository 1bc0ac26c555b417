/- The plain law of ValueHashes: the program's Hash and the reference's give one number, for any seed and valid values. -/
import Derived.Test.YtiklldjfcdblbaaPx48
import Derived.Test.YtiklldjfcdblbaaPx44
import Derived.Test.YtiklldjfcdblbaaPx46
import Derived.Test.YtiklldjfcdblbaaPx45
import Derived.Test.YtiklldjfcdblbaaPx47
import Derived.Test.YtiklldjfcdblbaaV3
import Derived.Test.YtiklldjfcdblbaaV1
import Derived.Test.YtiklldjfcdblbaaKinds
import Derived.Laws.Bits64
namespace Go.Proofs.Ytiklldjfcdblbaa.P
open Go.RowKit Go.Proofs.YtiklldjfcdblbaaW.PrintWords Go.Proofs.YtiklldjfcdblbaaW.PrintLast Go.Proofs.YtiklldjfcdblbaaW.PrintMore
/-- Eight digits, least first. -/
def vw (g : Nat → Nat) : Nat → Nat
  | 0 => 0
  | i + 1 => vw g i + g i * 256 ^ i
/-- Eight digits, from the greatest on. -/
def tw (g : Nat → Nat) : Nat → Nat
  | 0 => 0
  | c + 1 => tw g c * 256 + g (7 - c)
theorem vw_lt (g : Nat → Nat) (hg : ∀ i, g i ≤ 255) : ∀ i, vw g i < 256 ^ i
  | 0 => by simp [vw]
  | i + 1 => by
    have ih := vw_lt g hg i
    have h := Nat.mul_le_mul_right (256 ^ i) (hg i)
    simp only [vw]
    rw [Nat.pow_succ]
    omega
theorem tw_lt (g : Nat → Nat) (hg : ∀ i, g i ≤ 255) : ∀ c, tw g c < 256 ^ c
  | 0 => by simp [tw]
  | c + 1 => by
    have ih := tw_lt g hg c
    have h := hg (7 - c)
    simp only [tw]
    rw [Nat.pow_succ]
    omega
theorem vw_tw (g : Nat → Nat) : vw g 8 = tw g 8 := by
  simp only [vw, tw, Nat.reduceSub]
  omega
theorem or_add2 (a b k : Nat) (ha : a < 2 ^ k) (h : a + b * 2 ^ k < 18446744073709551616) : Go.bits .or .u64 (a : Int) ((b * 2 ^ k : Nat) : Int) = ((a + b * 2 ^ k : Nat) : Int) := by
  rw [bits_or_u64_nat a (b * 2 ^ k) (by omega) (by omega)]
  congr 1
  rw [Nat.or_comm, Nat.mul_comm b, ← Nat.two_pow_add_eq_or_of_lt ha b]
  omega
/-- The digits of the group at n. -/
def dg (l : List Int) (n i : Nat) : Nat := (l.getD (n + i) 0).toNat
theorem dg_le {l : List Int} (hl : Bytes l) (n i : Nat) : dg l n i ≤ 255 := by
  unfold dg
  rw [List.getD_eq_getElem?_getD]
  by_cases h : n + i < l.length
  · rw [List.getElem?_eq_getElem h]
    have := hl _ (List.getElem_mem h)
    simp only [Option.getD_some]
    omega
  · rw [List.getElem?_eq_none (by omega)]
    decide
theorem dg_rd {l : List Int} (hl : Bytes l) (n i : Nat) : l.getD (n + i) 0 = (dg l n i : Int) := by
  unfold dg
  rw [List.getD_eq_getElem?_getD]
  by_cases h : n + i < l.length
  · rw [List.getElem?_eq_getElem h]
    have := hl _ (List.getElem_mem h)
    simp only [Option.getD_some]
    omega
  · rw [List.getElem?_eq_none (by omega)]
    rfl
theorem pad_dg {l : List Int} (hl : Bytes l) (n m i : Nat) (hm : m = min (n + 8) l.length) (hi : i < 8) : rd (checksum_Hash.pad ((l.take m).drop n)) (i : Int) = (dg l n i : Int) := by
  rw [← dg_rd hl n i]
  unfold rd checksum_Hash.pad
  rw [Int.toNat_natCast, List.getD_eq_getElem?_getD, List.getD_eq_getElem?_getD]
  by_cases h : i < ((l.take m).drop n).length
  · rw [List.getElem?_append_left h, List.getElem?_drop, List.getElem?_take]
    rw [List.length_drop, List.length_take] at h
    rw [if_pos (by omega)]
  · rw [List.getElem?_append_right (by omega)]
    rw [List.length_drop, List.length_take] at h
    rw [List.getElem?_eq_none (l := l) (by omega)]
    rw [List.getElem?_replicate]
    split <;> rfl
theorem word_vw (g : List Int) (d : Nat → Nat) (hd : ∀ i, d i ≤ 255) (h : ∀ i : Nat, i < 8 → rd g (i : Int) = (d i : Int)) : ∀ i, i ≤ 8 → checksum_Hash.word g i = (vw d i : Int)
  | 0, _ => rfl
  | i + 1, hi => by
    have ih := word_vw g d hd h i (by omega)
    simp only [checksum_Hash.word]
    rw [ih, h i (by omega), IntKind.wrap_u64, IntKind.wrap_u64]
    have hv := vw_lt d hd i
    have hv1 := vw_lt d hd (i + 1)
    have hp : 256 ^ (i + 1) ≤ 256 ^ 8 := Nat.pow_le_pow_right (by decide) hi
    have h8 : (256 : Nat) ^ 8 = 18446744073709551616 := by decide
    have hdi := hd i
    have e256 : ∀ j : Nat, (2 : Nat) ^ (8 * j) = 256 ^ j := fun j => by rw [Nat.pow_mul]
    simp only [vw] at hv1 ⊢
    have e : ((d i : Int) % 18446744073709551616 * 2 ^ (8 * i)) % 18446744073709551616 = ((d i * 2 ^ (8 * i) : Nat) : Int) := by
      have e1 : (d i : Int) % 18446744073709551616 = (d i : Int) := by omega
      rw [e1]
      have e2 : (d i : Int) * 2 ^ (8 * i) = ((d i * 2 ^ (8 * i) : Nat) : Int) := by
        rw [Int.natCast_mul, Int.natCast_pow]
        rfl
      rw [e2]
      have e3 : d i * 2 ^ (8 * i) < 18446744073709551616 := by rw [e256]; omega
      generalize d i * 2 ^ (8 * i) = z at *
      omega
    rw [e, or_add2 (vw d i) (d i) (8 * i) (by rw [e256]; exact hv) (by rw [e256]; omega), e256]
theorem ref_word_loop (l : List Int) (hl : Bytes l) (hn : l.length < 9223372036854775000) (n : Nat) (hnl : n ≤ l.length) : ∀ d c, c + d = 8 → Ev (fun k => laminaref02_word.l0 k l (n : Int) (tw (dg l n) c : Int) (7 - (c : Int))) (tw (dg l n) 8 : Int) := by
  intro d
  induction d with
  | zero =>
    intro c hc
    obtain rfl : c = 8 := by omega
    refine Ev.fin fun k => ?_
    simp only [laminaref02_word.l0]
    rw [if_neg (by decide)]
  | succ d ih =>
    intro c hc
    have h := ih (c + 1) (by omega)
    have hlt := tw_lt (dg l n) (dg_le hl n) c
    have hlt1 := tw_lt (dg l n) (dg_le hl n) (c + 1)
    have hp : 256 ^ (c + 1) ≤ 256 ^ 8 := Nat.pow_le_pow_right (by decide) (by omega)
    have h8 : (256 : Nat) ^ 8 = 18446744073709551616 := by decide
    have hd := dg_le hl n (7 - c)
    have hrd := dg_rd hl n (7 - c)
    rw [h8] at hp
    have hX : tw (dg l n) c * 256 + dg l n (7 - c) < 18446744073709551616 := Nat.lt_of_lt_of_le hlt1 hp
    clear hp h8 hlt1 hlt
    refine Ev.step (fun k => ?_) h
    simp only [laminaref02_word.l0, tw]
    have hw : wrap64 ((n : Int) + (7 - (c : Int))) = ((n + (7 - c) : Nat) : Int) := by unfold wrap64; omega
    have hm : IntKind.u64.wrap ((tw (dg l n) c : Int) * 256) = ((tw (dg l n) c * 256 : Nat) : Int) := by rw [IntKind.wrap_u64]; omega
    rw [if_pos (by omega), hw, hm, show wrap64 (7 - (c : Int) - 1) = 7 - ((c + 1 : Nat) : Int) by unfold wrap64; omega]
    by_cases hin : n + (7 - c) < l.length
    · rw [if_pos (by omega), if_pos (by omega)]
      have hr : rd l ((n + (7 - c) : Nat) : Int) = (dg l n (7 - c) : Int) := by
        unfold rd
        rw [Int.toNat_natCast]
        exact hrd
      have b1 : dg l n (7 - c) < 2 ^ 8 := Nat.lt_of_le_of_lt hd (by decide)
      have b2 : dg l n (7 - c) + tw (dg l n) c * 2 ^ 8 < 18446744073709551616 := by rw [Nat.add_comm]; exact hX
      have b3 : tw (dg l n) c * 256 < 18446744073709551616 := Nat.lt_of_le_of_lt (Nat.le_add_right _ _) hX
      have b4 : dg l n (7 - c) < 18446744073709551616 := Nat.lt_of_le_of_lt hd (by decide)
      have ho := or_add2 (dg l n (7 - c)) (tw (dg l n) c) 8 b1 b2
      rw [hr, IntKind.wrap_u64, show (dg l n (7 - c) : Int) % 18446744073709551616 = (dg l n (7 - c) : Int) by omega]
      have hcomm : Go.bits .or .u64 ((tw (dg l n) c * 256 : Nat) : Int) (dg l n (7 - c) : Int) = ((tw (dg l n) c * 256 + dg l n (7 - c) : Nat) : Int) := by
        have e0 : Go.bits .or .u64 ((tw (dg l n) c * 256 : Nat) : Int) (dg l n (7 - c) : Int) = Go.bits .or .u64 (dg l n (7 - c) : Int) ((tw (dg l n) c * 256 : Nat) : Int) := by
          rw [bits_or_u64_nat _ _ b3 b4, Nat.or_comm, ← bits_or_u64_nat _ _ b4 b3]
        rw [e0]
        refine Eq.trans ho ?_
        congr 1
        omega
      rw [hcomm]
    · rw [if_neg (by omega)]
      have hz : dg l n (7 - c) = 0 := by
        unfold dg
        rw [List.getD_eq_getElem?_getD, List.getElem?_eq_none (by omega)]
        rfl
      simp only [hz, Nat.add_zero]
theorem hash_loops (l : List Int) (hl : Bytes l) (hn : l.length < 9223372036854775000) : ∀ (d n : Nat) (h : Int), n ≤ l.length + 8 → l.length ≤ n + 8 * d → ∃ r, Ev (fun k => checksum_Hash.l0 k l h (n : Int)) r ∧ Ev (fun k => laminaref02_Hash.l0 k l h (n : Int)) r := by
  intro d
  induction d with
  | zero =>
    intro n h hb hd
    refine ⟨h, Ev.fin fun k => ?_, Ev.fin fun k => ?_⟩
    · simp only [checksum_Hash.l0]
      rw [if_neg (by omega)]
    · simp only [laminaref02_Hash.l0]
      rw [if_neg (by omega)]
  | succ d ih =>
    intro n h hb hd
    by_cases hlt : n < l.length
    · have hm : ((if (l.length : Int) < wrap64 ((n : Int) + 8) then (l.length : Int) else wrap64 ((n : Int) + 8)).toNat) = min (n + 8) l.length := by
        rw [show wrap64 ((n : Int) + 8) = ((n + 8 : Nat) : Int) by unfold wrap64; omega]
        split <;> omega
      have hword := word_vw (checksum_Hash.pad ((l.take (min (n + 8) l.length)).drop n)) (dg l n) (dg_le hl n) (fun i hi => pad_dg hl n _ i rfl hi) 8 (Nat.le_refl _)
      have href := ref_word_loop l hl hn n (by omega) 8 0 rfl
      obtain ⟨m, hmix⟩ : ∃ m, checksum_Mix.f (Go.bits .xor .u64 h (tw (dg l n) 8 : Int)) = some m := ⟨_, rfl⟩
      have hmix2 : laminaref02_Mix.f (Go.bits .xor .u64 h (tw (dg l n) 8 : Int)) = some m := hmix
      obtain ⟨r, h1, h2⟩ := ih (n + 8) m (by omega) (by omega)
      refine ⟨r, Ev.step (fun k => ?_) h1, ?_⟩
      · simp only [checksum_Hash.l0]
        rw [if_pos (by omega), if_pos (by omega), hm, Int.toNat_natCast, hword, vw_tw, hmix, Option.bind_some, show wrap64 ((n : Int) + 8) = ((n + 8 : Nat) : Int) by unfold wrap64; omega]
      · have main : Ev (fun k => (laminaref02_word.f k l (n : Int)).bind fun t => (laminaref02_Mix.f (Go.bits .xor .u64 h t)).bind fun u => laminaref02_Hash.l0 k l u ((n + 8 : Nat) : Int)) r := by
          refine Ev.bind (a := (tw (dg l n) 8 : Int)) href ?_
          rw [hmix2]
          exact h2
        refine Ev.step (fun k => ?_) main
        simp only [laminaref02_Hash.l0]
        rw [if_pos (by omega), show wrap64 ((n : Int) + 8) = ((n + 8 : Nat) : Int) by unfold wrap64; omega]
    · refine ⟨h, Ev.fin fun k => ?_, Ev.fin fun k => ?_⟩
      · simp only [checksum_Hash.l0]
        rw [if_neg (by omega)]
      · simp only [laminaref02_Hash.l0]
        rw [if_neg (by omega)]
theorem hashes (l : List Int) (hl : Bytes l) (hn : l.length ≤ 140737488351232) (s : Int) : ∃ r, Ev (fun k => checksum_Hash.f k s l) r ∧ Ev (fun k => laminaref02_Hash.f k s l) r := by
  obtain ⟨m, hmix⟩ : ∃ m, checksum_Mix.f (Go.bits .xor .u64 s (l.length : Int)) = some m := ⟨_, rfl⟩
  have hmix2 : laminaref02_Mix.f (Go.bits .xor .u64 s (l.length : Int)) = some m := hmix
  obtain ⟨r, h1, h2⟩ := hash_loops l hl (by omega) l.length 0 m (by omega) (by omega)
  refine ⟨r, Ev.congr (fun k => ?_) h1, Ev.congr (fun k => ?_) h2⟩
  · unfold checksum_Hash.f
    rw [if_pos hn, hmix]
    rfl
  · unfold laminaref02_Hash.f
    rw [IntKind.wrap_u64, show (l.length : Int) % 18446744073709551616 = (l.length : Int) by omega, hmix2]
    rfl
theorem bytes_of_str (s : ByteArray) : Bytes (bytesOf s) := by
  intro c hc
  unfold bytesOf at hc
  obtain ⟨u, _, rfl⟩ := List.mem_map.1 hc
  have := u.toNat_lt
  omega
theorem vhash_loops (xs : List S23) (hn : xs.length < 9223372036854775000) (hv : ∀ x ∈ xs, VS x) : ∀ (d i : Nat) (h : Int), i + d = xs.length → ∃ r, Ev (fun k => value_Hash.l0 k h xs (xs.length : Int) (i : Int)) r ∧ Ev (fun k => laminaref04_Hash.l0 k xs h (i : Int)) r := by
  intro d
  induction d with
  | zero =>
    intro i h hd
    refine ⟨h, Ev.fin fun k => ?_, Ev.fin fun k => ?_⟩
    · simp only [value_Hash.l0]
      rw [if_neg (by omega)]
    · simp only [laminaref04_Hash.l0]
      rw [if_neg (by omega)]
  | succ d ih =>
    intro i h hd
    have hlt : i < xs.length := by omega
    have hx := hv _ (List.getElem_mem hlt)
    unfold VS V at hx
    have hA : ∀ k, value_Hash.l0 (k + 1) h xs (xs.length : Int) (i : Int) = (if xs[i].f0 = 0 then ((checksum_Mix.f (Go.bits .xor .u64 h 1)).bind fun t => value_Hash.l0 k t xs (xs.length : Int) ((i + 1 : Nat) : Int)) else if xs[i].f0 = 1 then ((checksum_Mix.f (Go.bits .xor .u64 h 2)).bind fun t => (checksum_Mix.f (Go.bits .xor .u64 t (IntKind.u64.wrap xs[i].f1))).bind fun t => value_Hash.l0 k t xs (xs.length : Int) ((i + 1 : Nat) : Int)) else if xs[i].f0 = 2 then ((checksum_Mix.f (Go.bits .xor .u64 h 3)).bind fun t => (checksum_Mix.f (Go.bits .xor .u64 t (IntKind.u64.wrap xs[i].f1))).bind fun t => value_Hash.l0 k t xs (xs.length : Int) ((i + 1 : Nat) : Int)) else if xs[i].f0 = 3 then ((checksum_Mix.f (Go.bits .xor .u64 h 4)).bind fun t => if xs[i].f2.size ≤ 9223372036854775807 then (checksum_Hash.f k t (bytesOf xs[i].f2)).bind fun t => value_Hash.l0 k t xs (xs.length : Int) ((i + 1 : Nat) : Int) else none) else value_Hash.l0 k h xs (xs.length : Int) ((i + 1 : Nat) : Int)) := by
      intro k
      simp only [value_Hash.l0]
      rw [if_pos (by omega), if_pos (by omega), if_pos (by omega), rd_at xs i hlt, wrap_small (by omega)]
    have hB : ∀ k, laminaref04_Hash.l0 (k + 1) xs h (i : Int) = (if xs[i].f0 = 0 then ((checksum_Mix.f (Go.bits .xor .u64 h 1)).bind fun t => laminaref04_Hash.l0 k xs t ((i + 1 : Nat) : Int)) else if xs[i].f0 = 1 then ((checksum_Mix.f (Go.bits .xor .u64 h 2)).bind fun t => (checksum_Mix.f (Go.bits .xor .u64 t (IntKind.u64.wrap xs[i].f1))).bind fun t => laminaref04_Hash.l0 k xs t ((i + 1 : Nat) : Int)) else if xs[i].f0 = 2 then ((checksum_Mix.f (Go.bits .xor .u64 h 3)).bind fun t => (checksum_Mix.f (Go.bits .xor .u64 t (IntKind.u64.wrap xs[i].f1))).bind fun t => laminaref04_Hash.l0 k xs t ((i + 1 : Nat) : Int)) else if xs[i].f0 = 3 then ((checksum_Mix.f (Go.bits .xor .u64 h 4)).bind fun t => if xs[i].f2.size ≤ 9223372036854775807 then (laminaref02_Hash.f k t (bytesOf xs[i].f2)).bind fun t => laminaref04_Hash.l0 k xs t ((i + 1 : Nat) : Int) else none) else laminaref04_Hash.l0 k xs h ((i + 1 : Nat) : Int)) := by
      intro k
      have hmm : ∀ z, laminaref02_Mix.f z = checksum_Mix.f z := fun _ => rfl
      simp only [laminaref04_Hash.l0, hmm]
      rw [if_pos (by omega), if_pos (by omega), rd_at xs i hlt, wrap_small (by omega)]
    generalize xs[i] = v at *
    have mx : ∀ z, ∃ m, checksum_Mix.f z = some m := fun _ => ⟨_, rfl⟩
    by_cases k0 : v.f0 = 0
    · obtain ⟨m, hm⟩ := mx (Go.bits .xor .u64 h 1)
      obtain ⟨r, h1, h2⟩ := ih (i + 1) m (by omega)
      exact ⟨r, Ev.step (fun k => by rw [hA, if_pos k0, hm]; rfl) h1, Ev.step (fun k => by rw [hB, if_pos k0, hm]; rfl) h2⟩
    by_cases k1 : v.f0 = 1
    · obtain ⟨m, hm⟩ := mx (Go.bits .xor .u64 h 2)
      obtain ⟨m2, hm2⟩ := mx (Go.bits .xor .u64 m (IntKind.u64.wrap v.f1))
      obtain ⟨r, h1, h2⟩ := ih (i + 1) m2 (by omega)
      exact ⟨r, Ev.step (fun k => by rw [hA, if_neg k0, if_pos k1, hm, Option.bind_some, hm2]; rfl) h1, Ev.step (fun k => by rw [hB, if_neg k0, if_pos k1, hm, Option.bind_some, hm2]; rfl) h2⟩
    by_cases k2 : v.f0 = 2
    · obtain ⟨m, hm⟩ := mx (Go.bits .xor .u64 h 3)
      obtain ⟨m2, hm2⟩ := mx (Go.bits .xor .u64 m (IntKind.u64.wrap v.f1))
      obtain ⟨r, h1, h2⟩ := ih (i + 1) m2 (by omega)
      exact ⟨r, Ev.step (fun k => by rw [hA, if_neg k0, if_neg k1, if_pos k2, hm, Option.bind_some, hm2]; rfl) h1, Ev.step (fun k => by rw [hB, if_neg k0, if_neg k1, if_pos k2, hm, Option.bind_some, hm2]; rfl) h2⟩
    by_cases k3 : v.f0 = 3
    · obtain ⟨m, hm⟩ := mx (Go.bits .xor .u64 h 4)
      have hsz : v.f2.size ≤ 4096 := by omega
      obtain ⟨m2, hm2, hm3⟩ := hashes (bytesOf v.f2) (bytes_of_str _) (by rw [bytesOf_length]; omega) m
      obtain ⟨r, h1, h2⟩ := ih (i + 1) m2 (by omega)
      refine ⟨r, Ev.step (fun k => ?_) (hm2.bind (f := fun k t => value_Hash.l0 k t xs (xs.length : Int) ((i + 1 : Nat) : Int)) h1), Ev.step (fun k => ?_) (hm3.bind (f := fun k t => laminaref04_Hash.l0 k xs t ((i + 1 : Nat) : Int)) h2)⟩
      · rw [hA, if_neg k0, if_neg k1, if_neg k2, if_pos k3, hm, Option.bind_some, if_pos (by omega)]
      · rw [hB, if_neg k0, if_neg k1, if_neg k2, if_pos k3, hm, Option.bind_some, if_pos (by omega)]
    · obtain ⟨r, h1, h2⟩ := ih (i + 1) h (by omega)
      exact ⟨r, Ev.step (fun k => by rw [hA, if_neg k0, if_neg k1, if_neg k2, if_neg k3]) h1, Ev.step (fun k => by rw [hB, if_neg k0, if_neg k1, if_neg k2, if_neg k3]) h2⟩
theorem valueHashes_pure : ∀ (x0 : Int) (x1 : List (S23)), (Lit.int .u64 x0).wf = true → (x1.length * 32 ≤ 140737488351232 ∧ ∀ y ∈ x1, G23 y) → ∃ k, laminalaw04_ValueHashes.f k x0 x1 = some true := by
  intro s xs _ hx
  refine Ev.rounds ?_
  have hn : xs.length < 9223372036854775000 := by have := hx.1; omega
  obtain ⟨t, ht, hv⟩ := valid_rows xs (by omega)
  unfold laminalaw04_ValueHashes.f
  refine ht.bind ?_
  cases t with
  | false =>
    simp only [Bool.false_eq_true, if_false]
    exact awake_bind
  | true =>
    simp only [if_true]
    obtain ⟨m, hm⟩ : ∃ m, checksum_Mix.f s = some m := ⟨_, rfl⟩
    have hm2 : laminaref02_Mix.f s = some m := hm
    obtain ⟨r, h1, h2⟩ := vhash_loops xs hn (hv.1 rfl) xs.length 0 m (by omega)
    have e1 : Ev (fun k => value_Hash.f k s xs) r := Ev.congr (fun k => by unfold value_Hash.f; rw [hm]; rfl) h1
    have e2 : Ev (fun k => laminaref04_Hash.f k s xs) r := Ev.congr (fun k => by unfold laminaref04_Hash.f; rw [hm2]; rfl) h2
    refine e1.bind (e2.bind ?_)
    simp only [if_true]
    exact awake_bind
end Go.Proofs.Ytiklldjfcdblbaa.P
