/- The sort key of a row: the value side's loop writes the keys of V7. Condition: at most 1048576 values a row. -/
import Derived.Test.YtiklldjfcdblbaaPx39
import Derived.Test.YtiklldjfcdblbaaV3
import Derived.Test.YtiklldjfcdblbaaV7
namespace Go.Proofs.Ytiklldjfcdblbaa.P
open Go.RowKit Go.Proofs.YtiklldjfcdblbaaW.PrintWords Go.Proofs.YtiklldjfcdblbaaW.PrintLast Go.Proofs.YtiklldjfcdblbaaW.PrintMore
theorem flip_top (x : Int) (h0 : -9223372036854775808 ≤ x) (h1 : x ≤ 9223372036854775807) : Go.bits .xor .u64 (IntKind.u64.wrap x) 9223372036854775808 = (((x + 9223372036854775808).toNat : Nat) : Int) := by
  rw [IntKind.wrap_u64]
  have e : x % 18446744073709551616 = (((x % 18446744073709551616).toNat : Nat) : Int) := by omega
  rw [e]
  have h := bits_xor_u64_nat (x % 18446744073709551616).toNat 9223372036854775808 (by omega) (by decide)
  have e2 : ((9223372036854775808 : Nat) : Int) = 9223372036854775808 := rfl
  rw [e2] at h
  rw [h]
  congr 1
  generalize hm : (x % 18446744073709551616).toNat = m
  have key1 : ∀ r : Nat, r < 2 ^ 63 → r ^^^ 2 ^ 63 = 2 ^ 63 + r := by
    intro r hr
    have a1 : 2 ^ 63 * 1 + r = 2 ^ 63 * 1 ||| r := Nat.two_pow_add_eq_or_of_lt hr 1
    rw [Nat.mul_one] at a1
    rw [a1]
    apply Nat.eq_of_testBit_eq
    intro i
    rw [Nat.testBit_xor, Nat.testBit_or, Nat.testBit_two_pow]
    by_cases hi : 63 = i
    · subst hi
      rw [Nat.testBit_lt_two_pow hr]
      simp
    · simp [hi]
  rw [show (9223372036854775808 : Nat) = 2 ^ 63 from rfl]
  by_cases hlt : m < 2 ^ 63
  · rw [key1 m hlt]
    omega
  · have h2 := key1 (m - 2 ^ 63) (by omega)
    have h3 : m = 2 ^ 63 + (m - 2 ^ 63) := by omega
    rw [h3, ← h2, Nat.xor_assoc, Nat.xor_self, Nat.xor_zero]
    omega
theorem shr_be (u j : Nat) (hj : j < 8) : shr .u64 (u : Int) (wrap64 (56 - (wrap64 (8 * (j : Int))))) % 256 = ((u / 256 ^ (7 - j) % 256 : Nat) : Int) := by
  have e : wrap64 (56 - (wrap64 (8 * (j : Int)))) = ((56 - 8 * j : Nat) : Int) := by unfold wrap64; omega
  rw [e]
  unfold shr
  rw [Int.toNat_natCast, Nat.min_eq_left (by show 56 - 8 * j ≤ 64; omega), show 56 - 8 * j = 8 * (7 - j) by omega, Int.pow_mul, show (2 : Int) ^ 8 = 256 from rfl]
  generalize 7 - j = d
  rw [Int.natCast_emod, Int.natCast_ediv, Int.natCast_pow]
  exact rfl
theorem byte_at (s : ByteArray) (i : Nat) (h : i < s.size) : ∃ hi : i < (bytesOf s).length, bt s (i : Int) = (bytesOf s)[i] := by
  refine ⟨by rw [bytesOf_length]; exact h, ?_⟩
  rw [← rd_bytesOf]
  unfold rd
  rw [Int.toNat_natCast, List.getD_eq_getElem?_getD, List.getElem?_eq_getElem (by rw [bytesOf_length]; exact h)]
  rfl
section
variable (xs : List S23) (hn : xs.length ≤ 1048576) (hv : ∀ x ∈ xs, VS x) (hi : ∀ x ∈ xs, I64v x)
include hn
/-- The loop over a number's bytes. -/
theorem sk_num (i : Nat) (hlt : i < xs.length) (rest : List Int) (u : Nat) (B : Nat) (hB : B < 140737488355328) (ih : ∀ acc : List Int, acc.length ≤ B → Ev (fun k => value_SortKey.l0 k acc xs (xs.length : Int) ((i + 1 : Nat) : Int)) (acc ++ rest)) :
    ∀ (e j : Nat) (acc : List Int), j + e = 8 → acc.length + e ≤ B → Ev (fun k => value_SortKey.l1 k acc (u : Int) xs (xs.length : Int) (i : Int) (j : Int)) (acc ++ be e u ++ rest) := by
  intro e
  induction e with
  | zero =>
    intro j acc hj hl
    have h := ih acc (by omega)
    rw [show acc ++ be 0 u ++ rest = acc ++ rest by simp [be]]
    refine Ev.step (fun k => ?_) h
    simp only [value_SortKey.l1]
    rw [if_neg (by omega), wrap_small (by omega)]
  | succ e ihe =>
    intro j acc hj hl
    have h := ihe (j + 1) (acc ++ [((u / 256 ^ (7 - j) % 256 : Nat) : Int)]) (by omega) (by rw [List.length_append]; simp only [List.length_cons, List.length_nil]; omega)
    have e1 : acc ++ be (e + 1) u ++ rest = acc ++ [((u / 256 ^ (7 - j) % 256 : Nat) : Int)] ++ be e u ++ rest := by
      simp only [be, List.append_assoc, List.cons_append, List.nil_append]
      rw [show 7 - j = e by omega]
    rw [e1]
    refine Ev.step (fun k => ?_) h
    simp only [value_SortKey.l1]
    rw [if_pos (by omega), if_pos (by unfold wrap64; omega), if_pos (by omega), shr_be u j (by omega), wrap_small (by omega)]
/-- The loop over a text's bytes. -/
theorem sk_text (i : Nat) (hlt : i < xs.length) (rest : List Int) (v : S23) (hvs : v.f2.size ≤ 4096) (B : Nat) (hB : B < 140737488355328) (ih : ∀ acc : List Int, acc.length ≤ B → Ev (fun k => value_SortKey.l0 k acc xs (xs.length : Int) ((i + 1 : Nat) : Int)) (acc ++ rest)) :
    ∀ (e j : Nat) (acc : List Int), j + e = v.f2.size → acc.length + 2 * e + 2 ≤ B →
      Ev (fun k => value_SortKey.l2 k acc xs (xs.length : Int) (i : Int) (v.f2.size : Int) (j : Int) v.f0 v.f1 v.f2) (acc ++ (esc ((bytesOf v.f2).drop j) ++ [0, 0]) ++ rest) := by
  intro e
  induction e with
  | zero =>
    intro j acc hj hl
    have h := ih (acc ++ [0, 0]) (by rw [List.length_append]; simp only [List.length_cons, List.length_nil]; omega)
    rw [List.drop_of_length_le (by rw [bytesOf_length]; omega)]
    simp only [esc, List.nil_append]
    refine Ev.step (fun k => ?_) h
    simp only [value_SortKey.l2]
    rw [if_neg (by omega), Option.bind_some, if_pos (by simp only [List.length_cons, List.length_nil]; omega), wrap_small (by omega)]
  | succ e ihe =>
    intro j acc hj hl
    obtain ⟨hlen, hb⟩ := byte_at v.f2 j (by omega)
    rw [List.drop_eq_getElem_cons hlen]
    have hone : ∀ k, value_SortKey.l2 (k + 1) acc xs (xs.length : Int) (i : Int) (v.f2.size : Int) (j : Int) v.f0 v.f1 v.f2 = if (bytesOf v.f2)[j] = 0 then value_SortKey.l2 k (acc ++ [(bytesOf v.f2)[j]] ++ [255]) xs (xs.length : Int) (i : Int) (v.f2.size : Int) ((j + 1 : Nat) : Int) v.f0 v.f1 v.f2 else value_SortKey.l2 k (acc ++ [(bytesOf v.f2)[j]]) xs (xs.length : Int) (i : Int) (v.f2.size : Int) ((j + 1 : Nat) : Int) v.f0 v.f1 v.f2 := by
      intro k
      simp only [value_SortKey.l2]
      rw [if_pos (by omega), if_pos (by omega), if_pos (by omega), if_pos (by omega), Option.bind_some, hb, wrap_small (by omega)]
      by_cases h0 : (bytesOf v.f2)[j] = 0
      · rw [if_pos h0, if_pos h0, if_pos (by rw [List.length_append]; simp only [List.length_cons, List.length_nil]; omega)]
      · rw [if_neg h0, if_neg h0]
    by_cases h0 : (bytesOf v.f2)[j] = 0
    · have h := ihe (j + 1) (acc ++ [(bytesOf v.f2)[j]] ++ [255]) (by omega) (by simp only [List.length_append, List.length_cons, List.length_nil]; omega)
      have e1 : acc ++ (esc ((bytesOf v.f2)[j] :: (bytesOf v.f2).drop (j + 1)) ++ [0, 0]) ++ rest = acc ++ [(bytesOf v.f2)[j]] ++ [255] ++ (esc ((bytesOf v.f2).drop (j + 1)) ++ [0, 0]) ++ rest := by
        simp only [esc]
        rw [if_pos h0, h0]
        simp
      rw [e1]
      exact Ev.step (fun k => by rw [hone, if_pos h0]) h
    · have h := ihe (j + 1) (acc ++ [(bytesOf v.f2)[j]]) (by omega) (by simp only [List.length_append, List.length_cons, List.length_nil]; omega)
      have e1 : acc ++ (esc ((bytesOf v.f2)[j] :: (bytesOf v.f2).drop (j + 1)) ++ [0, 0]) ++ rest = acc ++ [(bytesOf v.f2)[j]] ++ (esc ((bytesOf v.f2).drop (j + 1)) ++ [0, 0]) ++ rest := by
        simp only [esc]
        rw [if_neg h0]
        simp
      rw [e1]
      exact Ev.step (fun k => by rw [hone, if_neg h0]) h
include hv hi
theorem sk_loop : ∀ (d i : Nat) (acc : List Int), i + d = xs.length → acc.length + 8195 * d < 140737488355328 → Ev (fun k => value_SortKey.l0 k acc xs (xs.length : Int) (i : Int)) (acc ++ keys (xs.drop i)) := by
  intro d
  induction d with
  | zero =>
    intro i acc hd hl
    rw [List.drop_of_length_le (by omega)]
    refine Ev.fin fun k => ?_
    simp only [value_SortKey.l0]
    rw [if_neg (by omega)]
    simp [keys]
  | succ d ih =>
    intro i acc hd hl
    have hB' : acc.length + 8195 < 140737488355328 := Nat.lt_of_le_of_lt (Nat.add_le_add_left (Nat.le_mul_of_pos_right 8195 (Nat.succ_pos d)) acc.length) hl
    have hlt : i < xs.length := by omega
    have hx := hv _ (List.getElem_mem hlt)
    have hix := hi _ (List.getElem_mem hlt)
    have hnext : ∀ acc : List Int, acc.length + 8195 * d < 140737488355328 → Ev (fun k => value_SortKey.l0 k acc xs (xs.length : Int) ((i + 1 : Nat) : Int)) (acc ++ keys (xs.drop (i + 1))) := fun acc h => ih (i + 1) acc (by omega) h
    rw [drop_at xs i hlt]
    show Ev _ (acc ++ (key xs[i] ++ keys (xs.drop (i + 1))))
    generalize keys (xs.drop (i + 1)) = rest at *
    rw [← List.append_assoc]
    have hcont : ∀ acc' : List Int, acc'.length ≤ acc.length + 8195 → Ev (fun k => value_SortKey.l0 k acc' xs (xs.length : Int) ((i + 1 : Nat) : Int)) (acc' ++ rest) := fun acc' h => hnext acc' (by omega)
    have hfirst : ∀ k, value_SortKey.l0 (k + 1) acc xs (xs.length : Int) (i : Int) = (if xs[i].f0 = 1 then value_SortKey.l0 k (acc ++ [xs[i].f0 + 1] ++ [xs[i].f1 % 256]) xs (xs.length : Int) ((i + 1 : Nat) : Int) else if xs[i].f0 = 2 then value_SortKey.l1 k (acc ++ [xs[i].f0 + 1]) (Go.bits .xor .u64 (IntKind.u64.wrap xs[i].f1) 9223372036854775808) xs (xs.length : Int) (i : Int) 0 else if xs[i].f0 = 3 then value_SortKey.l2 k (acc ++ [xs[i].f0 + 1]) xs (xs.length : Int) (i : Int) (xs[i].f2.size : Int) 0 xs[i].f0 xs[i].f1 xs[i].f2 else value_SortKey.l0 k (acc ++ [xs[i].f0 + 1]) xs (xs.length : Int) ((i + 1 : Nat) : Int)) := by
      intro k
      have hf : wrap64 (xs[i].f0 + 1) % 256 = xs[i].f0 + 1 := by unfold VS V at hx; unfold wrap64; omega
      simp only [value_SortKey.l0]
      rw [if_pos (by omega), if_pos (by omega), if_pos (by omega), rd_at xs i hlt, if_pos (by omega), Option.bind_some, hf, wrap_small (by omega)]
      by_cases k1 : xs[i].f0 = 1
      · rw [if_pos k1, if_pos k1, if_pos (by rw [List.length_append]; simp only [List.length_cons, List.length_nil]; omega)]
      · rw [if_neg k1, if_neg k1]
    unfold VS V at hx
    unfold I64v at hix
    unfold key
    generalize hxi : xs[i] = v at *
    have e1 : (acc ++ [v.f0 + 1]).length = acc.length + 1 := by simp
    by_cases k1 : v.f0 = 1
    · have e2 : v.f1 % 256 = v.f1 := by omega
      rw [if_pos k1]
      have h := hcont (acc ++ [v.f0 + 1] ++ [v.f1]) (by rw [List.length_append, e1]; simp)
      rw [show acc ++ (v.f0 + 1) :: [v.f1] ++ rest = acc ++ [v.f0 + 1] ++ [v.f1] ++ rest by simp]
      exact Ev.step (fun k => by rw [hfirst, if_pos k1, e2]) h
    obtain ⟨B, hBe⟩ : ∃ B : Nat, B = acc.length + 8195 := ⟨_, rfl⟩
    rw [← hBe] at hcont hB'
    by_cases k2 : v.f0 = 2
    · rw [if_neg k1, if_pos k2]
      have h := sk_num xs hn i hlt rest (v.f1 + 9223372036854775808).toNat B hB' hcont 8 0 (acc ++ [v.f0 + 1]) rfl (by omega)
      generalize hu : (v.f1 + 9223372036854775808).toNat = u at *
      rw [show acc ++ (v.f0 + 1) :: be 8 u ++ rest = acc ++ [v.f0 + 1] ++ be 8 u ++ rest by simp only [List.append_assoc, List.cons_append, List.nil_append]]
      exact Ev.step (fun k => by rw [hfirst, if_neg k1, if_pos k2, flip_top _ hix.1 hix.2, hu]; rfl) h
    by_cases k3 : v.f0 = 3
    · rw [if_neg k1, if_neg k2, if_pos k3]
      have hsz : v.f2.size ≤ 4096 := by omega
      have h := sk_text xs hn i hlt rest v hsz B hB' hcont v.f2.size 0 (acc ++ [v.f0 + 1]) (by omega) (by omega)
      rw [List.drop_zero] at h
      rw [show acc ++ (v.f0 + 1) :: (esc (bytesOf v.f2) ++ [0, 0]) ++ rest = acc ++ [v.f0 + 1] ++ (esc (bytesOf v.f2) ++ [0, 0]) ++ rest by simp only [List.append_assoc, List.cons_append, List.nil_append]]
      exact Ev.step (fun k => by rw [hfirst, if_neg k1, if_neg k2, if_pos k3]; rfl) h
    · rw [if_neg k1, if_neg k2, if_neg k3]
      have h := hcont (acc ++ [v.f0 + 1]) (by omega)
      exact Ev.step (fun k => by rw [hfirst, if_neg k1, if_neg k2, if_neg k3]) h
theorem sk_ev : Ev (fun k => value_SortKey.f k xs) (keys xs) := by
  have h := sk_loop xs hn hv hi xs.length 0 [] (by omega) (by simp; omega)
  exact h
end
theorem byte_back (c : Int) (h0 : 0 ≤ c) (h1 : c ≤ 255) : ((UInt8.ofNat c.toNat).toNat : Int) = c := by
  rw [UInt8.toNat_ofNat']
  omega
theorem bytes_back (l : List Int) (h : Bytes l) : bytesOf (strOfNums l) = l := by
  unfold bytesOf
  rw [strOfNums_data, List.map_map]
  conv => rhs; rw [← List.map_id l]
  apply List.map_congr_left
  intro c hc
  exact byte_back c (h c hc).1 (h c hc).2
theorem be_bytes : ∀ (k n : Nat), Bytes (be k n)
  | 0, _ => fun c hc => by simp [be] at hc
  | k + 1, n => fun c hc => by
    simp only [be, List.mem_cons] at hc
    rcases hc with rfl | hc
    · omega
    · exact be_bytes k n c hc
theorem esc_bytes : ∀ (l : List Int), Bytes l → Bytes (esc l)
  | [], _ => fun c hc => by simp [esc] at hc
  | a :: l, h => fun c hc => by
    have ih := esc_bytes l (fun c hc => h c (List.mem_cons_of_mem _ hc))
    have ha := h a List.mem_cons_self
    simp only [esc] at hc
    by_cases h0 : a = 0
    · rw [if_pos h0] at hc
      simp only [List.mem_cons] at hc
      rcases hc with rfl | rfl | hc
      · omega
      · omega
      · exact ih c hc
    · rw [if_neg h0] at hc
      simp only [List.mem_cons] at hc
      rcases hc with rfl | hc
      · exact ha
      · exact ih c hc
theorem bytesOf_bytes (s : ByteArray) : Bytes (bytesOf s) := by
  intro c hc
  unfold bytesOf at hc
  obtain ⟨u, _, rfl⟩ := List.mem_map.1 hc
  have := u.toNat_lt
  omega
theorem key_bytes (v : S23) (hv : VS v) : Bytes (key v) := by
  intro c hc
  unfold VS V at hv
  unfold key at hc
  simp only [List.mem_cons] at hc
  rcases hc with rfl | hc
  · omega
  by_cases k1 : v.f0 = 1
  · rw [if_pos k1] at hc
    simp only [List.mem_cons, List.not_mem_nil, or_false] at hc
    omega
  rw [if_neg k1] at hc
  by_cases k2 : v.f0 = 2
  · rw [if_pos k2] at hc
    exact be_bytes _ _ c hc
  rw [if_neg k2] at hc
  by_cases k3 : v.f0 = 3
  · rw [if_pos k3, List.mem_append] at hc
    rcases hc with hc | hc
    · exact esc_bytes _ (bytesOf_bytes _) c hc
    · simp only [List.mem_cons, List.not_mem_nil, or_false] at hc
      omega
  · rw [if_neg k3] at hc
    simp at hc
theorem keys_bytes (l : List S23) (h : ∀ x ∈ l, VS x) : Bytes (keys l) := by
  intro c hc
  unfold keys at hc
  obtain ⟨v, hv, hc⟩ := List.mem_flatMap.1 hc
  exact key_bytes v (h v hv) c hc
end Go.Proofs.Ytiklldjfcdblbaa.P
