/- The plain law of ValueEncodes: Encode and SortKey give what the reference's give. Condition: valid rows of at most 1048576 values. -/
import Derived.Test.YtiklldjfcdblbaaPx42
import Derived.Test.YtiklldjfcdblbaaPx41
import Derived.Test.YtiklldjfcdblbaaPx40
import Derived.Test.YtiklldjfcdblbaaV8
import Derived.Test.YtiklldjfcdblbaaV9
import Derived.Test.YtiklldjfcdblbaaKinds
namespace Go.Proofs.Ytiklldjfcdblbaa.P
open Go.RowKit Go.Proofs.YtiklldjfcdblbaaW.PrintWords Go.Proofs.YtiklldjfcdblbaaW.PrintLast Go.Proofs.YtiklldjfcdblbaaW.PrintMore
/-- The bytes of a number, least first. -/
def le : Nat → Nat → List Int
  | 0, _ => []
  | m + 1, u => ((u % 256 : Nat) : Int) :: le m (u / 256)
theorem le_len : ∀ (m u : Nat), (le m u).length = m
  | 0, _ => rfl
  | m + 1, u => by simp [le, le_len m]
theorem le_get : ∀ (m u j : Nat), j < m → (le m u).getD j 0 = ((u / 256 ^ j % 256 : Nat) : Int)
  | 0, _, _, h => absurd h (Nat.not_lt_zero _)
  | m + 1, u, 0, _ => by simp [le]
  | m + 1, u, j + 1, h => by
    have ih := le_get m (u / 256) j (by omega)
    rw [Nat.div_div_eq_div_mul, Nat.mul_comm, ← Nat.pow_succ] at ih
    rw [← ih]
    rfl
theorem fixed_loop : ∀ (e i u : Nat) (acc : List Int), i + e = 8 → u < 18446744073709551616 → acc.length = i → Ev (fun k => laminaref01_Fixed.l0 k (u : Int) 8 acc (i : Int)) (acc ++ le e u) := by
  intro e
  induction e with
  | zero =>
    intro i u acc hi _ _
    refine Ev.fin fun k => ?_
    simp only [laminaref01_Fixed.l0]
    rw [if_neg (by omega)]
    simp [le]
  | succ e ih =>
    intro i u acc hi hu ha
    have h := ih (i + 1) (u / 256) (acc ++ [((u % 256 : Nat) : Int)]) (by omega) (by omega) (by rw [List.length_append, ha]; rfl)
    rw [List.append_assoc] at h
    refine Ev.step (fun k => ?_) h
    simp only [laminaref01_Fixed.l0]
    have e1 : Int.tdiv (u : Int) 256 = ((u / 256 : Nat) : Int) := rfl
    have e2 : Int.tmod (u : Int) 256 = ((u % 256 : Nat) : Int) := rfl
    rw [if_pos (by omega), if_pos (by omega), e1, e2, IntKind.wrap_u64, show ((u / 256 : Nat) : Int) % 18446744073709551616 = ((u / 256 : Nat) : Int) by omega, show ((u % 256 : Nat) : Int) % 256 = ((u % 256 : Nat) : Int) by omega, wrap_small (by omega)]
theorem fixed_ev (u : Nat) (hu : u < 18446744073709551616) : Ev (fun k => laminaref01_Fixed.f k (u : Int) 8) (le 8 u) := by
  have h := fixed_loop 8 0 u [] rfl hu rfl
  refine Ev.succ (Ev.congr (fun k => ?_) h)
  simp [laminaref01_Fixed.f, laminaref01_Fixed.j0]
section
variable (xs : List S23) (hn : xs.length ≤ 1048576) (hv : ∀ x ∈ xs, VS x) (hi : ∀ x ∈ xs, I64v x)
include hn
theorem rsk_num (i : Nat) (hlt : i < xs.length) (rest : List Int) (u : Nat) (B : Nat) (hB : B < 140737488355328) (ih : ∀ acc : List Int, acc.length ≤ B → Ev (fun k => laminaref04_SortKey.l0 k xs acc ((i + 1 : Nat) : Int)) (acc ++ rest)) :
    ∀ (e : Nat) (acc : List Int), e ≤ 8 → acc.length + e ≤ B → Ev (fun k => laminaref04_SortKey.l1 k xs acc (i : Int) (le 8 u) ((e : Int) - 1)) (acc ++ be e u ++ rest) := by
  intro e
  induction e with
  | zero =>
    intro acc _ hl
    have h := ih acc (by omega)
    rw [show acc ++ be 0 u ++ rest = acc ++ rest by simp [be]]
    refine Ev.step (fun k => ?_) h
    simp only [laminaref04_SortKey.l1]
    rw [if_neg (by omega), wrap_small (by omega)]
  | succ e ihe =>
    intro acc he hl
    have h := ihe (acc ++ [((u / 256 ^ e % 256 : Nat) : Int)]) (by omega) (by rw [List.length_append]; simp only [List.length_cons, List.length_nil]; omega)
    have e1 : acc ++ be (e + 1) u ++ rest = acc ++ [((u / 256 ^ e % 256 : Nat) : Int)] ++ be e u ++ rest := by simp only [be, List.append_assoc, List.cons_append, List.nil_append]
    rw [e1]
    refine Ev.step (fun k => ?_) h
    simp only [laminaref04_SortKey.l1]
    have e2 : rd (le 8 u) (((e + 1 : Nat) : Int) - 1) = ((u / 256 ^ e % 256 : Nat) : Int) := by
      rw [show ((e + 1 : Nat) : Int) - 1 = (e : Int) by omega]
      exact le_get 8 u e (by omega)
    rw [if_pos (by omega), if_pos (by omega), if_pos (by rw [le_len]; omega), if_pos (by omega), e2, show wrap64 (((e + 1 : Nat) : Int) - 1 - 1) = (e : Int) - 1 by unfold wrap64; omega]
theorem rsk_text (i : Nat) (hlt : i < xs.length) (rest : List Int) (v : S23) (hvs : v.f2.size ≤ 4096) (B : Nat) (hB : B < 140737488355328) (ih : ∀ acc : List Int, acc.length ≤ B → Ev (fun k => laminaref04_SortKey.l0 k xs acc ((i + 1 : Nat) : Int)) (acc ++ rest)) :
    ∀ (e j : Nat) (acc : List Int), j + e = v.f2.size → acc.length + 2 * e + 2 ≤ B →
      Ev (fun k => laminaref04_SortKey.l2 k xs acc (i : Int) (j : Int) v.f0 v.f1 v.f2) (acc ++ (esc ((bytesOf v.f2).drop j) ++ [0, 0]) ++ rest) := by
  intro e
  induction e with
  | zero =>
    intro j acc hj hl
    have h := ih (acc ++ [0] ++ [0]) (by simp only [List.length_append, List.length_cons, List.length_nil]; omega)
    rw [List.drop_of_length_le (by rw [bytesOf_length]; omega)]
    rw [show acc ++ (esc [] ++ [0, 0]) ++ rest = acc ++ [0] ++ [0] ++ rest by simp [esc]]
    refine Ev.step (fun k => ?_) h
    simp only [laminaref04_SortKey.l2]
    rw [if_neg (by omega), if_pos (by omega), Option.bind_some, if_pos (by simp only [List.length_append, List.length_cons, List.length_nil]; omega), wrap_small (by omega)]
  | succ e ihe =>
    intro j acc hj hl
    obtain ⟨hlen, hb⟩ := byte_at v.f2 j (by omega)
    rw [List.drop_eq_getElem_cons hlen]
    have hone : ∀ k, laminaref04_SortKey.l2 (k + 1) xs acc (i : Int) (j : Int) v.f0 v.f1 v.f2 = if (bytesOf v.f2)[j] = 0 then laminaref04_SortKey.l2 k xs (acc ++ [(bytesOf v.f2)[j]] ++ [255]) (i : Int) ((j + 1 : Nat) : Int) v.f0 v.f1 v.f2 else laminaref04_SortKey.l2 k xs (acc ++ [(bytesOf v.f2)[j]]) (i : Int) ((j + 1 : Nat) : Int) v.f0 v.f1 v.f2 := by
      intro k
      simp only [laminaref04_SortKey.l2]
      rw [if_pos (by omega), if_pos (by omega), if_pos (by omega), Option.bind_some, hb, wrap_small (by omega)]
      by_cases h0 : (bytesOf v.f2)[j] = 0
      · rw [if_pos h0, if_pos h0, if_pos (by rw [List.length_append]; simp only [List.length_cons, List.length_nil]; omega)]
      · rw [if_neg h0, if_neg h0]
    by_cases h0 : (bytesOf v.f2)[j] = 0
    · have h := ihe (j + 1) (acc ++ [(bytesOf v.f2)[j]] ++ [255]) (by omega) (by simp only [List.length_append, List.length_cons, List.length_nil]; omega)
      have e1 : acc ++ (esc ((bytesOf v.f2)[j] :: (bytesOf v.f2).drop (j + 1)) ++ [0, 0]) ++ rest = acc ++ [(bytesOf v.f2)[j]] ++ [255] ++ (esc ((bytesOf v.f2).drop (j + 1)) ++ [0, 0]) ++ rest := by
        simp only [esc]
        rw [if_pos h0, h0]
        simp
      rw [e1]
      exact Ev.step (fun k => by rw [hone, if_pos h0]) h
    · have h := ihe (j + 1) (acc ++ [(bytesOf v.f2)[j]]) (by omega) (by simp only [List.length_append, List.length_cons, List.length_nil]; omega)
      have e1 : acc ++ (esc ((bytesOf v.f2)[j] :: (bytesOf v.f2).drop (j + 1)) ++ [0, 0]) ++ rest = acc ++ [(bytesOf v.f2)[j]] ++ (esc ((bytesOf v.f2).drop (j + 1)) ++ [0, 0]) ++ rest := by
        simp only [esc]
        rw [if_neg h0]
        simp
      rw [e1]
      exact Ev.step (fun k => by rw [hone, if_neg h0]) h
include hv hi
theorem rsk_loop : ∀ (d i : Nat) (acc : List Int), i + d = xs.length → acc.length + 8195 * d < 140737488355328 → Ev (fun k => laminaref04_SortKey.l0 k xs acc (i : Int)) (acc ++ keys (xs.drop i)) := by
  intro d
  induction d with
  | zero =>
    intro i acc hd hl
    rw [List.drop_of_length_le (by omega)]
    refine Ev.fin fun k => ?_
    simp only [laminaref04_SortKey.l0]
    rw [if_neg (by omega)]
    simp [keys]
  | succ d ih =>
    intro i acc hd hl
    have hB' : acc.length + 8195 < 140737488355328 := Nat.lt_of_le_of_lt (Nat.add_le_add_left (Nat.le_mul_of_pos_right 8195 (Nat.succ_pos d)) acc.length) hl
    have hlt : i < xs.length := by omega
    have hx := hv _ (List.getElem_mem hlt)
    have hix := hi _ (List.getElem_mem hlt)
    have hnext : ∀ acc : List Int, acc.length + 8195 * d < 140737488355328 → Ev (fun k => laminaref04_SortKey.l0 k xs acc ((i + 1 : Nat) : Int)) (acc ++ keys (xs.drop (i + 1))) := fun acc h => ih (i + 1) acc (by omega) h
    rw [drop_at xs i hlt]
    show Ev _ (acc ++ (key xs[i] ++ keys (xs.drop (i + 1))))
    generalize keys (xs.drop (i + 1)) = rest at *
    rw [← List.append_assoc]
    have hcont : ∀ acc' : List Int, acc'.length ≤ acc.length + 8195 → Ev (fun k => laminaref04_SortKey.l0 k xs acc' ((i + 1 : Nat) : Int)) (acc' ++ rest) := fun acc' h => hnext acc' (by omega)
    have hfirst : ∀ k, laminaref04_SortKey.l0 (k + 1) xs acc (i : Int) = (if xs[i].f0 = 1 then laminaref04_SortKey.l0 k xs (acc ++ [xs[i].f0 + 1] ++ [xs[i].f1 % 256]) ((i + 1 : Nat) : Int) else if xs[i].f0 = 2 then (laminaref01_Fixed.f k (Go.bits .xor .u64 (IntKind.u64.wrap xs[i].f1) 9223372036854775808) 8).bind fun t => laminaref04_SortKey.l1 k xs (acc ++ [xs[i].f0 + 1]) (i : Int) t 7 else if xs[i].f0 = 3 then laminaref04_SortKey.l2 k xs (acc ++ [xs[i].f0 + 1]) (i : Int) 0 xs[i].f0 xs[i].f1 xs[i].f2 else laminaref04_SortKey.l0 k xs (acc ++ [xs[i].f0 + 1]) ((i + 1 : Nat) : Int)) := by
      intro k
      have hf : wrap64 (xs[i].f0 + 1) % 256 = xs[i].f0 + 1 := by unfold VS V at hx; unfold wrap64; omega
      simp only [laminaref04_SortKey.l0]
      rw [if_pos (by omega), if_pos (by omega), rd_at xs i hlt, if_pos (by omega), Option.bind_some, hf, wrap_small (by omega)]
      by_cases k1 : xs[i].f0 = 1
      · rw [if_pos k1, if_pos k1, if_pos (by rw [List.length_append]; simp only [List.length_cons, List.length_nil]; omega)]
      · rw [if_neg k1, if_neg k1]
    unfold VS V at hx
    unfold I64v at hix
    unfold key
    generalize hxi : xs[i] = v at *
    have e1 : (acc ++ [v.f0 + 1]).length = acc.length + 1 := by simp
    by_cases k1 : v.f0 = 1
    · have e2 : v.f1 % 256 = v.f1 := by omega
      rw [if_pos k1]
      have h := hcont (acc ++ [v.f0 + 1] ++ [v.f1]) (by rw [List.length_append, e1]; simp)
      rw [show acc ++ (v.f0 + 1) :: [v.f1] ++ rest = acc ++ [v.f0 + 1] ++ [v.f1] ++ rest by simp]
      exact Ev.step (fun k => by rw [hfirst, if_pos k1, e2]) h
    obtain ⟨B, hBe⟩ : ∃ B : Nat, B = acc.length + 8195 := ⟨_, rfl⟩
    rw [← hBe] at hcont hB'
    by_cases k2 : v.f0 = 2
    · rw [if_neg k1, if_pos k2]
      have hu : (v.f1 + 9223372036854775808).toNat < 18446744073709551616 := by omega
      have hflip := flip_top _ hix.1 hix.2
      generalize (v.f1 + 9223372036854775808).toNat = u at *
      have h := (fixed_ev u hu).bind (f := fun k t => laminaref04_SortKey.l1 k xs (acc ++ [v.f0 + 1]) (i : Int) t 7) (rsk_num xs hn i hlt rest u B hB' hcont 8 (acc ++ [v.f0 + 1]) (Nat.le_refl _) (by omega))
      rw [show acc ++ (v.f0 + 1) :: be 8 u ++ rest = acc ++ [v.f0 + 1] ++ be 8 u ++ rest by simp only [List.append_assoc, List.cons_append, List.nil_append]]
      exact Ev.step (fun k => by rw [hfirst, if_neg k1, if_pos k2, hflip]) h
    by_cases k3 : v.f0 = 3
    · rw [if_neg k1, if_neg k2, if_pos k3]
      have hsz : v.f2.size ≤ 4096 := by omega
      have h := rsk_text xs hn i hlt rest v hsz B hB' hcont v.f2.size 0 (acc ++ [v.f0 + 1]) (by omega) (by omega)
      rw [List.drop_zero] at h
      rw [show acc ++ (v.f0 + 1) :: (esc (bytesOf v.f2) ++ [0, 0]) ++ rest = acc ++ [v.f0 + 1] ++ (esc (bytesOf v.f2) ++ [0, 0]) ++ rest by simp only [List.append_assoc, List.cons_append, List.nil_append]]
      exact Ev.step (fun k => by rw [hfirst, if_neg k1, if_neg k2, if_pos k3]; rfl) h
    · rw [if_neg k1, if_neg k2, if_neg k3]
      have h := hcont (acc ++ [v.f0 + 1]) (by omega)
      exact Ev.step (fun k => by rw [hfirst, if_neg k1, if_neg k2, if_neg k3]) h
theorem rsk_ev : Ev (fun k => laminaref04_SortKey.f k xs) (keys xs) := by
  have h := rsk_loop xs hn hv hi xs.length 0 [] (by omega) (by simp; omega)
  exact h
theorem encodes_loop : ∀ (d i : Nat), i + d = xs.length → Ev (fun k => laminalaw04_ValueEncodes.l0 k xs (i : Int)) true := by
  intro d
  induction d with
  | zero =>
    intro i hd
    refine Ev.succ (Ev.congr (fun k => by simp only [laminalaw04_ValueEncodes.l0]; rw [if_neg (by omega)]) ((sk_ev xs hn hv hi).bind ((rsk_ev xs hn hv hi).bind ?_)))
    simp only [if_true]
    exact awake_bind
  | succ d ih =>
    intro i hd
    have hlt : i < xs.length := by omega
    have hx := hv _ (List.getElem_mem hlt)
    have hix := hi _ (List.getElem_mem hlt)
    refine Ev.succ (Ev.congr (fun k => by simp only [laminalaw04_ValueEncodes.l0]; rw [if_pos (by omega), if_pos (by omega), rd_at xs i hlt]) ((encode_ev _ _ _ hx hix).bind ((ref_encode_ev _ _ _ hx hix).bind ?_)))
    rw [wrap_small (by omega)]
    simp only [if_true]
    exact ih (i + 1) (by omega)
end
theorem i64_of_good9 {l : List S23} (h : ∀ y ∈ l, G23 y) : ∀ x ∈ l, I64v x := by
  intro x hx
  have := (h x hx).2.1
  simp only [Lit.wf, IntKind.min, IntKind.max, IntKind.signed, IntKind.bits, Bool.and_eq_true, decide_eq_true_eq, if_true] at this
  unfold I64v
  omega
theorem valueEncodes_upto_pure : ∀ (x0 : List (S23)), (x0.length * 32 ≤ 140737488351232 ∧ ∀ y ∈ x0, G23 y) → x0.length ≤ 1048576 → ∃ k, laminalaw04_ValueEncodes.f k x0 = some true := by
  intro xs hx nx
  refine Ev.rounds ?_
  obtain ⟨t, ht, hv⟩ := valid_rows xs (by omega)
  unfold laminalaw04_ValueEncodes.f
  refine ht.bind ?_
  cases t with
  | false =>
    simp only [Bool.false_eq_true, if_false]
    exact awake_bind
  | true =>
    simp only [if_true]
    exact encodes_loop xs nx (hv.1 rfl) (i64_of_good9 hx.2) xs.length 0 (by omega)
end Go.Proofs.Ytiklldjfcdblbaa.P
