/- Plain facts on sort keys: bytes in lexicographic order stand in the order of the rows. Conditions: the hypotheses that stand. -/
import Derived.Test.YtiklldjfcdblbaaV4
import Derived.Laws.Bits64
namespace Go.Proofs.Ytiklldjfcdblbaa.P
open Go.RowKit Go.Proofs.YtiklldjfcdblbaaW.PrintWords Go.Proofs.YtiklldjfcdblbaaW.PrintLast Go.Proofs.YtiklldjfcdblbaaW.PrintMore
/-- The lexicographic order. -/
def ci : List Int → List Int → Int
  | [], [] => 0
  | [], _ :: _ => -1
  | _ :: _, [] => 1
  | a :: x, b :: y => if a < b then -1 else if b < a then 1 else ci x y
theorem ci_range : ∀ (x y : List Int), ci x y = -1 ∨ ci x y = 0 ∨ ci x y = 1
  | [], [] => by simp [ci]
  | [], _ :: _ => by simp [ci]
  | _ :: _, [] => by simp [ci]
  | a :: x, b :: y => by
    simp only [ci]
    split
    · exact .inl rfl
    · split
      · exact .inr (.inr rfl)
      · exact ci_range x y
theorem ci_swap : ∀ (x y : List Int), ci y x = -ci x y
  | [], [] => by simp [ci]
  | [], _ :: _ => by simp [ci]
  | _ :: _, [] => by simp [ci]
  | a :: x, b :: y => by
    have ih := ci_swap x y
    simp only [ci]
    by_cases h1 : a < b
    · rw [if_pos h1, if_neg (by omega), if_pos h1]
      rfl
    · by_cases h2 : b < a
      · rw [if_pos h2, if_neg h1, if_pos h2]
      · rw [if_neg h2, if_neg h1, if_neg h1, if_neg h2, ih]
theorem ci_trans : ∀ (x y z : List Int), ci x y ≤ 0 → ci y z ≤ 0 → ci x z ≤ 0
  | [], _, [], _, _ => by simp [ci]
  | [], _, _ :: _, _, _ => by simp [ci]
  | _ :: _, [], _, h, _ => by simp [ci] at h
  | _ :: _, _ :: _, [], _, h => by simp [ci] at h
  | a :: x, b :: y, c :: z, h1, h2 => by
    simp only [ci] at h1 h2 ⊢
    by_cases e1 : a < c
    · rw [if_pos e1]
      decide
    · rw [if_neg e1]
      by_cases e2 : c < a
      · exfalso
        by_cases f1 : a < b
        · rw [if_neg (by omega), if_pos (by omega)] at h2
          exact absurd h2 (by decide)
        · rw [if_neg f1] at h1
          by_cases f2 : b < a
          · rw [if_pos f2] at h1
            exact absurd h1 (by decide)
          · rw [if_neg (by omega), if_pos (by omega)] at h2
            exact absurd h2 (by decide)
      · rw [if_neg e2]
        by_cases f1 : a < b
        · rw [if_neg (by omega), if_pos (by omega)] at h2
          exact absurd h2 (by decide)
        · rw [if_neg f1] at h1
          by_cases f2 : b < a
          · rw [if_pos f2] at h1
            exact absurd h1 (by decide)
          · rw [if_neg f2] at h1
            rw [if_neg (by omega), if_neg (by omega)] at h2
            exact ci_trans x y z h1 h2
/-- One order, and behind it another. -/
def thn (c d : Int) : Int := if c = 0 then d else c
/-- The bytes of a number, greatest first. -/
def be : Nat → Nat → List Int
  | 0, _ => []
  | k + 1, n => ((n / 256 ^ k % 256 : Nat) : Int) :: be k n
theorem be_len : ∀ (k n : Nat), (be k n).length = k
  | 0, _ => rfl
  | k + 1, n => by simp [be, be_len k n]
theorem ci_be : ∀ (k n m : Nat) (s t : List Int), n / 256 ^ k = m / 256 ^ k → ci (be k n ++ s) (be k m ++ t) = if n < m then -1 else if m < n then 1 else ci s t
  | 0, n, m, s, t, h => by
    have : n = m := by simpa using h
    subst this
    simp [be]
  | k + 1, n, m, s, t, h => by
    have h1 : n / 256 ^ k / 256 = m / 256 ^ k / 256 := by rw [Nat.div_div_eq_div_mul, Nat.div_div_eq_div_mul, ← Nat.pow_succ]; exact h
    have hp : 0 < 256 ^ k := Nat.pow_pos (by decide)
    simp only [be, List.cons_append, ci]
    by_cases c1 : n / 256 ^ k < m / 256 ^ k
    · have : n < m := Nat.lt_of_not_le fun hle => by have := Nat.div_le_div_right (c := 256 ^ k) hle; omega
      rw [if_pos (by omega), if_pos this]
    · by_cases c2 : m / 256 ^ k < n / 256 ^ k
      · have : m < n := Nat.lt_of_not_le fun hle => by have := Nat.div_le_div_right (c := 256 ^ k) hle; omega
        rw [if_neg (by omega), if_pos (by omega), if_neg (by omega), if_pos this]
      · rw [if_neg (by omega), if_neg (by omega)]
        exact ci_be k n m s t (by omega)
/-- A text with its zeros marked. -/
def esc : List Int → List Int
  | [] => []
  | c :: l => if c = 0 then 0 :: 255 :: esc l else c :: esc l
theorem esc_len : ∀ (l : List Int), (esc l).length ≤ 2 * l.length
  | [] => by simp [esc]
  | c :: l => by
    have := esc_len l
    simp only [esc]
    split <;> simp <;> omega
theorem ci_esc : ∀ (x y s t : List Int), (∀ c ∈ x, 0 ≤ c) → (∀ c ∈ y, 0 ≤ c) → ci (esc x ++ 0 :: 0 :: s) (esc y ++ 0 :: 0 :: t) = thn (ci x y) (ci s t)
  | [], [], s, t, _, _ => by simp [esc, ci, thn]
  | [], b :: y, s, t, _, hy => by
    have hb := hy b List.mem_cons_self
    simp only [esc]
    by_cases h : b = 0
    · rw [if_pos h]
      simp [ci, thn]
    · rw [if_neg h]
      have : 0 < b := by omega
      simp [ci, this, thn]
  | a :: x, [], s, t, hx, _ => by
    have ha := hx a List.mem_cons_self
    simp only [esc]
    by_cases h : a = 0
    · rw [if_pos h]
      simp [ci, thn]
    · rw [if_neg h]
      have h1 : ¬ a < 0 := by omega
      have h2 : 0 < a := by omega
      simp [ci, h1, h2, thn]
  | a :: x, b :: y, s, t, hx, hy => by
    have ha := hx a List.mem_cons_self
    have hb := hy b List.mem_cons_self
    have ih := ci_esc x y s t (fun c hc => hx c (List.mem_cons_of_mem _ hc)) (fun c hc => hy c (List.mem_cons_of_mem _ hc))
    simp only [esc]
    rcases Int.lt_trichotomy a b with h | h | h
    · have e : ci (a :: x) (b :: y) = -1 := by simp only [ci]; rw [if_pos h]
      rw [e]
      by_cases h0 : a = 0
      · rw [if_pos h0, if_neg (by omega)]
        have h2 : 0 < b := by omega
        simp [ci, h2, thn]
      · rw [if_neg h0, if_neg (by omega)]
        simp [ci, h, thn]
    · subst h
      have e : ci (a :: x) (a :: y) = ci x y := by simp only [ci]; rw [if_neg (Int.lt_irrefl _), if_neg (Int.lt_irrefl _)]
      rw [e, ← ih]
      by_cases h0 : a = 0
      · rw [if_pos h0, if_pos h0]
        simp [ci]
      · rw [if_neg h0, if_neg h0]
        simp [ci]
    · have h3 : ¬ a < b := by omega
      have e : ci (a :: x) (b :: y) = 1 := by simp only [ci]; rw [if_neg h3, if_pos h]
      rw [e]
      by_cases h0 : b = 0
      · rw [if_neg (by omega), if_pos h0]
        have h2 : 0 < a := by omega
        have h4 : ¬ a < 0 := by omega
        simp [ci, h2, h4, thn]
      · rw [if_neg (by omega), if_neg h0]
        simp [ci, h, h3, thn]
theorem compareBytes_ci : ∀ (x y : List UInt8), Lib.compareBytes x y = ci (x.map fun b => (b.toNat : Int)) (y.map fun b => (b.toNat : Int))
  | [], [] => by simp [Lib.compareBytes, ci]
  | [], _ :: _ => by simp [Lib.compareBytes, ci]
  | _ :: _, [] => by simp [Lib.compareBytes, ci]
  | a :: x, b :: y => by
    have ih := compareBytes_ci x y
    simp only [Lib.compareBytes, List.map_cons, ci, ih]
    have e1 : (a < b) ↔ ((a.toNat : Int) < (b.toNat : Int)) := by rw [UInt8.lt_iff_toNat_lt]; omega
    have e2 : (b < a) ↔ ((b.toNat : Int) < (a.toNat : Int)) := by rw [UInt8.lt_iff_toNat_lt]; omega
    simp only [e1, e2]
/-- The bytes of a value. -/
def key (v : S23) : List Int := (v.f0 + 1) :: (if v.f0 = 1 then [v.f1] else if v.f0 = 2 then be 8 (v.f1 + 9223372036854775808).toNat else if v.f0 = 3 then esc (bytesOf v.f2) ++ [0, 0] else [])
def I64v (v : S23) : Prop := -9223372036854775808 ≤ v.f1 ∧ v.f1 ≤ 9223372036854775807
theorem ci_key (v w : S23) (iv : I64v v) (iw : I64v w) (s t : List Int) : ci (key v ++ s) (key w ++ t) = thn (vcs v w) (ci s t) := by
  unfold I64v at iv iw
  unfold key vcs vc
  simp only [List.cons_append, ci]
  rcases Int.lt_trichotomy v.f0 w.f0 with h | h | h
  · rw [if_pos (by omega), if_neg (by omega), if_pos h]
    simp [thn]
  · rw [if_neg (by omega), if_neg (by omega), if_pos h, h]
    by_cases k1 : w.f0 = 1
    · rw [if_pos k1, if_pos k1, if_neg (by omega), if_pos (.inl k1)]
      simp only [List.cons_append, List.nil_append, ci, sgn]
      by_cases c1 : v.f1 < w.f1
      · simp [c1, thn]
      · by_cases c2 : w.f1 < v.f1 <;> simp [c1, c2, thn]
    rw [if_neg k1, if_neg k1]
    by_cases k2 : w.f0 = 2
    · rw [if_pos k2, if_pos k2, if_neg (by omega), if_pos (.inr k2), ci_be 8 _ _ s t (by omega)]
      unfold sgn
      by_cases c1 : v.f1 < w.f1
      · rw [if_pos (by omega), if_pos c1]
        simp [thn]
      · by_cases c2 : w.f1 < v.f1
        · rw [if_neg (by omega), if_pos (by omega), if_neg c1, if_pos c2]
          simp [thn]
        · rw [if_neg (by omega), if_neg (by omega), if_neg c1, if_neg c2]
          simp [thn]
    rw [if_neg k2, if_neg k2]
    by_cases k3 : w.f0 = 3
    · rw [if_pos k3, if_pos k3, if_pos k3, compareBytes_ci]
      have hpos : ∀ (b : ByteArray), ∀ c ∈ bytesOf b, 0 ≤ c := by
        intro b c hc
        unfold bytesOf at hc
        obtain ⟨u, _, rfl⟩ := List.mem_map.1 hc
        omega
      rw [List.append_assoc, List.append_assoc]
      exact ci_esc (bytesOf v.f2) (bytesOf w.f2) s t (hpos _) (hpos _)
    · rw [if_neg k3, if_neg k3, if_neg k3, if_neg (by omega)]
      simp [thn]
  · rw [if_neg (by omega), if_pos (by omega), if_neg (by omega), if_neg (by omega)]
    simp [thn]
def keys (l : List S23) : List Int := l.flatMap key
theorem ci_keys : ∀ (a b : List S23), (∀ x ∈ a, I64v x) → (∀ x ∈ b, I64v x) → ci (keys a) (keys b) = rc a b
  | [], [], _, _ => by simp [keys, ci, rc]
  | [], _ :: _, _, _ => by simp [keys, ci, rc, key]
  | _ :: _, [], _, _ => by simp [keys, ci, rc, key]
  | v :: a, w :: b, iv, iw => by
    have ih := ci_keys a b (fun x h => iv x (List.mem_cons_of_mem _ h)) (fun x h => iw x (List.mem_cons_of_mem _ h))
    have h := ci_key v w (iv v List.mem_cons_self) (iw w List.mem_cons_self) (keys a) (keys b)
    unfold rc
    rw [← ih]
    unfold thn at h
    exact h
theorem key_len (v : S23) (hv : VS v) : (key v).length ≤ 8195 := by
  unfold VS V at hv
  unfold key
  rw [List.length_cons]
  by_cases k1 : v.f0 = 1
  · rw [if_pos k1]
    simp
  rw [if_neg k1]
  by_cases k2 : v.f0 = 2
  · rw [if_pos k2, be_len]
    decide
  rw [if_neg k2]
  by_cases k3 : v.f0 = 3
  · rw [if_pos k3, List.length_append]
    have h1 := esc_len (bytesOf v.f2)
    rw [bytesOf_length] at h1
    have h2 : v.f2.size ≤ 4096 := by omega
    simp only [List.length_cons, List.length_nil]
    omega
  · rw [if_neg k3]
    simp
theorem keys_len : ∀ (l : List S23), (∀ x ∈ l, VS x) → (keys l).length ≤ l.length * 8195
  | [], _ => by simp [keys]
  | v :: l, h => by
    have ih := keys_len l (fun x hx => h x (List.mem_cons_of_mem _ hx))
    have h1 := key_len v (h v List.mem_cons_self)
    show (key v ++ keys l).length ≤ _
    rw [List.length_append, List.length_cons]
    omega
end Go.Proofs.Ytiklldjfcdblbaa.P
