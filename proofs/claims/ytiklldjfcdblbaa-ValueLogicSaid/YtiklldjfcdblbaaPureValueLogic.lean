/- The plain law of ValueLogic: the program's And, Or and Not give what the reference's give, and obey De Morgan's laws, for valid values. -/
import Derived.Test.YtiklldjfcdblbaaV1
import Derived.Test.YtiklldjfcdblbaaPx36
namespace Go.Proofs.Ytiklldjfcdblbaa.P
open Go.RowKit Go.Proofs.YtiklldjfcdblbaaW.PrintWords Go.Proofs.YtiklldjfcdblbaaW.PrintLast
/-- The verdict on a list: the first decisive Bool, none if one is unknown, else the other Bool. -/
def verdict (d : Int) (u : Bool) : List S23 → Int × Int × ByteArray
  | [] => if u = true then (0, 0, (⟨#[]⟩ : ByteArray)) else (1, (if d = 0 then 1 else 0), (⟨#[]⟩ : ByteArray))
  | x :: l => if x.f0 = 1 then (if x.f1 = d then (1, d, (⟨#[]⟩ : ByteArray)) else verdict d u l) else verdict d true l
theorem combine_loop (d : Int) (xs : List S23) (hn : xs.length < 9223372036854775807) (hv : ∀ x ∈ xs, VS x) : ∀ (n i : Nat) (u : Bool), i + n = xs.length →
    Ev (fun k => value_combine.l0 k d u xs (xs.length : Int) (i : Int)) (verdict d u (xs.drop i)) := by
  intro n
  induction n with
  | zero =>
    intro i u hi
    rw [List.drop_of_length_le (by omega)]
    refine Ev.fin fun k => ?_
    simp only [value_combine.l0, verdict]
    rw [if_neg (by omega)]
    cases u
    · by_cases h : d = 0
      · subst h
        rfl
      · have hb : (d == 0) = false := beq_eq_false_iff_ne.mpr h
        simp [value_boolean.f, h, hb]
    · rfl
  | succ n ih =>
    intro i u hi
    have hlt : i < xs.length := by omega
    rw [drop_at xs i hlt]
    have hx := hv _ (List.getElem_mem hlt)
    unfold VS V at hx
    simp only [verdict]
    by_cases h1 : xs[i].f0 = 1
    · rw [if_pos h1]
      by_cases h2 : xs[i].f1 = d
      · rw [if_pos h2]
        refine Ev.fin fun k => ?_
        simp only [value_combine.l0]
        rw [if_pos (by omega), if_pos (by omega), if_pos (by omega), rd_at xs i hlt, if_pos h1, if_pos h2, h1, h2]
        have e : xs[i].f2 = ⟨#[]⟩ := by
          rcases hx with h | h | h | h
          · exact absurd (h1.symm.trans h.1) (by decide)
          · exact h.2.2
          · exact absurd (h1.symm.trans h.1) (by decide)
          · exact absurd (h1.symm.trans h.1) (by decide)
        rw [e]
      · rw [if_neg h2]
        refine Ev.step (fun k => ?_) (ih (i + 1) u (by omega))
        simp only [value_combine.l0]
        rw [if_pos (by omega), if_pos (by omega), if_pos (by omega), rd_at xs i hlt, if_pos h1, if_neg h2, wrap_small (by omega)]
    · rw [if_neg h1]
      refine Ev.step (fun k => ?_) (ih (i + 1) true (by omega))
      simp only [value_combine.l0]
      rw [if_pos (by omega), if_pos (by omega), if_pos (by omega), rd_at xs i hlt, if_neg h1, wrap_small (by omega)]
theorem and_ev (xs : List S23) (hn : xs.length < 9223372036854775807) (hv : ∀ x ∈ xs, VS x) : Ev (fun k => value_And.f k xs) (verdict 0 false xs) := by
  have h := combine_loop 0 xs hn hv xs.length 0 false (by omega)
  rw [List.drop_zero] at h
  show Ev (fun k => (value_combine.l0 k 0 false xs (xs.length : Int) 0).bind fun bt => some (bt.1, bt.2.1, bt.2.2)) _
  exact h.bind (f := fun _ bt => some (bt.1, bt.2.1, bt.2.2)) (Ev.now _)
theorem or_ev (xs : List S23) (hn : xs.length < 9223372036854775807) (hv : ∀ x ∈ xs, VS x) : Ev (fun k => value_Or.f k xs) (verdict 1 false xs) := by
  have h := combine_loop 1 xs hn hv xs.length 0 false (by omega)
  rw [List.drop_zero] at h
  show Ev (fun k => (value_combine.l0 k 1 false xs (xs.length : Int) 0).bind fun bt => some (bt.1, bt.2.1, bt.2.2)) _
  exact h.bind (f := fun _ bt => some (bt.1, bt.2.1, bt.2.2)) (Ev.now _)
theorem ref_and_loop (xs : List S23) (hn : xs.length < 9223372036854775807) (hv : ∀ x ∈ xs, VS x) : ∀ (n i : Nat) (u : Bool), i + n = xs.length →
    Ev (fun k => laminaref04_And.l0 k xs u (i : Int)) (verdict 0 u (xs.drop i)) := by
  intro n
  induction n with
  | zero =>
    intro i u hi
    rw [List.drop_of_length_le (by omega)]
    refine Ev.fin fun k => ?_
    simp only [laminaref04_And.l0, verdict]
    rw [if_neg (by omega)]
    cases u <;> rfl
  | succ n ih =>
    intro i u hi
    have hlt : i < xs.length := by omega
    rw [drop_at xs i hlt]
    have hx := hv _ (List.getElem_mem hlt)
    unfold VS V at hx
    simp only [verdict]
    by_cases h1 : xs[i].f0 = 1
    · rw [if_pos h1]
      have h01 : xs[i].f1 = 0 ∨ xs[i].f1 = 1 := by omega
      rcases h01 with h2 | h2
      · rw [if_pos h2]
        refine Ev.fin fun k => ?_
        simp only [laminaref04_And.l0]
        rw [if_pos (by omega), if_pos (by omega), rd_at xs i hlt]
        simp [laminaref04_IsFalse.f, laminaref04_Boolean.f, h1, h2]
      · rw [if_neg (by omega)]
        refine Ev.step (fun k => ?_) (ih (i + 1) u (by omega))
        simp only [laminaref04_And.l0]
        rw [if_pos (by omega), if_pos (by omega), rd_at xs i hlt, wrap_small (by omega)]
        simp [laminaref04_IsFalse.f, laminaref04_IsTrue.f, h1, h2]
    · rw [if_neg h1]
      refine Ev.step (fun k => ?_) (ih (i + 1) true (by omega))
      simp only [laminaref04_And.l0]
      rw [if_pos (by omega), if_pos (by omega), rd_at xs i hlt, wrap_small (by omega)]
      simp [laminaref04_IsFalse.f, laminaref04_IsTrue.f, h1]
theorem ref_or_loop (xs : List S23) (hn : xs.length < 9223372036854775807) (hv : ∀ x ∈ xs, VS x) : ∀ (n i : Nat) (u : Bool), i + n = xs.length →
    Ev (fun k => laminaref04_Or.l0 k xs u (i : Int)) (verdict 1 u (xs.drop i)) := by
  intro n
  induction n with
  | zero =>
    intro i u hi
    rw [List.drop_of_length_le (by omega)]
    refine Ev.fin fun k => ?_
    simp only [laminaref04_Or.l0, verdict]
    rw [if_neg (by omega)]
    cases u <;> rfl
  | succ n ih =>
    intro i u hi
    have hlt : i < xs.length := by omega
    rw [drop_at xs i hlt]
    have hx := hv _ (List.getElem_mem hlt)
    unfold VS V at hx
    simp only [verdict]
    by_cases h1 : xs[i].f0 = 1
    · rw [if_pos h1]
      have h01 : xs[i].f1 = 0 ∨ xs[i].f1 = 1 := by omega
      rcases h01 with h2 | h2
      · rw [if_neg (by omega)]
        refine Ev.step (fun k => ?_) (ih (i + 1) u (by omega))
        simp only [laminaref04_Or.l0]
        rw [if_pos (by omega), if_pos (by omega), rd_at xs i hlt, wrap_small (by omega)]
        simp [laminaref04_IsFalse.f, laminaref04_IsTrue.f, h1, h2]
      · rw [if_pos h2]
        refine Ev.fin fun k => ?_
        simp only [laminaref04_Or.l0]
        rw [if_pos (by omega), if_pos (by omega), rd_at xs i hlt]
        simp [laminaref04_IsTrue.f, laminaref04_Boolean.f, h1, h2]
    · rw [if_neg h1]
      refine Ev.step (fun k => ?_) (ih (i + 1) true (by omega))
      simp only [laminaref04_Or.l0]
      rw [if_pos (by omega), if_pos (by omega), rd_at xs i hlt, wrap_small (by omega)]
      simp [laminaref04_IsFalse.f, laminaref04_IsTrue.f, h1]
theorem ref_and_ev (xs : List S23) (hn : xs.length < 9223372036854775807) (hv : ∀ x ∈ xs, VS x) : Ev (fun k => laminaref04_And.f k xs) (verdict 0 false xs) := by
  show Ev (fun k => laminaref04_And.l0 k xs false 0) _
  simpa using ref_and_loop xs hn hv xs.length 0 false (by omega)
theorem ref_or_ev (xs : List S23) (hn : xs.length < 9223372036854775807) (hv : ∀ x ∈ xs, VS x) : Ev (fun k => laminaref04_Or.f k xs) (verdict 1 false xs) := by
  show Ev (fun k => laminaref04_Or.l0 k xs false 0) _
  simpa using ref_or_loop xs hn hv xs.length 0 false (by omega)
/-- The negation. -/
def neg3 (a b : Int) : Int × Int × ByteArray := if a = 1 then (1, (if b = 0 then 1 else 0), (⟨#[]⟩ : ByteArray)) else (0, 0, (⟨#[]⟩ : ByteArray))
theorem not_neg (a b : Int) (s : ByteArray) : value_Not.f a b s = some (neg3 a b) := by
  unfold value_Not.f neg3
  by_cases h : a = 1
  · rw [if_pos h, if_pos h]
    by_cases h2 : b = 0
    · subst h2
      rfl
    · have hb : (b == 0) = false := beq_eq_false_iff_ne.mpr h2
      rw [hb, if_neg h2]
      rfl
  · rw [if_neg h, if_neg h]
theorem ref_not_neg (a b : Int) (s : ByteArray) : laminaref04_Not.f a b s = some (neg3 a b) := by
  have : laminaref04_Not.f a b s = value_Not.f a b s := rfl
  rw [this, not_neg]
theorem diff3 (v : Int × Int × ByteArray) : (!(v.1 == v.1) || (!(v.2.1 == v.2.1) || (!(v.2.2.toList == v.2.2.toList)))) = false := by simp
theorem same3 (v : Int × Int × ByteArray) : (v.1 == v.1 && (v.2.1 == v.2.1 && (v.2.2.toList == v.2.2.toList))) = true := by simp
theorem neg_valid (a b : Int) : VS ⟨(neg3 a b).1, (neg3 a b).2.1, (neg3 a b).2.2⟩ := by
  unfold VS V neg3
  by_cases h : a = 1
  · rw [if_pos h]
    right
    left
    by_cases h2 : b = 0 <;> simp [h2]
  · rw [if_neg h]
    left
    simp
theorem morgan (a b : S23) (ha : VS a) (hb : VS b) (d e : Int) (hd : d = 0 ∧ e = 1 ∨ d = 1 ∧ e = 0) :
    neg3 (verdict d false [a, b]).1 (verdict d false [a, b]).2.1 = verdict e false [⟨(neg3 a.f0 a.f1).1, (neg3 a.f0 a.f1).2.1, (neg3 a.f0 a.f1).2.2⟩, ⟨(neg3 b.f0 b.f1).1, (neg3 b.f0 b.f1).2.1, (neg3 b.f0 b.f1).2.2⟩] := by
  unfold VS V at ha hb
  by_cases h1 : a.f0 = 1
  · have ka : a.f1 = 0 ∨ a.f1 = 1 := by omega
    by_cases h2 : b.f0 = 1
    · have kb : b.f1 = 0 ∨ b.f1 = 1 := by omega
      rcases hd with ⟨rfl, rfl⟩ | ⟨rfl, rfl⟩ <;> rcases ka with ka | ka <;> rcases kb with kb | kb <;> simp [verdict, neg3, h1, h2, ka, kb]
    · rcases hd with ⟨rfl, rfl⟩ | ⟨rfl, rfl⟩ <;> rcases ka with ka | ka <;> simp [verdict, neg3, h1, h2, ka]
  · by_cases h2 : b.f0 = 1
    · have kb : b.f1 = 0 ∨ b.f1 = 1 := by omega
      rcases hd with ⟨rfl, rfl⟩ | ⟨rfl, rfl⟩ <;> rcases kb with kb | kb <;> simp [verdict, neg3, h1, h2, kb]
    · rcases hd with ⟨rfl, rfl⟩ | ⟨rfl, rfl⟩ <;> simp [verdict, neg3, h1, h2]
theorem valueLogic_pure : ∀ (x0 : List (S23)) (x1 : S23) (x2 : S23), (x0.length * 32 ≤ 140737488351232 ∧ ∀ y ∈ x0, G23 y) → G23 x1 → G23 x2 → ∃ k, laminalaw04_ValueLogic.f k x0 x1.f0 x1.f1 x1.f2 x2.f0 x2.f1 x2.f2 = some true := by
  intro xs a b hx _ _
  refine Ev.rounds ?_
  unfold laminalaw04_ValueLogic.f
  have hn : xs.length < 9223372036854775807 := by have := hx.1; omega
  obtain ⟨s, hs, hvs⟩ := valid_rows xs hn
  obtain ⟨t, ht, hv⟩ := ref_valid_dec a.f0 a.f1 a.f2
  obtain ⟨u, hu, hw⟩ := ref_valid_dec b.f0 b.f1 b.f2
  have skip : Ev (fun k => laminalaw04_ValueLogic.j0 k xs true a.f0 a.f1 a.f2 b.f0 b.f1 b.f2) true := Ev.succ (Ev.congr (fun k => by simp only [laminalaw04_ValueLogic.j0]; rw [if_pos trivial]) awake_bind)
  refine hs.bind ?_
  cases s with
  | false =>
    simp only [Bool.false_eq_true, if_false]
    exact skip
  | true =>
  simp only [if_true]
  refine (Ev.const ht).bind ?_
  cases t with
  | false =>
    simp only [Bool.false_eq_true, if_false]
    exact skip
  | true =>
  simp only [if_true]
  refine (Ev.const hu).bind ?_
  cases u with
  | false => exact skip
  | true =>
    have va : VS a := hv.1 rfl
    have vb : VS b := hw.1 rfl
    have vl := hvs.1 rfl
    have two : ∀ c d : S23, VS c → VS d → ∀ x ∈ [c, d], VS x := by
      intro c d hc hd x hx
      simp only [List.mem_cons, List.not_mem_nil, or_false] at hx
      rcases hx with rfl | rfl
      · exact hc
      · exact hd
    have two_len : ∀ c d : S23, [c, d].length < 9223372036854775807 := fun c d => by simp
    refine Ev.succ ?_
    simp only [laminalaw04_ValueLogic.j0, Bool.not_true, Bool.false_eq_true, if_false, not_neg, ref_not_neg, Option.bind_some, diff3]
    refine (and_ev xs hn vl).bind ((ref_and_ev xs hn vl).bind ?_)
    simp only [diff3, Bool.false_eq_true, if_false]
    refine (or_ev xs hn vl).bind ((ref_or_ev xs hn vl).bind ?_)
    simp only [diff3, Bool.false_eq_true, if_false]
    refine (and_ev [⟨a.f0, a.f1, a.f2⟩, ⟨b.f0, b.f1, b.f2⟩] (two_len _ _) (two _ _ va vb)).bind ((or_ev _ (two_len _ _) (two _ _ (neg_valid _ _) (neg_valid _ _))).bind ?_)
    rw [morgan a b va vb 0 1 (.inl ⟨rfl, rfl⟩)]
    simp only [same3, if_true]
    refine (or_ev [⟨a.f0, a.f1, a.f2⟩, ⟨b.f0, b.f1, b.f2⟩] (two_len _ _) (two _ _ va vb)).bind ((and_ev _ (two_len _ _) (two _ _ (neg_valid _ _) (neg_valid _ _))).bind ?_)
    rw [morgan a b va vb 1 0 (.inr ⟨rfl, rfl⟩)]
    simp only [same3, if_true]
    exact awake_bind
end Go.Proofs.Ytiklldjfcdblbaa.P
