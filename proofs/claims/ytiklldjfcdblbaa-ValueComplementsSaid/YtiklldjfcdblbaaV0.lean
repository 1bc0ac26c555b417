/- Plain facts on values: the awake examples hold, what the reference's Valid says, and that the program's Compare and the reference's agree on valid values. No condition but the hypotheses that stand. -/
import Derived.Test.YtiklldjfcdblbaaPx12
import Derived.Test.YtiklldjfcdblbaaPx2
import Derived.Test.YtiklldjfcdblbaaPx2
import Derived.Test.YtiklldjfcdblbaaPx7
import Derived.Test.YtiklldjfcdblbaaPx22
import Derived.Test.YtiklldjfcdblbaaKinds
namespace Go.Proofs.Ytiklldjfcdblbaa.P
open Go.RowKit Go.Proofs.YtiklldjfcdblbaaW.PrintWords Go.Proofs.YtiklldjfcdblbaaW.PrintLast
theorem awake_true : laminalaw04_awake.f 20 = some true := by kernel_rfl
theorem awake_ev : Ev (fun k => laminalaw04_awake.f k) true := Ev.of laminalaw04_awake.mono awake_true
theorem awake_bind : Ev (fun k => (laminalaw04_awake.f k).bind fun t => some t) true := awake_ev.bind (Ev.now true)

/-- What runs without rounds. -/
theorem Ev.const {α : Type} {g : Option α} {r : α} (h : g = some r) : Ev (fun _ => g) r := ⟨0, fun _ _ => h⟩
/-- A function that counts its rounds down first. -/
theorem Ev.succ {α : Type} {g : Nat → Option α} {r : α} (h : Ev (fun k => g (k + 1)) r) : Ev g r := by
  obtain ⟨K, h⟩ := h
  refine ⟨K + 1, fun k hk => ?_⟩
  obtain ⟨m, rfl⟩ : ∃ m, k = m + 1 := ⟨k - 1, by omega⟩
  exact h m (by omega)
theorem Ev.all {α : Type} {g : Nat → Option α} {r : α} (h : ∀ k, g k = some r) : Ev g r := ⟨0, fun k _ => h k⟩
/-- What is told behind one round. -/
theorem Ev.fin {α : Type} {g : Nat → Option α} {r : α} (h : ∀ k, g (k + 1) = some r) : Ev g r := by
  refine ⟨1, fun k hk => ?_⟩
  obtain ⟨m, rfl⟩ : ∃ m, k = m + 1 := ⟨k - 1, by omega⟩
  exact h m

theorem bytes_nil {s : ByteArray} (h : s.toList = ([] : List UInt8)) : s = ⟨#[]⟩ := by
  rw [Lib.toList_data] at h
  have h2 : s.data = #[] := by simpa using h
  cases s
  simp only at h2
  rw [h2]

def V (a b : Int) (s : ByteArray) : Prop := (a = 0 ∧ b = 0 ∧ s = ⟨#[]⟩) ∨ (a = 1 ∧ (b = 0 ∨ b = 1) ∧ s = ⟨#[]⟩) ∨ (a = 2 ∧ s = ⟨#[]⟩) ∨ (a = 3 ∧ b = 0 ∧ s.size ≤ 4096)
theorem ref_valid_dec (a b : Int) (s : ByteArray) : ∃ t, laminaref04_Valid.f a b s = some t ∧ (t = true ↔ V a b s) := by
  have hs : (s.toList == ([] : List UInt8)) = true ↔ s = ⟨#[]⟩ := by
    constructor
    · intro h
      exact bytes_nil (by simpa using h)
    · rintro rfl
      rw [Lib.toList_data]
      rfl
  unfold laminaref04_Valid.f V
  by_cases h0 : a = 0
  · subst h0
    by_cases h1 : b = 0
    · subst h1
      refine ⟨(s.toList == ([] : List UInt8)), rfl, hs.trans ?_⟩
      simp
    · exact ⟨false, by simp [h1], by simp [h1]⟩
  by_cases h1 : a = 1
  · subst h1
    by_cases h2 : b = 0
    · subst h2
      refine ⟨(s.toList == ([] : List UInt8)), rfl, hs.trans ?_⟩
      simp
    · by_cases h3 : b = 1
      · subst h3
        refine ⟨(s.toList == ([] : List UInt8)), rfl, hs.trans ?_⟩
        simp
      · exact ⟨false, by simp [h2, h3], by simp [h2, h3]⟩
  by_cases h2 : a = 2
  · subst h2
    refine ⟨(s.toList == ([] : List UInt8)), rfl, hs.trans ?_⟩
    simp
  by_cases h3 : a = 3
  · subst h3
    by_cases h4 : b = 0
    · subst h4
      refine ⟨decide ((s.size : Int) ≤ 4096), rfl, ?_⟩
      simp
      omega
    · exact ⟨false, by simp [h4], by simp [h4]⟩
  · exact ⟨false, by simp [h0, h1, h2, h3], by simp [h0, h1, h2, h3]⟩

def sgn (a b : Int) : Int := if a < b then -1 else if b < a then 1 else 0
/-- The order of two values. -/
def vc (a0 a1 : Int) (a2 : ByteArray) (b0 b1 : Int) (b2 : ByteArray) : Int :=
  if a0 = b0 then (if a0 = 3 then Lib.compareBytes a2.data.toList b2.data.toList else if a0 = 1 ∨ a0 = 2 then sgn a1 b1 else 0) else if a0 < b0 then -1 else 1
theorem sign_sgn (a b : Int) : value_sign.f (decide (a < b)) (decide (a > b)) = some (sgn a b) := by
  unfold value_sign.f sgn
  by_cases h : a < b <;> by_cases h2 : b < a <;> simp [h, h2]
theorem ref_sign_sgn (a b : Int) : laminaref04_sign.f (decide (a < b)) (decide (a > b)) = some (sgn a b) := by
  unfold laminaref04_sign.f sgn
  by_cases h : a < b <;> by_cases h2 : b < a <;> simp [h, h2]
theorem compare_vc (a0 a1 : Int) (a2 : ByteArray) (b0 b1 : Int) (b2 : ByteArray) : value_Compare.f a0 a1 a2 b0 b1 b2 = some (vc a0 a1 a2 b0 b1 b2) := by
  unfold value_Compare.f vc
  rw [sign_sgn]
  by_cases h : a0 = b0
  · subst h
    by_cases h3 : a0 = 3
    · subst h3; simp [strings_Compare.f]
    · by_cases h1 : a0 = 1
      · subst h1; simp
      · by_cases h2 : a0 = 2
        · subst h2; simp
        · simp [h1, h2, h3]
  · by_cases h2 : a0 < b0 <;> simp [h, h2, value_sign.f]
theorem compareBytes_less : ∀ (x y : List UInt8), Lib.compareBytes x y = if Op.bytesLess x y = true then -1 else if Op.bytesLess y x = true then 1 else 0
  | [], [] => by simp [Lib.compareBytes, Op.bytesLess]
  | [], _ :: _ => by simp [Lib.compareBytes, Op.bytesLess]
  | _ :: _, [] => by simp [Lib.compareBytes, Op.bytesLess]
  | a :: x, b :: y => by
    have ih := compareBytes_less x y
    simp only [Lib.compareBytes, Op.bytesLess]
    rcases Nat.lt_trichotomy a.toNat b.toNat with h | h | h
    · have h1 : a < b := UInt8.lt_iff_toNat_lt.2 h
      simp [h1]
    · obtain rfl : a = b := UInt8.toNat_inj.1 h
      have h2 : ¬ a < a := fun e => by have := UInt8.lt_iff_toNat_lt.1 e; omega
      simp [h2, ih]
    · have h1 : b < a := UInt8.lt_iff_toNat_lt.2 h
      have h2 : ¬ a < b := fun e => by have := UInt8.lt_iff_toNat_lt.1 e; omega
      have h3 : ¬ a = b := fun e => by subst e; omega
      simp [h1, h2, h3]
theorem ref_compare_vc (a0 a1 : Int) (a2 : ByteArray) (b0 b1 : Int) (b2 : ByteArray) (ha : V a0 a1 a2) (hb : V b0 b1 b2) : laminaref04_Compare.f a0 a1 a2 b0 b1 b2 = some (vc a0 a1 a2 b0 b1 b2) := by
  unfold laminaref04_Compare.f vc
  rw [ref_sign_sgn]
  by_cases h : a0 = b0
  · subst h
    by_cases h3 : a0 = 3
    · subst h3
      simp only [if_true, compareBytes_less, Lib.toList_data]
      unfold laminaref04_sign.f
      by_cases l : Op.bytesLess a2.data.toList b2.data.toList = true
      · simp [l]
      · by_cases l2 : Op.bytesLess b2.data.toList a2.data.toList = true <;> simp [l, l2]
    · by_cases h1 : a0 = 1
      · subst h1; simp
      · by_cases h2 : a0 = 2
        · subst h2; simp
        · have ea : a1 = 0 := by unfold V at ha; omega
          have eb : b1 = 0 := by unfold V at hb; omega
          subst ea; subst eb
          simp [h1, h2, h3, sgn]
  · by_cases h2 : a0 < b0 <;> simp [h, h2, laminaref04_sign.f]
end Go.Proofs.Ytiklldjfcdblbaa.P
