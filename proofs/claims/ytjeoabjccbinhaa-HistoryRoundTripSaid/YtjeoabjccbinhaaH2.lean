/- What history.find, node, exists, Find, target, Branch and Tag return, for sorted lists. Conditions: the hypotheses that stand at each theorem. -/
import Derived.Test.YtjeoabjccbinhaaPx0
namespace Go.Proofs.Ytjeoabjccbinhaa.P
open Go.RowKit Go.Proofs.YtjeoabjccbinhaaW.PrintWords Go.Proofs.YtjeoabjccbinhaaW.PrintLast Go.Proofs.YtjeoabjccbinhaaW.PrintMore
attribute [local go_sem] Go.Proofs.YtjeoabjccbinhaaQ.str_gtr
/-- A history. -/
structure S27 where
  f0 : List S41
  f1 : List S86
  f2 : List S86
  f3 : Int
theorem info41 : (Try.prog.info? 41).map (fun i => (i.zero, i.size, i.bytes)) = some (some (.agg #[(.int .i64 0), (.int .i64 0), (.int .i64 0), (.int .i64 0)]), 4, 32) := by kernel_rfl
theorem bcell {W w1 : World} (hb : Below W.heap.size W w1) : (∀ b o, b < W.heap.size → w1.cell? ⟨b, o, none⟩ = W.cell? ⟨b, o, none⟩) ∧ (∀ b o, b < W.heap.size → w1.frozen? ⟨b, o, none⟩ = W.frozen? ⟨b, o, none⟩) :=
  ⟨fun b o h => hb.cell (p := ⟨b, o, none⟩) h, fun b o h => hb.frozen (p := ⟨b, o, none⟩) h⟩
def cmpS (a s : ByteArray) : Int := if Op.bytesLess a.toList s.toList = true then -1 else if Op.bytesLess s.toList a.toList = true then 1 else 0
def cmpI (a b : Int) : Int := if a < b then -1 else if a > b then 1 else 0
set_option maxHeartbeats 1000000 in
set_option maxRecDepth 100000 in
theorem f72_calls (a : ByteArray) (b : Int) (s : ByteArray) (w : World) :
    Calls Try.prog 72 #[.agg #[.string a, .int .i64 b], .string s] w fun e w' => e = .returned (.int .i64 (cmpS a s)) ∧ Below w.heap.size w w' := by
  unfold cmpS
  by_cases h1 : Op.bytesLess a.toList s.toList = true
  · rw [if_pos h1]
    go_enter Try.func72, Try.ntmps72
    go_wp2
    go_ret
    exact ⟨rfl, (Below.refl _ _).alloc (Nat.le_refl _) _⟩
  · rw [if_neg h1]
    have h1 : Op.bytesLess a.toList s.toList = false := by simpa using h1
    by_cases h2 : Op.bytesLess s.toList a.toList = true
    · rw [if_pos h2]
      go_enter Try.func72, Try.ntmps72
      go_wp2
      go_ret
      exact ⟨rfl, (Below.refl _ _).alloc (Nat.le_refl _) _⟩
    · rw [if_neg h2]
      have h2 : Op.bytesLess s.toList a.toList = false := by simpa using h2
      go_enter Try.func72, Try.ntmps72
      go_wp2
      go_ret
      exact ⟨rfl, (Below.refl _ _).alloc (Nat.le_refl _) _⟩
set_option maxHeartbeats 1000000 in
set_option maxRecDepth 100000 in
theorem f67_calls (a b c d : Int) (s : Int) (w : World) :
    Calls Try.prog 67 #[.agg #[.int .i64 a, .int .i64 b, .int .i64 c, .int .i64 d], .int .i64 s] w fun e w' => e = .returned (.int .i64 (cmpI a s)) ∧ Below w.heap.size w w' := by
  unfold cmpI
  by_cases h1 : a < s
  · rw [if_pos h1]
    have h1 : decide (a < s) = true := decide_eq_true h1
    go_enter Try.func67, Try.ntmps67
    go_wp2
    go_ret
    exact ⟨rfl, (Below.refl _ _).alloc (Nat.le_refl _) _⟩
  · rw [if_neg h1]
    by_cases h2 : a > s
    · rw [if_pos h2]
      have h1 : decide (a < s) = false := decide_eq_false h1
      have h2 : decide (s < a) = true := decide_eq_true h2
      go_enter Try.func67, Try.ntmps67
      go_wp2
      go_ret
      exact ⟨rfl, (Below.refl _ _).alloc (Nat.le_refl _) _⟩
    · rw [if_neg h2]
      have h1 : decide (a < s) = false := decide_eq_false h1
      have h2 : decide (s < a) = false := decide_eq_false h2
      go_enter Try.func67, Try.ntmps67
      go_wp2
      go_ret
      exact ⟨rfl, (Below.refl _ _).alloc (Nat.le_refl _) _⟩

end Go.Proofs.Ytjeoabjccbinhaa.P

namespace Go.Proofs.Ytjeoabjccbinhaa.P
open Go.RowKit Go.Proofs.YtjeoabjccbinhaaW.PrintWords Go.Proofs.YtjeoabjccbinhaaW.PrintLast Go.Proofs.YtjeoabjccbinhaaW.PrintMore
set_option linter.unusedVariables false
set_option linter.unusedSimpArgs false
attribute [local go_sem] Go.Proofs.YtjeoabjccbinhaaQ.str_gtr
theorem int_eq {a b : Int} (h : a = b) : Value.int .i64 a = .int .i64 b := by rw [h]
set_option maxHeartbeats 1000000 in
set_option maxRecDepth 100000 in
theorem f71_calls (A : Option Addr) (c : Nat) (l : List S86) (s : ByteArray) (w : World) (hr : Kd.C k86 w A l.length l) (hc : l.length ≤ c) (hlen : l.length ≤ 1000) (p : Nat) (hp : p ≤ l.length) (hlt : ∀ i : Nat, i < l.length → (i < p ↔ cmpS (rd_T86 l i).f0 s < 0)) :
    Calls Try.prog 71 #[.slice A l.length c, .string s, .func (.func 72) #[] #[]] w fun e w' => e = .returned (.tuple #[.int .i64 p, .bool (decide (p < l.length) && cmpS (rd_T86 l p).f0 s == 0)]) ∧ Below w.heap.size w w' := by
  have HR := Aside0.mk hr
  have HLT := Aside0.mk hlt
  clear hr hlt
  go_enter Try.func71, Try.ntmps71
  go_wp2
  go_loopg [9, 10] l.length (fun kq v9 v10 w' => ∃ i j : Nat, v9 = .int .i64 i ∧ v10 = .int .i64 j ∧ i ≤ p ∧ p ≤ j ∧ j ≤ l.length ∧ Aside0 (j ≤ kq + i) ∧ Aside0 (Below w.heap.size w w'))
  case atStart => exact ⟨0, l.length, rfl, rfl, Nat.zero_le _, hp, Nat.le_refl _, ⟨by omega⟩, ⟨Below.refl _ _⟩⟩
  case round =>
    obtain ⟨i, j, rfl, rfl, h1, h2, h3, HM, HB⟩ := hrel
    by_cases hij : i < j
    · cases gk with
      | zero => exact absurd HM.out (by omega)
      | succ k1 =>
        have hm0 : (0 : Int) ≤ ((i : Int) + j) / 2 := by omega
        have hm1 : ((i : Int) + j) / 2 < l.length := by omega
        obtain ⟨ad, rfl, hx0, hx1⟩ := at_T86 HR.out (((i : Int) + j) / 2) hm0 hm1
        rw [show (((i : Int) + j) / 2).toNat = (i + j) / 2 from by omega] at hx0 hx1
        replace hx0 := (HB.out.cell (World.block_lt_of_cell? w _ hx0)).trans hx0
        replace hx1 := (HB.out.cell (World.block_lt_of_cell? w _ hx1)).trans hx1
        by_cases hcm : cmpS (rd_T86 l (((i : Int) + j) / 2)).f0 s < 0
        · have hd : decide (cmpS (rd_T86 l (((i : Int) + j) / 2)).f0 s < 0) = true := decide_eq_true hcm
          have hz := (HLT.out (((i : Int) + j) / 2).toNat (by omega)).2 (by rw [Int.toNat_of_nonneg hm0]; exact hcm)
          clear hcm
          go_wp2_with (go_at_call 72; refine (f72_calls _ _ _ _).mono ?_; rintro e w' ⟨rfl, hb⟩)
          go_roundg k1
          case measure => omega
          case rel => exact ⟨(((i : Int) + j) / 2).toNat + 1, j, int_eq (by omega), rfl, by omega, h2, h3, ⟨by have := HM.out; omega⟩, ⟨HB.out.trans (hb.mono (below_size HB.out))⟩⟩
        · have hd : decide (cmpS (rd_T86 l (((i : Int) + j) / 2)).f0 s < 0) = false := decide_eq_false hcm
          have hz : ¬ (((i : Int) + j) / 2).toNat < p := fun h => hcm (by have := (HLT.out (((i : Int) + j) / 2).toNat (by omega)).1 h; rwa [Int.toNat_of_nonneg hm0] at this)
          clear hcm
          go_wp2_with (go_at_call 72; refine (f72_calls _ _ _ _).mono ?_; rintro e w' ⟨rfl, hb⟩)
          go_roundg k1
          case measure => omega
          case rel => exact ⟨i, (((i : Int) + j) / 2).toNat, rfl, int_eq (by omega), h1, by omega, by omega, ⟨by have := HM.out; omega⟩, ⟨HB.out.trans (hb.mono (below_size HB.out))⟩⟩
    · obtain rfl : i = p := by omega
      by_cases hpl : i < l.length
      · obtain ⟨ad, rfl, hx0, hx1⟩ := at_T86 HR.out (i : Int) (by omega) (by omega)
        rw [Int.toNat_natCast] at hx0 hx1
        replace hx0 := (HB.out.cell (World.block_lt_of_cell? w _ hx0)).trans hx0
        replace hx1 := (HB.out.cell (World.block_lt_of_cell? w _ hx1)).trans hx1
        go_wp2_with (go_at_call 72; refine (f72_calls _ _ _ _).mono ?_; rintro e w' ⟨rfl, hb⟩)
        go_ret2
        exact ⟨by simp [hpl], HB.out.trans (hb.mono (below_size HB.out))⟩
      · go_wp2
        go_ret2
        exact ⟨by simp [hpl], HB.out⟩
set_option maxHeartbeats 1000000 in
set_option maxRecDepth 100000 in
theorem f66_calls (A : Option Addr) (c : Nat) (l : List S41) (s : Int) (w : World) (hr : Kd.C k41 w A l.length l) (hc : l.length ≤ c) (hlen : l.length ≤ 1000) (p : Nat) (hp : p ≤ l.length) (hlt : ∀ i : Nat, i < l.length → (i < p ↔ cmpI (rd_T41 l i).f0 s < 0)) :
    Calls Try.prog 66 #[.slice A l.length c, .int .i64 s, .func (.func 67) #[] #[]] w fun e w' => e = .returned (.tuple #[.int .i64 p, .bool (decide (p < l.length) && cmpI (rd_T41 l p).f0 s == 0)]) ∧ Below w.heap.size w w' := by
  have HR := Aside0.mk hr
  have HLT := Aside0.mk hlt
  clear hr hlt
  go_enter Try.func66, Try.ntmps66
  go_wp2
  go_loopg [9, 10] l.length (fun kq v9 v10 w' => ∃ i j : Nat, v9 = .int .i64 i ∧ v10 = .int .i64 j ∧ i ≤ p ∧ p ≤ j ∧ j ≤ l.length ∧ Aside0 (j ≤ kq + i) ∧ Aside0 (Below w.heap.size w w'))
  case atStart => exact ⟨0, l.length, rfl, rfl, Nat.zero_le _, hp, Nat.le_refl _, ⟨by omega⟩, ⟨Below.refl _ _⟩⟩
  case round =>
    obtain ⟨i, j, rfl, rfl, h1, h2, h3, HM, HB⟩ := hrel
    by_cases hij : i < j
    · cases gk with
      | zero => exact absurd HM.out (by omega)
      | succ k1 =>
        have hm0 : (0 : Int) ≤ ((i : Int) + j) / 2 := by omega
        have hm1 : ((i : Int) + j) / 2 < l.length := by omega
        obtain ⟨ad, rfl, hx0, hx1, hx2, hx3⟩ := at_T41 HR.out (((i : Int) + j) / 2) hm0 hm1
        rw [show (((i : Int) + j) / 2).toNat = (i + j) / 2 from by omega] at hx0 hx1 hx2 hx3
        replace hx0 := (HB.out.cell (World.block_lt_of_cell? w _ hx0)).trans hx0
        replace hx1 := (HB.out.cell (World.block_lt_of_cell? w _ hx1)).trans hx1
        replace hx2 := (HB.out.cell (World.block_lt_of_cell? w _ hx2)).trans hx2
        replace hx3 := (HB.out.cell (World.block_lt_of_cell? w _ hx3)).trans hx3
        by_cases hcm : cmpI (rd_T41 l (((i : Int) + j) / 2)).f0 s < 0
        · have hd : decide (cmpI (rd_T41 l (((i : Int) + j) / 2)).f0 s < 0) = true := decide_eq_true hcm
          have hz := (HLT.out (((i : Int) + j) / 2).toNat (by omega)).2 (by rw [Int.toNat_of_nonneg hm0]; exact hcm)
          clear hcm
          go_wp2_with (go_at_call 67; refine (f67_calls _ _ _ _ _ _).mono ?_; rintro e w' ⟨rfl, hb⟩)
          go_roundg k1
          case measure => omega
          case rel => exact ⟨(((i : Int) + j) / 2).toNat + 1, j, int_eq (by omega), rfl, by omega, h2, h3, ⟨by have := HM.out; omega⟩, ⟨HB.out.trans (hb.mono (below_size HB.out))⟩⟩
        · have hd : decide (cmpI (rd_T41 l (((i : Int) + j) / 2)).f0 s < 0) = false := decide_eq_false hcm
          have hz : ¬ (((i : Int) + j) / 2).toNat < p := fun h => hcm (by have := (HLT.out (((i : Int) + j) / 2).toNat (by omega)).1 h; rwa [Int.toNat_of_nonneg hm0] at this)
          clear hcm
          go_wp2_with (go_at_call 67; refine (f67_calls _ _ _ _ _ _).mono ?_; rintro e w' ⟨rfl, hb⟩)
          go_roundg k1
          case measure => omega
          case rel => exact ⟨i, (((i : Int) + j) / 2).toNat, rfl, int_eq (by omega), h1, by omega, by omega, ⟨by have := HM.out; omega⟩, ⟨HB.out.trans (hb.mono (below_size HB.out))⟩⟩
    · obtain rfl : i = p := by omega
      by_cases hpl : i < l.length
      · obtain ⟨ad, rfl, hx0, hx1, hx2, hx3⟩ := at_T41 HR.out (i : Int) (by omega) (by omega)
        rw [Int.toNat_natCast] at hx0 hx1 hx2 hx3
        replace hx0 := (HB.out.cell (World.block_lt_of_cell? w _ hx0)).trans hx0
        replace hx1 := (HB.out.cell (World.block_lt_of_cell? w _ hx1)).trans hx1
        replace hx2 := (HB.out.cell (World.block_lt_of_cell? w _ hx2)).trans hx2
        replace hx3 := (HB.out.cell (World.block_lt_of_cell? w _ hx3)).trans hx3
        go_wp2_with (go_at_call 67; refine (f67_calls _ _ _ _ _ _).mono ?_; rintro e w' ⟨rfl, hb⟩)
        go_ret2
        exact ⟨by simp [hpl], HB.out.trans (hb.mono (below_size HB.out))⟩
      · go_wp2
        go_ret2
        exact ⟨by simp [hpl], HB.out⟩

/-! ### where a name or an ID stands in a sorted list -/
theorem takeWhile_pos {α : Type} (q : α → Bool) : ∀ (l : List α), l.Pairwise (fun a b => q b = true → q a = true) → ∀ (i : Nat) (h : i < l.length), (i < (l.takeWhile q).length ↔ q l[i] = true)
  | [], _, i, h => absurd h (Nat.not_lt_zero _)
  | a :: l, hp, i, h => by
    obtain ⟨ha, hl⟩ := List.pairwise_cons.1 hp
    cases hq : q a with
    | true =>
      rw [List.takeWhile_cons, if_pos hq]
      cases i with
      | zero => simp [hq]
      | succ i =>
        have := takeWhile_pos q l hl i (by simpa using h)
        simpa using this
    | false =>
      rw [List.takeWhile_cons, if_neg (by simp [hq])]
      cases i with
      | zero => simp [hq]
      | succ i =>
        have hi : i < l.length := by simpa using h
        have : ¬ q l[i] = true := fun e => by have := ha _ (List.getElem_mem hi) e; rw [hq] at this; exact absurd this (by decide)
        simpa using this
theorem less_irrefl : ∀ x : List UInt8, Op.bytesLess x x = false
  | [] => rfl
  | a :: x => by simp [Op.bytesLess, less_irrefl x]
theorem less_trans : ∀ (x y z : List UInt8), Op.bytesLess x y = true → Op.bytesLess y z = true → Op.bytesLess x z = true
  | [], [], _, h, _ => by simp [Op.bytesLess] at h
  | [], _ :: _, [], _, h => by simp [Op.bytesLess] at h
  | [], _ :: _, _ :: _, _, _ => by simp [Op.bytesLess]
  | _ :: _, [], _, h, _ => by simp [Op.bytesLess] at h
  | _ :: _, _ :: _, [], _, h => by simp [Op.bytesLess] at h
  | a :: x, b :: y, c :: z, h1, h2 => by
    have ih := less_trans x y z
    simp only [Op.bytesLess, Bool.or_eq_true, Bool.and_eq_true, decide_eq_true_eq, beq_iff_eq] at h1 h2 ⊢
    rcases h1 with h1 | ⟨rfl, h1⟩
    · rcases h2 with h2 | ⟨rfl, h2⟩
      · exact .inl (UInt8.lt_trans h1 h2)
      · exact .inl h1
    · rcases h2 with h2 | ⟨rfl, h2⟩
      · exact .inl h2
      · exact .inr ⟨rfl, ih h1 h2⟩
theorem less_asymm (x y : List UInt8) (h : Op.bytesLess x y = true) : Op.bytesLess y x = false := by
  cases e : Op.bytesLess y x with
  | false => rfl
  | true => have := less_trans x y x h e; rw [less_irrefl] at this; exact absurd this (by decide)
theorem less_or (x y : List UInt8) (h1 : Op.bytesLess x y = false) (h2 : Op.bytesLess y x = false) : x = y := by
  have := Go.Proofs.YtjeoabjccbinhaaQ.less_or_eq x y
  rw [h1, h2] at this
  simpa using this
theorem cmpS_neg (a s : ByteArray) : cmpS a s < 0 ↔ Op.bytesLess a.toList s.toList = true := by
  unfold cmpS
  constructor
  · intro h
    cases e : Op.bytesLess a.toList s.toList with
    | true => rfl
    | false => rw [e] at h; simp at h; split at h <;> omega
  · intro h
    rw [if_pos h]; decide
theorem toList_inj {a b : ByteArray} (h : a.toList = b.toList) : a = b := by
  rw [Lib.toList_data, Lib.toList_data] at h
  exact ByteArray.ext (Array.ext' h)
theorem cmpS_zero (a s : ByteArray) : cmpS a s = 0 ↔ a = s := by
  unfold cmpS
  constructor
  · intro h
    cases e : Op.bytesLess a.toList s.toList with
    | true => rw [e] at h; simp at h
    | false =>
      rw [e] at h
      cases e2 : Op.bytesLess s.toList a.toList with
      | true => rw [e2] at h; simp at h
      | false => exact toList_inj (less_or _ _ e e2)
  · rintro rfl
    rw [less_irrefl]; simp
theorem cmpI_neg (a s : Int) : cmpI a s < 0 ↔ a < s := by
  unfold cmpI
  split
  · simp [*]
  · split <;> simp <;> omega
theorem cmpI_zero (a s : Int) : cmpI a s = 0 ↔ a = s := by
  unfold cmpI
  split
  · simp; omega
  · split <;> simp <;> omega
/-- Names in increasing order. -/
def okS (l : List S86) : Prop := l.Pairwise fun a b => Op.bytesLess a.f0.toList b.f0.toList = true
/-- IDs in increasing order. -/
def okI (l : List S41) : Prop := l.Pairwise fun a b => a.f0 < b.f0
def posS (l : List S86) (s : ByteArray) : Nat := (l.takeWhile fun r => Op.bytesLess r.f0.toList s.toList).length
def posI (l : List S41) (s : Int) : Nat := (l.takeWhile fun r => decide (r.f0 < s)).length
def hasS (l : List S86) (s : ByteArray) : Bool := decide (posS l s < l.length) && cmpS (rd_T86 l (posS l s)).f0 s == 0
def hasI (l : List S41) (s : Int) : Bool := decide (posI l s < l.length) && cmpI (rd_T41 l (posI l s)).f0 s == 0
theorem posS_le (l : List S86) (s : ByteArray) : posS l s ≤ l.length := (List.takeWhile_sublist _).length_le
theorem posI_le (l : List S41) (s : Int) : posI l s ≤ l.length := (List.takeWhile_sublist _).length_le
theorem rd86_get (l : List S86) (i : Nat) (h : i < l.length) : rd_T86 l i = l[i] := by
  unfold rd_T86
  rw [Int.toNat_natCast, List.getD_eq_getElem?_getD, List.getElem?_eq_getElem h]; rfl
theorem rd41_get (l : List S41) (i : Nat) (h : i < l.length) : rd_T41 l i = l[i] := by
  unfold rd_T41
  rw [Int.toNat_natCast, List.getD_eq_getElem?_getD, List.getElem?_eq_getElem h]; rfl
theorem posS_lt {l : List S86} (h : okS l) (s : ByteArray) (i : Nat) (hi : i < l.length) : i < posS l s ↔ cmpS (rd_T86 l i).f0 s < 0 := by
  unfold posS
  rw [takeWhile_pos _ l (h.imp fun {a b} hab hb => less_trans _ _ _ hab hb) i hi, rd86_get l i hi, cmpS_neg]
theorem posI_lt {l : List S41} (h : okI l) (s : Int) (i : Nat) (hi : i < l.length) : i < posI l s ↔ cmpI (rd_T41 l i).f0 s < 0 := by
  unfold posI
  rw [takeWhile_pos _ l (h.imp fun {a b} hab hb => by simp at hb ⊢; omega) i hi, rd41_get l i hi, cmpI_neg]
  simp
end Go.Proofs.Ytjeoabjccbinhaa.P

namespace Go.Proofs.Ytjeoabjccbinhaa.P
open Go.RowKit Go.Proofs.YtjeoabjccbinhaaW.PrintWords Go.Proofs.YtjeoabjccbinhaaW.PrintLast Go.Proofs.YtjeoabjccbinhaaW.PrintMore
set_option linter.unusedVariables false
set_option linter.unusedSimpArgs false
attribute [local go_sem] Go.Proofs.YtjeoabjccbinhaaQ.str_gtr
/-- A history's three lists, read. -/
structure HV (w : World) (A0 : Option Addr) (c0 : Nat) (l0 : List S41) (A1 : Option Addr) (c1 : Nat) (l1 : List S86) (A2 : Option Addr) (c2 : Nat) (l2 : List S86) : Prop where
  r0 : Kd.C k41 w A0 l0.length l0
  r1 : Kd.C k86 w A1 l1.length l1
  r2 : Kd.C k86 w A2 l2.length l2
  h0 : l0.length ≤ c0
  h1 : l1.length ≤ c1
  h2 : l2.length ≤ c2
theorem HV.below {w w' : World} {A0 : Option Addr} {c0 : Nat} {l0 : List S41} {A1 : Option Addr} {c1 : Nat} {l1 : List S86} {A2 : Option Addr} {c2 : Nat} {l2 : List S86} (h : HV w A0 c0 l0 A1 c1 l1 A2 c2 l2) (hb : Below w.heap.size w w') : HV w' A0 c0 l0 A1 c1 l1 A2 c2 l2 :=
  ⟨Kd.C_below h.r0 hb, Kd.C_below h.r1 hb, Kd.C_below h.r2 hb, h.h0, h.h1, h.h2⟩
/-- A history as it comes about: IDs and names in increasing order, few. -/
structure OkH (l0 : List S41) (l1 l2 : List S86) : Prop where
  o0 : okI l0
  o1 : okS l1
  o2 : okS l2
  n0 : l0.length ≤ 1000
  n1 : l1.length ≤ 1000
  n2 : l2.length ≤ 1000
/-- What a name refers to; 0 for none. -/
def valS (l : List S86) (s : ByteArray) : Int := if hasS l s = true then (rd_T86 l (posS l s)).f1 else 0
set_option maxHeartbeats 1000000 in
set_option maxRecDepth 100000 in
theorem f57_calls (A : Option Addr) (c : Nat) (l : List S86) (s : ByteArray) (w : World) (hr : Kd.C k86 w A l.length l) (hc : l.length ≤ c) (ho : okS l) (hn : l.length ≤ 1000) :
    Calls Try.prog 57 #[.slice A l.length c, .string s] w fun e w' => e = .returned (.tuple #[.int .i64 (posS l s), .bool (hasS l s)]) ∧ Below w.heap.size w w' := by
  have H := Aside0.mk (f71_calls A c l s w hr hc hn (posS l s) (posS_le l s) (posS_lt ho s))
  clear hr ho
  go_enter Try.func57, Try.ntmps57
  go_wp2_with (go_at_call 71; refine H.out.mono ?_; rintro e w' ⟨rfl, hb⟩)
  go_ret2
  exact ⟨rfl, hb⟩
set_option maxHeartbeats 1000000 in
set_option maxRecDepth 100000 in
theorem f45_calls (A0 : Option Addr) (c0 : Nat) (l0 : List S41) (A1 : Option Addr) (c1 : Nat) (l1 : List S86) (A2 : Option Addr) (c2 : Nat) (l2 : List S86) (r : Int) (s : Int) (w : World) (hr : HV w A0 c0 l0 A1 c1 l1 A2 c2 l2) (ho : okI l0) (hn : l0.length ≤ 1000) :
    Calls Try.prog 45 #[.agg #[.slice A0 l0.length c0, .slice A1 l1.length c1, .slice A2 l2.length c2, .int .i64 r], .int .i64 s] w fun e w' => e = .returned (.tuple #[.int .i64 (posI l0 s), .bool (hasI l0 s)]) ∧ Below w.heap.size w w' := by
  have hb0 := (Below.refl w.heap.size w).alloc (Nat.le_refl _) (.cells #[.slice A0 l0.length c0, .slice A1 l1.length c1, .slice A2 l2.length c2, .int .i64 r] 27)
  have H := Aside0.mk (f66_calls A0 c0 l0 s _ (Kd.C_below hr.r0 hb0) hr.h0 hn (posI l0 s) (posI_le l0 s) (posI_lt ho s))
  have HB0 := Aside0.mk hb0
  clear hr ho hb0
  go_enter Try.func45, Try.ntmps45
  go_wp2_with (go_at_call 66; refine H.out.mono ?_; rintro e w' ⟨rfl, hb⟩)
  go_ret2
  exact ⟨rfl, HB0.out.trans (hb.mono (by simp))⟩
set_option maxHeartbeats 1000000 in
set_option maxRecDepth 100000 in
theorem f51_calls (A0 : Option Addr) (c0 : Nat) (l0 : List S41) (A1 : Option Addr) (c1 : Nat) (l1 : List S86) (A2 : Option Addr) (c2 : Nat) (l2 : List S86) (r : Int) (s : Int) (w : World) (hr : HV w A0 c0 l0 A1 c1 l1 A2 c2 l2) (ho : okI l0) (hn : l0.length ≤ 1000) :
    Calls Try.prog 51 #[.agg #[.slice A0 l0.length c0, .slice A1 l1.length c1, .slice A2 l2.length c2, .int .i64 r], .int .i64 s] w fun e w' => e = .returned (.bool (hasI l0 s)) ∧ Below w.heap.size w w' := by
  have hb0 := (Below.refl w.heap.size w).alloc (Nat.le_refl _) (.cells #[.slice A0 l0.length c0, .slice A1 l1.length c1, .slice A2 l2.length c2, .int .i64 r] 27)
  have H := Aside0.mk (f45_calls A0 c0 l0 A1 c1 l1 A2 c2 l2 r s _ (hr.below hb0) ho hn)
  have HB0 := Aside0.mk hb0
  clear hr ho hb0
  go_enter Try.func51, Try.ntmps51
  go_wp2_with (go_at_call 45; refine H.out.mono ?_; rintro e w' ⟨rfl, hb⟩)
  go_ret
  exact ⟨rfl, HB0.out.trans (hb.mono (by simp))⟩
set_option maxHeartbeats 1000000 in
set_option maxRecDepth 100000 in
theorem f48_calls (A : Option Addr) (c : Nat) (l : List S86) (s : ByteArray) (w : World) (hr : Kd.C k86 w A l.length l) (hc : l.length ≤ c) (ho : okS l) (hn : l.length ≤ 1000) :
    Calls Try.prog 48 #[.slice A l.length c, .string s] w fun e w' => e = .returned (.tuple #[.int .i64 (valS l s), .bool (hasS l s)]) ∧ Below w.heap.size w w' := by
  have H := Aside0.mk (f57_calls A c l s w hr hc ho hn)
  cases hh : hasS l s with
  | false =>
    rw [hh] at H
    rw [show valS l s = 0 from by unfold valS; rw [hh]; rfl]
    clear hr ho
    go_enter Try.func48, Try.ntmps48
    go_wp2_with (go_at_call 57; refine H.out.mono ?_; rintro e w' ⟨rfl, hb⟩)
    go_ret2
    exact ⟨rfl, hb⟩
  | true =>
    have hp : posS l s < l.length := by unfold hasS at hh; simp at hh; exact hh.1
    obtain ⟨ad, rfl, hx0, hx1⟩ := at_T86 hr (posS l s : Int) (by omega) (by omega)
    rw [Int.toNat_natCast] at hx0 hx1
    rw [hh] at H
    rw [show valS l s = (rd_T86 l (posS l s)).f1 from by unfold valS; rw [hh]; rfl]
    have HX := Aside0.mk hx1
    clear hr ho hx0 hx1 hh
    go_enter Try.func48, Try.ntmps48
    go_wp2_with (go_at_call 57; refine H.out.mono ?_; rintro e w' ⟨rfl, hb⟩; have hx1 := (hb.cell (World.block_lt_of_cell? w _ HX.out)).trans HX.out)
    go_ret2
    exact ⟨rfl, hb⟩
set_option maxHeartbeats 1000000 in
set_option maxRecDepth 100000 in
theorem f25_calls (A0 : Option Addr) (c0 : Nat) (l0 : List S41) (A1 : Option Addr) (c1 : Nat) (l1 : List S86) (A2 : Option Addr) (c2 : Nat) (l2 : List S86) (r : Int) (s : ByteArray) (w : World) (hr : HV w A0 c0 l0 A1 c1 l1 A2 c2 l2) (ho : okS l1) (hn : l1.length ≤ 1000) :
    Calls Try.prog 25 #[.agg #[.slice A0 l0.length c0, .slice A1 l1.length c1, .slice A2 l2.length c2, .int .i64 r], .string s] w fun e w' => e = .returned (.tuple #[.int .i64 (valS l1 s), .bool (hasS l1 s)]) ∧ Below w.heap.size w w' := by
  have hb0 := (Below.refl w.heap.size w).alloc (Nat.le_refl _) (.cells #[.slice A0 l0.length c0, .slice A1 l1.length c1, .slice A2 l2.length c2, .int .i64 r] 27)
  have H := Aside0.mk (f48_calls A1 c1 l1 s _ (Kd.C_below hr.r1 hb0) hr.h1 ho hn)
  have HB0 := Aside0.mk hb0
  clear hr ho hb0
  go_enter Try.func25, Try.ntmps25
  go_wp2_with (go_at_call 48; refine H.out.mono ?_; rintro e w' ⟨rfl, hb⟩)
  go_ret2
  exact ⟨rfl, HB0.out.trans (hb.mono (by simp))⟩
set_option maxHeartbeats 1000000 in
set_option maxRecDepth 100000 in
theorem f27_calls (A0 : Option Addr) (c0 : Nat) (l0 : List S41) (A1 : Option Addr) (c1 : Nat) (l1 : List S86) (A2 : Option Addr) (c2 : Nat) (l2 : List S86) (r : Int) (s : ByteArray) (w : World) (hr : HV w A0 c0 l0 A1 c1 l1 A2 c2 l2) (ho : okS l2) (hn : l2.length ≤ 1000) :
    Calls Try.prog 27 #[.agg #[.slice A0 l0.length c0, .slice A1 l1.length c1, .slice A2 l2.length c2, .int .i64 r], .string s] w fun e w' => e = .returned (.tuple #[.int .i64 (valS l2 s), .bool (hasS l2 s)]) ∧ Below w.heap.size w w' := by
  have hb0 := (Below.refl w.heap.size w).alloc (Nat.le_refl _) (.cells #[.slice A0 l0.length c0, .slice A1 l1.length c1, .slice A2 l2.length c2, .int .i64 r] 27)
  have H := Aside0.mk (f48_calls A2 c2 l2 s _ (Kd.C_below hr.r2 hb0) hr.h2 ho hn)
  have HB0 := Aside0.mk hb0
  clear hr ho hb0
  go_enter Try.func27, Try.ntmps27
  go_wp2_with (go_at_call 48; refine H.out.mono ?_; rintro e w' ⟨rfl, hb⟩)
  go_ret2
  exact ⟨rfl, HB0.out.trans (hb.mono (by simp))⟩
/-- A commit's four numbers as a struct. -/
def nodeI (l : List S41) (s : Int) : S41 := if hasI l s = true then rd_T41 l (posI l s) else z41
set_option maxHeartbeats 1000000 in
set_option maxRecDepth 100000 in
theorem f16_calls (A0 : Option Addr) (c0 : Nat) (l0 : List S41) (A1 : Option Addr) (c1 : Nat) (l1 : List S86) (A2 : Option Addr) (c2 : Nat) (l2 : List S86) (r : Int) (s : Int) (w : World) (hr : HV w A0 c0 l0 A1 c1 l1 A2 c2 l2) (ho : okI l0) (hn : l0.length ≤ 1000) :
    Calls Try.prog 16 #[.agg #[.slice A0 l0.length c0, .slice A1 l1.length c1, .slice A2 l2.length c2, .int .i64 r], .int .i64 s] w fun e w' => e = .returned (.tuple #[.agg #[.int .i64 (nodeI l0 s).f0, .int .i64 (nodeI l0 s).f1, .int .i64 (nodeI l0 s).f2, .int .i64 (nodeI l0 s).f3], .bool (hasI l0 s)]) ∧ Below w.heap.size w w' := by
  have hb0 := ((Below.refl w.heap.size w).alloc (Nat.le_refl _) (.cells #[.slice A0 l0.length c0, .slice A1 l1.length c1, .slice A2 l2.length c2, .int .i64 r] 27)).alloc (by simp) (.cells #[.int .i64 0, .int .i64 0, .int .i64 0, .int .i64 0] 41)
  have H := Aside0.mk (f45_calls A0 c0 l0 A1 c1 l1 A2 c2 l2 r s _ (hr.below hb0) ho hn)
  have HB0 := Aside0.mk hb0
  have hz0 := hb0.size
  cases hh : hasI l0 s with
  | false =>
    rw [hh] at H
    rw [show nodeI l0 s = z41 from by unfold nodeI; rw [hh]; rfl]
    clear hr ho hb0
    go_enter Try.func16, Try.ntmps16
    go_wp2_with (go_at_call 45; refine H.out.mono ?_; rintro e w' ⟨rfl, hb⟩; obtain ⟨hc, hf⟩ := bcell hb; have hz := hb.size; simp only [World.size_alloc] at hz)
    refine bodyPost_ret (v := .tuple #[.agg #[.int .i64 0, .int .i64 0, .int .i64 0, .int .i64 0], .bool false]) (by simp [results, Try.results16, go_sem, hc, hf, hz]) rfl ⟨rfl, ?_⟩
    exact ((((HB0.out.trans (hb.mono (by simp; omega))).setCell (by simp) _).setCell (by simp) _).setCell (by simp) _).setCell (by simp) _
  | true =>
    have hp : posI l0 s < l0.length := by unfold hasI at hh; simp at hh; exact hh.1
    obtain ⟨ad, rfl, hx0, hx1, hx2, hx3⟩ := at_T41 hr.r0 (posI l0 s : Int) (by omega) (by omega)
    rw [Int.toNat_natCast] at hx0 hx1 hx2 hx3
    rw [hh] at H
    rw [show nodeI l0 s = rd_T41 l0 (posI l0 s) from by unfold nodeI; rw [hh]; rfl]
    have HX := Aside0.mk (And.intro hx0 (And.intro hx1 (And.intro hx2 hx3)))
    clear hr ho hx0 hx1 hx2 hx3 hh hb0
    go_enter Try.func16, Try.ntmps16
    go_wp2_with (go_at_call 45; refine H.out.mono ?_; rintro e w' ⟨rfl, hb⟩; obtain ⟨hc, hf⟩ := bcell hb; have hz := hb.size; simp only [World.size_alloc] at hz; have hb3 := HB0.out.trans (hb.mono (by simp; omega)); obtain ⟨hx0, hx1, hx2, hx3⟩ := HX.out; replace hx0 := (hb3.cell (World.block_lt_of_cell? w _ hx0)).trans hx0; replace hx1 := (hb3.cell (World.block_lt_of_cell? w _ hx1)).trans hx1; replace hx2 := (hb3.cell (World.block_lt_of_cell? w _ hx2)).trans hx2; replace hx3 := (hb3.cell (World.block_lt_of_cell? w _ hx3)).trans hx3; clear hb3)
    refine bodyPost_ret (v := .tuple #[.agg #[.int .i64 (rd_T41 l0 (posI l0 s)).f0, .int .i64 (rd_T41 l0 (posI l0 s)).f1, .int .i64 (rd_T41 l0 (posI l0 s)).f2, .int .i64 (rd_T41 l0 (posI l0 s)).f3], .bool true]) (by simp [results, Try.results16, go_sem, hc, hf, hz]) rfl ⟨rfl, ?_⟩
    exact ((((HB0.out.trans (hb.mono (by simp; omega))).setCell (by simp) _).setCell (by simp) _).setCell (by simp) _).setCell (by simp) _
end Go.Proofs.Ytjeoabjccbinhaa.P
