/- What Go functions of the given program return, told as Lean functions, and the walks that show it, with plain facts on them: V4, V5, V6, PureSketchCounts. Conditions: the hypotheses that stand at each theorem. -/
import Derived.Test.YtackcingpffidaaZa0
import Derived.Test.YtackcingpffidaaZa1
import Derived.Test.YtackcingpffidaaZa2
import Derived.Test.YtackcingpffidaaZa3
import Derived.Test.YtackcingpffidaaZa5
import Derived.Test.YtackcingpffidaaZa10
import Derived.Test.YtackcingpffidaaZa11
namespace Go.Proofs.Ytackcingpffidaa.P
open Go.RowKit Go.Proofs.YtackcingpffidaaW.PrintWords Go.Proofs.YtackcingpffidaaW.PrintLast Go.Proofs.YtackcingpffidaaW.PrintMore
set_option linter.unusedVariables false
set_option linter.unusedSimpArgs false
structure OkS (a0 a1 : Int) (M C : List Int) (F : List S39) (R : List Int) : Prop where
  n0 : 0 ≤ wrap64 (a0 - a1)
  n1 : wrap64 (a0 - a1) < 9223372036854775808
  hM : M.length ≤ 32
  up : ∀ j : Nat, 1 ≤ j → j < M.length → rd M ((j : Int) - 1) < rd M (j : Int)
  hC : C.length = 256
  hF : F.length ≤ 17
  hn : F.length = 0 ↔ wrap64 (a0 - a1) = 0
  hR : R.length = 2 * F.length
  vF : ∀ j : Nat, j < F.length → vV (fe F j) = true
  kF : ∀ j : Nat, j < F.length → (fe F j).f0 ≠ 0
  lt : ∀ j : Nat, 0 < j → j < F.length → cV (fe F (j - 1)) (fe F j) < 0
theorem ok_of {a0 a1 : Int} {M : List Int} {c : Bool} {C : List Int} {F : List S39} {R : List Int} (ha : a0 < 9223372036854775808) (h : validB a0 a1 M c C F R = true) : OkS a0 a1 M C F R := by
  unfold validB badB at h
  simp only [Bool.and_eq_true, Bool.not_eq_true', Bool.or_eq_false_iff, decide_eq_false_iff_not] at h
  obtain ⟨⟨⟨⟨⟨⟨h1, h2⟩, h3⟩, h4⟩, h5⟩, h6⟩, h7, h8, h9⟩ := h
  have hn0 : wrap64 (a0 - a1) = a0 - a1 := wrap64_small (by omega) (by omega)
  unfold fencesB at h9
  by_cases h17 : 17 < F.length
  · rw [if_pos h17] at h9; exact absurd h9 (by decide)
  rw [if_neg h17] at h9
  by_cases hk : (F.length = 0) = (wrap64 (a0 - a1) = 0)
  rotate_left
  · rw [if_neg hk] at h9; exact absurd h9 (by decide)
  rw [if_pos hk] at h9
  by_cases hr : R.length = 2 * F.length
  rotate_left
  · rw [if_neg hr] at h9; exact absurd h9 (by decide)
  rw [if_pos hr] at h9
  simp only [Bool.and_eq_true, allN_iff] at h9
  obtain ⟨⟨⟨hf, _⟩, _⟩, _⟩ := h9
  have hf2 : ∀ j : Nat, j < F.length → vV (fe F j) = true ∧ (fe F j).f0 ≠ 0 ∧ (0 < j → cV (fe F (j - 1)) (fe F j) < 0) := by
    intro j hj
    have := hf j (Nat.zero_le _) (by omega)
    unfold fOk at this
    simp only [Bool.and_eq_true, Bool.not_eq_true', beq_eq_false_iff_ne, Bool.and_eq_false_iff, decide_eq_false_iff_not, Int.not_le] at this
    refine ⟨this.1.1.1, this.1.1.2, fun h0 => ?_⟩
    have h_ := this.2.resolve_left (fun e => e h0)
    unfold fe
    rwa [show ((j - 1 : Nat) : Int) = (j : Int) - 1 from by omega]
  refine ⟨by omega, by omega, by omega, fun j hj1 hj2 => ?_, ?_, by omega, ⟨fun e => hk ▸ e, fun e => hk ▸ e⟩, hr, fun j hj => (hf2 j hj).1, fun j hj => (hf2 j hj).2.1, fun j h0 hj => (hf2 j hj).2.2 h0⟩
  · have := (allN_iff _ _ _).1 h7 j hj1 (by omega)
    unfold upB at this
    simp only [Bool.not_eq_true', decide_eq_false_iff_not, Int.not_le] at this
    exact this
  · unfold cntB at h8
    rw [Bool.and_eq_true] at h8
    exact of_decide_eq_true (by simpa using h8.1)
/-! ### rank bounds -/
section
variable {F : List S39} {R : List Int} {v : S39} (q : Bool) (vF : ∀ j : Nat, j < F.length → vV (fe F j) = true) (hv : vV v = true)
include vF hv
theorem upS_same (n : Int) : ∀ m i : Nat, i + m ≤ F.length → upS rcV F R v q n m i = upS cV F R v q n m i
  | 0, i, h => rfl
  | m + 1, i, h => by
    unfold upS
    rw [rcV_same _ _ (vF i (by omega)) hv, upS_same n m (i + 1) (by omega)]
theorem loS_same : ∀ i : Nat, i ≤ F.length → loS rcV F R v q i = loS cV F R v q i
  | 0, h => rfl
  | i + 1, h => by
    unfold loS
    rw [rcV_same _ _ (vF i (by omega)) hv, loS_same i (by omega)]
end
theorem rk_true {a0 a1 : Int} {M C : List Int} {F : List S39} {R : List Int} (o : OkS a0 a1 M C F R) : rkB F R = true := by
  have h1 := o.hR
  have h2 := o.hF
  unfold rkB
  rw [Bool.and_eq_true]
  exact ⟨by simpa using h1, decide_eq_true (by omega)⟩
end Go.Proofs.Ytackcingpffidaa.P
namespace Go.Proofs.Ytackcingpffidaa.P
open Go.RowKit Go.Proofs.YtackcingpffidaaW.PrintWords Go.Proofs.YtackcingpffidaaW.PrintLast Go.Proofs.YtackcingpffidaaW.PrintMore
set_option linter.unusedVariables false
set_option linter.unusedSimpArgs false
/-! ### hashes -/
section
variable {M : List Int} (hM : M.length ≤ 32) (up : ∀ j : Nat, 1 ≤ j → j < M.length → rd M ((j : Int) - 1) < rd M (j : Int))
theorem rd_mem {M : List Int} {j : Nat} (h : j < M.length) : rd M (j : Int) ∈ M := by
  unfold rd
  rw [Int.toNat_natCast, List.getD_eq_getElem?_getD, List.getElem?_eq_getElem h]
  exact List.getElem_mem h
theorem mem_rd {M : List Int} {h : Int} (hm : h ∈ M) : ∃ j : Nat, j < M.length ∧ rd M (j : Int) = h := by
  obtain ⟨j, hj, rfl⟩ := List.mem_iff_getElem.1 hm
  refine ⟨j, hj, ?_⟩
  unfold rd
  rw [Int.toNat_natCast, List.getD_eq_getElem?_getD, List.getElem?_eq_getElem hj]
  rfl
include up in
theorem up_le : ∀ d x : Nat, x + d < M.length → rd M (x : Int) ≤ rd M ((x + d : Nat) : Int)
  | 0, x, h => Int.le_refl _
  | d + 1, x, h => by
    have h1 := up_le d x (by omega)
    have h2 := up (x + d + 1) (by omega) (by omega)
    rw [show ((x + d + 1 : Nat) : Int) - 1 = ((x + d : Nat) : Int) from by omega] at h2
    rw [show x + (d + 1) = x + d + 1 from rfl]
    omega
theorem less_is (a b : Int) : cmp_Less_uint64.f a b = some (decide (a < b)) := by
  unfold cmp_Less_uint64.f cmp_isNaN_uint64.f
  simp
include hM up in
theorem bs_loop (h : Int) : ∀ d i j : Nat, i ≤ j → j ≤ M.length → j - i ≤ d → (∀ x : Nat, x < i → rd M (x : Int) < h) → (∀ x : Nat, j ≤ x → x < M.length → h ≤ rd M (x : Int)) →
    ∃ p, Ev (fun k => slices_BinarySearch_uint64_uint64.l0 k M h (M.length : Int) (i : Int) (j : Int)) (p, decide (h ∈ M)) := by
  have fin : ∀ i : Nat, i ≤ M.length → (∀ x : Nat, x < i → rd M (x : Int) < h) → (∀ x : Nat, i ≤ x → x < M.length → h ≤ rd M (x : Int)) →
      ∃ p, Ev (fun k => slices_BinarySearch_uint64_uint64.l0 k M h (M.length : Int) (i : Int) (i : Int)) (p, decide (h ∈ M)) := by
    intro i hi h1 h2
    refine ⟨(i : Int), Ev.succ ?_⟩
    simp only [slices_BinarySearch_uint64_uint64.l0, slices_isNaN_uint64.f, Option.bind_some]
    refine Ev_neg (by omega) ?_
    by_cases hn : i < M.length
    · refine Ev_pos (by omega) (Ev_pos (by omega) (Ev_pos (by omega) ?_))
      by_cases he : rd M (i : Int) = h
      · refine Ev_pos he ?_
        rw [decide_eq_true (show h ∈ M from he ▸ rd_mem hn)]
        exact Ev.now _
      · refine Ev_neg he ?_
        have hno : ¬ h ∈ M := by
          intro hm
          obtain ⟨x, hx, hxe⟩ := mem_rd hm
          have a1 : i ≤ x := by
            by_cases q : i ≤ x
            · exact q
            · have := h1 x (by omega); omega
          have a2 := h2 i (Nat.le_refl _) hn
          obtain ⟨d, rfl⟩ : ∃ d, x = i + d := ⟨x - i, by omega⟩
          have a3 := up_le up d i hx
          have a4 : rd M (i : Int) = h := by omega
          exact he a4
        rw [decide_eq_false hno]
        exact Ev_neg (by simp) (Ev.now _)
    · refine Ev_neg (by omega) ?_
      have hno : ¬ h ∈ M := by
        intro hm
        obtain ⟨x, hx, hxe⟩ := mem_rd hm
        have := h1 x (by omega)
        omega
      rw [decide_eq_false hno]
      exact Ev.now _
  intro d
  induction d with
  | zero =>
    intro i j hij hj hd h1 h2
    obtain rfl : i = j := by omega
    exact fin i hj h1 h2
  | succ d ih =>
    intro i j hij hj hd h1 h2
    by_cases hlt : i < j
    · obtain ⟨m, hm⟩ : ∃ m : Nat, (i + j) / 2 = m := ⟨_, rfl⟩
      have hw : wrap64 (IntKind.u64.wrap (wrap64 ((i : Int) + (j : Int))) / 2) = (m : Int) := by
        rw [wrap64_small (x := (i : Int) + (j : Int)) (by omega) (by omega), IntKind.wrap_u64, show ((i : Int) + (j : Int)) % 18446744073709551616 = (i : Int) + (j : Int) from by omega, wrap64_small (by omega) (by omega)]
        omega
      have hw1 : wrap64 ((m : Int) + 1) = ((m + 1 : Nat) : Int) := by rw [wrap64_small (by omega) (by omega)]; omega
      by_cases hl : rd M (m : Int) < h
      · obtain ⟨p, hp⟩ := ih (m + 1) j (by omega) hj (by omega) (fun x hx => by
          obtain ⟨e, rfl⟩ : ∃ e, m = x + e := ⟨m - x, by omega⟩
          have := up_le up e x (by omega)
          omega) h2
        refine ⟨p, Ev.succ ?_⟩
        simp only [slices_BinarySearch_uint64_uint64.l0, less_is, Option.bind_some]
        rw [hw, hw1]
        refine Ev_pos (by omega) (Ev_pos (by omega) (Ev_pos (by omega) (Ev_pos (by simpa using hl) hp)))
      · obtain ⟨p, hp⟩ := ih i m (by omega) (by omega) (by omega) h1 (fun x hx hx2 => by
          obtain ⟨e, rfl⟩ : ∃ e, x = m + e := ⟨x - m, by omega⟩
          have := up_le up e m (by omega)
          omega)
        refine ⟨p, Ev.succ ?_⟩
        simp only [slices_BinarySearch_uint64_uint64.l0, less_is, Option.bind_some]
        rw [hw, hw1]
        refine Ev_pos (by omega) (Ev_pos (by omega) (Ev_pos (by omega) (Ev_neg (by simpa using hl) hp)))
    · obtain rfl : i = j := by omega
      exact fin i hj h1 h2
include hM up in
theorem bs_lib (h : Int) : ∃ p, Ev (fun k => slices_BinarySearch_uint64_uint64.f k M h) (p, decide (h ∈ M)) :=
  bs_loop hM up h M.length 0 M.length (Nat.zero_le _) (Nat.le_refl _) (Nat.le_refl _) (fun x hx => by omega) (fun x h1 h2 => by omega)
include hM in
theorem hashed_loop (a0 a1 : Int) (c : Bool) (C : List Int) (F : List S39) (R : List Int) (h : Int) : ∀ m i : Nat, i + m = M.length → Ev (fun k => laminaref16_hashed.l0 k h (i : Int) a0 a1 M c C F R) (decide (h ∈ M.drop i))
  | 0, i, e => by
    refine Ev.succ ?_
    simp only [laminaref16_hashed.l0]
    rw [List.drop_of_length_le (by omega)]
    exact Ev_neg (by omega) (Ev.now _)
  | m + 1, i, e => by
    refine Ev.succ ?_
    simp only [laminaref16_hashed.l0]
    rw [drop_rd M i (by omega), wrap64_small (x := (i : Int) + 1) (by omega) (by omega)]
    refine Ev_pos (by omega) (Ev_pos (by omega) ?_)
    have ih := hashed_loop a0 a1 c C F R h m (i + 1) (by omega)
    rw [show ((i + 1 : Nat) : Int) = (i : Int) + 1 from by omega] at ih
    by_cases he : rd M (i : Int) = h
    · refine Ev_pos he ?_
      rw [decide_eq_true (by simp [he])]
      exact Ev.now _
    · refine Ev_neg he ?_
      rw [show decide (h ∈ rd M (i : Int) :: M.drop (i + 1)) = decide (h ∈ M.drop (i + 1)) from by simp [Ne.symm he]]
      exact ih
end
/-! ### fences below a value -/
theorem lt_is (x y : S39) : ltOf cV x y = true ↔ cV x y < 0 := by unfold ltOf; simp
theorem lt_no (x y : S39) : ltOf cV x y = false ↔ ¬ cV x y < 0 := by unfold ltOf; simp
theorem cV_vc (x y : S39) : cV x y = vc x.f0 x.f1 x.f2 y.f0 y.f1 y.f2 := by
  have h := cV_is x y
  rw [compare_vc] at h
  exact (Option.some.inj h).symm
theorem cV_zero {x y : S39} (h : cV x y = 0) : cV y x = 0 := by
  rw [cV_vc] at h ⊢
  unfold vc at h ⊢
  by_cases hk : x.f0 = y.f0
  · rw [if_pos hk] at h
    rw [if_pos hk.symm, ← hk]
    by_cases h3 : x.f0 = 3
    · rw [if_pos h3] at h ⊢
      rw [compareBytes_less] at h ⊢
      by_cases l1 : Op.bytesLess x.f2.data.toList y.f2.data.toList = true
      · rw [if_pos l1] at h; exact absurd h (by decide)
      · by_cases l2 : Op.bytesLess y.f2.data.toList x.f2.data.toList = true
        · rw [if_neg l1, if_pos l2] at h; exact absurd h (by decide)
        · rw [if_neg l2, if_neg l1]
    · rw [if_neg h3] at h ⊢
      unfold sgn at h ⊢
      split at h
      · rename_i h12
        rw [if_pos h12]
        split at h
        · exact absurd h (by decide)
        · split at h
          · exact absurd h (by decide)
          · rename_i u1 u2
            rw [if_neg u2, if_neg u1]
      · rename_i h12
        rw [if_neg h12]
  · rw [if_neg hk] at h
    split at h <;> exact absurd h (by decide)
theorem fe_zero (x : S39) (l : List S39) : fe (x :: l) 0 = x := rfl
theorem fe_succ (x : S39) (l : List S39) (j : Nat) : fe (x :: l) (j + 1) = fe l j := by
  unfold fe rd_T39
  rw [Int.toNat_natCast, Int.toNat_natCast, List.getD_cons_succ]
theorem part_iff (P : S39 → Bool) : ∀ F : List S39, (∀ j : Nat, 0 < j → j < F.length → P (fe F j) = true → P (fe F (j - 1)) = true) → ∀ i : Nat, i < F.length → (i < (F.filter P).length ↔ P (fe F i) = true)
  | [], _, i, h => absurd h (by simp)
  | x :: l, hc, i, h => by
    have ih := part_iff P l (fun j h0 hj hp => by
      have := hc (j + 1) (by omega) (by simp; omega) (by rw [fe_succ]; exact hp)
      rw [show j + 1 - 1 = (j - 1) + 1 from by omega, fe_succ] at this
      exact this)
    cases hx : P x with
    | true =>
      rw [List.filter_cons_of_pos hx]
      cases i with
      | zero => simp [fe_zero, hx]
      | succ i =>
        rw [fe_succ, List.length_cons, ← ih i (by simpa using h)]
        omega
    | false =>
      rw [List.filter_cons_of_neg (by simp [hx])]
      have all : ∀ j : Nat, j ≤ l.length → P (fe (x :: l) j) = false := by
        intro j
        induction j with
        | zero => intro _; rw [fe_zero]; exact hx
        | succ j ihj =>
          intro hj
          have h1 := ihj (by omega)
          have h2 := hc (j + 1) (by omega) (by simp; omega)
          rw [Nat.add_sub_cancel, h1] at h2
          cases hp : P (fe (x :: l) (j + 1)) with
          | false => rfl
          | true => exact absurd (h2 hp) (by decide)
      rw [all i (by simp at h; omega)]
      have h0 : (l.filter P).length = 0 := by
        by_cases hl : l.length = 0
        · rw [List.length_eq_zero_iff.mp hl]; rfl
        · have h1 := all 1 (by omega)
          rw [fe_succ] at h1
          have h2 := ih 0 (by omega)
          rw [h1] at h2
          have : ¬ 0 < (l.filter P).length := fun e => absurd (h2.1 e) (by decide)
          omega
      simp [h0]
section
variable {F : List S39} {R : List Int} (v : S39) (hF : F.length ≤ 17) (hR : R.length = 2 * F.length) (vF : ∀ j : Nat, j < F.length → vV (fe F j) = true) (hv : vV v = true) (lt : ∀ j : Nat, 0 < j → j < F.length → cV (fe F (j - 1)) (fe F j) < 0)
include lt in
theorem part_spec : ∀ i : Nat, i < F.length → (i < partS F v ↔ cV (fe F i) v < 0) := by
  intro i hi
  have := part_iff (fun x => decide (cV x v < 0)) F (fun j h0 hj hp => by
    have h1 := swo_cV.trans (fe F (j - 1)) (fe F j) v ((lt_is _ _).2 (lt j h0 hj)) ((lt_is _ _).2 (of_decide_eq_true hp))
    exact decide_eq_true ((lt_is _ _).1 h1)) i hi
  rw [decide_eq_true_iff] at this
  exact this
include hF lt in
theorem part_true : partB F v = true := by
  unfold partB
  rw [Bool.and_eq_true]
  refine ⟨decide_eq_true (by omega), (allN_iff _ _ _).2 fun j _ hj => ?_⟩
  have := part_spec v lt j (by omega)
  unfold fe at this
  simp only [beq_iff_eq, decide_eq_decide]
  exact this
include lt in
theorem part_above {j : Nat} (h1 : partS F v < j) (h2 : j < F.length) : cV (fe F j) v ≠ 0 := by
  intro he
  have hp := part_spec v lt (j - 1) (by omega)
  have h3 : ltOf cV (fe F (j - 1)) v = false := (lt_no _ _).2 (fun e => by have := hp.2 e; omega)
  have h4 : ltOf cV v (fe F j) = true := by
    cases h5 : ltOf cV v (fe F j) with
    | true => rfl
    | false =>
      have h6 := swo_cV.ntrans _ _ _ h3 h5
      rw [(lt_is _ _).2 (lt j (by omega) h2)] at h6
      exact absurd h6 (by decide)
  have h7 := (lt_is _ _).1 h4
  rw [cV_zero he] at h7
  omega
include vF hv in
theorem least_skip : ∀ m m' i : Nat, ∀ c : Int, i + m ≤ F.length → (∀ j : Nat, i ≤ j → j < i + m → cV (fe F j) v ≠ 0) → leastR F R v (m + m') i c = leastR F R v m' (i + m) c
  | 0, m', i, c, _, _ => by simp
  | m + 1, m', i, c, h, hz => by
    rw [show m + 1 + m' = (m + m') + 1 from by omega]
    have h1 : rcV (rd_T39 F (i : Int)) v = cV (fe F i) v := rcV_same _ _ (vF i (by omega)) hv
    have h2 : (rcV (rd_T39 F (i : Int)) v == 0) = false := by rw [h1]; simpa using hz i (Nat.le_refl _) (by omega)
    have e : leastR F R v (m + m' + 1) i c = leastR F R v (m + m') (i + 1) c := by
      conv => lhs; unfold leastR
      rw [h2]
      rfl
    rw [e, least_skip m m' (i + 1) c (by omega) (fun j h3 h4 => hz j (by omega) (by omega)), show i + 1 + m = i + (m + 1) from by omega]
include hR vF hv lt in
theorem least_same : ∃ low, lowS F R v = some low ∧ leastR F R v F.length 0 0 = some low := by
  have hp := partS_le F v
  obtain ⟨p, hpe⟩ : ∃ p, partS F v = p := ⟨_, rfl⟩
  have hsp := part_spec v lt
  have hab := fun j => @part_above F v lt j
  rw [hpe] at hp hsp hab
  have h0 := @least_skip F R v vF hv p (F.length - p) 0 0 (by omega) (fun j _ hj => by
    have := (hsp j (by omega)).1 (by omega)
    omega)
  rw [show p + (F.length - p) = F.length from by omega, Nat.zero_add] at h0
  unfold lowS
  rw [h0, hpe]
  have tail : ∀ m i c, i + m = F.length → p < i → leastR F R v m i c = some c := by
    intro m i c hm hi
    have h1 := @least_skip F R v vF hv m 0 i c (by omega) (fun j h3 h4 => hab j (by omega) (by omega))
    rw [Nat.add_zero] at h1
    rw [h1]
    rfl
  by_cases hlt : p < F.length
  · rw [decide_eq_true hlt, Bool.true_and]
    obtain ⟨m, hm⟩ : ∃ m, F.length - p = m + 1 := ⟨F.length - p - 1, by omega⟩
    rw [hm]
    unfold leastR
    rw [show rcV (rd_T39 F (p : Int)) v = cV (rd_T39 F (p : Int)) v from rcV_same _ _ (vF p hlt) hv]
    cases (cV (rd_T39 F (p : Int)) v == 0) with
    | true =>
      rw [if_pos rfl, if_pos rfl, if_pos (by omega), if_pos (by omega)]
      exact ⟨_, rfl, tail m (p + 1) _ (by omega) (by omega)⟩
    | false =>
      rw [if_neg (by decide), if_neg (by decide)]
      exact ⟨_, rfl, tail m (p + 1) _ (by omega) (by omega)⟩
  · rw [decide_eq_false hlt, Bool.false_and, if_neg (by decide), show F.length - p = 0 from by omega]
    exact ⟨_, rfl, rfl⟩
end
/-! ### counters -/
theorem mins_same (v : S39) (hv : vV v = true) {C : List Int} (hC : C.length = 256) : ∀ m r : Nat, ∀ high : Int, r + m = 4 → ∃ x, Ev (fun k => minsS k v C high r m) x ∧ Ev (fun k => minsR k v C high r m) x
  | 0, r, high, _ => ⟨high, Ev.now _, Ev.now _⟩
  | m + 1, r, high, h => by
    obtain ⟨t, ht, h1, h2⟩ := hash_same v hv (IntKind.u64.wrap (wrap64 (4 + (r : Int))))
    obtain ⟨c, hc⟩ : ∃ c, Int.tmod t 64 = c := ⟨_, rfl⟩
    have hc0 : 0 ≤ c ∧ c < 64 := by rw [← hc, Int.tmod_eq_emod_of_nonneg ht]; omega
    have hw1 : wrap64 c = c := wrap64_small hc0.1 (by omega)
    have hw2 : wrap64 ((r : Int) * 64) = (r : Int) * 64 := wrap64_small (by omega) (by omega)
    have hw3 : wrap64 ((r : Int) * 64 + c) = ((r * 64 + c.toNat : Nat) : Int) := by rw [wrap64_small (by omega) (by omega)]; omega
    obtain ⟨x, e1, e2⟩ := mins_same v hv hC m (r + 1) (mn high (rd C ((r * 64 + c.toNat : Nat) : Int))) (by omega)
    refine ⟨x, ?_, ?_⟩
    · unfold minsS
      refine Ev.bind (a := c) ?_ ?_
      · unfold sketch_cell.f
        refine Ev.bind (a := t) h1 ?_
        rw [hc, hw1]
        exact Ev.now _
      · exact Ev_pos ⟨hc0.1, hc0.2, by omega⟩ e1
    · unfold minsR
      refine Ev.bind (a := ((r * 64 + c.toNat : Nat) : Int)) ?_ ?_
      · unfold laminaref16_Cell.f
        refine Ev.bind (a := t) h2 ?_
        rw [hc, hw1, hw2, hw3]
        exact Ev.now _
      · exact Ev_pos ⟨by omega, by omega⟩ e2
theorem Ev_same {x y : Nat → Option (Int × Int)} {p : Int × Int} (hx : Ev x p) (hy : Ev y p) : Ev (fun k => sameO (x k) (y k)) () := Ev.bind (f := fun k a => (y k).bind fun b => if a = b then some () else none) hx (Ev.bind (f := fun _ b => if p = b then some () else none) hy (Ev_pos rfl (Ev.now _)))
section
variable {a0 a1 : Int} {M : List Int} {c : Bool} {C : List Int} {F : List S39} {R : List Int} {v : S39} (o : OkS a0 a1 M C F R) (hv : vV v = true)
include o in
theorem lower_ev (q : Bool) : Ev (fun k => sketch_lower.f k a0 a1 M c C F R v.f0 v.f1 v.f2 q) (loS cV F R v q F.length) := Ev.all fun k => by unfold sketch_lower.f; rw [if_pos (rk_true o)]
include o in
theorem upper_ev (q : Bool) : Ev (fun k => sketch_upper.f k a0 a1 M c C F R v.f0 v.f1 v.f2 q) (upS cV F R v q (wrap64 (a0 - a1)) F.length 0) := Ev.all fun k => by unfold sketch_upper.f; rw [if_pos (rk_true o)]
include o hv in
theorem lessMin_ev (q : Bool) : Ev (fun k => laminaref16_LessMin.f k a0 a1 M c C F R v.f0 v.f1 v.f2 q) (loS cV F R v q F.length) := Ev.all fun k => by
  unfold laminaref16_LessMin.f
  rw [if_pos (rk_true o)]
  exact congrArg some (loS_same q o.vF hv F.length (Nat.le_refl _))
include o hv in
theorem lessMax_ev (q : Bool) : Ev (fun k => laminaref16_LessMax.f k a0 a1 M c C F R v.f0 v.f1 v.f2 (!q)) (upS cV F R v q (wrap64 (a0 - a1)) F.length 0) := Ev.all fun k => by
  unfold laminaref16_LessMax.f
  rw [if_pos (rk_true o), Bool.not_not]
  exact congrArg some (upS_same q o.vF hv _ F.length 0 (by omega))
include o hv in
theorem less_same : ∃ p, Ev (fun k => sketch_CountLess.f k a0 a1 M c C F R v.f0 v.f1 v.f2) p ∧ Ev (fun k => laminaref16_CountLess.f k a0 a1 M c C F R v.f0 v.f1 v.f2) p := by
  unfold sketch_CountLess.f laminaref16_CountLess.f
  simp only [sketch_span.f, laminaref16_span.f, Option.bind_some]
  by_cases h : v.f0 = 0
  · exact ⟨(0, 0), Ev_pos h (Ev.now _), Ev_pos h (Ev.now _)⟩
  · exact ⟨_, Ev_neg h (Ev.bind (lower_ev o false) (Ev.bind (upper_ev o true) (Ev.now _))), Ev_neg h (Ev.bind (lessMin_ev o hv false) (Ev.bind (lessMax_ev o hv true) (Ev.now _)))⟩
include o hv in
theorem gate_is : ∃ fb, laminaref16_foreign.f a0 a1 M c C F R v.f0 v.f1 v.f2 = some fb ∧ gateB F v = (fb || (!fb && outB F v)) ∧ (fb = false → F.length ≠ 0 ∧ v.f0 ≠ 0 ∧ v.f0 = (rd_T39 F 0).f0) ∧ (fb = true → v.f0 = 0 ∨ F.length = 0 ∨ v.f0 ≠ (rd_T39 F 0).f0) := by
  unfold laminaref16_foreign.f gateB
  by_cases h1 : v.f0 = 0
  · exact ⟨true, if_pos h1, by simp [h1], fun e => absurd e (by decide), fun _ => .inl h1⟩
  by_cases h2 : F.length = 0
  · exact ⟨true, by rw [if_neg h1, if_pos (by omega)], by simp [List.length_eq_zero_iff.mp h2], fun e => absurd e (by decide), fun _ => .inr (.inl h2)⟩
  by_cases h3 : v.f0 = (rd_T39 F 0).f0
  · refine ⟨false, by rw [if_neg h1, if_neg (by omega), if_pos (by omega), h3]; simp, ?_, fun _ => ⟨h2, h1, h3⟩, fun e => absurd e (by decide)⟩
    have e0 : rcV v (rd_T39 F 0) = cV v (rd_T39 F 0) := rcV_same _ _ hv (o.vF 0 (by omega))
    have e1 : rcV v (rd_T39 F ((F.length : Int) - 1)) = cV v (rd_T39 F ((F.length : Int) - 1)) := by
      rw [show (F.length : Int) - 1 = ((F.length - 1 : Nat) : Int) from by omega]
      exact rcV_same _ _ hv (o.vF _ (by omega))
    unfold outB
    rw [e0, e1, show (v.f0 == 0) = false from by simp [h1], show (F.length == 0) = false from by simp [h2], show (v.f0 != (rd_T39 F 0).f0) = false from by simp [h3]]
    simp
  · refine ⟨true, by rw [if_neg h1, if_neg (by omega), if_pos (by omega), show ((rd_T39 F 0).f0 != v.f0) = true from by simp [Ne.symm h3]], ?_, fun e => absurd e (by decide), fun _ => .inr (.inr h3)⟩
    rw [show (v.f0 != (rd_T39 F 0).f0) = true from by simp [h3]]
    simp
include o hv in
theorem equal_same : ∃ p, Ev (fun k => sketch_CountEqual.f k a0 a1 M c C F R v.f0 v.f1 v.f2) p ∧ Ev (fun k => laminaref16_CountEqual.f k a0 a1 M c C F R v.f0 v.f1 v.f2) p := by
  obtain ⟨fb, hfb, hg, hf0, _⟩ := gate_is (c := c) o hv
  have hF := o.hF
  unfold sketch_CountEqual.f laminaref16_CountEqual.f
  simp only [hfb, Option.bind_some]
  rw [show (⟨v.f0, v.f1, v.f2⟩ : S39) = v from rfl]
  cases fb with
  | true => exact ⟨(0, 0), Ev_pos (by rw [hg]; simp) (Ev.now _), Ev_pos rfl (Ev.now _)⟩
  | false =>
    have h0 := (hf0 rfl).1
    cases ho : outB F v with
    | true => exact ⟨(0, 0), Ev_pos (by rw [hg, ho]; simp) (Ev.now _), Ev_neg (by decide) (Ev_neg (by omega) (Ev_pos rfl (Ev.now _)))⟩
    | false =>
      obtain ⟨t, _, h1, h2⟩ := hash_same v hv 3
      obtain ⟨ip, hbs⟩ := bs_lib o.hM o.up t
      have hhd := hashed_loop o.hM a0 a1 c C F R t M.length 0 (by omega)
      rw [List.drop_zero] at hhd
      have hhr : Ev (fun k => laminaref16_hashed.f k a0 a1 M c C F R v.f0 v.f1 v.f2) (decide (t ∈ M)) := Ev.bind (f := fun k t => laminaref16_hashed.l0 k t 0 a0 a1 M c C F R) h2 hhd
      have hq : Ev (fun k => if c = true then laminaref16_hashed.f k a0 a1 M c C F R v.f0 v.f1 v.f2 else some true) (!(c && !(decide (t ∈ M)))) := by
        cases c with
        | true => refine Ev_pos rfl ?_; simpa using hhr
        | false => exact Ev_neg (by decide) (Ev.now _)
      obtain ⟨low, hl1, hl2⟩ := least_same (R := R) v o.hR o.vF hv o.lt
      obtain ⟨x, hm1, hm2⟩ := mins_same v hv o.hC 4 0 (wrap64 (upS cV F R v false (wrap64 (a0 - a1)) F.length 0 - loS cV F R v false F.length)) rfl
      have hp := part_true v o.hF o.lt
      have hgf : ¬ gateB F v = true := by rw [hg, ho]; decide
      cases hz : (c && !(decide (t ∈ M))) with
      | true =>
        refine ⟨(0, 0), Ev_neg hgf (Ev.bind h1 (Ev.bind hbs (Ev_pos hz (Ev.now _)))), Ev_neg (by decide) (Ev_neg (by omega) (Ev_neg (by decide) (Ev.bind hq (Ev_neg (by rw [hz]; decide) (Ev.now _)))))⟩
      | false =>
        refine ⟨(low, x), Ev_neg hgf (Ev.bind h1 (Ev.bind hbs (Ev_neg (by rw [hz]; decide) (Ev.bind (upper_ev o false) (Ev.bind (lower_ev o false) (Ev_pos hp ?_)))))), Ev_neg (by decide) (Ev_neg (by omega) (Ev_neg (by decide) (Ev.bind hq (Ev_pos (by rw [hz]; rfl) ?_))))⟩
        · rw [hl1]
          exact Ev.bind (f := fun _ high => some (low, high)) hm1 (Ev.now _)
        · rw [hl2]
          exact Ev.bind (Ev.now low) <| Ev.bind (lessMax_ev o hv false) (Ev.bind (lessMin_ev o hv false) (Ev.bind hm2 (Ev.now _)))
include o hv in
theorem matching_same (p0 op : Int) : ∃ p, Ev (fun k => sketch_CountMatching.f k a0 a1 M c C F R p0 op v.f0 v.f1 v.f2) p ∧ Ev (fun k => laminaref16_CountMatching.f k a0 a1 M c C F R p0 op v.f0 v.f1 v.f2) p := by
  unfold sketch_CountMatching.f laminaref16_CountMatching.f
  by_cases h20 : op = 20
  · exact ⟨_, Ev_pos h20 (Ev.now _), Ev_pos h20 (Ev.now _)⟩
  by_cases h21 : op = 21
  · exact ⟨_, Ev_neg h20 (Ev_pos h21 (Ev.now _)), Ev_neg h20 (Ev_pos h21 (Ev.now _))⟩
  obtain ⟨fb, hfb, _, hf0, hf1⟩ := gate_is (c := c) o hv
  obtain ⟨⟨e1, e2⟩, hE, hE2⟩ := equal_same (c := c) o hv
  simp only [hfb, Option.bind_some]
  have hn := o.hn
  cases fb with
  | true =>
    refine ⟨(0, 0), Ev_neg h20 (Ev_neg h21 ?_), Ev_neg h20 (Ev_neg h21 (Ev_pos rfl (Ev.now _)))⟩
    by_cases hz : wrap64 (a0 - a1) = 0
    · exact Ev_pos hz (Ev.now _)
    by_cases hv0 : v.f0 = 0
    · exact Ev_neg hz (Ev_pos hv0 (Ev.now _))
    have hl : ¬ F.length = 0 := fun e => hz (hn.1 e)
    exact Ev_neg hz (Ev_neg hv0 (Ev_neg hl (Ev_neg (((hf1 rfl).resolve_left hv0).resolve_left hl) (Ev.now _))))
  | false =>
    obtain ⟨g1, g2, g3⟩ := hf0 rfl
    have hz : ¬ wrap64 (a0 - a1) = 0 := fun e => g1 (hn.2 e)
    have key : ∀ p, Ev (fun k => switchS op (wrap64 (a0 - a1)) (loS cV F R v false F.length) (upS cV F R v true (wrap64 (a0 - a1)) F.length 0) (loS cV F R v true F.length) (upS cV F R v false (wrap64 (a0 - a1)) F.length 0) (sketch_CountEqual.f k a0 a1 M c C F R v.f0 v.f1 v.f2)) p →
        Ev (fun k => switchR op (wrap64 (a0 - a1)) (laminaref16_LessMin.f k a0 a1 M c C F R v.f0 v.f1 v.f2) (laminaref16_LessMax.f k a0 a1 M c C F R v.f0 v.f1 v.f2) (e1, e2)) p →
        ∃ p, Ev (fun k => if op = 20 then some (a1, a1) else if op = 21 then some (wrap64 (a0 - a1), wrap64 (a0 - a1)) else if wrap64 (a0 - a1) = 0 then some (0, 0) else if v.f0 = 0 then some (0, 0) else if F.length = 0 then none else if v.f0 = (rd_T39 F 0).f0 then (sketch_lower.f k a0 a1 M c C F R v.f0 v.f1 v.f2 false).bind fun lf => (sketch_upper.f k a0 a1 M c C F R v.f0 v.f1 v.f2 true).bind fun ut => (sketch_lower.f k a0 a1 M c C F R v.f0 v.f1 v.f2 true).bind fun lt => (sketch_upper.f k a0 a1 M c C F R v.f0 v.f1 v.f2 false).bind fun uf => switchS op (wrap64 (a0 - a1)) lf ut lt uf (sketch_CountEqual.f k a0 a1 M c C F R v.f0 v.f1 v.f2) else some (0, 0)) p ∧
          Ev (fun k => if op = 20 then some (a1, a1) else if op = 21 then some (wrap64 (a0 - a1), wrap64 (a0 - a1)) else if false = true then some (0, 0) else (laminaref16_CountEqual.f k a0 a1 M c C F R v.f0 v.f1 v.f2).bind fun E => switchR op (wrap64 (a0 - a1)) (laminaref16_LessMin.f k a0 a1 M c C F R v.f0 v.f1 v.f2) (laminaref16_LessMax.f k a0 a1 M c C F R v.f0 v.f1 v.f2) E) p :=
      fun p k1 k2 => ⟨p, Ev_neg h20 (Ev_neg h21 (Ev_neg hz (Ev_neg g2 (Ev_neg g1 (Ev_pos g3 (Ev.bind (lower_ev o false) (Ev.bind (upper_ev o true) (Ev.bind (lower_ev o true) (Ev.bind (upper_ev o false) k1))))))))), Ev_neg h20 (Ev_neg h21 (Ev_neg (by decide) (Ev.bind hE2 k2)))⟩
    unfold switchS switchR at key
    by_cases h1 : op = 1
    · exact key _ (Ev_pos h1 hE) (Ev_pos h1 (Ev.now _))
    by_cases h2 : op = 2
    · exact key _ (Ev_neg h1 (Ev_pos h2 (Ev.bind hE (Ev.now _)))) (Ev_neg h1 (Ev_pos h2 (Ev.now _)))
    by_cases h3 : op = 3
    · exact key _ (Ev_neg h1 (Ev_neg h2 (Ev_pos h3 (Ev.now _)))) (Ev_neg h1 (Ev_neg h2 (Ev_pos h3 (Ev.bind (lessMin_ev o hv false) (Ev.bind (lessMax_ev o hv true) (Ev.now _))))))
    by_cases h4 : op = 4
    · exact key _ (Ev_neg h1 (Ev_neg h2 (Ev_neg h3 (Ev_pos h4 (Ev.now _))))) (Ev_neg h1 (Ev_neg h2 (Ev_neg h3 (Ev_pos h4 (Ev.bind (lessMin_ev o hv true) (Ev.bind (lessMax_ev o hv false) (Ev.now _)))))))
    by_cases h5 : op = 5
    · exact key _ (Ev_neg h1 (Ev_neg h2 (Ev_neg h3 (Ev_neg h4 (Ev_pos h5 (Ev.now _)))))) (Ev_neg h1 (Ev_neg h2 (Ev_neg h3 (Ev_neg h4 (Ev_pos h5 (Ev.bind (lessMax_ev o hv false) (Ev.bind (lessMin_ev o hv true) (Ev.now _))))))))
    by_cases h6 : op = 6
    · exact key _ (Ev_neg h1 (Ev_neg h2 (Ev_neg h3 (Ev_neg h4 (Ev_neg h5 (Ev_pos h6 (Ev.now _))))))) (Ev_neg h1 (Ev_neg h2 (Ev_neg h3 (Ev_neg h4 (Ev_neg h5 (Ev_pos h6 (Ev.bind (lessMax_ev o hv true) (Ev.bind (lessMin_ev o hv false) (Ev.now _)))))))))
    · exact key _ (Ev_neg h1 (Ev_neg h2 (Ev_neg h3 (Ev_neg h4 (Ev_neg h5 (Ev_neg h6 (Ev.now _))))))) (Ev_neg h1 (Ev_neg h2 (Ev_neg h3 (Ev_neg h4 (Ev_neg h5 (Ev_neg h6 (Ev.now _)))))))
include o in
theorem distinct_same : ∃ p, Ev (fun k => sketch_CountDistinct.f k a0 a1 M c C F R) p ∧ Ev (fun k => laminaref16_CountDistinct.f k a0 a1 M c C F R) p := by
  have n0 := o.n0
  have n1 := o.n1
  unfold sketch_CountDistinct.f laminaref16_CountDistinct.f
  refine ⟨_, Ev.now _, ?_⟩
  have e : (if gapB F (wrap64 (a0 - a1)) = true then wrap64 (wrap64 (gapS F) + 1) else wrap64 (a0 - a1)) = (if gapB F (wrap64 (a0 - a1)) = true then mn (wrap64 (a0 - a1)) (wrap64 (wrap64 (gapS F) + 1)) else wrap64 (a0 - a1)) := by
    cases hg : gapB F (wrap64 (a0 - a1)) with
    | false => rfl
    | true =>
      unfold gapB at hg
      rw [Bool.and_eq_true] at hg
      have hlt := of_decide_eq_true hg.2
      have hd0 : 0 ≤ gapS F := by unfold gapS; rw [IntKind.wrap_u64]; omega
      rw [IntKind.wrap_u64] at hlt
      rw [if_pos rfl, if_pos rfl]
      generalize gapS F = d at *
      have e1 : wrap64 d = d := wrap64_small hd0 (by omega)
      have e2 : wrap64 (d + 1) = d + 1 := wrap64_small (by omega) (by omega)
      rw [e1, e2]
      unfold mn
      split <;> omega
  rw [e]
  exact Ev.now _
end
theorem counts_ev (a0 a1 : Int) (M : List Int) (c : Bool) (C : List Int) (F : List S39) (R : List Int) (p0 op : Int) (v : S39) (ha : a0 < 9223372036854775808) (hM : M.length ≤ 4611686018427387904) : Ev (fun k => laminalaw16_SketchCounts.f k a0 a1 M c C F R p0 op v.f0 v.f1 v.f2) true := by
  unfold laminalaw16_SketchCounts.f
  refine Ev.bind (ref_valid a0 a1 M c C F R hM) ?_
  cases hb : validB a0 a1 M c C F R with
  | false => exact Ev_pos rfl awake_ev
  | true =>
    refine Ev_neg (by decide) ?_
    rw [show (⟨v.f0, v.f1, v.f2⟩ : S39) = v from rfl]
    cases hv : rvV v with
    | false => exact Ev_pos rfl awake_ev
    | true =>
      have hv2 : vV v = true := by rw [← rvV_same]; exact hv
      have o := ok_of ha hb
      obtain ⟨_, x1, y1⟩ := equal_same (c := c) o hv2
      obtain ⟨_, x2, y2⟩ := less_same (c := c) o hv2
      obtain ⟨_, x3, y3⟩ := matching_same (c := c) o hv2 p0 op
      obtain ⟨_, x4, y4⟩ := distinct_same (c := c) o
      exact Ev_neg (by decide) (Ev.bind (Ev_same x1 y1) (Ev.bind (Ev_same x2 y2) (Ev.bind (Ev_same x3 y3) (Ev.bind (Ev_same x4 y4) awake_ev))))
end Go.Proofs.Ytackcingpffidaa.P
namespace Go.Proofs.Ytackcingpffidaa.P
open Go.RowKit Go.Proofs.YtackcingpffidaaW.PrintWords Go.Proofs.YtackcingpffidaaW.PrintLast
theorem sketchCounts_pure : ∀ (x0 : S26) (x1 : S41), G26 x0 → G41 x1 → ∃ k, laminalaw16_SketchCounts.f k x0.f0 x0.f1 x0.f2 x0.f3 x0.f4 x0.f5 x0.f6 x1.f0 x1.f1 x1.f2.f0 x1.f2.f1 x1.f2.f2 = some true := by
  intro x y hx _
  have hM : x.f2.length ≤ 4611686018427387904 := by have := hx.2.2.1.1; omega
  have ha : x.f0 < 9223372036854775808 := by
    have h := hx.1
    simp only [Lit.wf, IntKind.min, IntKind.max, IntKind.signed, IntKind.bits, Bool.and_eq_true, decide_eq_true_eq, if_true] at h
    omega
  exact Ev.rounds (counts_ev x.f0 x.f1 x.f2 x.f3 x.f4 x.f5 x.f6 y.f0 y.f1 y.f2 ha hM)
end Go.Proofs.Ytackcingpffidaa.P
