/- What Go functions of the given program return, told as Lean functions, and the walks that show it; written by a program of this session (the print of the kit, turned). Conditions: the hypotheses that stand at each theorem. -/
import Derived.Test.YtiklldjfcdblbaaPx0
import Derived.Test.YtiklldjfcdblbaaPx44
namespace Go.Proofs.Ytiklldjfcdblbaa.P
open Go.RowKit Go.Proofs.YtiklldjfcdblbaaW.PrintWords Go.Proofs.YtiklldjfcdblbaaW.PrintLast Go.Proofs.YtiklldjfcdblbaaW.PrintMore
attribute [local go_sem] max2_int min2_int max_two min_two max_three min_three max_four min_four Go.Proofs.YtiklldjfcdblbaaQ.str_gtr Go.Proofs.YtiklldjfcdblbaaQ.str_leq Go.Proofs.YtiklldjfcdblbaaQ.str_geq   -- for this text's walks alone
set_option linter.unusedVariables false
set_option linter.unusedSimpArgs false

/-! ### value_Hash: function 45 -/
def value_Hash.l0 : Nat → Int → List (S23) → Int → Int → Option (Int)
  | 0, _, _, _, _ => none
  | k + 1, x5, x10, x11, x12 => if x12 < x11 then (if 0 ≤ x12 then (if x12 < (x10.length : Int) then (if ((rd_T23 x10 x12).f0) = 0 then ((checksum_Mix.f (Go.bits .xor .u64 x5 1)).bind fun t703 => (value_Hash.l0 k t703 x10 x11 (wrap64 (x12 + 1)))) else (if ((rd_T23 x10 x12).f0) = 1 then ((checksum_Mix.f (Go.bits .xor .u64 x5 2)).bind fun t704 => ((checksum_Mix.f (Go.bits .xor .u64 t704 (IntKind.u64.wrap ((rd_T23 x10 x12).f1)))).bind fun t705 => (value_Hash.l0 k t705 x10 x11 (wrap64 (x12 + 1))))) else (if ((rd_T23 x10 x12).f0) = 2 then ((checksum_Mix.f (Go.bits .xor .u64 x5 3)).bind fun t706 => ((checksum_Mix.f (Go.bits .xor .u64 t706 (IntKind.u64.wrap ((rd_T23 x10 x12).f1)))).bind fun t707 => (value_Hash.l0 k t707 x10 x11 (wrap64 (x12 + 1))))) else (if ((rd_T23 x10 x12).f0) = 3 then ((checksum_Mix.f (Go.bits .xor .u64 x5 4)).bind fun tM => (if ((rd_T23 x10 x12).f2).size ≤ 9223372036854775807 then ((checksum_Hash.f k tM (bytesOf ((rd_T23 x10 x12).f2))).bind fun tH => (value_Hash.l0 k tH x10 x11 (wrap64 (x12 + 1)))) else none)) else (value_Hash.l0 k x5 x10 x11 (wrap64 (x12 + 1))))))) else (none)) else (none)) else (some x5)
def value_Hash.f (k : Nat) (a0 : Int) (l1 : List (S23)) : Option (Int) := (checksum_Mix.f a0).bind fun t700 => (value_Hash.l0 k t700 l1 (l1.length : Int) 0)
theorem value_Hash.mono_l : ∀ k, (∀ y0 y1 y2 y3, LeO (value_Hash.l0 k y0 y1 y2 y3) (value_Hash.l0 (k + 1) y0 y1 y2 y3))
  | 0 => fun _ _ _ _ r h => by simp [value_Hash.l0] at h
  | k + 1 => by
    have ih0 := value_Hash.mono_l k
    · intro y0 y1 y2 y3
      unfold value_Hash.l0
      repeat' first
      | (with_reducible exact checksum_Hash.mono _ _ _)
      | (with_reducible exact ih0 _ _ _ _)
      | (with_reducible exact LeO.refl _)
      | (with_reducible exact LeO.none _)
      | (with_reducible refine LeO.ite ?_ ?_)
      | (with_reducible refine LeO.bind ?_ (fun _ => ?_))
      | exact ih0 _ _ _ _
      | exact LeO.none _
      | refine LeO.ite ?_ ?_
      | refine LeO.bind ?_ (fun _ => ?_)
theorem value_Hash.mono : ∀ a0 a1 k, LeO (value_Hash.f k a0 a1) (value_Hash.f (k + 1) a0 a1) := by
  intro a0 a1 k
  have ih0 := value_Hash.mono_l k
  unfold value_Hash.f
  repeat' first
      | (with_reducible exact checksum_Hash.mono _ _ _)
      | (with_reducible exact ih0 _ _ _ _)
      | (with_reducible exact LeO.refl _)
      | (with_reducible exact LeO.none _)
      | (with_reducible refine LeO.ite ?_ ?_)
      | (with_reducible refine LeO.bind ?_ (fun _ => ?_))
      | exact ih0 _ _ _ _
      | exact LeO.none _
      | refine LeO.ite ?_ ?_
      | refine LeO.bind ?_ (fun _ => ?_)
def value_Hash.T9 : Bool × List (List Nat × List Nat) := (true, [([], []), ([0], [0]), ([1], [1]), ([], []), ([3], [3]), ([4], [4]), ([2, 5], [2, 5]), ([6, 2], [6]), ([7, 7, 0, 1, 2, 3, 4, 5, 6, 7], [0, 7])])
def value_Hash.B9 : List Nat := [0, 1, 3, 0, 8, 24, 63, 127, 255]
theorem value_Hash.tab9 : rtab .any (opsOf Try.f45 9) = value_Hash.T9 := by kernel_rfl
theorem value_Hash.bits9 : waitsOk value_Hash.T9.2 value_Hash.B9 = true := by kernel_rfl
def value_Hash.T11 : Bool × List (List Nat × List Nat) := (true, [([], []), ([0], [0]), ([1], [1]), ([], []), ([3], [3]), ([4], [4]), ([2, 5], [2, 5]), ([6, 2], [6]), ([7, 7, 0, 1, 2, 3, 4, 5, 6, 7], [0, 7])])
def value_Hash.B11 : List Nat := [0, 1, 3, 0, 8, 24, 63, 127, 255]
theorem value_Hash.tab11 : rtab .any (opsOf Try.f45 11) = value_Hash.T11 := by kernel_rfl
theorem value_Hash.bits11 : waitsOk value_Hash.T11.2 value_Hash.B11 = true := by kernel_rfl
set_option maxHeartbeats 8000000 in
set_option maxRecDepth 100000 in
theorem value_Hash.calls (k : Nat) (a0 : Int) (A1 : Option Addr) (c1 : Nat) (l1 : List (S23)) (r : Int) (w : World) (hr1 : Kd.C k23 w A1 l1.length l1) (hc1 : l1.length ≤ c1) (h : value_Hash.f k a0 l1 = some r) :
    Calls Try.prog 45 #[.int .u64 a0, .slice A1 l1.length c1] w fun e w' => e = .returned (.int .u64 r) ∧ Below w.heap.size w w' := by
  have hu23 := Try.underlying23
  have HR1 := Aside0.mk hr1
  have HC1 := Aside0.mk hc1
  clear hr1 hc1
  have HB := Aside0.mk (Below.refl w.heap.size w)
  have H : ((checksum_Mix.f a0).bind fun t700 => (value_Hash.l0 k t700 l1 (l1.length : Int) 0)) = some r := h
  clear h
  replace H := Option.bind_eq_some_iff.mp H
  obtain ⟨t700, A30, H⟩ := H
  replace H : (value_Hash.l0 k t700 l1 (l1.length : Int) 0) = some r := H
  have A3 := Aside0.mk A30
  clear A30
  have H' := Aside0.mk H
  clear H
  go_enter Try.func45, Try.ntmps45
  go_wp2_with (first | ((with_reducible refine gate_callee (f := 75) rfl ?_); refine goesL_ (some 9) rfl rfl Try.func75 (by kernel_rfl) rfl #[.int .u64 a0] rfl (by (try simp only [List.map_toArray, List.map_cons, List.map_nil]); first | done | rfl | (simp only [List.length_drop, List.length_take]; rfl) | (simp only [Int.ofNat_lt, Int.ofNat_le, gt_iff_lt, ge_iff_le]; rfl)) ?_; (with_reducible refine (checksum_Mix.calls a0 t700 _ A3.out).mono ?_); rintro e w' ⟨rfl, ⟨nd, rfl⟩⟩; refine ⟨_, rfl, ?_⟩))
  go_loopg [5, 12] k (fun kq v5 v12 w' => ∃ (x5_1 : Int) (x12_1 : Int), v5 = .int .u64 x5_1 ∧ v12 = .int .i64 x12_1 ∧ Aside0 (value_Hash.l0 kq x5_1 l1 (l1.length : Int) x12_1 = some r) ∧ Aside0 (kq ≤ k) ∧ Aside0 (Below w.heap.size w w'))
  case atStart => exact ⟨(t700), (0), (by first | rfl | (simp; done) | (simp [*]; done)), (by first | rfl | (simp; done) | (simp [*]; done)), H', ⟨Nat.le_refl _⟩, ⟨by repeat (first | (with_reducible first | exact HB.out | apply below_alloc | apply pw_below_drewN | apply below_drew1) | exact HB.out)⟩⟩
  case round =>
    clear H'
    try clear c1
    try clear p2
    obtain ⟨x5_1, x12_1, rfl, rfl, HA, HK1, HB⟩ := hrel
    cases gk with
    | zero => exact absurd HA.out (by simp [value_Hash.l0])
    | succ k1 =>
      have H := HA.out
      clear HA
      simp only [value_Hash.l0] at H
      by_cases c4 : x12_1 < (l1.length : Int)
      · rw [if_pos c4] at H
        have c4b0 : decide (x12_1 < (l1.length : Int)) = true := decide_eq_true c4
        clear c4
        by_cases c5 : 0 ≤ x12_1
        · rw [if_pos c5] at H
          have c5b0 : decide (0 ≤ x12_1) = true := decide_eq_true c5
          clear c5
          by_cases c6 : x12_1 < (l1.length : Int)
          · rw [if_pos c6] at H
            have c6b0 : decide (x12_1 < (l1.length : Int)) = true := decide_eq_true c6
            clear c6
            by_cases c7 : ((rd_T23 l1 x12_1).f0) = 0
            · rw [if_pos c7] at H
              have c7b0 : (((rd_T23 l1 x12_1).f0) == 0) = true := beq_iff_eq.mpr c7
              have c7b1 : (((rd_T23 l1 x12_1).f0) != 0) = false := bne_eq_false_iff_eq.mpr c7
              clear c7
              replace H := Option.bind_eq_some_iff.mp H
              obtain ⟨t703, A80, H⟩ := H
              replace H : (value_Hash.l0 k1 t703 l1 (l1.length : Int) (wrap64 (x12_1 + 1))) = some r := H
              have A8 := Aside0.mk A80
              clear A80
              have H' := Aside0.mk H
              clear H
              have p701 : 0 ≤ (x12_1 : Int) := of_decide_eq_true (by first | (with_reducible assumption) | assumption)
              have q701 : x12_1 < (l1.length : Int) := of_decide_eq_true (by first | (with_reducible assumption) | assumption)
              obtain ⟨ad701, e701, hx701_0, hx701_1, hx701_2⟩ := at_T23 HR1.out x12_1 p701 q701
              cases e701
              replace hx701_0 := (HB.out.cell (World.block_lt_of_cell? w _ hx701_0)).trans hx701_0
              replace hx701_1 := (HB.out.cell (World.block_lt_of_cell? w _ hx701_1)).trans hx701_1
              replace hx701_2 := (HB.out.cell (World.block_lt_of_cell? w _ hx701_2)).trans hx701_2
              replace p701 := eq_true p701
              replace q701 := eq_true q701
              go_wp2_with (first | ((with_reducible refine gate_dst (N := 7) rfl ?_); refine box_event ?hg (N := 7) ?hd (cs := #[.int .i64 0, .int .i64 0, .string (⟨#[]⟩ : ByteArray)]) (t := 23) ?hr ?_; (case hd => rfl); (case hg => rfl); (case hr => first | (go_simp; done) | (go_simp; rfl)); intro gb702 hg w9 hbox hb; have n0_ := Aside0.mk (below_step (by repeat (first | (with_reducible first | exact HB.out | apply below_alloc | apply pw_below_drewN | apply below_drew1) | exact HB.out)) hb); have n1_ := Aside0.mk (hbox); have n2_ := Aside0.mk ((by rw [hg]; exact (below_size (by repeat (first | (with_reducible first | exact HB.out | apply below_alloc | apply pw_below_drewN | apply below_drew1) | exact HB.out))) : w.heap.size ≤ gb702)); have n3_ := Aside0.mk ((by rw [hg]; exact (below_size (by repeat (first | (with_reducible first | exact HB.out | apply below_alloc | apply pw_below_drewN | apply below_drew1) | exact HB.out))) : w.heap.size ≤ gb702)); clear HB; have HB := n0_; have BK702 := n1_; have GW702 := n2_; have GE702 := n3_; clear n0_ n1_ n2_ n3_; clear hb hbox hg; have hcz10_0 : w9.cell? ⟨gb702, 0, none⟩ = some (.int .i64 0) := (blk_cell BK702.out 0).trans rfl; have hcz10_1 : w9.cell? ⟨gb702, 1, none⟩ = some (.int .i64 0) := (blk_cell BK702.out 1).trans rfl; have hcz10_2 : w9.cell? ⟨gb702, 2, none⟩ = some (.string (⟨#[]⟩ : ByteArray)) := (blk_cell BK702.out 2).trans rfl; have hfz10_0 := blk_frozen BK702.out 0; have hfz10_1 := blk_frozen BK702.out 1; have hfz10_2 := blk_frozen BK702.out 2) | ((with_reducible refine gate_callee (f := 75) rfl ?_); refine goesL_ (some 22) rfl rfl Try.func75 (by kernel_rfl) rfl #[.int .u64 (Go.bits .xor .u64 x5_1 1)] rfl (by (try simp only [List.map_toArray, List.map_cons, List.map_nil]); first | done | rfl | (simp only [List.length_drop, List.length_take]; rfl) | (simp only [Int.ofNat_lt, Int.ofNat_le, gt_iff_lt, ge_iff_le]; rfl)) ?_; (with_reducible refine (checksum_Mix.calls (Go.bits .xor .u64 x5_1 1) t703 _ A8.out).mono ?_); rintro e w' ⟨rfl, ⟨nd, rfl⟩⟩; refine ⟨_, rfl, ?_⟩))
              go_roundg k1
              case measure => have := HK1.out; omega
              case rel => exact ⟨(t703), (wrap64 (x12_1 + 1)), (by first | rfl | (simp; done) | (simp [*]; done)), (by first | rfl | (simp; done) | (simp [*]; done)), H', ⟨by have := HK1.out; omega⟩, ⟨by repeat (first | (with_reducible first | exact HB.out | apply below_alloc | apply pw_below_drewN | apply below_drew1 | refine below_set ?_ GE702.out) | exact HB.out)⟩⟩
            · rw [if_neg c7] at H
              have c7b0 : (((rd_T23 l1 x12_1).f0) == 0) = false := beq_eq_false_iff_ne.mpr c7
              have c7b1 : (((rd_T23 l1 x12_1).f0) != 0) = true := bne_iff_ne.mpr c7
              by_cases c11 : ((rd_T23 l1 x12_1).f0) = 1
              · rw [if_pos c11] at H
                have c11b0 : (((rd_T23 l1 x12_1).f0) == 1) = true := beq_iff_eq.mpr c11
                have c11b1 : (((rd_T23 l1 x12_1).f0) != 1) = false := bne_eq_false_iff_eq.mpr c11
                clear c11
                replace H := Option.bind_eq_some_iff.mp H
                obtain ⟨t704, A120, H⟩ := H
                replace H : ((checksum_Mix.f (Go.bits .xor .u64 t704 (IntKind.u64.wrap ((rd_T23 l1 x12_1).f1)))).bind fun t705 => (value_Hash.l0 k1 t705 l1 (l1.length : Int) (wrap64 (x12_1 + 1)))) = some r := H
                have A12 := Aside0.mk A120
                clear A120
                replace H := Option.bind_eq_some_iff.mp H
                obtain ⟨t705, A130, H⟩ := H
                replace H : (value_Hash.l0 k1 t705 l1 (l1.length : Int) (wrap64 (x12_1 + 1))) = some r := H
                have A13 := Aside0.mk A130
                clear A130
                have H' := Aside0.mk H
                clear H
                have p701 : 0 ≤ (x12_1 : Int) := of_decide_eq_true (by first | (with_reducible assumption) | assumption)
                have q701 : x12_1 < (l1.length : Int) := of_decide_eq_true (by first | (with_reducible assumption) | assumption)
                obtain ⟨ad701, e701, hx701_0, hx701_1, hx701_2⟩ := at_T23 HR1.out x12_1 p701 q701
                cases e701
                replace hx701_0 := (HB.out.cell (World.block_lt_of_cell? w _ hx701_0)).trans hx701_0
                replace hx701_1 := (HB.out.cell (World.block_lt_of_cell? w _ hx701_1)).trans hx701_1
                replace hx701_2 := (HB.out.cell (World.block_lt_of_cell? w _ hx701_2)).trans hx701_2
                replace p701 := eq_true p701
                replace q701 := eq_true q701
                try go_wp2_with (first | ((with_reducible refine gate_dst (N := 7) rfl ?_); refine box_event ?hg (N := 7) ?hd (cs := #[.int .i64 0, .int .i64 0, .string (⟨#[]⟩ : ByteArray)]) (t := 23) ?hr ?_; (case hd => rfl); (case hg => rfl); (case hr => first | (go_simp; done) | (go_simp; rfl)); intro gb702 hg w14 hbox hb; have n0_ := Aside0.mk (below_step (by repeat (first | (with_reducible first | exact HB.out | apply below_alloc | apply pw_below_drewN | apply below_drew1) | exact HB.out)) hb); have n1_ := Aside0.mk (hbox); have n2_ := Aside0.mk ((by rw [hg]; exact (below_size (by repeat (first | (with_reducible first | exact HB.out | apply below_alloc | apply pw_below_drewN | apply below_drew1) | exact HB.out))) : w.heap.size ≤ gb702)); have n3_ := Aside0.mk ((by rw [hg]; exact (below_size (by repeat (first | (with_reducible first | exact HB.out | apply below_alloc | apply pw_below_drewN | apply below_drew1) | exact HB.out))) : w.heap.size ≤ gb702)); clear HB; have HB := n0_; have BK702 := n1_; have GW702 := n2_; have GE702 := n3_; clear n0_ n1_ n2_ n3_; clear hb hbox hg; have hcz15_0 : w14.cell? ⟨gb702, 0, none⟩ = some (.int .i64 0) := (blk_cell BK702.out 0).trans rfl; have hcz15_1 : w14.cell? ⟨gb702, 1, none⟩ = some (.int .i64 0) := (blk_cell BK702.out 1).trans rfl; have hcz15_2 : w14.cell? ⟨gb702, 2, none⟩ = some (.string (⟨#[]⟩ : ByteArray)) := (blk_cell BK702.out 2).trans rfl; have hfz15_0 := blk_frozen BK702.out 0; have hfz15_1 := blk_frozen BK702.out 1; have hfz15_2 := blk_frozen BK702.out 2))
                have n0_ : Aside0 ((((w14.setCell ⟨gb702, 0, none⟩ (.int .i64 ((rd_T23 l1 x12_1).f0))).setCell ⟨gb702, 1, none⟩ (.int .i64 ((rd_T23 l1 x12_1).f1))).setCell ⟨gb702, 2, none⟩ (.string ((rd_T23 l1 x12_1).f2))).heap[gb702]? = some (.cells #[.int .i64 ((rd_T23 l1 x12_1).f0), .int .i64 ((rd_T23 l1 x12_1).f1), .string ((rd_T23 l1 x12_1).f2)] 23 (0, 0))) := ⟨by (with_reducible repeat (first | refine blk_drewN ?_ _ | refine blk_drew ?_ | refine blk_alloc ?_ _)); refine blk_put (cs := #[.int .i64 ((rd_T23 l1 x12_1).f0), .int .i64 ((rd_T23 l1 x12_1).f1), .string (⟨#[]⟩ : ByteArray)]) ?_ 2 _ rfl; (with_reducible repeat (first | refine blk_drewN ?_ _ | refine blk_drew ?_ | refine blk_alloc ?_ _)); refine blk_put (cs := #[.int .i64 ((rd_T23 l1 x12_1).f0), .int .i64 0, .string (⟨#[]⟩ : ByteArray)]) ?_ 1 _ rfl; (with_reducible repeat (first | refine blk_drewN ?_ _ | refine blk_drew ?_ | refine blk_alloc ?_ _)); refine blk_put (cs := #[.int .i64 0, .int .i64 0, .string (⟨#[]⟩ : ByteArray)]) ?_ 0 _ rfl; (with_reducible repeat (first | refine blk_drewN ?_ _ | refine blk_drew ?_ | refine blk_alloc ?_ _)); exact BK702.out⟩
                have n1_ : Aside0 (Below w.heap.size w (((w14.setCell ⟨gb702, 0, none⟩ (.int .i64 ((rd_T23 l1 x12_1).f0))).setCell ⟨gb702, 1, none⟩ (.int .i64 ((rd_T23 l1 x12_1).f1))).setCell ⟨gb702, 2, none⟩ (.string ((rd_T23 l1 x12_1).f2)))) := ⟨by repeat (first | (with_reducible first | exact HB.out | apply below_alloc | apply pw_below_drewN | apply below_drew1 | refine below_set ?_ GE702.out) | exact HB.out)⟩
                (try clear BK702)
                (try clear HB)
                generalize (((w14.setCell ⟨gb702, 0, none⟩ (.int .i64 ((rd_T23 l1 x12_1).f0))).setCell ⟨gb702, 1, none⟩ (.int .i64 ((rd_T23 l1 x12_1).f1))).setCell ⟨gb702, 2, none⟩ (.string ((rd_T23 l1 x12_1).f2))) = w16 at n0_ n1_ ⊢
                have BK702 := n0_
                have HB := n1_
                clear n0_ n1_
                have n0_ := Aside0.mk (blk_drew BK702.out)
                have n1_ := Aside0.mk (below_drew1 HB.out)
                clear BK702
                clear HB
                have BK702 := n0_
                have HB := n1_
                clear n0_ n1_
                refine start_ (n := 9) (S := fun w' => w'.cell? ⟨gb702, 0, none⟩ = some (.int .i64 ((rd_T23 l1 x12_1).f0)) ∧ w'.cell? ⟨gb702, 1, none⟩ = some (.int .i64 ((rd_T23 l1 x12_1).f1)) ∧ w'.cell? ⟨gb702, 2, none⟩ = some (.string ((rd_T23 l1 x12_1).f2))) (ds := []) #[false, false, false, false, false, false, false, false, false] (by kernel_rfl) rfl rfl ⟨(blk_cell BK702.out 0).trans rfl, (blk_cell BK702.out 1).trans rfl, (blk_cell BK702.out 2).trans rfl⟩ (fun hHeld => ?_); refine with_tabW value_Hash.tab9 value_Hash.bits9 (fun HT_ HW_ => ?_)
                generalize w16.drew = w17 at BK702 HB hHeld ⊢
                refine pure_ (i := 0) (N := some 25) (v := ?_) (a' := ?_) #[true, false, false, false, false, false, false, false, false] rfl rfl (any_of HT_.out (by kernel_rfl)) (fun _ _ _ h => h) (Or.inl ⟨by rfl, ?_⟩) ?_ ?_
                rotate_left
                · intro w'
                  go_simp
                  with_reducible rfl
                rotate_left
                · simp only [Act.put, List.setIfInBounds_toArray, List.set_cons_zero, List.set_cons_succ, i64_w, i32_w]
                  rfl
                refine pure_ (i := 1) (N := some 26) (v := ?_) (a' := ?_) #[true, true, false, false, false, false, false, false, false] rfl rfl (any_of HT_.out (by kernel_rfl)) (fun _ _ _ h => h) (Or.inl ⟨by rfl, ?_⟩) ?_ ?_
                rotate_left
                · intro w'
                  go_simp
                  with_reducible rfl
                rotate_left
                · simp only [Act.put, List.setIfInBounds_toArray, List.set_cons_zero, List.set_cons_succ, i64_w, i32_w]
                  rfl
                refine pure_ (i := 3) (N := some 28) (v := ?_) (a' := ?_) #[true, true, false, true, false, false, false, false, false] rfl rfl (any_of HT_.out (by kernel_rfl)) (fun _ _ _ h => h) (Or.inl ⟨by rfl, ?_⟩) ?_ ?_
                rotate_left
                · intro w'
                  go_simp
                  with_reducible rfl
                rotate_left
                · simp only [Act.put, List.setIfInBounds_toArray, List.set_cons_zero, List.set_cons_succ, i64_w, i32_w]
                  rfl
                refine take_ (i := 4) (N := some 29) (v := ?_) (a' := ?_) #[true, true, false, true, true, false, false, false, false] rfl rfl (take_ofW HT_.out HW_.out (by kernel_rfl)) (fun _ _ _ h => h) (Or.inl ⟨by rfl, ?_⟩) hHeld ?_ ?_
                rotate_left
                · rintro w' ⟨s0, s1, s2⟩
                  go_simp
                  with_reducible rfl
                rotate_left
                · simp only [Act.put, List.setIfInBounds_toArray, List.set_cons_zero, List.set_cons_succ, i64_w, i32_w]
                  rfl
                refine pure_ (i := 5) (N := some 30) (v := ?_) (a' := ?_) #[true, true, false, true, true, true, false, false, false] rfl rfl (any_of HT_.out (by kernel_rfl)) (fun _ _ _ h => h) (Or.inl ⟨by rfl, ?_⟩) ?_ ?_
                rotate_left
                · intro w'
                  go_simp
                  with_reducible rfl
                rotate_left
                · simp only [Act.put, List.setIfInBounds_toArray, List.set_cons_zero, List.set_cons_succ, i64_w, i32_w]
                  rfl
                refine one_ (i := 2) (N := some 27) #[true, true, true, true, true, true, false, false, false] rfl rfl (one_of HT_.out (by kernel_rfl)) (by decide) (fun K hK => ?_)
                refine goes_ Try.func75 (by kernel_rfl) rfl #[.int .u64 (Go.bits .xor .u64 x5_1 2)] (by rfl) rfl rfl (by (try simp only [List.map_toArray, List.map_cons, List.map_nil]); first | done | rfl | (simp only [List.length_drop, List.length_take]; rfl) | (simp only [Int.ofNat_lt, Int.ofNat_le, gt_iff_lt, ge_iff_le]; rfl)) ?_
                with_reducible refine (checksum_Mix.calls (Go.bits .xor .u64 x5_1 2) t704 _ A12.out).mono ?_
                rintro e w' ⟨rfl, ⟨nd, rfl⟩⟩
                refine ⟨_, rfl, ?_⟩
                refine hK.out _ _ ⟨(blk_cell BK702.out 0).trans rfl, (blk_cell BK702.out 1).trans rfl, (blk_cell BK702.out 2).trans rfl⟩ (fun hHeld => ?_)
                clear hK K
                refine norm_ (a' := ?_) ?_ ?_
                rotate_left
                · show Act.put _ (some 27) _ = _
                  simp only [Act.put, List.setIfInBounds_toArray, List.set_cons_zero, List.set_cons_succ, i64_w, i32_w]
                  rfl
                refine pure_ (i := 6) (N := some 31) (v := ?_) (a' := ?_) #[true, true, true, true, true, true, true, false, false] rfl rfl (any_of HT_.out (by kernel_rfl)) (fun _ _ _ h => h) (Or.inl ⟨by rfl, ?_⟩) ?_ ?_
                rotate_left
                · intro w'
                  go_simp
                  with_reducible rfl
                rotate_left
                · simp only [Act.put, List.setIfInBounds_toArray, List.set_cons_zero, List.set_cons_succ, i64_w, i32_w]
                  rfl
                refine one_ (i := 7) (N := some 32) #[true, true, true, true, true, true, true, true, false] rfl rfl (one_of HT_.out (by kernel_rfl)) (by decide) (fun K hK => ?_)
                refine goes_ Try.func75 (by kernel_rfl) rfl #[.int .u64 (Go.bits .xor .u64 t704 (IntKind.u64.wrap ((rd_T23 l1 x12_1).f1)))] (by rfl) rfl rfl (by (try simp only [List.map_toArray, List.map_cons, List.map_nil]); first | done | rfl | (simp only [List.length_drop, List.length_take]; rfl) | (simp only [Int.ofNat_lt, Int.ofNat_le, gt_iff_lt, ge_iff_le]; rfl)) ?_
                with_reducible refine (checksum_Mix.calls (Go.bits .xor .u64 t704 (IntKind.u64.wrap ((rd_T23 l1 x12_1).f1))) t705 _ A13.out).mono ?_
                rintro e w' ⟨rfl, ⟨nd, rfl⟩⟩
                refine ⟨_, rfl, ?_⟩
                refine hK.out _ _ ⟨(blk_cell BK702.out 0).trans rfl, (blk_cell BK702.out 1).trans rfl, (blk_cell BK702.out 2).trans rfl⟩ (fun hHeld => ?_)
                clear hK K
                refine norm_ (a' := ?_) ?_ ?_
                rotate_left
                · show Act.put _ (some 32) _ = _
                  simp only [Act.put, List.setIfInBounds_toArray, List.set_cons_zero, List.set_cons_succ, i64_w, i32_w]
                  rfl
                refine pure_ (i := 8) (N := some 5) (v := ?_) (a' := ?_) #[true, true, true, true, true, true, true, true, true] rfl rfl (any_of HT_.out (by kernel_rfl)) (fun _ _ _ h => h) (Or.inl ⟨by rfl, ?_⟩) ?_ ?_
                rotate_left
                · intro w'
                  go_simp
                  with_reducible rfl
                rotate_left
                · simp only [Act.put, List.setIfInBounds_toArray, List.set_cons_zero, List.set_cons_succ, i64_w, i32_w]
                  rfl
                refine done_ (done_of HT_.out (by kernel_rfl)) ?_
                try go_wp2
                go_roundg k1
                case measure => have := HK1.out; omega
                case rel => exact ⟨(t705), (wrap64 (x12_1 + 1)), (by first | rfl | (simp; done) | (simp [*]; done)), (by first | rfl | (simp; done) | (simp [*]; done)), H', ⟨by have := HK1.out; omega⟩, ⟨by repeat (first | (with_reducible first | exact HB.out | apply below_alloc | apply pw_below_drewN | apply below_drew1 | refine below_set ?_ GE702.out) | exact HB.out)⟩⟩
              · rw [if_neg c11] at H
                have c11b0 : (((rd_T23 l1 x12_1).f0) == 1) = false := beq_eq_false_iff_ne.mpr c11
                have c11b1 : (((rd_T23 l1 x12_1).f0) != 1) = true := bne_iff_ne.mpr c11
                by_cases c18 : ((rd_T23 l1 x12_1).f0) = 2
                · rw [if_pos c18] at H
                  have c18b0 : (((rd_T23 l1 x12_1).f0) == 2) = true := beq_iff_eq.mpr c18
                  have c18b1 : (((rd_T23 l1 x12_1).f0) != 2) = false := bne_eq_false_iff_eq.mpr c18
                  clear c18
                  replace H := Option.bind_eq_some_iff.mp H
                  obtain ⟨t706, A190, H⟩ := H
                  replace H : ((checksum_Mix.f (Go.bits .xor .u64 t706 (IntKind.u64.wrap ((rd_T23 l1 x12_1).f1)))).bind fun t707 => (value_Hash.l0 k1 t707 l1 (l1.length : Int) (wrap64 (x12_1 + 1)))) = some r := H
                  have A19 := Aside0.mk A190
                  clear A190
                  replace H := Option.bind_eq_some_iff.mp H
                  obtain ⟨t707, A200, H⟩ := H
                  replace H : (value_Hash.l0 k1 t707 l1 (l1.length : Int) (wrap64 (x12_1 + 1))) = some r := H
                  have A20 := Aside0.mk A200
                  clear A200
                  have H' := Aside0.mk H
                  clear H
                  have p701 : 0 ≤ (x12_1 : Int) := of_decide_eq_true (by first | (with_reducible assumption) | assumption)
                  have q701 : x12_1 < (l1.length : Int) := of_decide_eq_true (by first | (with_reducible assumption) | assumption)
                  obtain ⟨ad701, e701, hx701_0, hx701_1, hx701_2⟩ := at_T23 HR1.out x12_1 p701 q701
                  cases e701
                  replace hx701_0 := (HB.out.cell (World.block_lt_of_cell? w _ hx701_0)).trans hx701_0
                  replace hx701_1 := (HB.out.cell (World.block_lt_of_cell? w _ hx701_1)).trans hx701_1
                  replace hx701_2 := (HB.out.cell (World.block_lt_of_cell? w _ hx701_2)).trans hx701_2
                  replace p701 := eq_true p701
                  replace q701 := eq_true q701
                  try go_wp2_with (first | ((with_reducible refine gate_dst (N := 7) rfl ?_); refine box_event ?hg (N := 7) ?hd (cs := #[.int .i64 0, .int .i64 0, .string (⟨#[]⟩ : ByteArray)]) (t := 23) ?hr ?_; (case hd => rfl); (case hg => rfl); (case hr => first | (go_simp; done) | (go_simp; rfl)); intro gb702 hg w21 hbox hb; have n0_ := Aside0.mk (below_step (by repeat (first | (with_reducible first | exact HB.out | apply below_alloc | apply pw_below_drewN | apply below_drew1) | exact HB.out)) hb); have n1_ := Aside0.mk (hbox); have n2_ := Aside0.mk ((by rw [hg]; exact (below_size (by repeat (first | (with_reducible first | exact HB.out | apply below_alloc | apply pw_below_drewN | apply below_drew1) | exact HB.out))) : w.heap.size ≤ gb702)); have n3_ := Aside0.mk ((by rw [hg]; exact (below_size (by repeat (first | (with_reducible first | exact HB.out | apply below_alloc | apply pw_below_drewN | apply below_drew1) | exact HB.out))) : w.heap.size ≤ gb702)); clear HB; have HB := n0_; have BK702 := n1_; have GW702 := n2_; have GE702 := n3_; clear n0_ n1_ n2_ n3_; clear hb hbox hg; have hcz22_0 : w21.cell? ⟨gb702, 0, none⟩ = some (.int .i64 0) := (blk_cell BK702.out 0).trans rfl; have hcz22_1 : w21.cell? ⟨gb702, 1, none⟩ = some (.int .i64 0) := (blk_cell BK702.out 1).trans rfl; have hcz22_2 : w21.cell? ⟨gb702, 2, none⟩ = some (.string (⟨#[]⟩ : ByteArray)) := (blk_cell BK702.out 2).trans rfl; have hfz22_0 := blk_frozen BK702.out 0; have hfz22_1 := blk_frozen BK702.out 1; have hfz22_2 := blk_frozen BK702.out 2))
                  have n0_ : Aside0 ((((w21.setCell ⟨gb702, 0, none⟩ (.int .i64 ((rd_T23 l1 x12_1).f0))).setCell ⟨gb702, 1, none⟩ (.int .i64 ((rd_T23 l1 x12_1).f1))).setCell ⟨gb702, 2, none⟩ (.string ((rd_T23 l1 x12_1).f2))).heap[gb702]? = some (.cells #[.int .i64 ((rd_T23 l1 x12_1).f0), .int .i64 ((rd_T23 l1 x12_1).f1), .string ((rd_T23 l1 x12_1).f2)] 23 (0, 0))) := ⟨by (with_reducible repeat (first | refine blk_drewN ?_ _ | refine blk_drew ?_ | refine blk_alloc ?_ _)); refine blk_put (cs := #[.int .i64 ((rd_T23 l1 x12_1).f0), .int .i64 ((rd_T23 l1 x12_1).f1), .string (⟨#[]⟩ : ByteArray)]) ?_ 2 _ rfl; (with_reducible repeat (first | refine blk_drewN ?_ _ | refine blk_drew ?_ | refine blk_alloc ?_ _)); refine blk_put (cs := #[.int .i64 ((rd_T23 l1 x12_1).f0), .int .i64 0, .string (⟨#[]⟩ : ByteArray)]) ?_ 1 _ rfl; (with_reducible repeat (first | refine blk_drewN ?_ _ | refine blk_drew ?_ | refine blk_alloc ?_ _)); refine blk_put (cs := #[.int .i64 0, .int .i64 0, .string (⟨#[]⟩ : ByteArray)]) ?_ 0 _ rfl; (with_reducible repeat (first | refine blk_drewN ?_ _ | refine blk_drew ?_ | refine blk_alloc ?_ _)); exact BK702.out⟩
                  have n1_ : Aside0 (Below w.heap.size w (((w21.setCell ⟨gb702, 0, none⟩ (.int .i64 ((rd_T23 l1 x12_1).f0))).setCell ⟨gb702, 1, none⟩ (.int .i64 ((rd_T23 l1 x12_1).f1))).setCell ⟨gb702, 2, none⟩ (.string ((rd_T23 l1 x12_1).f2)))) := ⟨by repeat (first | (with_reducible first | exact HB.out | apply below_alloc | apply pw_below_drewN | apply below_drew1 | refine below_set ?_ GE702.out) | exact HB.out)⟩
                  (try clear BK702)
                  (try clear HB)
                  generalize (((w21.setCell ⟨gb702, 0, none⟩ (.int .i64 ((rd_T23 l1 x12_1).f0))).setCell ⟨gb702, 1, none⟩ (.int .i64 ((rd_T23 l1 x12_1).f1))).setCell ⟨gb702, 2, none⟩ (.string ((rd_T23 l1 x12_1).f2))) = w23 at n0_ n1_ ⊢
                  have BK702 := n0_
                  have HB := n1_
                  clear n0_ n1_
                  have n0_ := Aside0.mk (blk_drew BK702.out)
                  have n1_ := Aside0.mk (below_drew1 HB.out)
                  clear BK702
                  clear HB
                  have BK702 := n0_
                  have HB := n1_
                  clear n0_ n1_
                  refine start_ (n := 9) (S := fun w' => w'.cell? ⟨gb702, 0, none⟩ = some (.int .i64 ((rd_T23 l1 x12_1).f0)) ∧ w'.cell? ⟨gb702, 1, none⟩ = some (.int .i64 ((rd_T23 l1 x12_1).f1)) ∧ w'.cell? ⟨gb702, 2, none⟩ = some (.string ((rd_T23 l1 x12_1).f2))) (ds := []) #[false, false, false, false, false, false, false, false, false] (by kernel_rfl) rfl rfl ⟨(blk_cell BK702.out 0).trans rfl, (blk_cell BK702.out 1).trans rfl, (blk_cell BK702.out 2).trans rfl⟩ (fun hHeld => ?_); refine with_tabW value_Hash.tab11 value_Hash.bits11 (fun HT_ HW_ => ?_)
                  generalize w23.drew = w24 at BK702 HB hHeld ⊢
                  refine pure_ (i := 0) (N := some 35) (v := ?_) (a' := ?_) #[true, false, false, false, false, false, false, false, false] rfl rfl (any_of HT_.out (by kernel_rfl)) (fun _ _ _ h => h) (Or.inl ⟨by rfl, ?_⟩) ?_ ?_
                  rotate_left
                  · intro w'
                    go_simp
                    with_reducible rfl
                  rotate_left
                  · simp only [Act.put, List.setIfInBounds_toArray, List.set_cons_zero, List.set_cons_succ, i64_w, i32_w]
                    rfl
                  refine pure_ (i := 1) (N := some 36) (v := ?_) (a' := ?_) #[true, true, false, false, false, false, false, false, false] rfl rfl (any_of HT_.out (by kernel_rfl)) (fun _ _ _ h => h) (Or.inl ⟨by rfl, ?_⟩) ?_ ?_
                  rotate_left
                  · intro w'
                    go_simp
                    with_reducible rfl
                  rotate_left
                  · simp only [Act.put, List.setIfInBounds_toArray, List.set_cons_zero, List.set_cons_succ, i64_w, i32_w]
                    rfl
                  refine pure_ (i := 3) (N := some 38) (v := ?_) (a' := ?_) #[true, true, false, true, false, false, false, false, false] rfl rfl (any_of HT_.out (by kernel_rfl)) (fun _ _ _ h => h) (Or.inl ⟨by rfl, ?_⟩) ?_ ?_
                  rotate_left
                  · intro w'
                    go_simp
                    with_reducible rfl
                  rotate_left
                  · simp only [Act.put, List.setIfInBounds_toArray, List.set_cons_zero, List.set_cons_succ, i64_w, i32_w]
                    rfl
                  refine take_ (i := 4) (N := some 39) (v := ?_) (a' := ?_) #[true, true, false, true, true, false, false, false, false] rfl rfl (take_ofW HT_.out HW_.out (by kernel_rfl)) (fun _ _ _ h => h) (Or.inl ⟨by rfl, ?_⟩) hHeld ?_ ?_
                  rotate_left
                  · rintro w' ⟨s0, s1, s2⟩
                    go_simp
                    with_reducible rfl
                  rotate_left
                  · simp only [Act.put, List.setIfInBounds_toArray, List.set_cons_zero, List.set_cons_succ, i64_w, i32_w]
                    rfl
                  refine pure_ (i := 5) (N := some 40) (v := ?_) (a' := ?_) #[true, true, false, true, true, true, false, false, false] rfl rfl (any_of HT_.out (by kernel_rfl)) (fun _ _ _ h => h) (Or.inl ⟨by rfl, ?_⟩) ?_ ?_
                  rotate_left
                  · intro w'
                    go_simp
                    with_reducible rfl
                  rotate_left
                  · simp only [Act.put, List.setIfInBounds_toArray, List.set_cons_zero, List.set_cons_succ, i64_w, i32_w]
                    rfl
                  refine one_ (i := 2) (N := some 37) #[true, true, true, true, true, true, false, false, false] rfl rfl (one_of HT_.out (by kernel_rfl)) (by decide) (fun K hK => ?_)
                  refine goes_ Try.func75 (by kernel_rfl) rfl #[.int .u64 (Go.bits .xor .u64 x5_1 3)] (by rfl) rfl rfl (by (try simp only [List.map_toArray, List.map_cons, List.map_nil]); first | done | rfl | (simp only [List.length_drop, List.length_take]; rfl) | (simp only [Int.ofNat_lt, Int.ofNat_le, gt_iff_lt, ge_iff_le]; rfl)) ?_
                  with_reducible refine (checksum_Mix.calls (Go.bits .xor .u64 x5_1 3) t706 _ A19.out).mono ?_
                  rintro e w' ⟨rfl, ⟨nd, rfl⟩⟩
                  refine ⟨_, rfl, ?_⟩
                  refine hK.out _ _ ⟨(blk_cell BK702.out 0).trans rfl, (blk_cell BK702.out 1).trans rfl, (blk_cell BK702.out 2).trans rfl⟩ (fun hHeld => ?_)
                  clear hK K
                  refine norm_ (a' := ?_) ?_ ?_
                  rotate_left
                  · show Act.put _ (some 37) _ = _
                    simp only [Act.put, List.setIfInBounds_toArray, List.set_cons_zero, List.set_cons_succ, i64_w, i32_w]
                    rfl
                  refine pure_ (i := 6) (N := some 41) (v := ?_) (a' := ?_) #[true, true, true, true, true, true, true, false, false] rfl rfl (any_of HT_.out (by kernel_rfl)) (fun _ _ _ h => h) (Or.inl ⟨by rfl, ?_⟩) ?_ ?_
                  rotate_left
                  · intro w'
                    go_simp
                    with_reducible rfl
                  rotate_left
                  · simp only [Act.put, List.setIfInBounds_toArray, List.set_cons_zero, List.set_cons_succ, i64_w, i32_w]
                    rfl
                  refine one_ (i := 7) (N := some 42) #[true, true, true, true, true, true, true, true, false] rfl rfl (one_of HT_.out (by kernel_rfl)) (by decide) (fun K hK => ?_)
                  refine goes_ Try.func75 (by kernel_rfl) rfl #[.int .u64 (Go.bits .xor .u64 t706 (IntKind.u64.wrap ((rd_T23 l1 x12_1).f1)))] (by rfl) rfl rfl (by (try simp only [List.map_toArray, List.map_cons, List.map_nil]); first | done | rfl | (simp only [List.length_drop, List.length_take]; rfl) | (simp only [Int.ofNat_lt, Int.ofNat_le, gt_iff_lt, ge_iff_le]; rfl)) ?_
                  with_reducible refine (checksum_Mix.calls (Go.bits .xor .u64 t706 (IntKind.u64.wrap ((rd_T23 l1 x12_1).f1))) t707 _ A20.out).mono ?_
                  rintro e w' ⟨rfl, ⟨nd, rfl⟩⟩
                  refine ⟨_, rfl, ?_⟩
                  refine hK.out _ _ ⟨(blk_cell BK702.out 0).trans rfl, (blk_cell BK702.out 1).trans rfl, (blk_cell BK702.out 2).trans rfl⟩ (fun hHeld => ?_)
                  clear hK K
                  refine norm_ (a' := ?_) ?_ ?_
                  rotate_left
                  · show Act.put _ (some 42) _ = _
                    simp only [Act.put, List.setIfInBounds_toArray, List.set_cons_zero, List.set_cons_succ, i64_w, i32_w]
                    rfl
                  refine pure_ (i := 8) (N := some 5) (v := ?_) (a' := ?_) #[true, true, true, true, true, true, true, true, true] rfl rfl (any_of HT_.out (by kernel_rfl)) (fun _ _ _ h => h) (Or.inl ⟨by rfl, ?_⟩) ?_ ?_
                  rotate_left
                  · intro w'
                    go_simp
                    with_reducible rfl
                  rotate_left
                  · simp only [Act.put, List.setIfInBounds_toArray, List.set_cons_zero, List.set_cons_succ, i64_w, i32_w]
                    rfl
                  refine done_ (done_of HT_.out (by kernel_rfl)) ?_
                  try go_wp2
                  go_roundg k1
                  case measure => have := HK1.out; omega
                  case rel => exact ⟨(t707), (wrap64 (x12_1 + 1)), (by first | rfl | (simp; done) | (simp [*]; done)), (by first | rfl | (simp; done) | (simp [*]; done)), H', ⟨by have := HK1.out; omega⟩, ⟨by repeat (first | (with_reducible first | exact HB.out | apply below_alloc | apply pw_below_drewN | apply below_drew1 | refine below_set ?_ GE702.out) | exact HB.out)⟩⟩
                · rw [if_neg c18] at H
                  have c18b0 : (((rd_T23 l1 x12_1).f0) == 2) = false := beq_eq_false_iff_ne.mpr c18
                  have c18b1 : (((rd_T23 l1 x12_1).f0) != 2) = true := bne_iff_ne.mpr c18
                  by_cases c25 : ((rd_T23 l1 x12_1).f0) = 3
                  · rw [if_pos c25] at H
                    have c25b0 : (((rd_T23 l1 x12_1).f0) == 3) = true := beq_iff_eq.mpr c25
                    have c25b1 : (((rd_T23 l1 x12_1).f0) != 3) = false := bne_eq_false_iff_eq.mpr c25
                    clear c25
                    replace H := Option.bind_eq_some_iff.mp H
                    obtain ⟨tM, AM0, H⟩ := H
                    have AM := Aside0.mk AM0
                    clear AM0
                    replace H : (if ((rd_T23 l1 x12_1).f2).size ≤ 9223372036854775807 then ((checksum_Hash.f k1 tM (bytesOf ((rd_T23 l1 x12_1).f2))).bind fun tH => (value_Hash.l0 k1 tH l1 (l1.length : Int) (wrap64 (x12_1 + 1)))) else none) = some r := H
                    by_cases hsz : ((rd_T23 l1 x12_1).f2).size ≤ 9223372036854775807
                    · rw [if_pos hsz] at H
                      obtain ⟨tH, AH0, H⟩ := Option.bind_eq_some_iff.mp H
                      have AH := Aside0.mk AH0
                      have H' := Aside0.mk H
                      clear AH0 H
                      have pT : 0 ≤ (x12_1 : Int) := of_decide_eq_true (by first | (with_reducible assumption) | assumption)
                      have qT : x12_1 < (l1.length : Int) := of_decide_eq_true (by first | (with_reducible assumption) | assumption)
                      obtain ⟨adT, eT, hxT_0, hxT_1, hxT_2⟩ := at_T23 HR1.out x12_1 pT qT
                      cases eT
                      replace hxT_0 := (HB.out.cell (World.block_lt_of_cell? w _ hxT_0)).trans hxT_0
                      replace hxT_1 := (HB.out.cell (World.block_lt_of_cell? w _ hxT_1)).trans hxT_1
                      replace hxT_2 := (HB.out.cell (World.block_lt_of_cell? w _ hxT_2)).trans hxT_2
                      replace pT := eq_true pT
                      replace qT := eq_true qT
                      try go_wp2_with (first | ((with_reducible refine gate_dst (N := 7) rfl ?_); refine box_event ?hg (N := 7) ?hd (cs := #[.int .i64 0, .int .i64 0, .string (⟨#[]⟩ : ByteArray)]) (t := 23) ?hr ?_; (case hd => rfl); (case hg => rfl); (case hr => first | (go_simp; done) | (go_simp; rfl)); intro gbT hg wa hbox hb; have n0_ := Aside0.mk (below_step (by repeat (first | (with_reducible first | exact HB.out | apply below_alloc | apply pw_below_drewN | apply below_drew1) | exact HB.out)) hb); have n1_ := Aside0.mk (hbox); have n2_ := Aside0.mk ((by rw [hg]; exact (below_size (by repeat (first | (with_reducible first | exact HB.out | apply below_alloc | apply pw_below_drewN | apply below_drew1) | exact HB.out))) : w.heap.size ≤ gbT)); have n3_ := Aside0.mk ((by rw [hg]; exact (below_size (by repeat (first | (with_reducible first | exact HB.out | apply below_alloc | apply pw_below_drewN | apply below_drew1) | exact HB.out))) : w.heap.size ≤ gbT)); clear HB; have HB := n0_; have BKT := n1_; have GWT := n2_; have GET := n3_; clear n0_ n1_ n2_ n3_; clear hb hbox hg; have hcT_0 : wa.cell? ⟨gbT, 0, none⟩ = some (.int .i64 0) := (blk_cell BKT.out 0).trans rfl; have hcT_1 : wa.cell? ⟨gbT, 1, none⟩ = some (.int .i64 0) := (blk_cell BKT.out 1).trans rfl; have hcT_2 : wa.cell? ⟨gbT, 2, none⟩ = some (.string (⟨#[]⟩ : ByteArray)) := (blk_cell BKT.out 2).trans rfl; have hfT_0 := blk_frozen BKT.out 0; have hfT_1 := blk_frozen BKT.out 1; have hfT_2 := blk_frozen BKT.out 2))
                      have n0_ : Aside0 ((((wa.setCell ⟨gbT, 0, none⟩ (.int .i64 ((rd_T23 l1 x12_1).f0))).setCell ⟨gbT, 1, none⟩ (.int .i64 ((rd_T23 l1 x12_1).f1))).setCell ⟨gbT, 2, none⟩ (.string ((rd_T23 l1 x12_1).f2))).heap[gbT]? = some (.cells #[.int .i64 ((rd_T23 l1 x12_1).f0), .int .i64 ((rd_T23 l1 x12_1).f1), .string ((rd_T23 l1 x12_1).f2)] 23 (0, 0))) := ⟨by (with_reducible repeat (first | refine blk_drewN ?_ _ | refine blk_drew ?_ | refine blk_alloc ?_ _)); refine blk_put (cs := #[.int .i64 ((rd_T23 l1 x12_1).f0), .int .i64 ((rd_T23 l1 x12_1).f1), .string (⟨#[]⟩ : ByteArray)]) ?_ 2 _ rfl; (with_reducible repeat (first | refine blk_drewN ?_ _ | refine blk_drew ?_ | refine blk_alloc ?_ _)); refine blk_put (cs := #[.int .i64 ((rd_T23 l1 x12_1).f0), .int .i64 0, .string (⟨#[]⟩ : ByteArray)]) ?_ 1 _ rfl; (with_reducible repeat (first | refine blk_drewN ?_ _ | refine blk_drew ?_ | refine blk_alloc ?_ _)); refine blk_put (cs := #[.int .i64 0, .int .i64 0, .string (⟨#[]⟩ : ByteArray)]) ?_ 0 _ rfl; (with_reducible repeat (first | refine blk_drewN ?_ _ | refine blk_drew ?_ | refine blk_alloc ?_ _)); exact BKT.out⟩
                      have n1_ : Aside0 (Below w.heap.size w (((wa.setCell ⟨gbT, 0, none⟩ (.int .i64 ((rd_T23 l1 x12_1).f0))).setCell ⟨gbT, 1, none⟩ (.int .i64 ((rd_T23 l1 x12_1).f1))).setCell ⟨gbT, 2, none⟩ (.string ((rd_T23 l1 x12_1).f2)))) := ⟨by repeat (first | (with_reducible first | exact HB.out | apply below_alloc | apply pw_below_drewN | apply below_drew1 | refine below_set ?_ GET.out) | exact HB.out)⟩
                      (try clear BKT)
                      (try clear HB)
                      generalize (((wa.setCell ⟨gbT, 0, none⟩ (.int .i64 ((rd_T23 l1 x12_1).f0))).setCell ⟨gbT, 1, none⟩ (.int .i64 ((rd_T23 l1 x12_1).f1))).setCell ⟨gbT, 2, none⟩ (.string ((rd_T23 l1 x12_1).f2))) = wc at n0_ n1_ ⊢
                      have BKT := n0_
                      have HB := n1_
                      clear n0_ n1_
                      have n0_ := Aside0.mk (blk_drew BKT.out)
                      have n1_ := Aside0.mk (below_drew1 HB.out)
                      clear BKT
                      clear HB
                      have BKT := n0_
                      have HB := n1_
                      clear n0_ n1_
                      have kb := fun W => print_bytes (P := Try.prog) 9 26 5 Try.underlying9 Try.underlying26 Try.underlying5 ((rd_T23 l1 x12_1).f2) W
                      refine start_ (n := 8) (S := fun w' => w'.cell? ⟨gbT, 0, none⟩ = some (.int .i64 ((rd_T23 l1 x12_1).f0)) ∧ w'.cell? ⟨gbT, 1, none⟩ = some (.int .i64 ((rd_T23 l1 x12_1).f1)) ∧ w'.cell? ⟨gbT, 2, none⟩ = some (.string ((rd_T23 l1 x12_1).f2))) (ds := []) #[false, false, false, false, false, false, false, false] (by kernel_rfl) rfl rfl ⟨(blk_cell BKT.out 0).trans rfl, (blk_cell BKT.out 1).trans rfl, (blk_cell BKT.out 2).trans rfl⟩ (fun hHeld => ?_)
                      generalize wc.drew = wd at BKT HB hHeld ⊢
                      refine pure_ (i := 0) (N := some 45) (v := ?_) (a' := ?_) #[true, false, false, false, false, false, false, false] rfl rfl (by kernel_rfl) (fun _ _ _ h => h) (Or.inl ⟨by rfl, ?_⟩) ?_ ?_
                      rotate_left
                      · intro w'
                        go_simp
                        with_reducible rfl
                      rotate_left
                      · simp only [Act.put, List.setIfInBounds_toArray, List.set_cons_zero, List.set_cons_succ, i64_w, i32_w]
                        rfl
                      refine pure_ (i := 1) (N := some 46) (v := ?_) (a' := ?_) #[true, true, false, false, false, false, false, false] rfl rfl (by kernel_rfl) (fun _ _ _ h => h) (Or.inl ⟨by rfl, ?_⟩) ?_ ?_
                      rotate_left
                      · intro w'
                        go_simp
                        with_reducible rfl
                      rotate_left
                      · simp only [Act.put, List.setIfInBounds_toArray, List.set_cons_zero, List.set_cons_succ, i64_w, i32_w]
                        rfl
                      refine pure_ (i := 3) (N := some 48) (v := ?_) (a' := ?_) #[true, true, false, true, false, false, false, false] rfl rfl (by kernel_rfl) (fun _ _ _ h => h) (Or.inl ⟨by rfl, ?_⟩) ?_ ?_
                      rotate_left
                      · intro w'
                        go_simp
                        with_reducible rfl
                      rotate_left
                      · simp only [Act.put, List.setIfInBounds_toArray, List.set_cons_zero, List.set_cons_succ, i64_w, i32_w]
                        rfl
                      refine take_ (i := 4) (N := some 49) (v := ?_) (a' := ?_) #[true, true, false, true, true, false, false, false] rfl rfl (by kernel_rfl) (fun _ _ _ h => h) (Or.inl ⟨by rfl, ?_⟩) hHeld ?_ ?_
                      rotate_left
                      · rintro w' ⟨s0, s1, s2⟩
                        go_simp
                        with_reducible rfl
                      rotate_left
                      · simp only [Act.put, List.setIfInBounds_toArray, List.set_cons_zero, List.set_cons_succ, i64_w, i32_w]
                        rfl
                      refine join_ (σ := Option Addr × Nat) 2 #[true, true, true, true, true, true, false, false] (fun s_ => [(47, .int .u64 tM), (50, .slice s_.1 ((rd_T23 l1 x12_1).f2).size s_.2)]) (fun s_ w' => w'.heap[gbT]? = some (.cells #[.int .i64 ((rd_T23 l1 x12_1).f0), .int .i64 ((rd_T23 l1 x12_1).f1), .string ((rd_T23 l1 x12_1).f2)] 23 (0, 0)) ∧ Kd.C (Kd.int .u8) w' s_.1 ((rd_T23 l1 x12_1).f2).size (bytesOf ((rd_T23 l1 x12_1).f2)) ∧ ((rd_T23 l1 x12_1).f2).size ≤ s_.2 ∧ Below w.heap.size w w') ?_ ?_
                      rotate_left
                      · intro hCont
                        refine two_ (i := 2) (j := 5) (Ni := some 47) (Nj := some 50) #[true, true, true, true, true, false, false, false] #[true, true, false, true, true, true, false, false] rfl rfl rfl rfl (by kernel_rfl) (by decide) (by decide) (fun K hK => ?_) (fun K hK => ?_)
                        · refine goes_ Try.func75 (by kernel_rfl) rfl #[.int .u64 (Go.bits .xor .u64 x5_1 4)] (by rfl) rfl rfl (by (try simp only [List.map_toArray, List.map_cons, List.map_nil]); rfl) ?_
                          with_reducible refine (checksum_Mix.calls (Go.bits .xor .u64 x5_1 4) tM _ AM.out).mono ?_
                          rintro e w' ⟨rfl, ⟨nd, rfl⟩⟩
                          refine ⟨_, rfl, ?_⟩
                          refine hK.out _ _ ⟨(blk_cell BKT.out 0).trans rfl, (blk_cell BKT.out 1).trans rfl, (blk_cell BKT.out 2).trans rfl⟩ (fun hHeld => ?_)
                          clear hK K
                          refine norm_ (a' := ?_) ?_ ?_
                          rotate_left
                          · show Act.put _ (some 47) _ = _
                            simp only [Act.put, List.setIfInBounds_toArray, List.set_cons_zero, List.set_cons_succ, i64_w, i32_w]
                            rfl
                          have n0_ := Aside0.mk (show (World.drewN wd nd).heap[gbT]? = some (.cells #[.int .i64 ((rd_T23 l1 x12_1).f0), .int .i64 ((rd_T23 l1 x12_1).f1), .string ((rd_T23 l1 x12_1).f2)] 23 (0, 0)) from by (with_reducible repeat (first | refine blk_drewN ?_ _ | refine blk_drew ?_ | refine blk_alloc ?_ _)); exact BKT.out)
                          have n1_ := Aside0.mk (show Below w.heap.size w (World.drewN wd nd) from by repeat (first | (with_reducible first | exact HB.out | apply below_alloc | apply pw_below_drewN | apply below_drew1 | refine below_set ?_ GET.out) | exact HB.out))
                          clear BKT HB
                          generalize World.drewN wd nd = wq at n0_ n1_ hHeld ⊢
                          have BKT := n0_
                          have HB := n1_
                          clear n0_ n1_
                          refine one_ (i := 5) (N := some 50) #[true, true, true, true, true, true, false, false] rfl rfl (by kernel_rfl) (by decide) (fun K hK => ?_)
                          refine value_ (w1 := ?_) (v := ?_) (by rfl) rfl ?_ ?_
                          rotate_left 2
                          · go_simp
                            constructor
                            · rfl
                            · rfl
                          have hb2_ := bytes_below (Below.refl wq.heap.size wq) (Nat.le_refl _) 5 ((rd_T23 l1 x12_1).f2)
                          have HCT := Aside0.mk (Kd.C_of_reads (d := (0 : Int)) (h1 := fun _ => rfl) (bytes_reads wq 5 ((rd_T23 l1 x12_1).f2) hsz))
                          have hcap_ := grownCap_ge wq ((rd_T23 l1 x12_1).f2).size 0 5
                          have n0_ := Aside0.mk (blk_below (g := gbT) (o := .cells #[.int .i64 ((rd_T23 l1 x12_1).f0), .int .i64 ((rd_T23 l1 x12_1).f1), .string ((rd_T23 l1 x12_1).f2)] 23 (0, 0)) BKT.out hb2_)
                          have n1_ := Aside0.mk (below_step HB.out hb2_)
                          clear BKT HB hb2_
                          have BKT := n0_
                          have HB := n1_
                          clear n0_ n1_
                          refine hK.out _ _ ⟨(blk_cell BKT.out 0).trans rfl, (blk_cell BKT.out 1).trans rfl, (blk_cell BKT.out 2).trans rfl⟩ (fun hHeld => ?_)
                          clear hK K
                          refine norm_ (a' := ?_) ?_ ?_
                          rotate_left
                          · show Act.put _ (some 50) _ = _
                            simp only [Act.put, List.setIfInBounds_toArray, List.set_cons_zero, List.set_cons_succ, i64_w, i32_w]
                            rfl
                          exact norm_ (by simp only [putAll, Act.put, List.setIfInBounds_toArray, List.set_cons_zero, List.set_cons_succ]) (hCont (some ⟨wq.heap.size, 0, none⟩, grownCap wq ((rd_T23 l1 x12_1).f2).size 0 5) _ ⟨BKT.out, HCT.out, hcap_, by repeat (first | (with_reducible first | exact HB.out | apply below_alloc | apply pw_below_drewN | apply below_drew1) | exact HB.out)⟩)
                        · refine value_ (w1 := ?_) (v := ?_) (by rfl) rfl ?_ ?_
                          rotate_left 2
                          · go_simp
                            constructor
                            · rfl
                            · rfl
                          have hb2_ := bytes_below (Below.refl wd.heap.size wd) (Nat.le_refl _) 5 ((rd_T23 l1 x12_1).f2)
                          have HCT := Aside0.mk (Kd.C_of_reads (d := (0 : Int)) (h1 := fun _ => rfl) (bytes_reads wd 5 ((rd_T23 l1 x12_1).f2) hsz))
                          have hcap_ := grownCap_ge wd ((rd_T23 l1 x12_1).f2).size 0 5
                          have n0_ := Aside0.mk (blk_below (g := gbT) (o := .cells #[.int .i64 ((rd_T23 l1 x12_1).f0), .int .i64 ((rd_T23 l1 x12_1).f1), .string ((rd_T23 l1 x12_1).f2)] 23 (0, 0)) BKT.out hb2_)
                          have n1_ := Aside0.mk (below_step HB.out hb2_)
                          clear BKT HB hb2_
                          have BKT := n0_
                          have HB := n1_
                          clear n0_ n1_
                          refine hK.out _ _ ⟨(blk_cell BKT.out 0).trans rfl, (blk_cell BKT.out 1).trans rfl, (blk_cell BKT.out 2).trans rfl⟩ (fun hHeld => ?_)
                          clear hK K
                          refine norm_ (a' := ?_) ?_ ?_
                          rotate_left
                          · show Act.put _ (some 50) _ = _
                            simp only [Act.put, List.setIfInBounds_toArray, List.set_cons_zero, List.set_cons_succ, i64_w, i32_w]
                            rfl
                          refine one_ (i := 2) (N := some 47) #[true, true, true, true, true, true, false, false] rfl rfl (by kernel_rfl) (by decide) (fun K hK => ?_)
                          refine goes_ Try.func75 (by kernel_rfl) rfl #[.int .u64 (Go.bits .xor .u64 x5_1 4)] (by rfl) rfl rfl (by (try simp only [List.map_toArray, List.map_cons, List.map_nil]); rfl) ?_
                          with_reducible refine (checksum_Mix.calls (Go.bits .xor .u64 x5_1 4) tM _ AM.out).mono ?_
                          rintro e w' ⟨rfl, ⟨nd, rfl⟩⟩
                          refine ⟨_, rfl, ?_⟩
                          refine hK.out _ _ ⟨(blk_cell BKT.out 0).trans rfl, (blk_cell BKT.out 1).trans rfl, (blk_cell BKT.out 2).trans rfl⟩ (fun hHeld => ?_)
                          clear hK K
                          refine norm_ (a' := ?_) ?_ ?_
                          rotate_left
                          · show Act.put _ (some 47) _ = _
                            simp only [Act.put, List.setIfInBounds_toArray, List.set_cons_zero, List.set_cons_succ, i64_w, i32_w]
                            rfl
                          exact norm_ (by simp only [putAll, Act.put, List.setIfInBounds_toArray, List.set_cons_zero, List.set_cons_succ]) (hCont (some ⟨wd.heap.size, 0, none⟩, grownCap wd ((rd_T23 l1 x12_1).f2).size 0 5) _ ⟨(by (with_reducible repeat (first | refine blk_drewN ?_ _ | refine blk_drew ?_ | refine blk_alloc ?_ _)); exact BKT.out), (Kd.C_drewN HCT.out nd), hcap_, by repeat (first | (with_reducible first | exact HB.out | apply below_alloc | apply pw_below_drewN | apply below_drew1) | exact HB.out)⟩)
                      clear BKT HB
                      rintro ⟨A_, cc_⟩ w' ⟨hbk_, hcc_, hcl_, hbb_⟩
                      have BKT := Aside0.mk hbk_
                      have HB := Aside0.mk hbb_
                      have HCT := Aside0.mk hcc_
                      clear hbk_ hbb_ hcc_
                      refine norm_ (a' := ?_) ?_ ?_
                      rotate_left
                      · simp only [putAll, Act.put, List.setIfInBounds_toArray, List.set_cons_zero, List.set_cons_succ]
                        rfl
                      refine one_ (i := 6) (N := some 51) #[true, true, true, true, true, true, true, false] rfl rfl (by kernel_rfl) (by decide) (fun K hK => ?_)
                      refine goes_ Try.func76 (by kernel_rfl) rfl #[.int .u64 tM, .slice A_ ((rd_T23 l1 x12_1).f2).size cc_] (by rfl) rfl rfl (by (try simp only [List.map_toArray, List.map_cons, List.map_nil]); rfl) ?_
                      rw [← bytesOf_length ((rd_T23 l1 x12_1).f2)] at HCT hcl_ ⊢
                      with_reducible refine (checksum_Hash.calls k1 tM A_ cc_ (bytesOf ((rd_T23 l1 x12_1).f2)) tH _ HCT.out hcl_ AH.out).mono ?_
                      rintro e w6 ⟨rfl, hb⟩
                      refine ⟨_, rfl, ?_⟩
                      have n0_ := Aside0.mk (blk_below (g := gbT) (o := .cells #[.int .i64 ((rd_T23 l1 x12_1).f0), .int .i64 ((rd_T23 l1 x12_1).f1), .string ((rd_T23 l1 x12_1).f2)] 23 (0, 0)) BKT.out hb)
                      have n1_ := Aside0.mk (below_step HB.out hb)
                      clear BKT HB
                      have BKT := n0_
                      have HB := n1_
                      clear n0_ n1_ hb
                      refine hK.out _ _ ⟨(blk_cell BKT.out 0).trans rfl, (blk_cell BKT.out 1).trans rfl, (blk_cell BKT.out 2).trans rfl⟩ (fun hHeld => ?_)
                      clear hK K
                      refine norm_ (a' := ?_) ?_ ?_
                      rotate_left
                      · show Act.put _ (some 51) _ = _
                        simp only [Act.put, List.setIfInBounds_toArray, List.set_cons_zero, List.set_cons_succ, i64_w, i32_w]
                        rfl
                      refine pure_ (i := 7) (N := some 5) (v := ?_) (a' := ?_) #[true, true, true, true, true, true, true, true] rfl rfl (by kernel_rfl) (fun _ _ _ h => h) (Or.inl ⟨by rfl, ?_⟩) ?_ ?_
                      rotate_left
                      · intro w'
                        go_simp
                        with_reducible rfl
                      rotate_left
                      · simp only [Act.put, List.setIfInBounds_toArray, List.set_cons_zero, List.set_cons_succ, i64_w, i32_w]
                        rfl
                      refine done_ (by kernel_rfl) ?_
                      try go_wp2
                      go_roundg k1
                      case measure => have := HK1.out; omega
                      case rel => exact ⟨tH, (wrap64 (x12_1 + 1)), (by first | rfl | (simp; done) | (simp [*]; done)), (by first | rfl | (simp; done) | (simp [*]; done)), H', ⟨by have := HK1.out; omega⟩, ⟨by repeat (first | (with_reducible first | exact HB.out | apply below_alloc | apply pw_below_drewN | apply below_drew1) | exact HB.out)⟩⟩
                    · rw [if_neg hsz] at H
                      exact absurd H (by simp)
                  · rw [if_neg c25] at H
                    have c25b0 : (((rd_T23 l1 x12_1).f0) == 3) = false := beq_eq_false_iff_ne.mpr c25
                    have c25b1 : (((rd_T23 l1 x12_1).f0) != 3) = true := bne_iff_ne.mpr c25
                    have H' := Aside0.mk H
                    clear H
                    have p701 : 0 ≤ (x12_1 : Int) := of_decide_eq_true (by first | (with_reducible assumption) | assumption)
                    have q701 : x12_1 < (l1.length : Int) := of_decide_eq_true (by first | (with_reducible assumption) | assumption)
                    obtain ⟨ad701, e701, hx701_0, hx701_1, hx701_2⟩ := at_T23 HR1.out x12_1 p701 q701
                    cases e701
                    replace hx701_0 := (HB.out.cell (World.block_lt_of_cell? w _ hx701_0)).trans hx701_0
                    replace hx701_1 := (HB.out.cell (World.block_lt_of_cell? w _ hx701_1)).trans hx701_1
                    replace hx701_2 := (HB.out.cell (World.block_lt_of_cell? w _ hx701_2)).trans hx701_2
                    replace p701 := eq_true p701
                    replace q701 := eq_true q701
                    go_wp2_with (first | ((with_reducible refine gate_dst (N := 7) rfl ?_); refine box_event ?hg (N := 7) ?hd (cs := #[.int .i64 0, .int .i64 0, .string (⟨#[]⟩ : ByteArray)]) (t := 23) ?hr ?_; (case hd => rfl); (case hg => rfl); (case hr => first | (go_simp; done) | (go_simp; rfl)); intro gb702 hg w27 hbox hb; have n0_ := Aside0.mk (below_step (by repeat (first | (with_reducible first | exact HB.out | apply below_alloc | apply pw_below_drewN | apply below_drew1) | exact HB.out)) hb); have n1_ := Aside0.mk (hbox); have n2_ := Aside0.mk ((by rw [hg]; exact (below_size (by repeat (first | (with_reducible first | exact HB.out | apply below_alloc | apply pw_below_drewN | apply below_drew1) | exact HB.out))) : w.heap.size ≤ gb702)); have n3_ := Aside0.mk ((by rw [hg]; exact (below_size (by repeat (first | (with_reducible first | exact HB.out | apply below_alloc | apply pw_below_drewN | apply below_drew1) | exact HB.out))) : w.heap.size ≤ gb702)); clear HB; have HB := n0_; have BK702 := n1_; have GW702 := n2_; have GE702 := n3_; clear n0_ n1_ n2_ n3_; clear hb hbox hg; have hcz28_0 : w27.cell? ⟨gb702, 0, none⟩ = some (.int .i64 0) := (blk_cell BK702.out 0).trans rfl; have hcz28_1 : w27.cell? ⟨gb702, 1, none⟩ = some (.int .i64 0) := (blk_cell BK702.out 1).trans rfl; have hcz28_2 : w27.cell? ⟨gb702, 2, none⟩ = some (.string (⟨#[]⟩ : ByteArray)) := (blk_cell BK702.out 2).trans rfl; have hfz28_0 := blk_frozen BK702.out 0; have hfz28_1 := blk_frozen BK702.out 1; have hfz28_2 := blk_frozen BK702.out 2))
                    go_roundg k1
                    case measure => have := HK1.out; omega
                    case rel => exact ⟨(x5_1), (wrap64 (x12_1 + 1)), (by first | rfl | (simp; done) | (simp [*]; done)), (by first | rfl | (simp; done) | (simp [*]; done)), H', ⟨by have := HK1.out; omega⟩, ⟨by repeat (first | (with_reducible first | exact HB.out | apply below_alloc | apply pw_below_drewN | apply below_drew1 | refine below_set ?_ GE702.out) | exact HB.out)⟩⟩
          · rw [if_neg c6] at H
            exact absurd H (by simp)
        · rw [if_neg c5] at H
          exact absurd H (by simp)
      · rw [if_neg c4] at H
        have c4b0 : decide (x12_1 < (l1.length : Int)) = false := decide_eq_false c4
        clear c4
        obtain rfl := Option.some.inj H
        go_wp2
        go_ret
        exact ⟨by first | rfl | (simp [errW_none, errW_some] <;> rfl) | (simp [*, errW_none, errW_some] <;> rfl), by repeat (first | (with_reducible first | exact HB.out | apply below_alloc | apply pw_below_drewN | apply below_drew1) | exact HB.out)⟩

end Go.Proofs.Ytiklldjfcdblbaa.P
