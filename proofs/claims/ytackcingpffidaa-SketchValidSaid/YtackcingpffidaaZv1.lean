/- What Go functions of the given program return, told as Lean functions, and the walks that show it, with plain facts on them: value_Hash, sketch_cell, sketch_spread, sketch_count, U3, U4, H53, Sh, S18, S19, S20, sketch_upper. Conditions: the hypotheses that stand at each theorem. -/
import Derived.Sort.Grow
import Derived.Shelf.SlSortCmp.WholeK
import Derived.Shelf.SlicesE.Compact
import Derived.Sort.AssemblyPlain
import Derived.Shelf.SlSortCmp.NoneTotal
import Derived.Test.YtackcingpffidaaZv0
namespace Go.Proofs.Ytackcingpffidaa.P
open Go.RowKit Go.Proofs.YtackcingpffidaaW.PrintWords Go.Proofs.YtackcingpffidaaW.PrintLast Go.Proofs.YtackcingpffidaaW.PrintMore
attribute [local go_sem] max2_int min2_int max_two min_two max_three min_three max_four min_four Go.Proofs.YtackcingpffidaaQ.str_gtr Go.Proofs.YtackcingpffidaaQ.str_leq Go.Proofs.YtackcingpffidaaQ.str_geq   -- for this text's walks alone
set_option linter.unusedVariables false
set_option linter.unusedSimpArgs false
/-! ### value_Hash: function 54 -/
def value_Hash.l0 : Nat → Int → List (S39) → Int → Int → Option (Int)
  | 0, _, _, _, _ => none
  | k + 1, x5, x10, x11, x12 => if x12 < x11 then (if 0 ≤ x12 then (if x12 < (x10.length : Int) then (if ((rd_T39 x10 x12).f0) = 0 then ((checksum_Mix.f (Go.bits .xor .u64 x5 1)).bind fun t370 => (value_Hash.l0 k t370 x10 x11 (wrap64 (x12 + 1)))) else (if ((rd_T39 x10 x12).f0) = 1 then ((checksum_Mix.f (Go.bits .xor .u64 x5 2)).bind fun t371 => ((checksum_Mix.f (Go.bits .xor .u64 t371 (IntKind.u64.wrap ((rd_T39 x10 x12).f1)))).bind fun t372 => (value_Hash.l0 k t372 x10 x11 (wrap64 (x12 + 1))))) else (if ((rd_T39 x10 x12).f0) = 2 then ((checksum_Mix.f (Go.bits .xor .u64 x5 3)).bind fun t373 => ((checksum_Mix.f (Go.bits .xor .u64 t373 (IntKind.u64.wrap ((rd_T39 x10 x12).f1)))).bind fun t374 => (value_Hash.l0 k t374 x10 x11 (wrap64 (x12 + 1))))) else (if ((rd_T39 x10 x12).f0) = 3 then ((checksum_Mix.f (Go.bits .xor .u64 x5 4)).bind fun tM => (if ((rd_T39 x10 x12).f2).size ≤ 9223372036854775807 then ((checksum_Hash.f k tM (bytesOf ((rd_T39 x10 x12).f2))).bind fun tH => (value_Hash.l0 k tH x10 x11 (wrap64 (x12 + 1)))) else none)) else (value_Hash.l0 k x5 x10 x11 (wrap64 (x12 + 1))))))) else (none)) else (none)) else (some x5)
def value_Hash.f (k : Nat) (a0 : Int) (l1 : List (S39)) : Option (Int) := (checksum_Mix.f a0).bind fun t367 => (value_Hash.l0 k t367 l1 (l1.length : Int) 0)
theorem value_Hash.mono_l : ∀ k, (∀ y0 y1 y2 y3, LeO (value_Hash.l0 k y0 y1 y2 y3) (value_Hash.l0 (k + 1) y0 y1 y2 y3))
  | 0 => fun _ _ _ _ r h => by simp [value_Hash.l0] at h
  | k + 1 => by
    have ih0 := value_Hash.mono_l k
    · intro y0 y1 y2 y3
      unfold value_Hash.l0
      repeat' first
      | (with_reducible exact checksum_Hash.mono _ _ _)
      | (with_reducible exact ih0 _ _ _ _)
      | (with_reducible exact LeO.refl _)
      | (with_reducible exact LeO.none _)
      | (with_reducible refine LeO.ite ?_ ?_)
      | (with_reducible refine LeO.bind ?_ (fun _ => ?_))
      | exact ih0 _ _ _ _
      | exact LeO.none _
      | refine LeO.ite ?_ ?_
      | refine LeO.bind ?_ (fun _ => ?_)
theorem value_Hash.mono : ∀ a0 a1 k, LeO (value_Hash.f k a0 a1) (value_Hash.f (k + 1) a0 a1) := by
  intro a0 a1 k
  have ih0 := value_Hash.mono_l k
  unfold value_Hash.f
  repeat' first
      | (with_reducible exact checksum_Hash.mono _ _ _)
      | (with_reducible exact ih0 _ _ _ _)
      | (with_reducible exact LeO.refl _)
      | (with_reducible exact LeO.none _)
      | (with_reducible refine LeO.ite ?_ ?_)
      | (with_reducible refine LeO.bind ?_ (fun _ => ?_))
      | exact ih0 _ _ _ _
      | exact LeO.none _
      | refine LeO.ite ?_ ?_
      | refine LeO.bind ?_ (fun _ => ?_)
def value_Hash.T9 : Bool × List (List Nat × List Nat) := (true, [([], []), ([0], [0]), ([1], [1]), ([], []), ([3], [3]), ([4], [4]), ([2, 5], [2, 5]), ([6, 2], [6]), ([7, 7, 0, 1, 2, 3, 4, 5, 6, 7], [0, 7])])
def value_Hash.B9 : List Nat := [0, 1, 3, 0, 8, 24, 63, 127, 255]
theorem value_Hash.tab9 : rtab .any (opsOf Try.f54 9) = value_Hash.T9 := by kernel_rfl
theorem value_Hash.bits9 : waitsOk value_Hash.T9.2 value_Hash.B9 = true := by kernel_rfl
def value_Hash.T11 : Bool × List (List Nat × List Nat) := (true, [([], []), ([0], [0]), ([1], [1]), ([], []), ([3], [3]), ([4], [4]), ([2, 5], [2, 5]), ([6, 2], [6]), ([7, 7, 0, 1, 2, 3, 4, 5, 6, 7], [0, 7])])
def value_Hash.B11 : List Nat := [0, 1, 3, 0, 8, 24, 63, 127, 255]
theorem value_Hash.tab11 : rtab .any (opsOf Try.f54 11) = value_Hash.T11 := by kernel_rfl
theorem value_Hash.bits11 : waitsOk value_Hash.T11.2 value_Hash.B11 = true := by kernel_rfl
set_option maxHeartbeats 8000000 in
set_option maxRecDepth 100000 in
theorem value_Hash.calls (k : Nat) (a0 : Int) (A1 : Option Addr) (c1 : Nat) (l1 : List (S39)) (r : Int) (w : World) (hr1 : Kd.C k39 w A1 l1.length l1) (hc1 : l1.length ≤ c1) (h : value_Hash.f k a0 l1 = some r) :
    Calls Try.prog 54 #[.int .u64 a0, .slice A1 l1.length c1] w fun e w' => e = .returned (.int .u64 r) ∧ Below w.heap.size w w' := by
  have hu39 := Try.underlying39
  have HR1 := Aside0.mk hr1
  have HC1 := Aside0.mk hc1
  clear hr1 hc1
  have HB := Aside0.mk (Below.refl w.heap.size w)
  have H : ((checksum_Mix.f a0).bind fun t367 => (value_Hash.l0 k t367 l1 (l1.length : Int) 0)) = some r := h
  clear h
  replace H := Option.bind_eq_some_iff.mp H
  obtain ⟨t367, A30, H⟩ := H
  replace H : (value_Hash.l0 k t367 l1 (l1.length : Int) 0) = some r := H
  have A3 := Aside0.mk A30
  clear A30
  have H' := Aside0.mk H
  clear H
  go_enter Try.func54, Try.ntmps54
  go_wp2_with (first | ((with_reducible refine gate_callee (f := 101) rfl ?_); refine goesL_ (some 9) rfl rfl Try.func101 (by kernel_rfl) rfl #[.int .u64 a0] rfl (by (try simp only [List.map_toArray, List.map_cons, List.map_nil]); first | done | rfl | (simp only [List.length_drop, List.length_take]; rfl) | (simp only [Int.ofNat_lt, Int.ofNat_le, gt_iff_lt, ge_iff_le]; rfl)) ?_; (with_reducible refine (checksum_Mix.calls a0 t367 _ A3.out).mono ?_); rintro e w' ⟨rfl, ⟨nd, rfl⟩⟩; refine ⟨_, rfl, ?_⟩))
  go_loopg [5, 12] k (fun kq v5 v12 w' => ∃ (x5_1 : Int) (x12_1 : Int), v5 = .int .u64 x5_1 ∧ v12 = .int .i64 x12_1 ∧ Aside0 (value_Hash.l0 kq x5_1 l1 (l1.length : Int) x12_1 = some r) ∧ Aside0 (kq ≤ k) ∧ Aside0 (Below w.heap.size w w'))
  case atStart => exact ⟨(t367), (0), (by first | rfl | (simp; done) | (simp [*]; done)), (by first | rfl | (simp; done) | (simp [*]; done)), H', ⟨Nat.le_refl _⟩, ⟨by repeat (first | (with_reducible first | exact HB.out | apply below_alloc | apply pw_below_drewN | apply below_drew1) | exact HB.out)⟩⟩
  case round =>
    clear H'
    try clear c1
    try clear p2
    obtain ⟨x5_1, x12_1, rfl, rfl, HA, HK1, HB⟩ := hrel
    cases gk with
    | zero => exact absurd HA.out (by simp [value_Hash.l0])
    | succ k1 =>
      have H := HA.out
      clear HA
      simp only [value_Hash.l0] at H
      by_cases c4 : x12_1 < (l1.length : Int)
      · rw [if_pos c4] at H
        have c4b0 : decide (x12_1 < (l1.length : Int)) = true := decide_eq_true c4
        clear c4
        by_cases c5 : 0 ≤ x12_1
        · rw [if_pos c5] at H
          have c5b0 : decide (0 ≤ x12_1) = true := decide_eq_true c5
          clear c5
          by_cases c6 : x12_1 < (l1.length : Int)
          · rw [if_pos c6] at H
            have c6b0 : decide (x12_1 < (l1.length : Int)) = true := decide_eq_true c6
            clear c6
            by_cases c7 : ((rd_T39 l1 x12_1).f0) = 0
            · rw [if_pos c7] at H
              have c7b0 : (((rd_T39 l1 x12_1).f0) == 0) = true := beq_iff_eq.mpr c7
              have c7b1 : (((rd_T39 l1 x12_1).f0) != 0) = false := bne_eq_false_iff_eq.mpr c7
              clear c7
              replace H := Option.bind_eq_some_iff.mp H
              obtain ⟨t370, A80, H⟩ := H
              replace H : (value_Hash.l0 k1 t370 l1 (l1.length : Int) (wrap64 (x12_1 + 1))) = some r := H
              have A8 := Aside0.mk A80
              clear A80
              have H' := Aside0.mk H
              clear H
              have p368 : 0 ≤ (x12_1 : Int) := of_decide_eq_true (by first | (with_reducible assumption) | assumption)
              have q368 : x12_1 < (l1.length : Int) := of_decide_eq_true (by first | (with_reducible assumption) | assumption)
              obtain ⟨ad368, e368, hx368_0, hx368_1, hx368_2⟩ := at_T39 HR1.out x12_1 p368 q368
              cases e368
              replace hx368_0 := (HB.out.cell (World.block_lt_of_cell? w _ hx368_0)).trans hx368_0
              replace hx368_1 := (HB.out.cell (World.block_lt_of_cell? w _ hx368_1)).trans hx368_1
              replace hx368_2 := (HB.out.cell (World.block_lt_of_cell? w _ hx368_2)).trans hx368_2
              replace p368 := eq_true p368
              replace q368 := eq_true q368
              go_wp2_with (first | ((with_reducible refine gate_dst (N := 7) rfl ?_); refine box_event ?hg (N := 7) ?hd (cs := #[.int .i64 0, .int .i64 0, .string (⟨#[]⟩ : ByteArray)]) (t := 39) ?hr ?_; (case hd => rfl); (case hg => rfl); (case hr => first | (go_simp; done) | (go_simp; rfl)); intro gb369 hg w9 hbox hb; have n0_ := Aside0.mk (below_step (by repeat (first | (with_reducible first | exact HB.out | apply below_alloc | apply pw_below_drewN | apply below_drew1) | exact HB.out)) hb); have n1_ := Aside0.mk (hbox); have n2_ := Aside0.mk ((by rw [hg]; exact (below_size (by repeat (first | (with_reducible first | exact HB.out | apply below_alloc | apply pw_below_drewN | apply below_drew1) | exact HB.out))) : w.heap.size ≤ gb369)); have n3_ := Aside0.mk ((by rw [hg]; exact (below_size (by repeat (first | (with_reducible first | exact HB.out | apply below_alloc | apply pw_below_drewN | apply below_drew1) | exact HB.out))) : w.heap.size ≤ gb369)); clear HB; have HB := n0_; have BK369 := n1_; have GW369 := n2_; have GE369 := n3_; clear n0_ n1_ n2_ n3_; clear hb hbox hg; have hcz10_0 : w9.cell? ⟨gb369, 0, none⟩ = some (.int .i64 0) := (blk_cell BK369.out 0).trans rfl; have hcz10_1 : w9.cell? ⟨gb369, 1, none⟩ = some (.int .i64 0) := (blk_cell BK369.out 1).trans rfl; have hcz10_2 : w9.cell? ⟨gb369, 2, none⟩ = some (.string (⟨#[]⟩ : ByteArray)) := (blk_cell BK369.out 2).trans rfl; have hfz10_0 := blk_frozen BK369.out 0; have hfz10_1 := blk_frozen BK369.out 1; have hfz10_2 := blk_frozen BK369.out 2) | ((with_reducible refine gate_callee (f := 101) rfl ?_); refine goesL_ (some 22) rfl rfl Try.func101 (by kernel_rfl) rfl #[.int .u64 (Go.bits .xor .u64 x5_1 1)] rfl (by (try simp only [List.map_toArray, List.map_cons, List.map_nil]); first | done | rfl | (simp only [List.length_drop, List.length_take]; rfl) | (simp only [Int.ofNat_lt, Int.ofNat_le, gt_iff_lt, ge_iff_le]; rfl)) ?_; (with_reducible refine (checksum_Mix.calls (Go.bits .xor .u64 x5_1 1) t370 _ A8.out).mono ?_); rintro e w' ⟨rfl, ⟨nd, rfl⟩⟩; refine ⟨_, rfl, ?_⟩))
              go_roundg k1
              case measure => have := HK1.out; omega
              case rel => exact ⟨(t370), (wrap64 (x12_1 + 1)), (by first | rfl | (simp; done) | (simp [*]; done)), (by first | rfl | (simp; done) | (simp [*]; done)), H', ⟨by have := HK1.out; omega⟩, ⟨by repeat (first | (with_reducible first | exact HB.out | apply below_alloc | apply pw_below_drewN | apply below_drew1 | refine below_set ?_ GE369.out) | exact HB.out)⟩⟩
            · rw [if_neg c7] at H
              have c7b0 : (((rd_T39 l1 x12_1).f0) == 0) = false := beq_eq_false_iff_ne.mpr c7
              have c7b1 : (((rd_T39 l1 x12_1).f0) != 0) = true := bne_iff_ne.mpr c7
              by_cases c11 : ((rd_T39 l1 x12_1).f0) = 1
              · rw [if_pos c11] at H
                have c11b0 : (((rd_T39 l1 x12_1).f0) == 1) = true := beq_iff_eq.mpr c11
                have c11b1 : (((rd_T39 l1 x12_1).f0) != 1) = false := bne_eq_false_iff_eq.mpr c11
                clear c11
                replace H := Option.bind_eq_some_iff.mp H
                obtain ⟨t371, A120, H⟩ := H
                replace H : ((checksum_Mix.f (Go.bits .xor .u64 t371 (IntKind.u64.wrap ((rd_T39 l1 x12_1).f1)))).bind fun t372 => (value_Hash.l0 k1 t372 l1 (l1.length : Int) (wrap64 (x12_1 + 1)))) = some r := H
                have A12 := Aside0.mk A120
                clear A120
                replace H := Option.bind_eq_some_iff.mp H
                obtain ⟨t372, A130, H⟩ := H
                replace H : (value_Hash.l0 k1 t372 l1 (l1.length : Int) (wrap64 (x12_1 + 1))) = some r := H
                have A13 := Aside0.mk A130
                clear A130
                have H' := Aside0.mk H
                clear H
                have p368 : 0 ≤ (x12_1 : Int) := of_decide_eq_true (by first | (with_reducible assumption) | assumption)
                have q368 : x12_1 < (l1.length : Int) := of_decide_eq_true (by first | (with_reducible assumption) | assumption)
                obtain ⟨ad368, e368, hx368_0, hx368_1, hx368_2⟩ := at_T39 HR1.out x12_1 p368 q368
                cases e368
                replace hx368_0 := (HB.out.cell (World.block_lt_of_cell? w _ hx368_0)).trans hx368_0
                replace hx368_1 := (HB.out.cell (World.block_lt_of_cell? w _ hx368_1)).trans hx368_1
                replace hx368_2 := (HB.out.cell (World.block_lt_of_cell? w _ hx368_2)).trans hx368_2
                replace p368 := eq_true p368
                replace q368 := eq_true q368
                try go_wp2_with (first | ((with_reducible refine gate_dst (N := 7) rfl ?_); refine box_event ?hg (N := 7) ?hd (cs := #[.int .i64 0, .int .i64 0, .string (⟨#[]⟩ : ByteArray)]) (t := 39) ?hr ?_; (case hd => rfl); (case hg => rfl); (case hr => first | (go_simp; done) | (go_simp; rfl)); intro gb369 hg w14 hbox hb; have n0_ := Aside0.mk (below_step (by repeat (first | (with_reducible first | exact HB.out | apply below_alloc | apply pw_below_drewN | apply below_drew1) | exact HB.out)) hb); have n1_ := Aside0.mk (hbox); have n2_ := Aside0.mk ((by rw [hg]; exact (below_size (by repeat (first | (with_reducible first | exact HB.out | apply below_alloc | apply pw_below_drewN | apply below_drew1) | exact HB.out))) : w.heap.size ≤ gb369)); have n3_ := Aside0.mk ((by rw [hg]; exact (below_size (by repeat (first | (with_reducible first | exact HB.out | apply below_alloc | apply pw_below_drewN | apply below_drew1) | exact HB.out))) : w.heap.size ≤ gb369)); clear HB; have HB := n0_; have BK369 := n1_; have GW369 := n2_; have GE369 := n3_; clear n0_ n1_ n2_ n3_; clear hb hbox hg; have hcz15_0 : w14.cell? ⟨gb369, 0, none⟩ = some (.int .i64 0) := (blk_cell BK369.out 0).trans rfl; have hcz15_1 : w14.cell? ⟨gb369, 1, none⟩ = some (.int .i64 0) := (blk_cell BK369.out 1).trans rfl; have hcz15_2 : w14.cell? ⟨gb369, 2, none⟩ = some (.string (⟨#[]⟩ : ByteArray)) := (blk_cell BK369.out 2).trans rfl; have hfz15_0 := blk_frozen BK369.out 0; have hfz15_1 := blk_frozen BK369.out 1; have hfz15_2 := blk_frozen BK369.out 2))
                have n0_ : Aside0 ((((w14.setCell ⟨gb369, 0, none⟩ (.int .i64 ((rd_T39 l1 x12_1).f0))).setCell ⟨gb369, 1, none⟩ (.int .i64 ((rd_T39 l1 x12_1).f1))).setCell ⟨gb369, 2, none⟩ (.string ((rd_T39 l1 x12_1).f2))).heap[gb369]? = some (.cells #[.int .i64 ((rd_T39 l1 x12_1).f0), .int .i64 ((rd_T39 l1 x12_1).f1), .string ((rd_T39 l1 x12_1).f2)] 39 (0, 0))) := ⟨by (with_reducible repeat (first | refine blk_drewN ?_ _ | refine blk_drew ?_ | refine blk_alloc ?_ _)); refine blk_put (cs := #[.int .i64 ((rd_T39 l1 x12_1).f0), .int .i64 ((rd_T39 l1 x12_1).f1), .string (⟨#[]⟩ : ByteArray)]) ?_ 2 _ rfl; (with_reducible repeat (first | refine blk_drewN ?_ _ | refine blk_drew ?_ | refine blk_alloc ?_ _)); refine blk_put (cs := #[.int .i64 ((rd_T39 l1 x12_1).f0), .int .i64 0, .string (⟨#[]⟩ : ByteArray)]) ?_ 1 _ rfl; (with_reducible repeat (first | refine blk_drewN ?_ _ | refine blk_drew ?_ | refine blk_alloc ?_ _)); refine blk_put (cs := #[.int .i64 0, .int .i64 0, .string (⟨#[]⟩ : ByteArray)]) ?_ 0 _ rfl; (with_reducible repeat (first | refine blk_drewN ?_ _ | refine blk_drew ?_ | refine blk_alloc ?_ _)); exact BK369.out⟩
                have n1_ : Aside0 (Below w.heap.size w (((w14.setCell ⟨gb369, 0, none⟩ (.int .i64 ((rd_T39 l1 x12_1).f0))).setCell ⟨gb369, 1, none⟩ (.int .i64 ((rd_T39 l1 x12_1).f1))).setCell ⟨gb369, 2, none⟩ (.string ((rd_T39 l1 x12_1).f2)))) := ⟨by repeat (first | (with_reducible first | exact HB.out | apply below_alloc | apply pw_below_drewN | apply below_drew1 | refine below_set ?_ GE369.out) | exact HB.out)⟩
                (try clear BK369)
                (try clear HB)
                generalize (((w14.setCell ⟨gb369, 0, none⟩ (.int .i64 ((rd_T39 l1 x12_1).f0))).setCell ⟨gb369, 1, none⟩ (.int .i64 ((rd_T39 l1 x12_1).f1))).setCell ⟨gb369, 2, none⟩ (.string ((rd_T39 l1 x12_1).f2))) = w16 at n0_ n1_ ⊢
                have BK369 := n0_
                have HB := n1_
                clear n0_ n1_
                have n0_ := Aside0.mk (blk_drew BK369.out)
                have n1_ := Aside0.mk (below_drew1 HB.out)
                clear BK369
                clear HB
                have BK369 := n0_
                have HB := n1_
                clear n0_ n1_
                refine start_ (n := 9) (S := fun w' => w'.cell? ⟨gb369, 0, none⟩ = some (.int .i64 ((rd_T39 l1 x12_1).f0)) ∧ w'.cell? ⟨gb369, 1, none⟩ = some (.int .i64 ((rd_T39 l1 x12_1).f1)) ∧ w'.cell? ⟨gb369, 2, none⟩ = some (.string ((rd_T39 l1 x12_1).f2))) (ds := []) #[false, false, false, false, false, false, false, false, false] (by kernel_rfl) rfl rfl ⟨(blk_cell BK369.out 0).trans rfl, (blk_cell BK369.out 1).trans rfl, (blk_cell BK369.out 2).trans rfl⟩ (fun hHeld => ?_); refine with_tabW value_Hash.tab9 value_Hash.bits9 (fun HT_ HW_ => ?_)
                generalize w16.drew = w17 at BK369 HB hHeld ⊢
                refine pu_ HT_ 0 (some 25) ?_
                refine pu_ HT_ 1 (some 26) ?_
                refine pu_ HT_ 3 (some 28) ?_
                refine tk_ HT_ HW_ 4 (some 29) hHeld ?_
                refine pu_ HT_ 5 (some 30) ?_
                refine on_ HT_ 2 (some 27) (fun K hK => ?_)
                refine goes_ Try.func101 (by kernel_rfl) rfl #[.int .u64 (Go.bits .xor .u64 x5_1 2)] (by rfl) rfl rfl (by (try simp only [List.map_toArray, List.map_cons, List.map_nil]); first | done | rfl | (simp only [List.length_drop, List.length_take]; rfl) | (simp only [Int.ofNat_lt, Int.ofNat_le, gt_iff_lt, ge_iff_le]; rfl)) ?_
                with_reducible refine (checksum_Mix.calls (Go.bits .xor .u64 x5_1 2) t371 _ A12.out).mono ?_
                rintro e w' ⟨rfl, ⟨nd, rfl⟩⟩
                refine ⟨_, rfl, ?_⟩
                refine hK.out _ _ ⟨(blk_cell BK369.out 0).trans rfl, (blk_cell BK369.out 1).trans rfl, (blk_cell BK369.out 2).trans rfl⟩ (fun hHeld => ?_)
                clear hK K
                refine norm_ (a' := ?_) ?_ ?_
                rotate_left
                · show Act.put _ (some 27) _ = _
                  simp only [Act.put, List.setIfInBounds_toArray, List.set_cons_zero, List.set_cons_succ, i64_w, i32_w]
                  rfl
                refine pu_ HT_ 6 (some 31) ?_
                refine on_ HT_ 7 (some 32) (fun K hK => ?_)
                refine goes_ Try.func101 (by kernel_rfl) rfl #[.int .u64 (Go.bits .xor .u64 t371 (IntKind.u64.wrap ((rd_T39 l1 x12_1).f1)))] (by rfl) rfl rfl (by (try simp only [List.map_toArray, List.map_cons, List.map_nil]); first | done | rfl | (simp only [List.length_drop, List.length_take]; rfl) | (simp only [Int.ofNat_lt, Int.ofNat_le, gt_iff_lt, ge_iff_le]; rfl)) ?_
                with_reducible refine (checksum_Mix.calls (Go.bits .xor .u64 t371 (IntKind.u64.wrap ((rd_T39 l1 x12_1).f1))) t372 _ A13.out).mono ?_
                rintro e w' ⟨rfl, ⟨nd, rfl⟩⟩
                refine ⟨_, rfl, ?_⟩
                refine hK.out _ _ ⟨(blk_cell BK369.out 0).trans rfl, (blk_cell BK369.out 1).trans rfl, (blk_cell BK369.out 2).trans rfl⟩ (fun hHeld => ?_)
                clear hK K
                refine norm_ (a' := ?_) ?_ ?_
                rotate_left
                · show Act.put _ (some 32) _ = _
                  simp only [Act.put, List.setIfInBounds_toArray, List.set_cons_zero, List.set_cons_succ, i64_w, i32_w]
                  rfl
                refine pu_ HT_ 8 (some 5) ?_
                refine done_ (done_of HT_.out (by kernel_rfl)) ?_
                try go_wp2
                go_roundg k1
                case measure => have := HK1.out; omega
                case rel => exact ⟨(t372), (wrap64 (x12_1 + 1)), (by first | rfl | (simp; done) | (simp [*]; done)), (by first | rfl | (simp; done) | (simp [*]; done)), H', ⟨by have := HK1.out; omega⟩, ⟨by repeat (first | (with_reducible first | exact HB.out | apply below_alloc | apply pw_below_drewN | apply below_drew1 | refine below_set ?_ GE369.out) | exact HB.out)⟩⟩
              · rw [if_neg c11] at H
                have c11b0 : (((rd_T39 l1 x12_1).f0) == 1) = false := beq_eq_false_iff_ne.mpr c11
                have c11b1 : (((rd_T39 l1 x12_1).f0) != 1) = true := bne_iff_ne.mpr c11
                by_cases c18 : ((rd_T39 l1 x12_1).f0) = 2
                · rw [if_pos c18] at H
                  have c18b0 : (((rd_T39 l1 x12_1).f0) == 2) = true := beq_iff_eq.mpr c18
                  have c18b1 : (((rd_T39 l1 x12_1).f0) != 2) = false := bne_eq_false_iff_eq.mpr c18
                  clear c18
                  replace H := Option.bind_eq_some_iff.mp H
                  obtain ⟨t373, A190, H⟩ := H
                  replace H : ((checksum_Mix.f (Go.bits .xor .u64 t373 (IntKind.u64.wrap ((rd_T39 l1 x12_1).f1)))).bind fun t374 => (value_Hash.l0 k1 t374 l1 (l1.length : Int) (wrap64 (x12_1 + 1)))) = some r := H
                  have A19 := Aside0.mk A190
                  clear A190
                  replace H := Option.bind_eq_some_iff.mp H
                  obtain ⟨t374, A200, H⟩ := H
                  replace H : (value_Hash.l0 k1 t374 l1 (l1.length : Int) (wrap64 (x12_1 + 1))) = some r := H
                  have A20 := Aside0.mk A200
                  clear A200
                  have H' := Aside0.mk H
                  clear H
                  have p368 : 0 ≤ (x12_1 : Int) := of_decide_eq_true (by first | (with_reducible assumption) | assumption)
                  have q368 : x12_1 < (l1.length : Int) := of_decide_eq_true (by first | (with_reducible assumption) | assumption)
                  obtain ⟨ad368, e368, hx368_0, hx368_1, hx368_2⟩ := at_T39 HR1.out x12_1 p368 q368
                  cases e368
                  replace hx368_0 := (HB.out.cell (World.block_lt_of_cell? w _ hx368_0)).trans hx368_0
                  replace hx368_1 := (HB.out.cell (World.block_lt_of_cell? w _ hx368_1)).trans hx368_1
                  replace hx368_2 := (HB.out.cell (World.block_lt_of_cell? w _ hx368_2)).trans hx368_2
                  replace p368 := eq_true p368
                  replace q368 := eq_true q368
                  try go_wp2_with (first | ((with_reducible refine gate_dst (N := 7) rfl ?_); refine box_event ?hg (N := 7) ?hd (cs := #[.int .i64 0, .int .i64 0, .string (⟨#[]⟩ : ByteArray)]) (t := 39) ?hr ?_; (case hd => rfl); (case hg => rfl); (case hr => first | (go_simp; done) | (go_simp; rfl)); intro gb369 hg w21 hbox hb; have n0_ := Aside0.mk (below_step (by repeat (first | (with_reducible first | exact HB.out | apply below_alloc | apply pw_below_drewN | apply below_drew1) | exact HB.out)) hb); have n1_ := Aside0.mk (hbox); have n2_ := Aside0.mk ((by rw [hg]; exact (below_size (by repeat (first | (with_reducible first | exact HB.out | apply below_alloc | apply pw_below_drewN | apply below_drew1) | exact HB.out))) : w.heap.size ≤ gb369)); have n3_ := Aside0.mk ((by rw [hg]; exact (below_size (by repeat (first | (with_reducible first | exact HB.out | apply below_alloc | apply pw_below_drewN | apply below_drew1) | exact HB.out))) : w.heap.size ≤ gb369)); clear HB; have HB := n0_; have BK369 := n1_; have GW369 := n2_; have GE369 := n3_; clear n0_ n1_ n2_ n3_; clear hb hbox hg; have hcz22_0 : w21.cell? ⟨gb369, 0, none⟩ = some (.int .i64 0) := (blk_cell BK369.out 0).trans rfl; have hcz22_1 : w21.cell? ⟨gb369, 1, none⟩ = some (.int .i64 0) := (blk_cell BK369.out 1).trans rfl; have hcz22_2 : w21.cell? ⟨gb369, 2, none⟩ = some (.string (⟨#[]⟩ : ByteArray)) := (blk_cell BK369.out 2).trans rfl; have hfz22_0 := blk_frozen BK369.out 0; have hfz22_1 := blk_frozen BK369.out 1; have hfz22_2 := blk_frozen BK369.out 2))
                  have n0_ : Aside0 ((((w21.setCell ⟨gb369, 0, none⟩ (.int .i64 ((rd_T39 l1 x12_1).f0))).setCell ⟨gb369, 1, none⟩ (.int .i64 ((rd_T39 l1 x12_1).f1))).setCell ⟨gb369, 2, none⟩ (.string ((rd_T39 l1 x12_1).f2))).heap[gb369]? = some (.cells #[.int .i64 ((rd_T39 l1 x12_1).f0), .int .i64 ((rd_T39 l1 x12_1).f1), .string ((rd_T39 l1 x12_1).f2)] 39 (0, 0))) := ⟨by (with_reducible repeat (first | refine blk_drewN ?_ _ | refine blk_drew ?_ | refine blk_alloc ?_ _)); refine blk_put (cs := #[.int .i64 ((rd_T39 l1 x12_1).f0), .int .i64 ((rd_T39 l1 x12_1).f1), .string (⟨#[]⟩ : ByteArray)]) ?_ 2 _ rfl; (with_reducible repeat (first | refine blk_drewN ?_ _ | refine blk_drew ?_ | refine blk_alloc ?_ _)); refine blk_put (cs := #[.int .i64 ((rd_T39 l1 x12_1).f0), .int .i64 0, .string (⟨#[]⟩ : ByteArray)]) ?_ 1 _ rfl; (with_reducible repeat (first | refine blk_drewN ?_ _ | refine blk_drew ?_ | refine blk_alloc ?_ _)); refine blk_put (cs := #[.int .i64 0, .int .i64 0, .string (⟨#[]⟩ : ByteArray)]) ?_ 0 _ rfl; (with_reducible repeat (first | refine blk_drewN ?_ _ | refine blk_drew ?_ | refine blk_alloc ?_ _)); exact BK369.out⟩
                  have n1_ : Aside0 (Below w.heap.size w (((w21.setCell ⟨gb369, 0, none⟩ (.int .i64 ((rd_T39 l1 x12_1).f0))).setCell ⟨gb369, 1, none⟩ (.int .i64 ((rd_T39 l1 x12_1).f1))).setCell ⟨gb369, 2, none⟩ (.string ((rd_T39 l1 x12_1).f2)))) := ⟨by repeat (first | (with_reducible first | exact HB.out | apply below_alloc | apply pw_below_drewN | apply below_drew1 | refine below_set ?_ GE369.out) | exact HB.out)⟩
                  (try clear BK369)
                  (try clear HB)
                  generalize (((w21.setCell ⟨gb369, 0, none⟩ (.int .i64 ((rd_T39 l1 x12_1).f0))).setCell ⟨gb369, 1, none⟩ (.int .i64 ((rd_T39 l1 x12_1).f1))).setCell ⟨gb369, 2, none⟩ (.string ((rd_T39 l1 x12_1).f2))) = w23 at n0_ n1_ ⊢
                  have BK369 := n0_
                  have HB := n1_
                  clear n0_ n1_
                  have n0_ := Aside0.mk (blk_drew BK369.out)
                  have n1_ := Aside0.mk (below_drew1 HB.out)
                  clear BK369
                  clear HB
                  have BK369 := n0_
                  have HB := n1_
                  clear n0_ n1_
                  refine start_ (n := 9) (S := fun w' => w'.cell? ⟨gb369, 0, none⟩ = some (.int .i64 ((rd_T39 l1 x12_1).f0)) ∧ w'.cell? ⟨gb369, 1, none⟩ = some (.int .i64 ((rd_T39 l1 x12_1).f1)) ∧ w'.cell? ⟨gb369, 2, none⟩ = some (.string ((rd_T39 l1 x12_1).f2))) (ds := []) #[false, false, false, false, false, false, false, false, false] (by kernel_rfl) rfl rfl ⟨(blk_cell BK369.out 0).trans rfl, (blk_cell BK369.out 1).trans rfl, (blk_cell BK369.out 2).trans rfl⟩ (fun hHeld => ?_); refine with_tabW value_Hash.tab11 value_Hash.bits11 (fun HT_ HW_ => ?_)
                  generalize w23.drew = w24 at BK369 HB hHeld ⊢
                  refine pu_ HT_ 0 (some 35) ?_
                  refine pu_ HT_ 1 (some 36) ?_
                  refine pu_ HT_ 3 (some 38) ?_
                  refine tk_ HT_ HW_ 4 (some 39) hHeld ?_
                  refine pu_ HT_ 5 (some 40) ?_
                  refine on_ HT_ 2 (some 37) (fun K hK => ?_)
                  refine goes_ Try.func101 (by kernel_rfl) rfl #[.int .u64 (Go.bits .xor .u64 x5_1 3)] (by rfl) rfl rfl (by (try simp only [List.map_toArray, List.map_cons, List.map_nil]); first | done | rfl | (simp only [List.length_drop, List.length_take]; rfl) | (simp only [Int.ofNat_lt, Int.ofNat_le, gt_iff_lt, ge_iff_le]; rfl)) ?_
                  with_reducible refine (checksum_Mix.calls (Go.bits .xor .u64 x5_1 3) t373 _ A19.out).mono ?_
                  rintro e w' ⟨rfl, ⟨nd, rfl⟩⟩
                  refine ⟨_, rfl, ?_⟩
                  refine hK.out _ _ ⟨(blk_cell BK369.out 0).trans rfl, (blk_cell BK369.out 1).trans rfl, (blk_cell BK369.out 2).trans rfl⟩ (fun hHeld => ?_)
                  clear hK K
                  refine norm_ (a' := ?_) ?_ ?_
                  rotate_left
                  · show Act.put _ (some 37) _ = _
                    simp only [Act.put, List.setIfInBounds_toArray, List.set_cons_zero, List.set_cons_succ, i64_w, i32_w]
                    rfl
                  refine pu_ HT_ 6 (some 41) ?_
                  refine on_ HT_ 7 (some 42) (fun K hK => ?_)
                  refine goes_ Try.func101 (by kernel_rfl) rfl #[.int .u64 (Go.bits .xor .u64 t373 (IntKind.u64.wrap ((rd_T39 l1 x12_1).f1)))] (by rfl) rfl rfl (by (try simp only [List.map_toArray, List.map_cons, List.map_nil]); first | done | rfl | (simp only [List.length_drop, List.length_take]; rfl) | (simp only [Int.ofNat_lt, Int.ofNat_le, gt_iff_lt, ge_iff_le]; rfl)) ?_
                  with_reducible refine (checksum_Mix.calls (Go.bits .xor .u64 t373 (IntKind.u64.wrap ((rd_T39 l1 x12_1).f1))) t374 _ A20.out).mono ?_
                  rintro e w' ⟨rfl, ⟨nd, rfl⟩⟩
                  refine ⟨_, rfl, ?_⟩
                  refine hK.out _ _ ⟨(blk_cell BK369.out 0).trans rfl, (blk_cell BK369.out 1).trans rfl, (blk_cell BK369.out 2).trans rfl⟩ (fun hHeld => ?_)
                  clear hK K
                  refine norm_ (a' := ?_) ?_ ?_
                  rotate_left
                  · show Act.put _ (some 42) _ = _
                    simp only [Act.put, List.setIfInBounds_toArray, List.set_cons_zero, List.set_cons_succ, i64_w, i32_w]
                    rfl
                  refine pu_ HT_ 8 (some 5) ?_
                  refine done_ (done_of HT_.out (by kernel_rfl)) ?_
                  try go_wp2
                  go_roundg k1
                  case measure => have := HK1.out; omega
                  case rel => exact ⟨(t374), (wrap64 (x12_1 + 1)), (by first | rfl | (simp; done) | (simp [*]; done)), (by first | rfl | (simp; done) | (simp [*]; done)), H', ⟨by have := HK1.out; omega⟩, ⟨by repeat (first | (with_reducible first | exact HB.out | apply below_alloc | apply pw_below_drewN | apply below_drew1 | refine below_set ?_ GE369.out) | exact HB.out)⟩⟩
                · rw [if_neg c18] at H
                  have c18b0 : (((rd_T39 l1 x12_1).f0) == 2) = false := beq_eq_false_iff_ne.mpr c18
                  have c18b1 : (((rd_T39 l1 x12_1).f0) != 2) = true := bne_iff_ne.mpr c18
                  by_cases c25 : ((rd_T39 l1 x12_1).f0) = 3
                  · rw [if_pos c25] at H
                    have c25b0 : (((rd_T39 l1 x12_1).f0) == 3) = true := beq_iff_eq.mpr c25
                    have c25b1 : (((rd_T39 l1 x12_1).f0) != 3) = false := bne_eq_false_iff_eq.mpr c25
                    clear c25
                    replace H := Option.bind_eq_some_iff.mp H
                    obtain ⟨tM, AM0, H⟩ := H
                    have AM := Aside0.mk AM0
                    clear AM0
                    replace H : (if ((rd_T39 l1 x12_1).f2).size ≤ 9223372036854775807 then ((checksum_Hash.f k1 tM (bytesOf ((rd_T39 l1 x12_1).f2))).bind fun tH => (value_Hash.l0 k1 tH l1 (l1.length : Int) (wrap64 (x12_1 + 1)))) else none) = some r := H
                    by_cases hsz : ((rd_T39 l1 x12_1).f2).size ≤ 9223372036854775807
                    · rw [if_pos hsz] at H
                      obtain ⟨tH, AH0, H⟩ := Option.bind_eq_some_iff.mp H
                      have AH := Aside0.mk AH0
                      have H' := Aside0.mk H
                      clear AH0 H
                      have pT : 0 ≤ (x12_1 : Int) := of_decide_eq_true (by first | (with_reducible assumption) | assumption)
                      have qT : x12_1 < (l1.length : Int) := of_decide_eq_true (by first | (with_reducible assumption) | assumption)
                      obtain ⟨adT, eT, hxT_0, hxT_1, hxT_2⟩ := at_T39 HR1.out x12_1 pT qT
                      cases eT
                      replace hxT_0 := (HB.out.cell (World.block_lt_of_cell? w _ hxT_0)).trans hxT_0
                      replace hxT_1 := (HB.out.cell (World.block_lt_of_cell? w _ hxT_1)).trans hxT_1
                      replace hxT_2 := (HB.out.cell (World.block_lt_of_cell? w _ hxT_2)).trans hxT_2
                      replace pT := eq_true pT
                      replace qT := eq_true qT
                      try go_wp2_with (first | ((with_reducible refine gate_dst (N := 7) rfl ?_); refine box_event ?hg (N := 7) ?hd (cs := #[.int .i64 0, .int .i64 0, .string (⟨#[]⟩ : ByteArray)]) (t := 39) ?hr ?_; (case hd => rfl); (case hg => rfl); (case hr => first | (go_simp; done) | (go_simp; rfl)); intro gbT hg wa hbox hb; have n0_ := Aside0.mk (below_step (by repeat (first | (with_reducible first | exact HB.out | apply below_alloc | apply pw_below_drewN | apply below_drew1) | exact HB.out)) hb); have n1_ := Aside0.mk (hbox); have n2_ := Aside0.mk ((by rw [hg]; exact (below_size (by repeat (first | (with_reducible first | exact HB.out | apply below_alloc | apply pw_below_drewN | apply below_drew1) | exact HB.out))) : w.heap.size ≤ gbT)); have n3_ := Aside0.mk ((by rw [hg]; exact (below_size (by repeat (first | (with_reducible first | exact HB.out | apply below_alloc | apply pw_below_drewN | apply below_drew1) | exact HB.out))) : w.heap.size ≤ gbT)); clear HB; have HB := n0_; have BKT := n1_; have GWT := n2_; have GET := n3_; clear n0_ n1_ n2_ n3_; clear hb hbox hg; have hcT_0 : wa.cell? ⟨gbT, 0, none⟩ = some (.int .i64 0) := (blk_cell BKT.out 0).trans rfl; have hcT_1 : wa.cell? ⟨gbT, 1, none⟩ = some (.int .i64 0) := (blk_cell BKT.out 1).trans rfl; have hcT_2 : wa.cell? ⟨gbT, 2, none⟩ = some (.string (⟨#[]⟩ : ByteArray)) := (blk_cell BKT.out 2).trans rfl; have hfT_0 := blk_frozen BKT.out 0; have hfT_1 := blk_frozen BKT.out 1; have hfT_2 := blk_frozen BKT.out 2))
                      have n0_ : Aside0 ((((wa.setCell ⟨gbT, 0, none⟩ (.int .i64 ((rd_T39 l1 x12_1).f0))).setCell ⟨gbT, 1, none⟩ (.int .i64 ((rd_T39 l1 x12_1).f1))).setCell ⟨gbT, 2, none⟩ (.string ((rd_T39 l1 x12_1).f2))).heap[gbT]? = some (.cells #[.int .i64 ((rd_T39 l1 x12_1).f0), .int .i64 ((rd_T39 l1 x12_1).f1), .string ((rd_T39 l1 x12_1).f2)] 39 (0, 0))) := ⟨by (with_reducible repeat (first | refine blk_drewN ?_ _ | refine blk_drew ?_ | refine blk_alloc ?_ _)); refine blk_put (cs := #[.int .i64 ((rd_T39 l1 x12_1).f0), .int .i64 ((rd_T39 l1 x12_1).f1), .string (⟨#[]⟩ : ByteArray)]) ?_ 2 _ rfl; (with_reducible repeat (first | refine blk_drewN ?_ _ | refine blk_drew ?_ | refine blk_alloc ?_ _)); refine blk_put (cs := #[.int .i64 ((rd_T39 l1 x12_1).f0), .int .i64 0, .string (⟨#[]⟩ : ByteArray)]) ?_ 1 _ rfl; (with_reducible repeat (first | refine blk_drewN ?_ _ | refine blk_drew ?_ | refine blk_alloc ?_ _)); refine blk_put (cs := #[.int .i64 0, .int .i64 0, .string (⟨#[]⟩ : ByteArray)]) ?_ 0 _ rfl; (with_reducible repeat (first | refine blk_drewN ?_ _ | refine blk_drew ?_ | refine blk_alloc ?_ _)); exact BKT.out⟩
                      have n1_ : Aside0 (Below w.heap.size w (((wa.setCell ⟨gbT, 0, none⟩ (.int .i64 ((rd_T39 l1 x12_1).f0))).setCell ⟨gbT, 1, none⟩ (.int .i64 ((rd_T39 l1 x12_1).f1))).setCell ⟨gbT, 2, none⟩ (.string ((rd_T39 l1 x12_1).f2)))) := ⟨by repeat (first | (with_reducible first | exact HB.out | apply below_alloc | apply pw_below_drewN | apply below_drew1 | refine below_set ?_ GET.out) | exact HB.out)⟩
                      (try clear BKT)
                      (try clear HB)
                      generalize (((wa.setCell ⟨gbT, 0, none⟩ (.int .i64 ((rd_T39 l1 x12_1).f0))).setCell ⟨gbT, 1, none⟩ (.int .i64 ((rd_T39 l1 x12_1).f1))).setCell ⟨gbT, 2, none⟩ (.string ((rd_T39 l1 x12_1).f2))) = wc at n0_ n1_ ⊢
                      have BKT := n0_
                      have HB := n1_
                      clear n0_ n1_
                      have n0_ := Aside0.mk (blk_drew BKT.out)
                      have n1_ := Aside0.mk (below_drew1 HB.out)
                      clear BKT
                      clear HB
                      have BKT := n0_
                      have HB := n1_
                      clear n0_ n1_
                      have kb := fun W => print_bytes (P := Try.prog) 9 27 5 Try.underlying9 Try.underlying27 Try.underlying5 ((rd_T39 l1 x12_1).f2) W
                      refine start_ (n := 8) (S := fun w' => w'.cell? ⟨gbT, 0, none⟩ = some (.int .i64 ((rd_T39 l1 x12_1).f0)) ∧ w'.cell? ⟨gbT, 1, none⟩ = some (.int .i64 ((rd_T39 l1 x12_1).f1)) ∧ w'.cell? ⟨gbT, 2, none⟩ = some (.string ((rd_T39 l1 x12_1).f2))) (ds := []) #[false, false, false, false, false, false, false, false] (by kernel_rfl) rfl rfl ⟨(blk_cell BKT.out 0).trans rfl, (blk_cell BKT.out 1).trans rfl, (blk_cell BKT.out 2).trans rfl⟩ (fun hHeld => ?_)
                      generalize wc.drew = wd at BKT HB hHeld ⊢
                      refine pure_ (i := 0) (N := some 45) (v := ?_) (a' := ?_) #[true, false, false, false, false, false, false, false] rfl rfl (by kernel_rfl) (fun _ _ _ h => h) (Or.inl ⟨by rfl, ?_⟩) ?_ ?_
                      rotate_left
                      · intro w'
                        go_simp
                        with_reducible rfl
                      rotate_left
                      · simp only [Act.put, List.setIfInBounds_toArray, List.set_cons_zero, List.set_cons_succ, i64_w, i32_w]
                        rfl
                      refine pure_ (i := 1) (N := some 46) (v := ?_) (a' := ?_) #[true, true, false, false, false, false, false, false] rfl rfl (by kernel_rfl) (fun _ _ _ h => h) (Or.inl ⟨by rfl, ?_⟩) ?_ ?_
                      rotate_left
                      · intro w'
                        go_simp
                        with_reducible rfl
                      rotate_left
                      · simp only [Act.put, List.setIfInBounds_toArray, List.set_cons_zero, List.set_cons_succ, i64_w, i32_w]
                        rfl
                      refine pure_ (i := 3) (N := some 48) (v := ?_) (a' := ?_) #[true, true, false, true, false, false, false, false] rfl rfl (by kernel_rfl) (fun _ _ _ h => h) (Or.inl ⟨by rfl, ?_⟩) ?_ ?_
                      rotate_left
                      · intro w'
                        go_simp
                        with_reducible rfl
                      rotate_left
                      · simp only [Act.put, List.setIfInBounds_toArray, List.set_cons_zero, List.set_cons_succ, i64_w, i32_w]
                        rfl
                      refine take_ (i := 4) (N := some 49) (v := ?_) (a' := ?_) #[true, true, false, true, true, false, false, false] rfl rfl (by kernel_rfl) (fun _ _ _ h => h) (Or.inl ⟨by rfl, ?_⟩) hHeld ?_ ?_
                      rotate_left
                      · rintro w' ⟨s0, s1, s2⟩
                        go_simp
                        with_reducible rfl
                      rotate_left
                      · simp only [Act.put, List.setIfInBounds_toArray, List.set_cons_zero, List.set_cons_succ, i64_w, i32_w]
                        rfl
                      refine join_ (σ := Option Addr × Nat) 2 #[true, true, true, true, true, true, false, false] (fun s_ => [(47, .int .u64 tM), (50, .slice s_.1 ((rd_T39 l1 x12_1).f2).size s_.2)]) (fun s_ w' => w'.heap[gbT]? = some (.cells #[.int .i64 ((rd_T39 l1 x12_1).f0), .int .i64 ((rd_T39 l1 x12_1).f1), .string ((rd_T39 l1 x12_1).f2)] 39 (0, 0)) ∧ Kd.C (Kd.int .u8) w' s_.1 ((rd_T39 l1 x12_1).f2).size (bytesOf ((rd_T39 l1 x12_1).f2)) ∧ ((rd_T39 l1 x12_1).f2).size ≤ s_.2 ∧ Below w.heap.size w w') ?_ ?_
                      rotate_left
                      · intro hCont
                        refine two_ (i := 2) (j := 5) (Ni := some 47) (Nj := some 50) #[true, true, true, true, true, false, false, false] #[true, true, false, true, true, true, false, false] rfl rfl rfl rfl (by kernel_rfl) (by decide) (by decide) (fun K hK => ?_) (fun K hK => ?_)
                        · refine goes_ Try.func101 (by kernel_rfl) rfl #[.int .u64 (Go.bits .xor .u64 x5_1 4)] (by rfl) rfl rfl (by (try simp only [List.map_toArray, List.map_cons, List.map_nil]); rfl) ?_
                          with_reducible refine (checksum_Mix.calls (Go.bits .xor .u64 x5_1 4) tM _ AM.out).mono ?_
                          rintro e w' ⟨rfl, ⟨nd, rfl⟩⟩
                          refine ⟨_, rfl, ?_⟩
                          refine hK.out _ _ ⟨(blk_cell BKT.out 0).trans rfl, (blk_cell BKT.out 1).trans rfl, (blk_cell BKT.out 2).trans rfl⟩ (fun hHeld => ?_)
                          clear hK K
                          refine norm_ (a' := ?_) ?_ ?_
                          rotate_left
                          · show Act.put _ (some 47) _ = _
                            simp only [Act.put, List.setIfInBounds_toArray, List.set_cons_zero, List.set_cons_succ, i64_w, i32_w]
                            rfl
                          have n0_ := Aside0.mk (show (World.drewN wd nd).heap[gbT]? = some (.cells #[.int .i64 ((rd_T39 l1 x12_1).f0), .int .i64 ((rd_T39 l1 x12_1).f1), .string ((rd_T39 l1 x12_1).f2)] 39 (0, 0)) from by (with_reducible repeat (first | refine blk_drewN ?_ _ | refine blk_drew ?_ | refine blk_alloc ?_ _)); exact BKT.out)
                          have n1_ := Aside0.mk (show Below w.heap.size w (World.drewN wd nd) from by repeat (first | (with_reducible first | exact HB.out | apply below_alloc | apply pw_below_drewN | apply below_drew1 | refine below_set ?_ GET.out) | exact HB.out))
                          clear BKT HB
                          generalize World.drewN wd nd = wq at n0_ n1_ hHeld ⊢
                          have BKT := n0_
                          have HB := n1_
                          clear n0_ n1_
                          refine one_ (i := 5) (N := some 50) #[true, true, true, true, true, true, false, false] rfl rfl (by kernel_rfl) (by decide) (fun K hK => ?_)
                          refine value_ (w1 := ?_) (v := ?_) (by rfl) rfl ?_ ?_
                          rotate_left 2
                          · go_simp
                            constructor
                            · rfl
                            · rfl
                          have hb2_ := bytes_below (Below.refl wq.heap.size wq) (Nat.le_refl _) 5 ((rd_T39 l1 x12_1).f2)
                          have HCT := Aside0.mk (Kd.C_of_reads (d := (0 : Int)) (h1 := fun _ => rfl) (bytes_reads wq 5 ((rd_T39 l1 x12_1).f2) hsz))
                          have hcap_ := grownCap_ge wq ((rd_T39 l1 x12_1).f2).size 0 5
                          have n0_ := Aside0.mk (blk_below (g := gbT) (o := .cells #[.int .i64 ((rd_T39 l1 x12_1).f0), .int .i64 ((rd_T39 l1 x12_1).f1), .string ((rd_T39 l1 x12_1).f2)] 39 (0, 0)) BKT.out hb2_)
                          have n1_ := Aside0.mk (below_step HB.out hb2_)
                          clear BKT HB hb2_
                          have BKT := n0_
                          have HB := n1_
                          clear n0_ n1_
                          refine hK.out _ _ ⟨(blk_cell BKT.out 0).trans rfl, (blk_cell BKT.out 1).trans rfl, (blk_cell BKT.out 2).trans rfl⟩ (fun hHeld => ?_)
                          clear hK K
                          refine norm_ (a' := ?_) ?_ ?_
                          rotate_left
                          · show Act.put _ (some 50) _ = _
                            simp only [Act.put, List.setIfInBounds_toArray, List.set_cons_zero, List.set_cons_succ, i64_w, i32_w]
                            rfl
                          exact norm_ (by simp only [putAll, Act.put, List.setIfInBounds_toArray, List.set_cons_zero, List.set_cons_succ]) (hCont (some ⟨wq.heap.size, 0, none⟩, grownCap wq ((rd_T39 l1 x12_1).f2).size 0 5) _ ⟨BKT.out, HCT.out, hcap_, by repeat (first | (with_reducible first | exact HB.out | apply below_alloc | apply pw_below_drewN | apply below_drew1) | exact HB.out)⟩)
                        · refine value_ (w1 := ?_) (v := ?_) (by rfl) rfl ?_ ?_
                          rotate_left 2
                          · go_simp
                            constructor
                            · rfl
                            · rfl
                          have hb2_ := bytes_below (Below.refl wd.heap.size wd) (Nat.le_refl _) 5 ((rd_T39 l1 x12_1).f2)
                          have HCT := Aside0.mk (Kd.C_of_reads (d := (0 : Int)) (h1 := fun _ => rfl) (bytes_reads wd 5 ((rd_T39 l1 x12_1).f2) hsz))
                          have hcap_ := grownCap_ge wd ((rd_T39 l1 x12_1).f2).size 0 5
                          have n0_ := Aside0.mk (blk_below (g := gbT) (o := .cells #[.int .i64 ((rd_T39 l1 x12_1).f0), .int .i64 ((rd_T39 l1 x12_1).f1), .string ((rd_T39 l1 x12_1).f2)] 39 (0, 0)) BKT.out hb2_)
                          have n1_ := Aside0.mk (below_step HB.out hb2_)
                          clear BKT HB hb2_
                          have BKT := n0_
                          have HB := n1_
                          clear n0_ n1_
                          refine hK.out _ _ ⟨(blk_cell BKT.out 0).trans rfl, (blk_cell BKT.out 1).trans rfl, (blk_cell BKT.out 2).trans rfl⟩ (fun hHeld => ?_)
                          clear hK K
                          refine norm_ (a' := ?_) ?_ ?_
                          rotate_left
                          · show Act.put _ (some 50) _ = _
                            simp only [Act.put, List.setIfInBounds_toArray, List.set_cons_zero, List.set_cons_succ, i64_w, i32_w]
                            rfl
                          refine one_ (i := 2) (N := some 47) #[true, true, true, true, true, true, false, false] rfl rfl (by kernel_rfl) (by decide) (fun K hK => ?_)
                          refine goes_ Try.func101 (by kernel_rfl) rfl #[.int .u64 (Go.bits .xor .u64 x5_1 4)] (by rfl) rfl rfl (by (try simp only [List.map_toArray, List.map_cons, List.map_nil]); rfl) ?_
                          with_reducible refine (checksum_Mix.calls (Go.bits .xor .u64 x5_1 4) tM _ AM.out).mono ?_
                          rintro e w' ⟨rfl, ⟨nd, rfl⟩⟩
                          refine ⟨_, rfl, ?_⟩
                          refine hK.out _ _ ⟨(blk_cell BKT.out 0).trans rfl, (blk_cell BKT.out 1).trans rfl, (blk_cell BKT.out 2).trans rfl⟩ (fun hHeld => ?_)
                          clear hK K
                          refine norm_ (a' := ?_) ?_ ?_
                          rotate_left
                          · show Act.put _ (some 47) _ = _
                            simp only [Act.put, List.setIfInBounds_toArray, List.set_cons_zero, List.set_cons_succ, i64_w, i32_w]
                            rfl
                          exact norm_ (by simp only [putAll, Act.put, List.setIfInBounds_toArray, List.set_cons_zero, List.set_cons_succ]) (hCont (some ⟨wd.heap.size, 0, none⟩, grownCap wd ((rd_T39 l1 x12_1).f2).size 0 5) _ ⟨(by (with_reducible repeat (first | refine blk_drewN ?_ _ | refine blk_drew ?_ | refine blk_alloc ?_ _)); exact BKT.out), (Kd.C_drewN HCT.out nd), hcap_, by repeat (first | (with_reducible first | exact HB.out | apply below_alloc | apply pw_below_drewN | apply below_drew1) | exact HB.out)⟩)
                      clear BKT HB
                      rintro ⟨A_, cc_⟩ w' ⟨hbk_, hcc_, hcl_, hbb_⟩
                      have BKT := Aside0.mk hbk_
                      have HB := Aside0.mk hbb_
                      have HCT := Aside0.mk hcc_
                      clear hbk_ hbb_ hcc_
                      refine norm_ (a' := ?_) ?_ ?_
                      rotate_left
                      · simp only [putAll, Act.put, List.setIfInBounds_toArray, List.set_cons_zero, List.set_cons_succ]
                        rfl
                      refine one_ (i := 6) (N := some 51) #[true, true, true, true, true, true, true, false] rfl rfl (by kernel_rfl) (by decide) (fun K hK => ?_)
                      refine goes_ Try.func102 (by kernel_rfl) rfl #[.int .u64 tM, .slice A_ ((rd_T39 l1 x12_1).f2).size cc_] (by rfl) rfl rfl (by (try simp only [List.map_toArray, List.map_cons, List.map_nil]); rfl) ?_
                      rw [← bytesOf_length ((rd_T39 l1 x12_1).f2)] at HCT hcl_ ⊢
                      with_reducible refine (checksum_Hash.calls k1 tM A_ cc_ (bytesOf ((rd_T39 l1 x12_1).f2)) tH _ HCT.out hcl_ AH.out).mono ?_
                      rintro e w6 ⟨rfl, hb⟩
                      refine ⟨_, rfl, ?_⟩
                      have n0_ := Aside0.mk (blk_below (g := gbT) (o := .cells #[.int .i64 ((rd_T39 l1 x12_1).f0), .int .i64 ((rd_T39 l1 x12_1).f1), .string ((rd_T39 l1 x12_1).f2)] 39 (0, 0)) BKT.out hb)
                      have n1_ := Aside0.mk (below_step HB.out hb)
                      clear BKT HB
                      have BKT := n0_
                      have HB := n1_
                      clear n0_ n1_ hb
                      refine hK.out _ _ ⟨(blk_cell BKT.out 0).trans rfl, (blk_cell BKT.out 1).trans rfl, (blk_cell BKT.out 2).trans rfl⟩ (fun hHeld => ?_)
                      clear hK K
                      refine norm_ (a' := ?_) ?_ ?_
                      rotate_left
                      · show Act.put _ (some 51) _ = _
                        simp only [Act.put, List.setIfInBounds_toArray, List.set_cons_zero, List.set_cons_succ, i64_w, i32_w]
                        rfl
                      refine pure_ (i := 7) (N := some 5) (v := ?_) (a' := ?_) #[true, true, true, true, true, true, true, true] rfl rfl (by kernel_rfl) (fun _ _ _ h => h) (Or.inl ⟨by rfl, ?_⟩) ?_ ?_
                      rotate_left
                      · intro w'
                        go_simp
                        with_reducible rfl
                      rotate_left
                      · simp only [Act.put, List.setIfInBounds_toArray, List.set_cons_zero, List.set_cons_succ, i64_w, i32_w]
                        rfl
                      refine done_ (by kernel_rfl) ?_
                      try go_wp2
                      go_roundg k1
                      case measure => have := HK1.out; omega
                      case rel => exact ⟨tH, (wrap64 (x12_1 + 1)), (by first | rfl | (simp; done) | (simp [*]; done)), (by first | rfl | (simp; done) | (simp [*]; done)), H', ⟨by have := HK1.out; omega⟩, ⟨by repeat (first | (with_reducible first | exact HB.out | apply below_alloc | apply pw_below_drewN | apply below_drew1) | exact HB.out)⟩⟩
                    · rw [if_neg hsz] at H
                      exact absurd H (by simp)
                  · rw [if_neg c25] at H
                    have c25b0 : (((rd_T39 l1 x12_1).f0) == 3) = false := beq_eq_false_iff_ne.mpr c25
                    have c25b1 : (((rd_T39 l1 x12_1).f0) != 3) = true := bne_iff_ne.mpr c25
                    have H' := Aside0.mk H
                    clear H
                    have p368 : 0 ≤ (x12_1 : Int) := of_decide_eq_true (by first | (with_reducible assumption) | assumption)
                    have q368 : x12_1 < (l1.length : Int) := of_decide_eq_true (by first | (with_reducible assumption) | assumption)
                    obtain ⟨ad368, e368, hx368_0, hx368_1, hx368_2⟩ := at_T39 HR1.out x12_1 p368 q368
                    cases e368
                    replace hx368_0 := (HB.out.cell (World.block_lt_of_cell? w _ hx368_0)).trans hx368_0
                    replace hx368_1 := (HB.out.cell (World.block_lt_of_cell? w _ hx368_1)).trans hx368_1
                    replace hx368_2 := (HB.out.cell (World.block_lt_of_cell? w _ hx368_2)).trans hx368_2
                    replace p368 := eq_true p368
                    replace q368 := eq_true q368
                    go_wp2_with (first | ((with_reducible refine gate_dst (N := 7) rfl ?_); refine box_event ?hg (N := 7) ?hd (cs := #[.int .i64 0, .int .i64 0, .string (⟨#[]⟩ : ByteArray)]) (t := 39) ?hr ?_; (case hd => rfl); (case hg => rfl); (case hr => first | (go_simp; done) | (go_simp; rfl)); intro gb369 hg w27 hbox hb; have n0_ := Aside0.mk (below_step (by repeat (first | (with_reducible first | exact HB.out | apply below_alloc | apply pw_below_drewN | apply below_drew1) | exact HB.out)) hb); have n1_ := Aside0.mk (hbox); have n2_ := Aside0.mk ((by rw [hg]; exact (below_size (by repeat (first | (with_reducible first | exact HB.out | apply below_alloc | apply pw_below_drewN | apply below_drew1) | exact HB.out))) : w.heap.size ≤ gb369)); have n3_ := Aside0.mk ((by rw [hg]; exact (below_size (by repeat (first | (with_reducible first | exact HB.out | apply below_alloc | apply pw_below_drewN | apply below_drew1) | exact HB.out))) : w.heap.size ≤ gb369)); clear HB; have HB := n0_; have BK369 := n1_; have GW369 := n2_; have GE369 := n3_; clear n0_ n1_ n2_ n3_; clear hb hbox hg; have hcz28_0 : w27.cell? ⟨gb369, 0, none⟩ = some (.int .i64 0) := (blk_cell BK369.out 0).trans rfl; have hcz28_1 : w27.cell? ⟨gb369, 1, none⟩ = some (.int .i64 0) := (blk_cell BK369.out 1).trans rfl; have hcz28_2 : w27.cell? ⟨gb369, 2, none⟩ = some (.string (⟨#[]⟩ : ByteArray)) := (blk_cell BK369.out 2).trans rfl; have hfz28_0 := blk_frozen BK369.out 0; have hfz28_1 := blk_frozen BK369.out 1; have hfz28_2 := blk_frozen BK369.out 2))
                    go_roundg k1
                    case measure => have := HK1.out; omega
                    case rel => exact ⟨(x5_1), (wrap64 (x12_1 + 1)), (by first | rfl | (simp; done) | (simp [*]; done)), (by first | rfl | (simp; done) | (simp [*]; done)), H', ⟨by have := HK1.out; omega⟩, ⟨by repeat (first | (with_reducible first | exact HB.out | apply below_alloc | apply pw_below_drewN | apply below_drew1 | refine below_set ?_ GE369.out) | exact HB.out)⟩⟩
          · rw [if_neg c6] at H
            exact absurd H (by simp)
        · rw [if_neg c5] at H
          exact absurd H (by simp)
      · rw [if_neg c4] at H
        have c4b0 : decide (x12_1 < (l1.length : Int)) = false := decide_eq_false c4
        clear c4
        obtain rfl := Option.some.inj H
        go_wp2
        go_ret
        exact ⟨by first | rfl | (simp [errW_none, errW_some] <;> rfl) | (simp [*, errW_none, errW_some] <;> rfl), by repeat (first | (with_reducible first | exact HB.out | apply below_alloc | apply pw_below_drewN | apply below_drew1) | exact HB.out)⟩
end Go.Proofs.Ytackcingpffidaa.P
namespace Go.Proofs.Ytackcingpffidaa.P
open Go.RowKit Go.Proofs.YtackcingpffidaaW.PrintWords Go.Proofs.YtackcingpffidaaW.PrintLast Go.Proofs.YtackcingpffidaaW.PrintMore
attribute [local go_sem] max2_int min2_int max_two min_two max_three min_three max_four min_four Go.Proofs.YtackcingpffidaaQ.str_gtr Go.Proofs.YtackcingpffidaaQ.str_leq Go.Proofs.YtackcingpffidaaQ.str_geq   -- for this text's walks alone
set_option linter.unusedVariables false
set_option linter.unusedSimpArgs false
/-! ### sketch_cell: function 55 -/
def sketch_cell.f (k : Nat) (a0 : Int) (a1_0 : Int) (a1_1 : Int) (a1_2 : ByteArray) : Option (Int) := (value_Hash.f k (IntKind.u64.wrap (wrap64 (4 + a0))) (([(⟨a1_0, a1_1, a1_2⟩ : S39)] : List (S39)))).bind fun t428 => (some (wrap64 (Int.tmod t428 64)))
theorem sketch_cell.mono : ∀ a0 a1 a2 a3 k, LeO (sketch_cell.f k a0 a1 a2 a3) (sketch_cell.f (k + 1) a0 a1 a2 a3) := by
  intro a0 a1 a2 a3 k
  unfold sketch_cell.f
  repeat' first
      | (with_reducible exact value_Hash.mono _ _ _)
      | (with_reducible exact LeO.refl _)
      | (with_reducible exact LeO.none _)
      | (with_reducible refine LeO.ite ?_ ?_)
      | (with_reducible refine LeO.bind ?_ (fun _ => ?_))
      | exact value_Hash.mono _ _ _
      | exact LeO.none _
      | refine LeO.ite ?_ ?_
      | refine LeO.bind ?_ (fun _ => ?_)
set_option maxHeartbeats 8000000 in
set_option maxRecDepth 100000 in
theorem sketch_cell.calls (k : Nat) (a0 : Int) (a1_0 : Int) (a1_1 : Int) (a1_2 : ByteArray) (r : Int) (w : World) (h : sketch_cell.f k a0 a1_0 a1_1 a1_2 = some r) :
    Calls Try.prog 55 #[.int .i64 a0, .agg #[.int .i64 a1_0, .int .i64 a1_1, .string a1_2]] w fun e w' => e = .returned (.int .i64 r) ∧ Below w.heap.size w w' := by
  have hu39 := Try.underlying39
  have HB := Aside0.mk (Below.refl w.heap.size w)
  have H : ((value_Hash.f k (IntKind.u64.wrap (wrap64 (4 + a0))) (([(⟨a1_0, a1_1, a1_2⟩ : S39)] : List (S39)))).bind fun t428 => (some (wrap64 (Int.tmod t428 64)))) = some r := h
  clear h
  obtain ⟨y425, hy425⟩ : ∃ y_ : List (S39), y_ = (([(⟨a1_0, a1_1, a1_2⟩ : S39)] : List (S39))) := ⟨_, rfl⟩
  replace H : ((value_Hash.f k (IntKind.u64.wrap (wrap64 (4 + a0))) y425).bind fun t428 => (some (wrap64 (Int.tmod t428 64)))) = some r := by first | (rw [hy425]; with_reducible exact H) | (have H2_ := (Option.bind_some _ _).symm.trans H; rw [hy425]; with_reducible exact H2_) | (have H2_ := (Option.bind_some _ _).symm.trans H; with_reducible exact H2_) | with_reducible exact H | (rw [hy425]; exact H) | exact H
  have Ny425 := Aside0.mk hy425
  clear hy425
  replace H := Option.bind_eq_some_iff.mp H
  obtain ⟨t428, A30, H⟩ := H
  replace H : (some (wrap64 (Int.tmod t428 64))) = some r := H
  have A3 := Aside0.mk A30
  clear A30
  obtain rfl := Option.some.inj H
  go_enter Try.func55, Try.ntmps55
  go_wp2_with (first | ((with_reducible refine gate_dst (N := 3) rfl ?_); refine box_event ?hg (N := 3) ?hd (cs := #[.int .i64 a1_0, .int .i64 a1_1, .string a1_2]) (t := 39) ?hr ?_; (case hd => rfl); (case hg => rfl); (case hr => first | (go_simp; done) | (go_simp; rfl)); intro gb424 hg w4 hbox hb; have n0_ := Aside0.mk (below_step (by repeat (first | (with_reducible first | exact HB.out | apply below_alloc | apply pw_below_drewN | apply below_drew1) | exact HB.out)) hb); have n1_ := Aside0.mk (hbox); have n2_ := Aside0.mk ((by rw [hg]; exact (below_size (by repeat (first | (with_reducible first | exact HB.out | apply below_alloc | apply pw_below_drewN | apply below_drew1) | exact HB.out))) : w.heap.size ≤ gb424)); have n3_ := Aside0.mk ((by rw [hg]; exact (below_size (by repeat (first | (with_reducible first | exact HB.out | apply below_alloc | apply pw_below_drewN | apply below_drew1) | exact HB.out))) : w.heap.size ≤ gb424)); clear HB; have HB := n0_; have BK424 := n1_; have GW424 := n2_; have GE424 := n3_; clear n0_ n1_ n2_ n3_; clear hb hbox hg; have hcz5_0 : w4.cell? ⟨gb424, 0, none⟩ = some (.int .i64 a1_0) := (blk_cell BK424.out 0).trans rfl; have hcz5_1 : w4.cell? ⟨gb424, 1, none⟩ = some (.int .i64 a1_1) := (blk_cell BK424.out 1).trans rfl; have hcz5_2 : w4.cell? ⟨gb424, 2, none⟩ = some (.string a1_2) := (blk_cell BK424.out 2).trans rfl; have hfz5_0 := blk_frozen BK424.out 0; have hfz5_1 := blk_frozen BK424.out 1; have hfz5_2 := blk_frozen BK424.out 2) | ((with_reducible refine gate_dst (N := 9) rfl ?_); refine Kd.R_lit k39 _ 39 ?hg (N := 9) ?hd (xs := ([(⟨a1_0, a1_1, a1_2⟩ : S39)] : List (S39))) (inner := [.int .i64 a1_0, .int .i64 a1_1, .string a1_2]) (ok := fun _ => True) (okp := fun _ => True) ?hr ?hp (fun _ hk => hk) trivial (Below.refl _ _) (Nat.le_refl _) (by simp) ?_; (case hd => rfl); (case hg => rfl); (case hr => first | (go_simp; done) | (go_simp; rfl)); (case hp => exact (Reps.c3 (show Kd.M k39 _ _ _ (⟨a1_0, a1_1, a1_2⟩ : S39) [.int .i64 a1_0, .int .i64 a1_1, .string a1_2] from (k39_mkM _ _ _ (⟨a1_0, a1_1, a1_2⟩ : S39) )) (Reps.none _ _))); intro v426 w6 ho7 hb hg_ hnew_; clear hg_ hnew_; (first | rw [← Ny425.out] at ho7 | (simp only [Int.reduceToNat] at ho7; rw [← Ny425.out] at ho7)); have n0_ := Aside0.mk (Kd.R_lower (Kd.R_newB ho7 (g := gb424) (o := .cells #[.int .i64 a1_0, .int .i64 a1_1, .string a1_2] 39 (0, 0)) (by (with_reducible repeat (first | refine blk_drewN ?_ _ | refine blk_drew ?_ | refine blk_alloc ?_ _)); exact BK424.out)) (below_size (by repeat (first | (with_reducible first | exact HB.out | apply below_alloc | apply pw_below_drewN | apply below_drew1 | refine below_set ?_ GE424.out) | exact HB.out)))); have n1_ := Aside0.mk (blk_below (g := gb424) (o := .cells #[.int .i64 a1_0, .int .i64 a1_1, .string a1_2] 39 (0, 0)) (by (with_reducible repeat (first | refine blk_drewN ?_ _ | refine blk_drew ?_ | refine blk_alloc ?_ _)); exact BK424.out) hb); have n2_ := Aside0.mk (below_step (by repeat (first | (with_reducible first | exact HB.out | apply below_alloc | apply pw_below_drewN | apply below_drew1 | refine below_set ?_ GE424.out) | exact HB.out)) hb); clear BK424; clear HB; have HO427 := n0_; have BK424 := n1_; have HB := n2_; clear n0_ n1_ n2_; clear hb ho7; obtain ⟨Ao8, co8, eo8⟩ := Kd.R_slice HO427.out; subst eo8) | ((with_reducible refine gate_callee (f := 54) rfl ?_); refine goesL_ (some 10) rfl rfl Try.func54 (by kernel_rfl) rfl #[.int .u64 (IntKind.u64.wrap (wrap64 (4 + a0))), .slice Ao8 y425.length co8] rfl (by (try simp only [List.map_toArray, List.map_cons, List.map_nil]); first | done | rfl | (simp only [List.length_drop, List.length_take]; rfl) | (simp only [Int.ofNat_lt, Int.ofNat_le, gt_iff_lt, ge_iff_le]; rfl)) ?_; (with_reducible refine (value_Hash.calls k (IntKind.u64.wrap (wrap64 (4 + a0))) _ _ y425 t428 _ ?side1 ?side2 A3.out).mono ?_); (case side1 => repeat (first | exact (Kd.R_reads' HO427.out).2.2 | (with_reducible refine Kd.C_alloc ?_ _) | (with_reducible refine Kd.C_drewN ?_ _) | (with_reducible refine Kd.C_drew ?_))); (case side2 => exact (Kd.R_reads' HO427.out).2.1); rintro e w9 ⟨rfl, hb⟩; refine ⟨_, rfl, ?_⟩; have n0_ := Aside0.mk (Kd.R_below (by (with_reducible repeat (first | apply Kd.R_alloc | apply Kd.R_drewN | apply Kd.R_drew)); exact HO427.out) hb); have n1_ := Aside0.mk (blk_below (g := gb424) (o := .cells #[.int .i64 a1_0, .int .i64 a1_1, .string a1_2] 39 (0, 0)) (by (with_reducible repeat (first | refine blk_drewN ?_ _ | refine blk_drew ?_ | refine blk_alloc ?_ _)); exact BK424.out) hb); have n2_ := Aside0.mk (below_step (by repeat (first | (with_reducible first | exact HB.out | apply below_alloc | apply pw_below_drewN | apply below_drew1 | refine below_set ?_ GE424.out) | exact HB.out)) hb); clear HO427; clear BK424; clear HB; have HO427 := n0_; have BK424 := n1_; have HB := n2_; clear n0_ n1_ n2_; (try clear hb); (try clear hb2); (try clear hk); (try clear hi)))
  go_ret
  exact ⟨by first | rfl | (simp [errW_none, errW_some] <;> rfl) | (simp [*, errW_none, errW_some] <;> rfl), by repeat (first | (with_reducible first | exact HB.out | apply below_alloc | apply pw_below_drewN | apply below_drew1 | refine below_set ?_ GE424.out) | exact HB.out)⟩
end Go.Proofs.Ytackcingpffidaa.P
namespace Go.Proofs.Ytackcingpffidaa.P
open Go.RowKit Go.Proofs.YtackcingpffidaaW.PrintWords Go.Proofs.YtackcingpffidaaW.PrintLast Go.Proofs.YtackcingpffidaaW.PrintMore
attribute [local go_sem] max2_int min2_int max_two min_two max_three min_three max_four min_four Go.Proofs.YtackcingpffidaaQ.str_gtr Go.Proofs.YtackcingpffidaaQ.str_leq Go.Proofs.YtackcingpffidaaQ.str_geq   -- for this text's walks alone
set_option linter.unusedVariables false
set_option linter.unusedSimpArgs false
/-! ### sketch_spread: function 58 -/
mutual
def sketch_spread.l0 : Nat → Int → List Int → Int → Option (List Int)
  | 0, _, _, _ => none
  | k + 1, x0, x3, x4 => if x4 < 17 then (sketch_spread.j1 k x0 x3 x4 (decide (x0 > 0))) else (sketch_spread.j1 k x0 x3 x4 false)
def sketch_spread.j1 : Nat → Int → List Int → Int → Bool → Option (List Int)
  | 0, _, _, _, _ => none
  | k + 1, x0, x3, x4, x11 => if x11 = true then (if (x3.length : Int) = 0 then (if x3.length < 17592186044416 then (sketch_spread.l0 k x0 (x3 ++ [wrap64 (Int.tdiv (wrap64 (x4 * (wrap64 (x0 - 1)))) 16)]) (wrap64 (x4 + 1))) else (none)) else (if 0 ≤ (wrap64 ((x3.length : Int) - 1)) then (if (wrap64 ((x3.length : Int) - 1)) < (x3.length : Int) then (if (rd x3 (wrap64 ((x3.length : Int) - 1))) = (wrap64 (Int.tdiv (wrap64 (x4 * (wrap64 (x0 - 1)))) 16)) then (sketch_spread.l0 k x0 x3 (wrap64 (x4 + 1))) else (if x3.length < 17592186044416 then (sketch_spread.l0 k x0 (x3 ++ [wrap64 (Int.tdiv (wrap64 (x4 * (wrap64 (x0 - 1)))) 16)]) (wrap64 (x4 + 1))) else (none))) else (none)) else (none))) else (some x3)
end
def sketch_spread.f (k : Nat) (a0 : Int) : Option (List Int) := sketch_spread.l0 k a0 ([] : List Int) 0
theorem sketch_spread.mono_l : ∀ k, (∀ y0 y1 y2, LeO (sketch_spread.l0 k y0 y1 y2) (sketch_spread.l0 (k + 1) y0 y1 y2)) ∧ (∀ y0 y1 y2 y3, LeO (sketch_spread.j1 k y0 y1 y2 y3) (sketch_spread.j1 (k + 1) y0 y1 y2 y3))
  | 0 => ⟨fun _ _ _ r h => by simp [sketch_spread.l0] at h, fun _ _ _ _ r h => by simp [sketch_spread.j1] at h⟩
  | k + 1 => by
    obtain ⟨ih0, ih1⟩ := sketch_spread.mono_l k
    refine ⟨?_, ?_⟩
    · intro y0 y1 y2
      unfold sketch_spread.l0
      repeat' first
      | (with_reducible exact ih0 _ _ _)
      | (with_reducible exact ih1 _ _ _ _)
      | (with_reducible exact LeO.refl _)
      | (with_reducible exact LeO.none _)
      | (with_reducible refine LeO.ite ?_ ?_)
      | (with_reducible refine LeO.bind ?_ (fun _ => ?_))
      | exact ih0 _ _ _
      | exact ih1 _ _ _ _
      | exact LeO.none _
      | refine LeO.ite ?_ ?_
      | refine LeO.bind ?_ (fun _ => ?_)
    · intro y0 y1 y2 y3
      unfold sketch_spread.j1
      repeat' first
      | (with_reducible exact ih0 _ _ _)
      | (with_reducible exact ih1 _ _ _ _)
      | (with_reducible exact LeO.refl _)
      | (with_reducible exact LeO.none _)
      | (with_reducible refine LeO.ite ?_ ?_)
      | (with_reducible refine LeO.bind ?_ (fun _ => ?_))
      | exact ih0 _ _ _
      | exact ih1 _ _ _ _
      | exact LeO.none _
      | refine LeO.ite ?_ ?_
      | refine LeO.bind ?_ (fun _ => ?_)
theorem sketch_spread.mono : ∀ a0 k, LeO (sketch_spread.f k a0) (sketch_spread.f (k + 1) a0) := by
  intro a0 k
  obtain ⟨ih0, ih1⟩ := sketch_spread.mono_l k
  unfold sketch_spread.f
  repeat' first
      | (with_reducible exact ih0 _ _ _)
      | (with_reducible exact ih1 _ _ _ _)
      | (with_reducible exact LeO.refl _)
      | (with_reducible exact LeO.none _)
      | (with_reducible refine LeO.ite ?_ ?_)
      | (with_reducible refine LeO.bind ?_ (fun _ => ?_))
      | exact ih0 _ _ _
      | exact ih1 _ _ _ _
      | exact LeO.none _
      | refine LeO.ite ?_ ?_
      | refine LeO.bind ?_ (fun _ => ?_)
set_option maxHeartbeats 8000000 in
set_option maxRecDepth 100000 in
theorem sketch_spread.calls (k : Nat) (a0 : Int) (r : List Int) (w : World) (h : sketch_spread.f k a0 = some r) :
    Calls Try.prog 58 #[.int .i64 a0] w fun e w' => ∃ v0_ : Value, e = .returned (v0_) ∧ Kd.R (Kd.int .i64) 3 w' w.heap.size (fun _ => True) v0_ r ∧ Below w.heap.size w w' := by
  have HB := Aside0.mk (Below.refl w.heap.size w)
  have H : (sketch_spread.l0 k a0 ([] : List Int) 0) = some r := h
  clear h
  have H' := Aside0.mk H
  clear H
  go_enter Try.func58, Try.ntmps58
  go_wp2
  go_loopg [3, 4] k (fun kq v3 v4 w' => ∃ (x3_1 : List Int) (x4_1 : Int), v4 = .int .i64 x4_1 ∧ Aside0 (sketch_spread.l0 kq a0 x3_1 x4_1 = some r) ∧ Aside0 (kq ≤ k) ∧ Aside0 (Kd.R (Kd.int .i64) 3 w' w.heap.size (fun _ => True) v3 x3_1) ∧ Aside0 (Below w.heap.size w w'))
  case atStart => exact ⟨(([] : List Int)), (0), (by first | rfl | (simp; done) | (simp [*]; done)), H', ⟨Nat.le_refl _⟩, ⟨by first | exact Kd.R_nil _ _ _ _ _ | exact Kd.N_nil _ _ _ _ _ | exact Kd.V_nil _ _ _ _ _ | exact Kd.Q_nil _ _ _ _ _ | exact Kd.S_nil _ _ _ _ _⟩, ⟨by repeat (first | (with_reducible first | exact HB.out | apply below_alloc | apply pw_below_drewN | apply below_drew1) | exact HB.out)⟩⟩
  case round =>
    clear H'
    obtain ⟨x3_1, x4_1, rfl, HA, HK1, HO_3, HB⟩ := hrel
    cases gk with
    | zero => exact absurd HA.out (by simp [sketch_spread.l0])
    | succ k1 =>
      have H := HA.out
      clear HA
      simp only [sketch_spread.l0] at H
      have HC2 := Aside0.mk H
      clear H
      go_upto_region 3 with (fail)
      go_cut [11] (fun v11 wc => ∃ (kq : Nat) (x11_1 : Bool), v11 = .bool x11_1 ∧ Aside0 (sketch_spread.j1 kq a0 x3_1 x4_1 x11_1 = some r) ∧ Aside0 (kq ≤ k1) ∧ Aside0 (Kd.R (Kd.int .i64) 3 wc w.heap.size (fun _ => True) u3 x3_1) ∧ Aside0 (Below w.heap.size w wc))
      case first =>
        have H := HC2.out
        clear HC2
        by_cases c3 : x4_1 < 17
        · rw [if_pos c3] at H
          have c3b0 : decide (x4_1 < 17) = true := decide_eq_true c3
          clear c3
          (first | rw [c3b0] | (simp only [i64_w, i32_w]; rw [c3b0]) | skip)
          have H' := Aside0.mk H
          clear H
          go_wp2
          go_meet
          case rel => exact ⟨_, (decide (a0 > 0)), (by first | rfl | (simp; done) | (simp [*]; done)), H', ⟨by have := HK1.out; first | omega | exact Nat.le_refl _⟩, ⟨by (with_reducible repeat (first | apply Kd.R_alloc | apply Kd.R_drewN | apply Kd.R_drew)); exact HO_3.out⟩, ⟨by repeat (first | (with_reducible first | exact HB.out | apply below_alloc | apply pw_below_drewN | apply below_drew1) | exact HB.out)⟩⟩
        · rw [if_neg c3] at H
          have c3b0 : decide (x4_1 < 17) = false := decide_eq_false c3
          clear c3
          (first | rw [c3b0] | (simp only [i64_w, i32_w]; rw [c3b0]) | skip)
          have H' := Aside0.mk H
          clear H
          go_wp2
          go_meet
          case rel => exact ⟨_, (false), (by first | rfl | (simp; done) | (simp [*]; done)), H', ⟨by have := HK1.out; first | omega | exact Nat.le_refl _⟩, ⟨by (with_reducible repeat (first | apply Kd.R_alloc | apply Kd.R_drewN | apply Kd.R_drew)); exact HO_3.out⟩, ⟨by repeat (first | (with_reducible first | exact HB.out | apply below_alloc | apply pw_below_drewN | apply below_drew1) | exact HB.out)⟩⟩
      case rest =>
        clear HC2
        try clear p2
        try clear c3
        try clear c3b0
        obtain ⟨kq, x11_1, rfl, HA, HJ1, HO_3, HB⟩ := hcut
        cases kq with
        | zero => exact absurd HA.out (by simp [sketch_spread.j1])
        | succ kj1 =>
          have H := HA.out
          clear HA
          simp only [sketch_spread.j1] at H
          by_cases c4 : x11_1 = true
          · subst c4
            have H1 : (if (x3_1.length : Int) = 0 then (if x3_1.length < 17592186044416 then (sketch_spread.l0 kj1 a0 (x3_1 ++ [wrap64 (Int.tdiv (wrap64 (x4_1 * (wrap64 (a0 - 1)))) 16)]) (wrap64 (x4_1 + 1))) else (none)) else (if 0 ≤ (wrap64 ((x3_1.length : Int) - 1)) then (if (wrap64 ((x3_1.length : Int) - 1)) < (x3_1.length : Int) then (if (rd x3_1 (wrap64 ((x3_1.length : Int) - 1))) = (wrap64 (Int.tdiv (wrap64 (x4_1 * (wrap64 (a0 - 1)))) 16)) then (sketch_spread.l0 kj1 a0 x3_1 (wrap64 (x4_1 + 1))) else (if x3_1.length < 17592186044416 then (sketch_spread.l0 kj1 a0 (x3_1 ++ [wrap64 (Int.tdiv (wrap64 (x4_1 * (wrap64 (a0 - 1)))) 16)]) (wrap64 (x4_1 + 1))) else (none))) else (none)) else (none))) = some r := by rw [if_pos rfl] at H; exact H
            clear H
            have H := H1
            clear H1
            by_cases c5 : (x3_1.length : Int) = 0
            · rw [if_pos c5] at H
              have c5b0 : ((x3_1.length : Int) == 0) = true := beq_iff_eq.mpr c5
              have c5b1 : ((x3_1.length : Int) != 0) = false := bne_eq_false_iff_eq.mpr c5
              clear c5
              by_cases c6 : x3_1.length < 17592186044416
              · rw [if_pos c6] at H
                have LMc6 := Aside0.mk c6
                clear c6
                obtain ⟨y429, hy429⟩ : ∃ y_ : List Int, y_ = (x3_1 ++ [wrap64 (Int.tdiv (wrap64 (x4_1 * (wrap64 (a0 - 1)))) 16)]) := ⟨_, rfl⟩
                replace H : (sketch_spread.l0 kj1 a0 y429 (wrap64 (x4_1 + 1))) = some r := by first | (rw [hy429]; with_reducible exact H) | (have H2_ := (Option.bind_some _ _).symm.trans H; rw [hy429]; with_reducible exact H2_) | (have H2_ := (Option.bind_some _ _).symm.trans H; with_reducible exact H2_) | with_reducible exact H | (rw [hy429]; exact H) | exact H
                have Ny429 := Aside0.mk hy429
                clear hy429
                have H' := Aside0.mk H
                clear H
                obtain ⟨Ao7, co7, eo7⟩ := Kd.R_slice HO_3.out
                subst eo7
                go_wp2_with (first | ((with_reducible refine gate_builtin (b := .append) (xs := #[.tmp 32, .tmp 34]) rfl ?_); (try (refine gate_guard (by rfl) ?_; dsimp only)); at_builtin; refine Kd.R_append (Kd.int .i64) (w0 := w) w.heap.size rfl (.tmp 32) (.tmp 34) 23 3 (.int .i64 0) 8 rfl Try.underlying23 info3 rfl (by decide) (by omega) (.slice Ao7 x3_1.length co7) x3_1 (wrap64 (Int.tdiv (wrap64 (x4_1 * (wrap64 (a0 - 1)))) 16)) [.int .i64 (wrap64 (Int.tdiv (wrap64 (x4_1 * (wrap64 (a0 - 1)))) 16))] (fun _ => True) (fun _ => False) rfl rfl ?aP (fun _ hk => hk.elim) ?aF ?aO ?aB ?aS ?aL ?_; (case aP => exact rfl); (case aB => exact (by repeat (first | (with_reducible first | exact HB.out | apply below_alloc | apply pw_below_drewN | apply below_drew1) | exact HB.out))); (case aF => exact (fun _ _ => trivial)); (case aO => exact (by (with_reducible repeat (first | apply Kd.R_alloc | apply Kd.R_drewN | apply Kd.R_drew)); exact HO_3.out)); (case aS => exact (below_size (by repeat (first | (with_reducible first | exact HB.out | apply below_alloc | apply pw_below_drewN | apply below_drew1) | exact HB.out)))); (case aL => have := LMc6.out; omega); intro v430 w8 ho hb hg hat; rw [← Ny429.out] at ho; have n0_ := Aside0.mk (hb); have n1_ := Aside0.mk (ho); clear HB; clear HO_3; have HB := n0_; have HO431 := n1_; clear n0_ n1_; clear ho hb hg hat))
                go_roundg kj1
                case measure => have := HK1.out; have := HJ1.out; omega
                case rel => exact ⟨(y429), (wrap64 (x4_1 + 1)), (by first | rfl | (simp; done) | (simp [*]; done)), H', ⟨by have := HK1.out; have := HJ1.out; omega⟩, ⟨by (with_reducible repeat (first | apply Kd.R_alloc | apply Kd.R_drewN | apply Kd.R_drew)); exact HO431.out⟩, ⟨by repeat (first | (with_reducible first | exact HB.out | apply below_alloc | apply pw_below_drewN | apply below_drew1) | exact HB.out)⟩⟩
              · rw [if_neg c6] at H
                exact absurd H (by simp)
            · rw [if_neg c5] at H
              have c5b0 : ((x3_1.length : Int) == 0) = false := beq_eq_false_iff_ne.mpr c5
              have c5b1 : ((x3_1.length : Int) != 0) = true := bne_iff_ne.mpr c5
              have c5b2 : ¬ (x3_1 = []) := fun h_ => c5 (by rw [h_]; rfl)
              obtain ⟨ji9, hji9⟩ : ∃ j_ : Int, (wrap64 ((x3_1.length : Int) - 1)) = j_ := ⟨_, rfl⟩
              replace H : (if 0 ≤ (ji9) then (if (ji9) < (x3_1.length : Int) then (if (rd x3_1 (ji9)) = (wrap64 (Int.tdiv (wrap64 (x4_1 * (wrap64 (a0 - 1)))) 16)) then (sketch_spread.l0 kj1 a0 x3_1 (wrap64 (x4_1 + 1))) else (if x3_1.length < 17592186044416 then (sketch_spread.l0 kj1 a0 (x3_1 ++ [wrap64 (Int.tdiv (wrap64 (x4_1 * (wrap64 (a0 - 1)))) 16)]) (wrap64 (x4_1 + 1))) else (none))) else (none)) else (none)) = some r := by first | (rw [hji9] at H; exact H) | (simp only [hji9] at H ⊢; exact H)
              have hji9w : (IntKind.i64.wrap ((x3_1.length : Int) - 1)) = ji9 := (i64_w _).trans hji9
              by_cases c10 : 0 ≤ (ji9)
              · rw [if_pos c10] at H
                have c10b0 : decide (0 ≤ (ji9)) = true := decide_eq_true c10
                clear c10
                by_cases c11 : (ji9) < (x3_1.length : Int)
                · rw [if_pos c11] at H
                  have c11b0 : decide ((ji9) < (x3_1.length : Int)) = true := decide_eq_true c11
                  clear c11
                  by_cases c12 : (rd x3_1 (ji9)) = (wrap64 (Int.tdiv (wrap64 (x4_1 * (wrap64 (a0 - 1)))) 16))
                  · rw [if_pos c12] at H
                    have c12b0 : ((rd x3_1 (ji9)) == (wrap64 (Int.tdiv (wrap64 (x4_1 * (wrap64 (a0 - 1)))) 16))) = true := beq_iff_eq.mpr c12
                    have c12b1 : ((rd x3_1 (ji9)) != (wrap64 (Int.tdiv (wrap64 (x4_1 * (wrap64 (a0 - 1)))) 16))) = false := bne_eq_false_iff_eq.mpr c12
                    clear c12
                    have H' := Aside0.mk H
                    clear H
                    obtain ⟨Ao13, co13, eo13⟩ := Kd.R_slice HO_3.out
                    subst eo13
                    have p432 : 0 ≤ ((ji9) : Int) := of_decide_eq_true (by first | (with_reducible assumption) | assumption)
                    have q432 : (ji9) < (x3_1.length : Int) := of_decide_eq_true (by first | (with_reducible assumption) | assumption)
                    obtain ⟨ad432, e432, hx432_0⟩ := Kd.at_int (Kd.R_reads' HO_3.out).2.2 (ji9) p432 q432
                    cases e432
                    replace p432 := eq_true p432
                    replace q432 := eq_true q432
                    go_wp2
                    go_roundg kj1
                    case measure => have := HK1.out; have := HJ1.out; omega
                    case rel => exact ⟨(x3_1), (wrap64 (x4_1 + 1)), (by first | rfl | (simp; done) | (simp [*]; done)), H', ⟨by have := HK1.out; have := HJ1.out; omega⟩, ⟨by (with_reducible repeat (first | apply Kd.R_alloc | apply Kd.R_drewN | apply Kd.R_drew)); exact HO_3.out⟩, ⟨by repeat (first | (with_reducible first | exact HB.out | apply below_alloc | apply pw_below_drewN | apply below_drew1) | exact HB.out)⟩⟩
                  · rw [if_neg c12] at H
                    have c12b0 : ((rd x3_1 (ji9)) == (wrap64 (Int.tdiv (wrap64 (x4_1 * (wrap64 (a0 - 1)))) 16))) = false := beq_eq_false_iff_ne.mpr c12
                    have c12b1 : ((rd x3_1 (ji9)) != (wrap64 (Int.tdiv (wrap64 (x4_1 * (wrap64 (a0 - 1)))) 16))) = true := bne_iff_ne.mpr c12
                    by_cases c14 : x3_1.length < 17592186044416
                    · rw [if_pos c14] at H
                      have LMc14 := Aside0.mk c14
                      clear c14
                      obtain ⟨y433, hy433⟩ : ∃ y_ : List Int, y_ = (x3_1 ++ [wrap64 (Int.tdiv (wrap64 (x4_1 * (wrap64 (a0 - 1)))) 16)]) := ⟨_, rfl⟩
                      replace H : (sketch_spread.l0 kj1 a0 y433 (wrap64 (x4_1 + 1))) = some r := by first | (rw [hy433]; with_reducible exact H) | (have H2_ := (Option.bind_some _ _).symm.trans H; rw [hy433]; with_reducible exact H2_) | (have H2_ := (Option.bind_some _ _).symm.trans H; with_reducible exact H2_) | with_reducible exact H | (rw [hy433]; exact H) | exact H
                      have Ny433 := Aside0.mk hy433
                      clear hy433
                      have H' := Aside0.mk H
                      clear H
                      obtain ⟨Ao15, co15, eo15⟩ := Kd.R_slice HO_3.out
                      subst eo15
                      have p432 : 0 ≤ ((ji9) : Int) := of_decide_eq_true (by first | (with_reducible assumption) | assumption)
                      have q432 : (ji9) < (x3_1.length : Int) := of_decide_eq_true (by first | (with_reducible assumption) | assumption)
                      obtain ⟨ad432, e432, hx432_0⟩ := Kd.at_int (Kd.R_reads' HO_3.out).2.2 (ji9) p432 q432
                      cases e432
                      replace p432 := eq_true p432
                      replace q432 := eq_true q432
                      go_wp2_with (first | ((with_reducible refine gate_builtin (b := .append) (xs := #[.tmp 32, .tmp 34]) rfl ?_); (try (refine gate_guard (by rfl) ?_; dsimp only)); at_builtin; refine Kd.R_append (Kd.int .i64) (w0 := w) w.heap.size rfl (.tmp 32) (.tmp 34) 23 3 (.int .i64 0) 8 rfl Try.underlying23 info3 rfl (by decide) (by omega) (.slice (some ad432) x3_1.length co15) x3_1 (wrap64 (Int.tdiv (wrap64 (x4_1 * (wrap64 (a0 - 1)))) 16)) [.int .i64 (wrap64 (Int.tdiv (wrap64 (x4_1 * (wrap64 (a0 - 1)))) 16))] (fun _ => True) (fun _ => False) rfl rfl ?aP (fun _ hk => hk.elim) ?aF ?aO ?aB ?aS ?aL ?_; (case aP => exact rfl); (case aB => exact (by repeat (first | (with_reducible first | exact HB.out | apply below_alloc | apply pw_below_drewN | apply below_drew1) | exact HB.out))); (case aF => exact (fun _ _ => trivial)); (case aO => exact (by (with_reducible repeat (first | apply Kd.R_alloc | apply Kd.R_drewN | apply Kd.R_drew)); exact HO_3.out)); (case aS => exact (below_size (by repeat (first | (with_reducible first | exact HB.out | apply below_alloc | apply pw_below_drewN | apply below_drew1) | exact HB.out)))); (case aL => have := LMc14.out; omega); intro v434 w16 ho hb hg hat; rw [← Ny433.out] at ho; have n0_ := Aside0.mk (hb); have n1_ := Aside0.mk (ho); clear HB; clear HO_3; have HB := n0_; have HO435 := n1_; clear n0_ n1_; clear ho hb hg hat))
                      go_roundg kj1
                      case measure => have := HK1.out; have := HJ1.out; omega
                      case rel => exact ⟨(y433), (wrap64 (x4_1 + 1)), (by first | rfl | (simp; done) | (simp [*]; done)), H', ⟨by have := HK1.out; have := HJ1.out; omega⟩, ⟨by (with_reducible repeat (first | apply Kd.R_alloc | apply Kd.R_drewN | apply Kd.R_drew)); exact HO435.out⟩, ⟨by repeat (first | (with_reducible first | exact HB.out | apply below_alloc | apply pw_below_drewN | apply below_drew1) | exact HB.out)⟩⟩
                    · rw [if_neg c14] at H
                      exact absurd H (by simp)
                · rw [if_neg c11] at H
                  exact absurd H (by simp)
              · rw [if_neg c10] at H
                exact absurd H (by simp)
          · replace c4 := Bool.eq_false_iff.mpr c4
            subst c4
            have H1 : (some x3_1) = some r := by rw [if_neg (show ¬ (false = true) by decide)] at H; exact H
            clear H
            have H := H1
            clear H1
            obtain rfl := Option.some.inj H
            go_wp2
            go_ret
            exact ⟨_, by first | rfl | (simp [errW_none, errW_some] <;> rfl) | (simp [*, errW_none, errW_some] <;> rfl), by (with_reducible repeat (first | apply Kd.R_alloc | apply Kd.R_drewN | apply Kd.R_drew)); exact HO_3.out, by repeat (first | (with_reducible first | exact HB.out | apply below_alloc | apply pw_below_drewN | apply below_drew1) | exact HB.out)⟩
end Go.Proofs.Ytackcingpffidaa.P
namespace Go.Proofs.Ytackcingpffidaa.P
open Go.RowKit Go.Proofs.YtackcingpffidaaW.PrintWords Go.Proofs.YtackcingpffidaaW.PrintLast Go.Proofs.YtackcingpffidaaW.PrintMore
attribute [local go_sem] max2_int min2_int max_two min_two max_three min_three max_four min_four Go.Proofs.YtackcingpffidaaQ.str_gtr Go.Proofs.YtackcingpffidaaQ.str_leq Go.Proofs.YtackcingpffidaaQ.str_geq   -- for this text's walks alone
set_option linter.unusedVariables false
set_option linter.unusedSimpArgs false
/-! ### sketch_count: function 66 -/
def sketch_count.f (a0_0 : Int) (a0_1 : Int) (l0_2 : List Int) (a0_3 : Bool) (l0_4 : List Int) (l0_5 : List (S39)) (l0_6 : List Int) : Option (Int) := some (wrap64 (a0_0 - a0_1))
set_option maxHeartbeats 8000000 in
set_option maxRecDepth 100000 in
theorem sketch_count.calls (a0_0 : Int) (a0_1 : Int) (A0_2 : Option Addr) (c0_2 : Nat) (l0_2 : List Int) (a0_3 : Bool) (A0_4 : Option Addr) (c0_4 : Nat) (l0_4 : List Int) (A0_5 : Option Addr) (c0_5 : Nat) (l0_5 : List (S39)) (A0_6 : Option Addr) (c0_6 : Nat) (l0_6 : List Int) (r : Int) (w : World) (hr0_2 : Kd.C (Kd.int .u64) w A0_2 l0_2.length l0_2) (hc0_2 : l0_2.length ≤ c0_2) (hr0_4 : Kd.C (Kd.int .i64) w A0_4 l0_4.length l0_4) (hc0_4 : l0_4.length ≤ c0_4) (hr0_5 : Kd.C k39 w A0_5 l0_5.length l0_5) (hc0_5 : l0_5.length ≤ c0_5) (hr0_6 : Kd.C (Kd.int .i64) w A0_6 l0_6.length l0_6) (hc0_6 : l0_6.length ≤ c0_6) (h : sketch_count.f a0_0 a0_1 l0_2 a0_3 l0_4 l0_5 l0_6 = some r) :
    Calls Try.prog 66 #[.agg #[.int .i64 a0_0, .int .i64 a0_1, .slice A0_2 l0_2.length c0_2, .bool a0_3, .slice A0_4 l0_4.length c0_4, .slice A0_5 l0_5.length c0_5, .slice A0_6 l0_6.length c0_6]] w fun e w' => e = .returned (.int .i64 r) ∧ Below w.heap.size w w' := by
  have hu26 := Try.underlying26
  have HR0_2 := Aside0.mk hr0_2
  have HC0_2 := Aside0.mk hc0_2
  clear hr0_2 hc0_2
  have HR0_4 := Aside0.mk hr0_4
  have HC0_4 := Aside0.mk hc0_4
  clear hr0_4 hc0_4
  have HR0_5 := Aside0.mk hr0_5
  have HC0_5 := Aside0.mk hc0_5
  clear hr0_5 hc0_5
  have HR0_6 := Aside0.mk hr0_6
  have HC0_6 := Aside0.mk hc0_6
  clear hr0_6 hc0_6
  have HB := Aside0.mk (Below.refl w.heap.size w)
  have H : (some (wrap64 (a0_0 - a0_1))) = some r := h
  clear h
  obtain rfl := Option.some.inj H
  go_enter Try.func66, Try.ntmps66
  go_wp2_with (first | ((with_reducible refine gate_dst (N := 1) rfl ?_); refine box_event ?hg (N := 1) ?hd (cs := #[.int .i64 a0_0, .int .i64 a0_1, .slice A0_2 l0_2.length c0_2, .bool a0_3, .slice A0_4 l0_4.length c0_4, .slice A0_5 l0_5.length c0_5, .slice A0_6 l0_6.length c0_6]) (t := 26) ?hr ?_; (case hd => rfl); (case hg => rfl); (case hr => first | (go_simp; done) | (go_simp; rfl)); intro gb436 hg w2 hbox hb; have n0_ := Aside0.mk (below_step (by repeat (first | (with_reducible first | exact HB.out | apply below_alloc | apply pw_below_drewN | apply below_drew1) | exact HB.out)) hb); have n1_ := Aside0.mk (hbox); have n2_ := Aside0.mk ((by rw [hg]; exact (below_size (by repeat (first | (with_reducible first | exact HB.out | apply below_alloc | apply pw_below_drewN | apply below_drew1) | exact HB.out))) : w.heap.size ≤ gb436)); have n3_ := Aside0.mk ((by rw [hg]; exact (below_size (by repeat (first | (with_reducible first | exact HB.out | apply below_alloc | apply pw_below_drewN | apply below_drew1) | exact HB.out))) : w.heap.size ≤ gb436)); clear HB; have HB := n0_; have BK436 := n1_; have GW436 := n2_; have GE436 := n3_; clear n0_ n1_ n2_ n3_; clear hb hbox hg; have hcz3_0 : w2.cell? ⟨gb436, 0, none⟩ = some (.int .i64 a0_0) := (blk_cell BK436.out 0).trans rfl; have hcz3_1 : w2.cell? ⟨gb436, 1, none⟩ = some (.int .i64 a0_1) := (blk_cell BK436.out 1).trans rfl; have hcz3_2 : w2.cell? ⟨gb436, 2, none⟩ = some (.slice A0_2 l0_2.length c0_2) := (blk_cell BK436.out 2).trans rfl; have hcz3_3 : w2.cell? ⟨gb436, 3, none⟩ = some (.bool a0_3) := (blk_cell BK436.out 3).trans rfl; have hcz3_4 : w2.cell? ⟨gb436, 4, none⟩ = some (.slice A0_4 l0_4.length c0_4) := (blk_cell BK436.out 4).trans rfl; have hcz3_5 : w2.cell? ⟨gb436, 5, none⟩ = some (.slice A0_5 l0_5.length c0_5) := (blk_cell BK436.out 5).trans rfl; have hcz3_6 : w2.cell? ⟨gb436, 6, none⟩ = some (.slice A0_6 l0_6.length c0_6) := (blk_cell BK436.out 6).trans rfl; have hfz3_0 := blk_frozen BK436.out 0; have hfz3_1 := blk_frozen BK436.out 1; have hfz3_2 := blk_frozen BK436.out 2; have hfz3_3 := blk_frozen BK436.out 3; have hfz3_4 := blk_frozen BK436.out 4; have hfz3_5 := blk_frozen BK436.out 5; have hfz3_6 := blk_frozen BK436.out 6))
  go_ret
  exact ⟨by first | rfl | (simp [errW_none, errW_some] <;> rfl) | (simp [*, errW_none, errW_some] <;> rfl), by repeat (first | (with_reducible first | exact HB.out | apply below_alloc | apply pw_below_drewN | apply below_drew1 | refine below_set ?_ GE436.out) | exact HB.out)⟩
end Go.Proofs.Ytackcingpffidaa.P
namespace Go.Proofs.Ytackcingpffidaa.P
open Go.RowKit Go.Proofs.YtackcingpffidaaW.PrintWords Go.Proofs.YtackcingpffidaaW.PrintLast Go.Proofs.YtackcingpffidaaW.PrintMore
theorem eqV_calls (x y : S39) (b : Bool) (h : (cV x y == 0) = b) (w : World) : Calls Try.prog 59 #[.agg #[.int .i64 x.f0, .int .i64 x.f1, .string x.f2], .agg #[.int .i64 y.f0, .int .i64 y.f1, .string y.f2]] w fun e w' => e = .returned (.bool b) ∧ Below w.heap.size w w' :=
  value_Equal.calls _ _ _ _ _ _ b w (by unfold value_Equal.f; rw [cV_is]; exact congrArg some h)
/-- The values that are not NULL. -/
def someS (l : List S39) : List S39 := l.filter fun v => !(v.f0 == 0)
/-- Their hashes, as they come. -/
def hashS (k : Nat) : List S39 → Option (List Int)
  | [] => some []
  | v :: vs => (value_Hash.f k 3 [v]).bind fun h => (hashS k vs).bind fun r => some (h :: r)
/-- One counter more, in row r. -/
def bump (k : Nat) (v : S39) (cs : List Int) (r : Nat) : Option (List Int) := (sketch_cell.f k r v.f0 v.f1 v.f2).bind fun c => if 0 ≤ c ∧ c < 64 then some (cs.set (r * 64 + c.toNat) (wrap64 (cs.getD (r * 64 + c.toNat) 0 + 1))) else none
def bumps (k : Nat) (v : S39) : List Int → Nat → Nat → Option (List Int)
  | cs, _, 0 => some cs
  | cs, r, m + 1 => (bump k v cs r).bind fun cs' => bumps k v cs' (r + 1) m
def counts (k : Nat) : List S39 → List Int → Option (List Int)
  | [], cs => some cs
  | v :: vs, cs => (bumps k v cs 0 4).bind fun cs' => counts k vs cs'
/-- The first place of the values equal to the one at kk, from f downwards; the first place behind them, upwards. -/
def fromS (s : List S39) (kk : Int) : Nat → Nat
  | 0 => 0
  | f + 1 => if cV (rd_T39 s f) (rd_T39 s kk) == 0 then fromS s kk f else f + 1
def toS (s : List S39) (kk : Int) : Nat → Nat → Nat
  | t, 0 => t
  | t, m + 1 => if cV (rd_T39 s t) (rd_T39 s kk) == 0 then toS s kk (t + 1) m else t
def fenceS (s : List S39) : List Int → List S39 → List Int → List S39 × List Int
  | [], F, R => (F, R)
  | kk :: ks, F, R => if decide (0 < F.length) && (cV (rd_T39 F ((F.length : Int) - 1)) (rd_T39 s kk) == 0) then fenceS s ks F R else fenceS s ks (F ++ [rd_T39 s kk]) (R ++ [(fromS s kk kk.toNat : Int), (toS s kk (kk.toNat + 1) (s.length - (kk.toNat + 1)) : Int)])
end Go.Proofs.Ytackcingpffidaa.P
namespace Go.Proofs.Ytackcingpffidaa.P
open Go.RowKit Go.Proofs.YtackcingpffidaaW.PrintWords Go.Proofs.YtackcingpffidaaW.PrintLast Go.Proofs.YtackcingpffidaaW.PrintMore
set_option linter.unusedVariables false
theorem C1 {w : World} {g : Nat} {x : S39} (h : w.heap[g]? = some (.cells #[.int .i64 x.f0, .int .i64 x.f1, .string x.f2] 39 (0, 0))) : Kd.C k39 w (some ⟨g, 0, none⟩) 1 [x] := by
  refine ⟨rfl, by decide, fun _ => ⟨_, rfl, fun j p hj => ?_⟩⟩
  cases j with
  | succ j => simp at hj
  | zero =>
    obtain rfl : x = p := by simpa using hj
    refine ⟨[.int .i64 x.f0, .int .i64 x.f1, .string x.f2], rfl, k39_mk w x, fun i u hu => ?_⟩
    have h0 := blk_cell h i
    rw [Nat.zero_mul, Nat.zero_add]
    have e : (⟨g, 0, none⟩ : Addr).add i = ⟨g, i, none⟩ := by unfold Addr.add; split <;> simp_all
    rw [e, h0]
    simpa using hu
theorem hash1 (k : Nat) (x : S39) (h : Int) (hh : value_Hash.f k 3 [x] = some h) {w : World} {g : Nat} (hb : w.heap[g]? = some (.cells #[.int .i64 x.f0, .int .i64 x.f1, .string x.f2] 39 (0, 0))) :
    Calls Try.prog 54 #[.int .u64 3, .slice (some ⟨g, 0, none⟩) 1 1] w fun e w' => e = .returned (.int .u64 h) ∧ Below w.heap.size w w' :=
  value_Hash.calls k 3 (some ⟨g, 0, none⟩) 1 [x] h w (C1 hb) (Nat.le_refl _) hh
theorem hashS_len {k : Nat} : ∀ {S : List S39} {hs : List Int}, hashS k S = some hs → hs.length = S.length
  | [], hs, h => by obtain rfl := Option.some.inj h; rfl
  | v :: vs, hs, h => by
    obtain ⟨a, h1, h2⟩ := Option.bind_eq_some_iff.mp h
    obtain ⟨b, h3, h4⟩ := Option.bind_eq_some_iff.mp h2
    obtain rfl := Option.some.inj h4
    simp [hashS_len h3]
theorem hashS_at {k : Nat} : ∀ {S : List S39} {hs : List Int}, hashS k S = some hs → ∀ i : Nat, i < S.length → value_Hash.f k 3 [rd_T39 S i] = some (rd hs i)
  | [], hs, h, i, hi => by simp at hi
  | v :: vs, hs, h, i, hi => by
    obtain ⟨a, h1, h2⟩ := Option.bind_eq_some_iff.mp h
    obtain ⟨b, h3, h4⟩ := Option.bind_eq_some_iff.mp h2
    obtain rfl := Option.some.inj h4
    cases i with
    | zero => exact h1
    | succ i =>
      have := hashS_at h3 i (by simpa using hi)
      simpa [rd_T39, rd] using this
theorem take_rd (hs : List Int) (i : Nat) (h : i < hs.length) : hs.take (i + 1) = hs.take i ++ [rd hs i] := by
  rw [List.take_succ_eq_append_getElem h]
  unfold rd
  rw [Int.toNat_natCast, List.getD_eq_getElem?_getD, List.getElem?_eq_getElem h]
  rfl
theorem drop_rd39 (S : List S39) (i : Nat) (h : i < S.length) : S.drop i = rd_T39 S i :: S.drop (i + 1) := by
  rw [List.drop_eq_getElem_cons h]
  congr 1
  unfold rd_T39
  rw [Int.toNat_natCast, List.getD_eq_getElem?_getD, List.getElem?_eq_getElem h]
  rfl
/-- One value's four counters, then the other values. -/
theorem counts_next {k : Nat} {S : List S39} {i : Nat} (h : i < S.length) {cur cs : List Int} (hc : counts k (S.drop i) cur = some cs) : ∃ c2, bumps k (rd_T39 S i) cur 0 4 = some c2 ∧ counts k (S.drop (i + 1)) c2 = some cs := by
  rw [drop_rd39 S i h] at hc
  exact Option.bind_eq_some_iff.mp hc
theorem bumps_next {k : Nat} {v : S39} {cur c2 : List Int} {r m : Nat} (h : bumps k v cur r (m + 1) = some c2) : ∃ c : Int, sketch_cell.f k r v.f0 v.f1 v.f2 = some c ∧ 0 ≤ c ∧ c < 64 ∧ bumps k v (cur.set (r * 64 + c.toNat) (wrap64 (cur.getD (r * 64 + c.toNat) 0 + 1))) (r + 1) m = some c2 := by
  obtain ⟨a, h1, h2⟩ := Option.bind_eq_some_iff.mp h
  unfold bump at h1
  obtain ⟨c, h3, h4⟩ := Option.bind_eq_some_iff.mp h1
  by_cases hc : 0 ≤ c ∧ c < 64
  · rw [if_pos hc] at h4
    obtain rfl := Option.some.inj h4
    exact ⟨c, h3, hc.1, hc.2, h2⟩
  · rw [if_neg hc] at h4
    exact absurd h4 (by simp)
/-- The counters' block. -/
def cntO (cur : List Int) : Obj := .cells (cur.map (Value.int .i64)).toArray 77 (0, 0)
theorem cnt_cell {w : World} {g : Nat} {cur : List Int} (h : w.heap[g]? = some (cntO cur)) (j : Nat) (hj : j < cur.length) : w.cell? ⟨g, j, none⟩ = some (.int .i64 (cur.getD j 0)) := by
  have h0 := blk_cell h j
  rw [h0]
  simp [hj]
theorem cnt_put {w : World} {g : Nat} {cur : List Int} (h : w.heap[g]? = some (cntO cur)) (j : Nat) (x : Int) : (w.setCell ⟨g, j, none⟩ (.int .i64 x)).heap[g]? = some (cntO (cur.set j x)) := by
  refine blk_put h j _ ?_
  apply Array.ext'
  simp [List.map_set]
theorem cnt_zero : Obj.cells Try.zeroCells77 77 (0, 0) = cntO (List.replicate 256 0) := by
  unfold cntO
  rw [List.map_replicate]
  kernel_rfl
theorem C2 {w : World} {g : Nat} {a b : Int} (h : w.heap[g]? = some (.cells #[.int .i64 a, .int .i64 b] 3 (0, 0))) : Kd.C (Kd.int .i64) w (some ⟨g, 0, none⟩) 2 [a, b] := by
  refine Kd.C_of_reads (enc := Value.int .i64) (d := (0 : Int)) (h1 := fun _ => rfl) ⟨rfl, by decide, fun _ => ⟨_, rfl, fun j hj => ?_⟩⟩
  have h0 := blk_cell h j
  rw [show (⟨g, 0, none⟩ : Addr).add j = ⟨g, j, none⟩ from by unfold Addr.add; split <;> simp_all, h0]
  match j, hj with
  | 0, _ => rfl
  | 1, _ => rfl
def put7 (w : World) (g : Nat) (u0 u1 u2 u3 u4 u5 u6 : Value) : World := ((((((w.setCell ⟨g, 0, none⟩ u0).setCell ⟨g, 1, none⟩ u1).setCell ⟨g, 2, none⟩ u2).setCell ⟨g, 3, none⟩ u3).setCell ⟨g, 4, none⟩ u4).setCell ⟨g, 5, none⟩ u5).setCell ⟨g, 6, none⟩ u6
theorem put7_blk {w : World} {g : Nat} {t : TypeId} {a0 a1 a2 a3 a4 a5 a6 : Value} (h : w.heap[g]? = some (.cells #[a0, a1, a2, a3, a4, a5, a6] t (0, 0))) (u0 u1 u2 u3 u4 u5 u6 : Value) : (put7 w g u0 u1 u2 u3 u4 u5 u6).heap[g]? = some (.cells #[u0, u1, u2, u3, u4, u5, u6] t (0, 0)) := by
  have h0 := blk_put (cs' := #[u0, a1, a2, a3, a4, a5, a6]) h 0 u0 rfl
  have h1 := blk_put (cs' := #[u0, u1, a2, a3, a4, a5, a6]) h0 1 u1 rfl
  have h2 := blk_put (cs' := #[u0, u1, u2, a3, a4, a5, a6]) h1 2 u2 rfl
  have h3 := blk_put (cs' := #[u0, u1, u2, u3, a4, a5, a6]) h2 3 u3 rfl
  have h4 := blk_put (cs' := #[u0, u1, u2, u3, u4, a5, a6]) h3 4 u4 rfl
  have h5 := blk_put (cs' := #[u0, u1, u2, u3, u4, u5, a6]) h4 5 u5 rfl
  exact blk_put (cs' := #[u0, u1, u2, u3, u4, u5, u6]) h5 6 u6 rfl
theorem typ_set {w : World} {g : Nat} {t : TypeId} (h : ∃ cs, w.heap[g]? = some (.cells cs t (0, 0))) (j : Nat) (u : Value) : ∃ cs, (w.setCell ⟨g, j, none⟩ u).heap[g]? = some (.cells cs t (0, 0)) := by
  obtain ⟨cs, h⟩ := h
  exact ⟨_, blk_set h j u⟩
theorem R_setE {w : World} {g : Nat} {t : TypeId} (h : ∃ cs, w.heap[g]? = some (.cells cs t (0, 0))) {α : Type} {d : Kd α} {e base : Nat} {ok : Nat → Prop} {v : Value} {xs : List α} (hr : d.R e w base ok v xs) (ht : ∀ q, q ∈ e :: d.E → q ≠ t) (j : Nat) (u : Value) : d.R e (w.setCell ⟨g, j, none⟩ u) base ok v xs := by
  obtain ⟨cs, h⟩ := h
  exact Kd.R_set hr h ht j u
theorem put7_R {w : World} {g : Nat} {t : TypeId} {cs : Array Value} (h : w.heap[g]? = some (.cells cs t (0, 0))) (u0 u1 u2 u3 u4 u5 u6 : Value) {α : Type} {d : Kd α} {e base : Nat} {ok : Nat → Prop} {v : Value} {xs : List α} (hr : d.R e w base ok v xs) (ht : ∀ q, q ∈ e :: d.E → q ≠ t) : d.R e (put7 w g u0 u1 u2 u3 u4 u5 u6) base ok v xs := by
  have t0 : ∃ cs, w.heap[g]? = some (.cells cs t (0, 0)) := ⟨_, h⟩
  have t1 := typ_set t0 0 u0
  have t2 := typ_set t1 1 u1
  have t3 := typ_set t2 2 u2
  have t4 := typ_set t3 3 u3
  have t5 := typ_set t4 4 u4
  have t6 := typ_set t5 5 u5
  exact R_setE t6 (R_setE t5 (R_setE t4 (R_setE t3 (R_setE t2 (R_setE t1 (R_setE t0 hr ht 0 u0) ht 1 u1) ht 2 u2) ht 3 u3) ht 4 u4) ht 5 u5) ht 6 u6
theorem put7_below {b : Nat} {w0 w : World} (h : Below b w0 w) {g : Nat} (hg : b ≤ g) (u0 u1 u2 u3 u4 u5 u6 : Value) : Below b w0 (put7 w g u0 u1 u2 u3 u4 u5 u6) :=
  ((((((h.setCell (p := ⟨g, 0, none⟩) hg u0).setCell (p := ⟨g, 1, none⟩) hg u1).setCell (p := ⟨g, 2, none⟩) hg u2).setCell (p := ⟨g, 3, none⟩) hg u3).setCell (p := ⟨g, 4, none⟩) hg u4).setCell (p := ⟨g, 5, none⟩) hg u5).setCell (p := ⟨g, 6, none⟩) hg u6
theorem drop_rd (S : List Int) (i : Nat) (h : i < S.length) : S.drop i = rd S i :: S.drop (i + 1) := by
  rw [List.drop_eq_getElem_cons h]
  congr 1
  unfold rd
  rw [Int.toNat_natCast, List.getD_eq_getElem?_getD, List.getElem?_eq_getElem h]
  rfl
theorem fence_same {T : List S39} {sp : List Int} {j : Nat} {Fj F : List S39} {Rj R : List Int} {x y : S39} (h : fenceS T (sp.drop j) Fj Rj = (F, R)) (hj : j < sp.length) (hx : rd_T39 Fj ((Fj.length : Int) - 1) = x) (hy : rd_T39 T (rd sp j) = y) (he : (cV x y == 0) = true) (hF : 0 < Fj.length) : fenceS T (sp.drop (j + 1)) Fj Rj = (F, R) := by
  rw [drop_rd sp j hj] at h
  unfold fenceS at h
  rw [if_pos (by rw [hx, hy, he, decide_eq_true hF]; rfl)] at h
  exact h
theorem fence_more {T : List S39} {sp : List Int} {j : Nat} {Fj F : List S39} {Rj R : List Int} {y : S39} (h : fenceS T (sp.drop j) Fj Rj = (F, R)) (hj : j < sp.length) (hy : rd_T39 T (rd sp j) = y) (he : (decide (0 < Fj.length) && (cV (rd_T39 Fj ((Fj.length : Int) - 1)) y == 0)) = false) :
    fenceS T (sp.drop (j + 1)) (Fj ++ [y]) (Rj ++ [(fromS T (rd sp j) (rd sp j).toNat : Int), (toS T (rd sp j) ((rd sp j).toNat + 1) (T.length - ((rd sp j).toNat + 1)) : Int)]) = (F, R) := by
  rw [drop_rd sp j hj] at h
  unfold fenceS at h
  rw [if_neg (by rw [hy, he]; simp), hy] at h
  exact h
theorem from_zero (T : List S39) (kk : Int) : fromS T kk 0 = 0 := rfl
theorem from_down {T : List S39} {kk : Int} {f r : Nat} (h : fromS T kk (f + 1) = r) (he : (cV (rd_T39 T f) (rd_T39 T kk) == 0) = true) : fromS T kk f = r := by unfold fromS at h; rw [if_pos he] at h; exact h
theorem from_stay {T : List S39} {kk : Int} {f r : Nat} (h : fromS T kk (f + 1) = r) (he : (cV (rd_T39 T f) (rd_T39 T kk) == 0) = false) : f + 1 = r := by unfold fromS at h; rw [if_neg (by rw [he]; simp)] at h; exact h
theorem to_up {T : List S39} {kk : Int} {t m r : Nat} (h : toS T kk t (m + 1) = r) (he : (cV (rd_T39 T t) (rd_T39 T kk) == 0) = true) : toS T kk (t + 1) m = r := by unfold toS at h; rw [if_pos he] at h; exact h
theorem to_stay {T : List S39} {kk : Int} {t m r : Nat} (h : toS T kk t (m + 1) = r) (he : (cV (rd_T39 T t) (rd_T39 T kk) == 0) = false) : t = r := by unfold toS at h; rw [if_neg (by rw [he]; simp)] at h; exact h
theorem to_le (T : List S39) (kk : Int) : ∀ m t, toS T kk t m ≤ t + m
  | 0, t => Nat.le_refl _
  | m + 1, t => by unfold toS; split; (have := to_le T kk m (t + 1); omega); omega
theorem from_le (T : List S39) (kk : Int) : ∀ f, fromS T kk f ≤ f
  | 0 => Nat.le_refl _
  | f + 1 => by unfold fromS; split; (have := from_le T kk f; omega); omega
end Go.Proofs.Ytackcingpffidaa.P
namespace Go.Proofs.Ytackcingpffidaa.P
open Go.RowKit Go.Sort Go.Proofs.YtackcingpffidaaW.PrintWords Go.Proofs.YtackcingpffidaaW.PrintLast Go.Proofs.YtackcingpffidaaW.PrintMore
set_option linter.unusedVariables false
set_option linter.unusedSimpArgs false
theorem grow2 (W : World) (b1 b2 : Obj) (n : Nat) : ((W.alloc b1).alloc b2).drewN n = grow (W.drewN n) #[b1, b2] := by
  have h : (W.heap.push b1).push b2 = W.heap ++ #[b1, b2] := by
    apply Array.ext'
    simp
  show ({ W with heap := (W.heap.push b1).push b2, drawn := W.drawn + n } : World) = { W with heap := W.heap ++ #[b1, b2], drawn := W.drawn + n }
  rw [h]
set_option maxHeartbeats 2000000 in
set_option maxRecDepth 100000 in
theorem cV_grown (x y : S39) (c : Int) (h : cV x y = c) (W : World) : Calls Try.prog 53 #[.agg #[.int .i64 x.f0, .int .i64 x.f1, .string x.f2], .agg #[.int .i64 y.f0, .int .i64 y.f1, .string y.f2]] W fun e w' => e = .returned (.int .i64 c) ∧ ∃ q os', w' = grow (W.drewN q) os' := by
  have hf : value_Compare.f x.f0 x.f1 x.f2 y.f0 y.f1 y.f2 = some c := by rw [cV_is, h]
  have g1 : ((W.alloc (.cells #[.int .i64 x.f0, .int .i64 x.f1, .string x.f2] 39)).alloc (.cells #[.int .i64 y.f0, .int .i64 y.f1, .string y.f2] 39)).heap[W.heap.size]? = some (.cells #[.int .i64 x.f0, .int .i64 x.f1, .string x.f2] 39 (0, 0)) := blk_alloc (heap_alloc_new W (.cells #[.int .i64 x.f0, .int .i64 x.f1, .string x.f2] 39)) _
  have g2 : ((W.alloc (.cells #[.int .i64 x.f0, .int .i64 x.f1, .string x.f2] 39)).alloc (.cells #[.int .i64 y.f0, .int .i64 y.f1, .string y.f2] 39)).heap[W.heap.size + 1]? = some (.cells #[.int .i64 y.f0, .int .i64 y.f1, .string y.f2] 39 (0, 0)) := by
    have := heap_alloc_new (W.alloc (.cells #[.int .i64 x.f0, .int .i64 x.f1, .string x.f2] 39)) (.cells #[.int .i64 y.f0, .int .i64 y.f1, .string y.f2] 39)
    rwa [World.size_alloc] at this
  have p0 : ((W.alloc (.cells #[.int .i64 x.f0, .int .i64 x.f1, .string x.f2] 39)).alloc (.cells #[.int .i64 y.f0, .int .i64 y.f1, .string y.f2] 39)).cell? ⟨W.heap.size, 0, none⟩ = some (.int .i64 x.f0) := (blk_cell g1 0).trans rfl
  have p1 : ((W.alloc (.cells #[.int .i64 x.f0, .int .i64 x.f1, .string x.f2] 39)).alloc (.cells #[.int .i64 y.f0, .int .i64 y.f1, .string y.f2] 39)).cell? ⟨W.heap.size, 1, none⟩ = some (.int .i64 x.f1) := (blk_cell g1 1).trans rfl
  have p2 : ((W.alloc (.cells #[.int .i64 x.f0, .int .i64 x.f1, .string x.f2] 39)).alloc (.cells #[.int .i64 y.f0, .int .i64 y.f1, .string y.f2] 39)).cell? ⟨W.heap.size, 2, none⟩ = some (.string x.f2) := (blk_cell g1 2).trans rfl
  have q0 : ((W.alloc (.cells #[.int .i64 x.f0, .int .i64 x.f1, .string x.f2] 39)).alloc (.cells #[.int .i64 y.f0, .int .i64 y.f1, .string y.f2] 39)).cell? ⟨W.heap.size + 1, 0, none⟩ = some (.int .i64 y.f0) := (blk_cell g2 0).trans rfl
  have q1 : ((W.alloc (.cells #[.int .i64 x.f0, .int .i64 x.f1, .string x.f2] 39)).alloc (.cells #[.int .i64 y.f0, .int .i64 y.f1, .string y.f2] 39)).cell? ⟨W.heap.size + 1, 1, none⟩ = some (.int .i64 y.f1) := (blk_cell g2 1).trans rfl
  have q2 : ((W.alloc (.cells #[.int .i64 x.f0, .int .i64 x.f1, .string x.f2] 39)).alloc (.cells #[.int .i64 y.f0, .int .i64 y.f1, .string y.f2] 39)).cell? ⟨W.heap.size + 1, 2, none⟩ = some (.string y.f2) := (blk_cell g2 2).trans rfl
  clear g1 g2 h
  unfold value_Compare.f at hf
  by_cases hk : x.f0 = y.f0
  · rw [if_pos hk] at hf
    have hkb : (x.f0 != y.f0) = false := by simp [hk]
    by_cases h3 : x.f0 = 3
    · rw [if_pos h3] at hf
      obtain ⟨t, ht, he⟩ := Option.bind_eq_some_iff.mp hf
      obtain rfl := Option.some.inj he
      have HC : Aside0 (∀ w', Calls Try.prog 100 #[.string x.f2, .string y.f2] w' fun e w'' => e = .returned (.int .i64 t) ∧ Drawn0 w' w'') := ⟨fun w' => strings_Compare.calls x.f2 y.f2 t w' ht⟩
      have e3 : (x.f0 == 3) = true := by simp [h3]
      clear hf he ht hk h3
      go_enter Try.func53, Try.ntmps53; go_wp2_with (first | (go_at_call 99; refine (HC.out _).mono ?_; rintro e w1 ⟨rfl, n, rfl⟩) | (go_at_call 100; refine (HC.out _).mono ?_; rintro e w1 ⟨rfl, n, rfl⟩)); go_ret
      exact ⟨rfl, _, _, grow2 W _ _ _⟩
    · rw [if_neg h3] at hf
      have e3 : (x.f0 == 3) = false := by simp [h3]
      by_cases h1 : x.f0 = 1
      · rw [if_pos h1] at hf
        obtain ⟨t, ht, he⟩ := Option.bind_eq_some_iff.mp hf
        obtain rfl := Option.some.inj he
        have HC : Aside0 (∀ w', Calls Try.prog 99 #[.bool (decide (x.f1 < y.f1)), .bool (decide (y.f1 < x.f1))] w' fun e w'' => e = .returned (.int .i64 t) ∧ Drawn0 w' w'') := ⟨fun w' => value_sign.calls _ _ t w' ht⟩
        have e1 : (x.f0 == 1) = true := by simp [h1]
        clear hf he ht hk h3 h1
        go_enter Try.func53, Try.ntmps53; go_wp2_with (first | (go_at_call 99; refine (HC.out _).mono ?_; rintro e w1 ⟨rfl, n, rfl⟩) | (go_at_call 100; refine (HC.out _).mono ?_; rintro e w1 ⟨rfl, n, rfl⟩)); go_ret
        exact ⟨rfl, _, _, grow2 W _ _ _⟩
      · rw [if_neg h1] at hf
        have e1 : (x.f0 == 1) = false := by simp [h1]
        by_cases h2 : x.f0 = 2
        · rw [if_pos h2] at hf
          obtain ⟨t, ht, he⟩ := Option.bind_eq_some_iff.mp hf
          obtain rfl := Option.some.inj he
          have HC : Aside0 (∀ w', Calls Try.prog 99 #[.bool (decide (x.f1 < y.f1)), .bool (decide (y.f1 < x.f1))] w' fun e w'' => e = .returned (.int .i64 t) ∧ Drawn0 w' w'') := ⟨fun w' => value_sign.calls _ _ t w' ht⟩
          have e2 : (x.f0 == 2) = true := by simp [h2]
          clear hf he ht hk h3 h1 h2
          go_enter Try.func53, Try.ntmps53; go_wp2_with (first | (go_at_call 99; refine (HC.out _).mono ?_; rintro e w1 ⟨rfl, n, rfl⟩) | (go_at_call 100; refine (HC.out _).mono ?_; rintro e w1 ⟨rfl, n, rfl⟩)); go_ret
          exact ⟨rfl, _, _, grow2 W _ _ _⟩
        · rw [if_neg h2] at hf
          obtain rfl := Option.some.inj hf
          have e2 : (x.f0 == 2) = false := by simp [h2]
          clear hf hk h3 h1 h2
          go_enter Try.func53, Try.ntmps53
          go_wp2
          go_ret
          exact ⟨rfl, 0, _, grow2 W _ _ 0⟩
  · rw [if_neg hk] at hf
    obtain ⟨t, ht, he⟩ := Option.bind_eq_some_iff.mp hf
    obtain rfl := Option.some.inj he
    have hkb : (x.f0 != y.f0) = true := by simp [hk]
    have HC : Aside0 (∀ w', Calls Try.prog 99 #[.bool (decide (x.f0 < y.f0)), .bool true] w' fun e w'' => e = .returned (.int .i64 t) ∧ Drawn0 w' w'') := ⟨fun w' => value_sign.calls _ _ t w' ht⟩
    clear hf he ht hk
    go_enter Try.func53, Try.ntmps53; go_wp2_with (first | (go_at_call 99; refine (HC.out _).mono ?_; rintro e w1 ⟨rfl, n, rfl⟩) | (go_at_call 100; refine (HC.out _).mono ?_; rintro e w1 ⟨rfl, n, rfl⟩)); go_ret
    exact ⟨rfl, _, _, grow2 W _ _ _⟩
end Go.Proofs.Ytackcingpffidaa.P
namespace Go.Proofs
open Go.Shelf
def Try.laysSortF_ren : Go.Shelf.Ren := ⟨fun | 6 => 52 | 15 => 98 | 14 => 97 | 28 => 120 | 29 => 121 | 20 => 112 | 21 => 113 | 22 => 114 | 23 => 115 | 24 => 116 | 25 => 117 | 26 => 118 | 27 => 119 | 46 => 128 | 47 => 129 | 48 => 130 | 49 => 131 | 50 => 132 | 57 => 142 | n => n, fun | 22 => 24 | 24 => 39 | 25 => 52 | 3 => 3 | 39 => 109 | 0 => 0 | 53 => 136 | 55 => 53 | 4 => 4 | 46 => 130 | 45 => 129 | 50 => 93 | 5 => 5 | 9 => 9 | 66 => 141 | 70 => 144 | 76 => 151 | 77 => 152 | n => n, fun | n => n⟩
theorem Try.laysSortF : Go.Proofs.SlLaysF0.n6 Try.prog Try.laysSortF_ren := {
  mixed := by kernel_rfl
  f6 := ⟨Try.f52.name, by decide, Try.func52.trans (congrArg some (by kernel_rfl))⟩
  f14 := ⟨Try.f97.name, by decide, Try.func97.trans (congrArg some (by kernel_rfl))⟩
  f15 := Try.func98.trans (congrArg some (by kernel_rfl))
  f20 := ⟨Try.f112.name, by decide, Try.func112.trans (congrArg some (by kernel_rfl))⟩
  f21 := ⟨Try.f113.name, by decide, Try.func113.trans (congrArg some (by kernel_rfl))⟩
  f22 := ⟨Try.f114.name, by decide, Try.func114.trans (congrArg some (by kernel_rfl))⟩
  f23 := ⟨Try.f115.name, by decide, Try.func115.trans (congrArg some (by kernel_rfl))⟩
  f24 := ⟨Try.f116.name, by decide, Try.func116.trans (congrArg some (by kernel_rfl))⟩
  f25 := ⟨Try.f117.name, by decide, Try.func117.trans (congrArg some (by kernel_rfl))⟩
  f26 := ⟨Try.f118.name, by decide, Try.func118.trans (congrArg some (by kernel_rfl))⟩
  f27 := ⟨Try.f119.name, by decide, Try.func119.trans (congrArg some (by kernel_rfl))⟩
  f28 := Try.func120.trans (congrArg some (by kernel_rfl))
  f29 := Try.func121.trans (congrArg some (by kernel_rfl))
  f46 := ⟨Try.f128.name, by decide, Try.func128.trans (congrArg some (by kernel_rfl))⟩
  f47 := Try.func129.trans (congrArg some (by kernel_rfl))
  f48 := Try.func130.trans (congrArg some (by kernel_rfl))
  f49 := ⟨Try.f131.name, by decide, Try.func131.trans (congrArg some (by kernel_rfl))⟩
  f50 := ⟨Try.f132.name, by decide, Try.func132.trans (congrArg some (by kernel_rfl))⟩
  f57 := ⟨Try.f142.name, by decide, Try.func142.trans (congrArg some (by kernel_rfl))⟩
  t0 := Try.underlying0
  a0 := Try.isAgg0
  z0 := Try.sizeOf0
  v0 := Try.zeroValue0
  t3 := Try.underlying3
  a3 := Try.isAgg3
  z3 := Try.sizeOf3
  v3 := Try.zeroValue3
  t4 := Try.underlying4
  a4 := Try.isAgg4
  z4 := Try.sizeOf4
  v4 := Try.zeroValue4
  t5 := Try.underlying5
  a5 := Try.isAgg5
  z5 := Try.sizeOf5
  v5 := Try.zeroValue5
  t9 := Try.underlying9
  a9 := Try.isAgg9
  z9 := Try.sizeOf9
  v9 := Try.zeroValue9
  t22 := Try.underlying24
  a22 := Try.isAgg24
  z22 := Try.sizeOf24
  v22 := Try.zeroValue24
  t25 := Try.underlying52
  a25 := Try.isAgg52
  z25 := Try.sizeOf52
  v25 := Try.zeroValue52
  t39 := Try.underlying109
  a39 := Try.isAgg109
  z39 := Try.sizeOf109
  v39 := Try.zeroValue109
  t45 := Try.underlying129
  a45 := Try.isAgg129
  z45 := Try.sizeOf129
  v45 := Try.zeroValue129
  t46 := Try.underlying130
  a46 := Try.isAgg130
  z46 := Try.sizeOf130
  v46 := Try.zeroValue130
  t50 := Try.underlying93
  a50 := Try.isAgg93
  z50 := Try.sizeOf93
  v50 := Try.zeroValue93
  t53 := Try.underlying136
  a53 := Try.isAgg136
  z53 := Try.sizeOf136
  v53 := Try.zeroValue136
  t55 := Try.underlying53
  a55 := Try.isAgg53
  z55 := Try.sizeOf53
  v55 := Try.zeroValue53
  t66 := Try.underlying141
  a66 := Try.isAgg141
  z66 := Try.sizeOf141
  v66 := Try.zeroValue141
  t70 := Try.underlying144
  a70 := Try.isAgg144
  z70 := Try.sizeOf144
  v70 := Try.zeroValue144
  t76 := Try.underlying151
  a76 := Try.isAgg151
  z76 := Try.sizeOf151
  v76 := Try.zeroValue151
  t77 := Try.underlying152
  a77 := Try.isAgg152
  z77 := Try.sizeOf152
  v77 := Try.zeroValue152 }
def Try.laysCompact_ren : Go.Shelf.Ren := ⟨fun | 43 => 104 | n => n, fun | 22 => 22 | 23 => 53 | 3 => 3 | 4 => 4 | 0 => 0 | n => n, fun | n => n⟩
theorem Try.laysCompact : Go.Proofs.SlLaysE.n43 Try.prog Try.laysCompact_ren := {
  mixed := by kernel_rfl
  f43 := ⟨Try.f104.name, by decide, Try.func104.trans (congrArg some (by kernel_rfl))⟩
  t0 := Try.underlying0
  a0 := Try.isAgg0
  z0 := Try.sizeOf0
  v0 := Try.zeroValue0
  t3 := Try.underlying3
  a3 := Try.isAgg3
  z3 := Try.sizeOf3
  v3 := Try.zeroValue3
  t4 := Try.underlying4
  a4 := Try.isAgg4
  z4 := Try.sizeOf4
  v4 := Try.zeroValue4
  t22 := Try.underlying22
  a22 := Try.isAgg22
  z22 := Try.sizeOf22
  v22 := Try.zeroValue22
  a23 := Try.isAgg53
  z23 := Try.sizeOf53 }
def Try.laysBits_ren : Go.Shelf.Ren := ⟨fun | 125 => 98 | 128 => 120 | 129 => 121 | n => n, fun | 46 => 109 | 3 => 3 | 51 => 136 | 53 => 53 | 4 => 4 | 5 => 5 | 9 => 9 | n => n, fun | n => n⟩
theorem Try.laysBits : Go.Proofs.Lays.n125 Try.prog Try.laysBits_ren := {
  mixed := by kernel_rfl
  f125 := Try.func98.trans (congrArg some (by kernel_rfl))
  f128 := Try.func120.trans (congrArg some (by kernel_rfl))
  f129 := Try.func121.trans (congrArg some (by kernel_rfl))
  t3 := Try.underlying3
  a3 := Try.isAgg3
  z3 := Try.sizeOf3
  v3 := Try.zeroValue3
  t4 := Try.underlying4
  a4 := Try.isAgg4
  z4 := Try.sizeOf4
  v4 := Try.zeroValue4
  t5 := Try.underlying5
  a5 := Try.isAgg5
  z5 := Try.sizeOf5
  v5 := Try.zeroValue5
  t9 := Try.underlying9
  a9 := Try.isAgg9
  z9 := Try.sizeOf9
  v9 := Try.zeroValue9
  t46 := Try.underlying109
  a46 := Try.isAgg109
  z46 := Try.sizeOf109
  v46 := Try.zeroValue109
  t51 := Try.underlying136
  a51 := Try.isAgg136
  z51 := Try.sizeOf136
  v51 := Try.zeroValue136
  t53 := Try.underlying53
  a53 := Try.isAgg53
  z53 := Try.sizeOf53
  v53 := Try.zeroValue53 }
end Go.Proofs
namespace Go.Proofs.Ytackcingpffidaa.P
open Go.RowKit Go.Sort Go.Proofs.YtackcingpffidaaW.PrintWords Go.Proofs.YtackcingpffidaaW.PrintLast Go.Proofs.YtackcingpffidaaW.PrintMore
set_option linter.unusedVariables false
set_option linter.unusedSimpArgs false
/-! ### a row's cells, flat -/
theorem flat_len {α : Type} (k : Nat) (f : α → List Value) (hf : ∀ x, (f x).length = k) : ∀ l : List α, (l.flatMap f).length = l.length * k
  | [] => by simp
  | x :: l => by rw [List.flatMap_cons, List.length_append, hf, flat_len k f hf l, List.length_cons, Nat.add_mul, Nat.one_mul, Nat.add_comm]
theorem flat_drop {α : Type} (k : Nat) (f : α → List Value) (hf : ∀ x, (f x).length = k) : ∀ (l : List α) (i : Nat), (l.flatMap f).drop (i * k) = (l.drop i).flatMap f
  | l, 0 => by simp
  | [], i + 1 => by simp
  | x :: l, i + 1 => by
    rw [List.flatMap_cons, List.drop_succ_cons, Nat.add_mul, Nat.one_mul, ← flat_drop k f hf l i, show i * k + k = (f x).length + i * k from by rw [hf]; omega, List.drop_append]
    simp
theorem flat_take {α : Type} (k : Nat) (f : α → List Value) (hf : ∀ x, (f x).length = k) : ∀ (l : List α) (i : Nat), (l.flatMap f).take (i * k) = (l.take i).flatMap f
  | l, 0 => by simp
  | [], i + 1 => by simp
  | x :: l, i + 1 => by
    rw [List.flatMap_cons, List.take_succ_cons, List.flatMap_cons, Nat.add_mul, Nat.one_mul, ← flat_take k f hf l i, show i * k + k = (f x).length + i * k from by rw [hf]; omega, List.take_append, List.take_of_length_le (by omega)]
    simp
theorem flat_reps {α : Type} (R : α → List Value → Prop) (k : Nat) (f : α → List Value) (hf : ∀ x, (f x).length = k) (hR : ∀ x, R x (f x)) (l : List α) : Reps R k l (l.flatMap f) := by
  refine ⟨flat_len k f hf l, fun j p hj => ?_⟩
  rw [flat_drop k f hf]
  obtain ⟨hjl, rfl⟩ := List.getElem?_eq_some_iff.1 hj
  rw [List.drop_eq_getElem_cons hjl, List.flatMap_cons, List.take_append, List.take_of_length_le (by rw [hf]; omega), hf]
  simp
  exact hR _
theorem flat_of_reps {α : Type} {R : α → List Value → Prop} {k : Nat} {f : α → List Value} (hf : ∀ x, (f x).length = k) (hR : ∀ x c, R x c → c = f x) {l : List α} {cs : List Value} (h : Reps R k l cs) : cs = l.flatMap f := by
  revert cs
  induction l with
  | nil =>
    intro cs h
    have := h.1
    simp at this
    rw [List.flatMap_nil, this]
  | cons x l ih =>
    intro cs h
    have h0 := hR _ _ (h.2 0 x rfl)
    rw [Nat.zero_mul, List.drop_zero] at h0
    have h1 : cs.drop k = l.flatMap f := ih ⟨by rw [List.length_drop, h.1, List.length_cons, Nat.add_mul, Nat.one_mul]; omega, fun j p hj => by
      have := h.2 (j + 1) p (by simpa using hj)
      rw [List.drop_drop]
      rwa [Nat.add_mul, Nat.one_mul, Nat.add_comm (j * k) k] at this⟩
    rw [List.flatMap_cons, ← h0, ← h1, List.take_append_drop]
def enc39 (x : S39) : List Value := [.int .i64 x.f0, .int .i64 x.f1, .string x.f2]
def E39 (l : List S39) : List Value := l.flatMap enc39
theorem len39 (x : S39) : (enc39 x).length = 3 := rfl
theorem E39_len (l : List S39) : (E39 l).length = l.length * 3 := flat_len 3 _ len39 l
theorem enc39_one (x : S39) : ∀ v ∈ enc39 x, v.oneCell' = true := by
  intro v hv
  simp [enc39] at hv
  rcases hv with rfl | rfl | rfl <;> rfl
theorem R39_of {w : World} {base : Nat} {ok : Nat → Prop} {v : Value} {l : List S39} (h : w.ownsRow base 39 3 v l.length (E39 l)) (hok : ∀ k, v.ownBlock = some k → ok k) : Kd.R k39 39 w base ok v l :=
  ⟨hok, E39 l, h, flat_reps _ 3 _ len39 (fun x => k39_mkM w base _ x) l⟩
theorem R39_own {w : World} {base : Nat} {ok : Nat → Prop} {v : Value} {l : List S39} (h : Kd.R k39 39 w base ok v l) : w.ownsRow base 39 3 v l.length (E39 l) := by
  obtain ⟨_, inner, ho, hr⟩ := h
  have : inner = E39 l := flat_of_reps len39 (fun x c hc => k39_openM hc) hr
  rw [← this]; exact ho
instance : Inhabited S39 := ⟨z39⟩
theorem flatK_E39 (l : List S39) : (flatK enc39 3 l.toArray).toList = E39 l := by
  apply List.ext_getElem?
  intro t
  by_cases ht : t < l.length * 3
  · have h1 : (flatK enc39 3 l.toArray).toList[t]? = some ((enc39 l.toArray[t / 3]!)[t % 3]!) := by
      rw [Array.getElem?_toList]
      simp [flatK, ht]
    have hr := (flat_reps (fun (x : S39) c => c = enc39 x) 3 enc39 len39 (fun _ => rfl) l).2 (t / 3) l[t / 3] (List.getElem?_eq_getElem (by omega))
    have h2 : (E39 l)[t]? = (enc39 l[t / 3])[t % 3]? := by
      rw [← hr, List.getElem?_take_of_lt (by omega), List.getElem?_drop]
      unfold E39
      congr 1
      omega
    rw [h1, h2]
    have h3 : l.toArray[t / 3]! = l[t / 3] := by
      rw [getElem!_pos l.toArray (t / 3) (by simp; omega)]
      simp
    rw [h3]
    have h4 : t % 3 < (enc39 l[t / 3]).length := by rw [len39]; omega
    rw [List.getElem?_eq_getElem h4, getElem!_pos (enc39 l[t / 3]) (t % 3) h4]
  · rw [List.getElem?_eq_none (by simp; omega), List.getElem?_eq_none (by rw [E39_len]; omega)]
end Go.Proofs.Ytackcingpffidaa.P
namespace Go.Proofs.Ytackcingpffidaa.P
open Go.RowKit Go.Sort Go.Proofs.YtackcingpffidaaW.PrintWords Go.Proofs.YtackcingpffidaaW.PrintLast Go.Proofs.YtackcingpffidaaW.PrintMore
set_option linter.unusedVariables false
set_option linter.unusedSimpArgs false
/-- Less, told out. -/
def lV (x y : S39) : Bool := if x.f0 = y.f0 then (if x.f0 = 3 then decide (Lib.compareBytes x.f2.data.toList y.f2.data.toList < 0) else if x.f0 = 1 ∨ x.f0 = 2 then decide (x.f1 < y.f1) else false) else decide (x.f0 < y.f0)
theorem sign_lt (a b : Bool) (t : Int) (h : value_sign.f a b = some t) : decide (t < 0) = a := by
  cases a <;> cases b <;> (obtain rfl := Option.some.inj h; rfl)
theorem lt_lV (x y : S39) : ltOf cV x y = lV x y := by
  have hf : value_Compare.f x.f0 x.f1 x.f2 y.f0 y.f1 y.f2 = some (cV x y) := cV_is x y
  unfold ltOf lV
  generalize cV x y = c at hf ⊢
  unfold value_Compare.f at hf
  by_cases hk : x.f0 = y.f0
  · rw [if_pos hk] at hf ⊢
    by_cases h3 : x.f0 = 3
    · rw [if_pos h3] at hf ⊢
      obtain ⟨t, ht, he⟩ := Option.bind_eq_some_iff.mp hf
      obtain rfl := Option.some.inj he
      obtain rfl := Option.some.inj ht
      rfl
    · rw [if_neg h3] at hf ⊢
      by_cases h1 : x.f0 = 1
      · rw [if_pos h1] at hf
        rw [if_pos (.inl h1)]
        obtain ⟨t, ht, he⟩ := Option.bind_eq_some_iff.mp hf
        obtain rfl := Option.some.inj he
        exact sign_lt _ _ _ ht
      · rw [if_neg h1] at hf
        by_cases h2 : x.f0 = 2
        · rw [if_pos h2] at hf
          rw [if_pos (.inr h2)]
          obtain ⟨t, ht, he⟩ := Option.bind_eq_some_iff.mp hf
          obtain rfl := Option.some.inj he
          exact sign_lt _ _ _ ht
        · rw [if_neg h2] at hf
          rw [if_neg (by simp [h1, h2])]
          obtain rfl := Option.some.inj hf
          rfl
  · rw [if_neg hk] at hf ⊢
    obtain ⟨t, ht, he⟩ := Option.bind_eq_some_iff.mp hf
    obtain rfl := Option.some.inj he
    exact sign_lt _ _ _ ht
theorem swo_of (lb : ByteArray → ByteArray → Bool) (hb : SWO lb) : SWO (fun x y : S39 => if x.f0 = y.f0 then (if x.f0 = 3 then lb x.f2 y.f2 else if x.f0 = 1 ∨ x.f0 = 2 then decide (x.f1 < y.f1) else false) else decide (x.f0 < y.f0)) where
  irrefl x := by
    simp only [if_true]
    split
    · exact hb.irrefl _
    · split
      · simp
      · rfl
  trans x y z h1 h2 := by
    by_cases hxy : x.f0 = y.f0
    · rw [if_pos hxy] at h1
      by_cases hyz : y.f0 = z.f0
      · rw [if_pos hyz] at h2
        rw [if_pos (hxy.trans hyz)]
        rw [hxy] at h1 ⊢
        by_cases h3 : y.f0 = 3
        · rw [if_pos h3] at h1 h2 ⊢
          exact hb.trans _ _ _ h1 h2
        · rw [if_neg h3] at h1 h2 ⊢
          by_cases h4 : y.f0 = 1 ∨ y.f0 = 2
          · rw [if_pos h4] at h1 h2 ⊢
            simp only [decide_eq_true_eq] at *
            omega
          · rw [if_neg h4] at h1
            exact absurd h1 (by simp)
      · rw [if_neg hyz] at h2
        rw [hxy, if_neg hyz]
        exact h2
    · rw [if_neg hxy] at h1
      by_cases hyz : y.f0 = z.f0
      · rw [← hyz, if_neg hxy]
        exact h1
      · rw [if_neg hyz] at h2
        simp only [decide_eq_true_eq] at h1 h2
        rw [if_neg (by omega)]
        simp only [decide_eq_true_eq]
        omega
  ntrans x y z h1 h2 := by
    by_cases hxy : x.f0 = y.f0
    · rw [if_pos hxy] at h1
      by_cases hyz : y.f0 = z.f0
      · rw [if_pos hyz] at h2
        rw [if_pos (hxy.trans hyz)]
        rw [hxy] at h1 ⊢
        by_cases h3 : y.f0 = 3
        · rw [if_pos h3] at h1 h2 ⊢
          exact hb.ntrans _ _ _ h1 h2
        · rw [if_neg h3] at h1 h2 ⊢
          by_cases h4 : y.f0 = 1 ∨ y.f0 = 2
          · rw [if_pos h4] at h1 h2 ⊢
            simp only [decide_eq_false_iff_not] at *
            omega
          · rw [if_neg h4]
      · rw [if_neg hyz] at h2
        rw [hxy, if_neg hyz]
        exact h2
    · rw [if_neg hxy] at h1
      by_cases hyz : y.f0 = z.f0
      · rw [← hyz, if_neg hxy]
        exact h1
      · rw [if_neg hyz] at h2
        simp only [decide_eq_false_iff_not] at h1 h2
        by_cases hxz : x.f0 = z.f0
        · exfalso
          omega
        · rw [if_neg hxz]
          simp only [decide_eq_false_iff_not]
          omega
theorem compare_lt : ∀ x y : List UInt8, Lib.compareBytes x y < 0 ↔ x < y
  | [], [] => by simp [Lib.compareBytes]
  | [], b :: y => by simp [Lib.compareBytes]
  | a :: x, [] => by simp [Lib.compareBytes]
  | a :: x, b :: y => by
    have ih := compare_lt x y
    rw [List.cons_lt_cons_iff]
    simp only [Lib.compareBytes]
    rcases Nat.lt_trichotomy a.toNat b.toNat with h | h | h
    · have h1 : a < b := UInt8.lt_iff_toNat_lt.2 h
      simp [h1]
    · obtain rfl : a = b := UInt8.toNat_inj.1 h
      have h2 : ¬ a < a := fun e => by have := UInt8.lt_iff_toNat_lt.1 e; omega
      simp [h2, ih]
    · have h1 : b < a := UInt8.lt_iff_toNat_lt.2 h
      have h2 : ¬ a < b := fun e => by have := UInt8.lt_iff_toNat_lt.1 e; omega
      have h3 : ¬ a = b := fun e => by subst e; omega
      simp [h1, h2, h3]
theorem swo_lb : SWO (fun a b : ByteArray => decide (Lib.compareBytes a.data.toList b.data.toList < 0)) where
  irrefl x := by simp [ltStr, compare_lt]
  trans x y z h1 h2 := by have := swo_ltStr.trans x.data.toList y.data.toList z.data.toList; simp only [compare_lt, ltStr] at *; exact this h1 h2
  ntrans x y z h1 h2 := by have := swo_ltStr.ntrans x.data.toList y.data.toList z.data.toList; simp only [compare_lt, ltStr] at *; exact this h1 h2
theorem swo_cV : SWO (ltOf cV) := by
  have h := swo_of _ swo_lb
  have e : ltOf cV = lV := by funext x y; exact lt_lV x y
  rw [e]
  exact h
end Go.Proofs.Ytackcingpffidaa.P
namespace Go.Proofs.Ytackcingpffidaa.P
open Go.RowKit Go.Sort Go.Proofs.YtackcingpffidaaW.PrintWords Go.Proofs.YtackcingpffidaaW.PrintLast Go.Proofs.YtackcingpffidaaW.PrintMore
set_option linter.unusedVariables false
set_option linter.unusedSimpArgs false
/-- What the sort makes of a list. -/
def sortV (l : List S39) : List S39 := (pdq (ltOf cV) l.toArray 0 l.toArray.size (Lib.bitLen l.toArray.size) true true).toList
theorem sortV_perm (l : List S39) : PermIn 0 l.toArray.size l.toArray (sortV l).toArray ∧ SortedIn (ltOf cV) 0 l.toArray.size (sortV l).toArray := by
  have h := pdq_sorts (ltOf cV) swo_cV l.toArray 0 l.toArray.size (Lib.bitLen l.toArray.size) true true (Nat.zero_le _) (Nat.le_refl _) (Or.inl rfl)
  unfold sortV
  simpa using h
theorem sortV_len (l : List S39) : (sortV l).length = l.length := by
  have h := (sortV_perm l).1.1
  simpa using h
theorem holds39 {w : World} {g : Nat} {cur : Array Value} {e : TypeId} {l : List S39} (hb : w.heap[g]? = some (.cells cur e (0, 0))) (ht : cur.toList.take (l.length * 3) = E39 l) : HoldsK enc39 3 w g 0 l.toArray := by
  intro j hj
  have hj' : j < l.length * 3 := by simpa using hj
  refine ⟨?_, by simp [World.frozen?, hb]⟩
  have h1 : (cur.toList.take (l.length * 3))[j]? = (flatK enc39 3 l.toArray).toList[j]? := by rw [ht, flatK_E39]
  rw [List.getElem?_take_of_lt hj'] at h1
  simp only [World.cell?, hb, Nat.zero_add]
  simp only [Option.isSome_none, Bool.false_eq_true, if_false]
  rw [← Array.getElem?_toList, h1, Array.getElem?_toList]
  rw [Array.getElem?_eq_getElem (by simpa using hj'), getElem!_pos _ j (by simpa using hj')]
  rfl
theorem heap_put39 {w : World} {g n : Nat} {os : Array Obj} {cur : Array Value} {e : TypeId} (d : Array S39) (hb : w.heap[g]? = some (.cells cur e (0, 0))) :
    (sortWorldK enc39 3 w g 0 n d os).heap[g]? = some (.cells (putCells id 0 (flatK enc39 3 d) cur) e (0, 0)) := by
  have hg : g < w.heap.size := (Array.getElem?_eq_some_iff.1 hb).1
  unfold sortWorldK putRowK
  rw [heap_grow_old _ _ (by simpa using hg)]
  simp [putRow, mapBlock, Sort.ahead, Array.getElem?_modify, hb, onCells]
theorem grown_put39 {w : World} {g n : Nat} {os : Array Obj} (d : Array S39) : w.grownBy (sortWorldK enc39 3 w g 0 n d os) (some g) := by
  unfold sortWorldK putRowK
  refine ⟨rfl, rfl, rfl, by simp, fun k hk hne => ?_⟩
  rw [heap_grow_old _ _ (by simpa using hk)]
  have : g ≠ k := fun e => hne (by rw [e])
  simp [putRow, mapBlock, Sort.ahead, Array.getElem?_modify, this]
theorem take_put39 (cur : Array Value) (l : List S39) (h : l.length * 3 ≤ cur.size) : (putCells id 0 (flatK enc39 3 l.toArray) cur).toList.take (l.length * 3) = E39 l := by
  rw [← flatK_E39]
  apply List.ext_getElem?
  intro j
  by_cases hj : j < l.length * 3
  · rw [List.getElem?_take_of_lt hj, Array.getElem?_toList, Array.getElem?_toList]
    simp [putCells, hj, show j < cur.size by omega]
  · rw [List.getElem?_take_eq_none (by omega), List.getElem?_eq_none (by simp; omega)]
theorem f52_own {w : World} {base : Nat} {ok : Nat → Prop} {v : Value} {l : List S39} (h : Kd.R k39 39 w base ok v l) (hn : l.length ≤ 1000000) :
    Calls Try.prog 52 #[v, .func (.func 53) #[] #[]] w fun e w' => e = .returned (.tuple #[]) ∧ Kd.R k39 39 w' base ok v (sortV l) ∧ w.grownBy w' v.ownBlock := by
  have hok := h.1
  have ho := R39_own h
  obtain ⟨hl, hr⟩ := ho
  rcases hr with ⟨rfl, h0⟩ | ⟨g, cap, cur, rfl, hb, hh, h1, h2, h3, h4⟩
  · obtain rfl : l = [] := List.eq_nil_of_length_eq_zero h0
    refine (AnyF.slices_SortFunc_none Try.laysSortF none 0 (.func (.func 53) #[] #[]) w).mono ?_
    rintro e w' ⟨rfl, rfl⟩
    have hs : sortV [] = [] := List.eq_nil_of_length_eq_zero (sortV_len [])
    exact ⟨rfl, by rw [hs]; exact h, World.grownBy.refl _ _⟩
  · have hC : CmpLays Try.prog 53 #[] enc39 3 cV g 0 l.toArray.size w := fun m os dk hd x y => cV_grown x y (cV x y) rfl _
    have hc := AnyQ.slices_SortFunc_eq Try.laysSortF 3 Try.isAgg39 Try.sizeOf39 enc39 len39 enc39_one cV swo_cV 53 #[] g 0 cap l.toArray w (enters_of Try.func53 (by kernel_rfl) rfl) hC (holds39 hh h4) (Array.getElem?_eq_some_iff.1 hh).1 (by simp; omega)
    refine Calls.mono (show Calls Try.prog 52 #[.slice (some ⟨g, 0, none⟩) l.length cap, .func (.func 53) #[] #[]] w _ from hc) ?_
    rintro e w' ⟨rfl, n, os, rfl⟩
    have hs := sortV_len l
    have hse : pdq (ltOf cV) l.toArray 0 l.toArray.size (Lib.bitLen l.toArray.size) true true = (sortV l).toArray := by unfold sortV; simp
    rw [hse]
    refine ⟨rfl, ?_, by simpa [Value.ownBlock] using grown_put39 _⟩
    refine R39_of ⟨by rw [E39_len], .inr ⟨g, cap, _, by rw [hs], hb, heap_put39 _ hh, by rw [hs]; exact h1, h2, by simp [putCells, h3], ?_⟩⟩ hok
    exact take_put39 cur _ (by rw [hs]; omega)
end Go.Proofs.Ytackcingpffidaa.P
namespace Go.Proofs.Ytackcingpffidaa.P
open Go.RowKit Go.Proofs.YtackcingpffidaaW.PrintWords Go.Proofs.YtackcingpffidaaW.PrintLast Go.Proofs.YtackcingpffidaaW.PrintMore
attribute [local go_sem] max2_int min2_int max_two min_two max_three min_three max_four min_four Go.Proofs.YtackcingpffidaaQ.str_gtr Go.Proofs.YtackcingpffidaaQ.str_leq Go.Proofs.YtackcingpffidaaQ.str_geq   -- for this text's walks alone
set_option linter.unusedVariables false
set_option linter.unusedSimpArgs false
/-! ### sketch_upper: function 70 -/
def sketch_upper.l0 : Nat → Bool → List (S39) → Int → Int → Int → Int → List Int → Bool → List Int → List (S39) → List Int → Int → Int → ByteArray → Option (Int)
  | 0, _, _, _, _, _, _, _, _, _, _, _, _, _, _ => none
  | k + 1, x2, x11, x12, x13, x440000, x440001, x440002, x440003, x440004, x440005, x440006, x441000, x441001, x441002 => if x13 < x12 then (if 0 ≤ x13 then (if x13 < (x11.length : Int) then ((value_Compare.f ((rd_T39 x11 x13).f0) ((rd_T39 x11 x13).f1) ((rd_T39 x11 x13).f2) x441000 x441001 x441002).bind fun t443 => (if t443 > 0 then (if 0 ≤ (wrap64 (2 * x13)) then (if (wrap64 (2 * x13)) < (x440006.length : Int) then (some (rd x440006 (wrap64 (2 * x13)))) else (none)) else (none)) else (if t443 = 0 then (if x2 = true then (if 0 ≤ (wrap64 (2 * x13)) then (if (wrap64 (2 * x13)) < (x440006.length : Int) then (some (rd x440006 (wrap64 (2 * x13)))) else (none)) else (none)) else (sketch_upper.l0 k x2 x11 x12 (wrap64 (x13 + 1)) x440000 x440001 x440002 x440003 x440004 x440005 x440006 x441000 x441001 x441002)) else (sketch_upper.l0 k x2 x11 x12 (wrap64 (x13 + 1)) x440000 x440001 x440002 x440003 x440004 x440005 x440006 x441000 x441001 x441002)))) else (none)) else (none)) else ((sketch_count.f x440000 x440001 x440002 x440003 x440004 x440005 x440006).bind fun t446 => (some t446))
def sketch_upper.f (k : Nat) (a0_0 : Int) (a0_1 : Int) (l0_2 : List Int) (a0_3 : Bool) (l0_4 : List Int) (l0_5 : List (S39)) (l0_6 : List Int) (a1_0 : Int) (a1_1 : Int) (a1_2 : ByteArray) (a2 : Bool) : Option (Int) := sketch_upper.l0 k a2 l0_5 (l0_5.length : Int) 0 a0_0 a0_1 l0_2 a0_3 l0_4 l0_5 l0_6 a1_0 a1_1 a1_2
theorem sketch_upper.mono_l : ∀ k, (∀ y0 y1 y2 y3 y4 y5 y6 y7 y8 y9 y10 y11 y12 y13, LeO (sketch_upper.l0 k y0 y1 y2 y3 y4 y5 y6 y7 y8 y9 y10 y11 y12 y13) (sketch_upper.l0 (k + 1) y0 y1 y2 y3 y4 y5 y6 y7 y8 y9 y10 y11 y12 y13))
  | 0 => fun _ _ _ _ _ _ _ _ _ _ _ _ _ _ r h => by simp [sketch_upper.l0] at h
  | k + 1 => by
    have ih0 := sketch_upper.mono_l k
    · intro y0 y1 y2 y3 y4 y5 y6 y7 y8 y9 y10 y11 y12 y13
      unfold sketch_upper.l0
      repeat' first
      | (with_reducible exact ih0 _ _ _ _ _ _ _ _ _ _ _ _ _ _)
      | (with_reducible exact LeO.refl _)
      | (with_reducible exact LeO.none _)
      | (with_reducible refine LeO.ite ?_ ?_)
      | (with_reducible refine LeO.bind ?_ (fun _ => ?_))
      | exact ih0 _ _ _ _ _ _ _ _ _ _ _ _ _ _
      | exact LeO.none _
      | refine LeO.ite ?_ ?_
      | refine LeO.bind ?_ (fun _ => ?_)
theorem sketch_upper.mono : ∀ a0 a1 a2 a3 a4 a5 a6 a7 a8 a9 a10 k, LeO (sketch_upper.f k a0 a1 a2 a3 a4 a5 a6 a7 a8 a9 a10) (sketch_upper.f (k + 1) a0 a1 a2 a3 a4 a5 a6 a7 a8 a9 a10) := by
  intro a0 a1 a2 a3 a4 a5 a6 a7 a8 a9 a10 k
  have ih0 := sketch_upper.mono_l k
  unfold sketch_upper.f
  repeat' first
      | (with_reducible exact ih0 _ _ _ _ _ _ _ _ _ _ _ _ _ _)
      | (with_reducible exact LeO.refl _)
      | (with_reducible exact LeO.none _)
      | (with_reducible refine LeO.ite ?_ ?_)
      | (with_reducible refine LeO.bind ?_ (fun _ => ?_))
      | exact ih0 _ _ _ _ _ _ _ _ _ _ _ _ _ _
      | exact LeO.none _
      | refine LeO.ite ?_ ?_
      | refine LeO.bind ?_ (fun _ => ?_)
set_option maxHeartbeats 8000000 in
set_option maxRecDepth 100000 in
theorem sketch_upper.calls (k : Nat) (a0_0 : Int) (a0_1 : Int) (A0_2 : Option Addr) (c0_2 : Nat) (l0_2 : List Int) (a0_3 : Bool) (A0_4 : Option Addr) (c0_4 : Nat) (l0_4 : List Int) (A0_5 : Option Addr) (c0_5 : Nat) (l0_5 : List (S39)) (A0_6 : Option Addr) (c0_6 : Nat) (l0_6 : List Int) (a1_0 : Int) (a1_1 : Int) (a1_2 : ByteArray) (a2 : Bool) (r : Int) (w : World) (hr0_2 : Kd.C (Kd.int .u64) w A0_2 l0_2.length l0_2) (hc0_2 : l0_2.length ≤ c0_2) (hr0_4 : Kd.C (Kd.int .i64) w A0_4 l0_4.length l0_4) (hc0_4 : l0_4.length ≤ c0_4) (hr0_5 : Kd.C k39 w A0_5 l0_5.length l0_5) (hc0_5 : l0_5.length ≤ c0_5) (hr0_6 : Kd.C (Kd.int .i64) w A0_6 l0_6.length l0_6) (hc0_6 : l0_6.length ≤ c0_6) (h : sketch_upper.f k a0_0 a0_1 l0_2 a0_3 l0_4 l0_5 l0_6 a1_0 a1_1 a1_2 a2 = some r) :
    Calls Try.prog 70 #[.agg #[.int .i64 a0_0, .int .i64 a0_1, .slice A0_2 l0_2.length c0_2, .bool a0_3, .slice A0_4 l0_4.length c0_4, .slice A0_5 l0_5.length c0_5, .slice A0_6 l0_6.length c0_6], .agg #[.int .i64 a1_0, .int .i64 a1_1, .string a1_2], .bool a2] w fun e w' => e = .returned (.int .i64 r) ∧ Below w.heap.size w w' := by
  have hu26 := Try.underlying26
  have hu39 := Try.underlying39
  have HR0_2 := Aside0.mk hr0_2
  have HC0_2 := Aside0.mk hc0_2
  clear hr0_2 hc0_2
  have HR0_4 := Aside0.mk hr0_4
  have HC0_4 := Aside0.mk hc0_4
  clear hr0_4 hc0_4
  have HR0_5 := Aside0.mk hr0_5
  have HC0_5 := Aside0.mk hc0_5
  clear hr0_5 hc0_5
  have HR0_6 := Aside0.mk hr0_6
  have HC0_6 := Aside0.mk hc0_6
  clear hr0_6 hc0_6
  have HB := Aside0.mk (Below.refl w.heap.size w)
  have H : (sketch_upper.l0 k a2 l0_5 (l0_5.length : Int) 0 a0_0 a0_1 l0_2 a0_3 l0_4 l0_5 l0_6 a1_0 a1_1 a1_2) = some r := h
  clear h
  have H' := Aside0.mk H
  clear H
  go_enter Try.func70, Try.ntmps70
  go_wp2_with (first | ((with_reducible refine gate_dst (N := 3) rfl ?_); refine box_event ?hg (N := 3) ?hd (cs := #[.int .i64 a0_0, .int .i64 a0_1, .slice A0_2 l0_2.length c0_2, .bool a0_3, .slice A0_4 l0_4.length c0_4, .slice A0_5 l0_5.length c0_5, .slice A0_6 l0_6.length c0_6]) (t := 26) ?hr ?_; (case hd => rfl); (case hg => rfl); (case hr => first | (go_simp; done) | (go_simp; rfl)); intro gb439 hg w4 hbox hb; have n0_ := Aside0.mk (below_step (by repeat (first | (with_reducible first | exact HB.out | apply below_alloc | apply pw_below_drewN | apply below_drew1) | exact HB.out)) hb); have n1_ := Aside0.mk (hbox); have n2_ := Aside0.mk ((by rw [hg]; exact (below_size (by repeat (first | (with_reducible first | exact HB.out | apply below_alloc | apply pw_below_drewN | apply below_drew1) | exact HB.out))) : w.heap.size ≤ gb439)); have n3_ := Aside0.mk ((by rw [hg]; exact (below_size (by repeat (first | (with_reducible first | exact HB.out | apply below_alloc | apply pw_below_drewN | apply below_drew1) | exact HB.out))) : w.heap.size ≤ gb439)); clear HB; have HB := n0_; have BK439 := n1_; have GW439 := n2_; have GE439 := n3_; clear n0_ n1_ n2_ n3_; clear hb hbox hg) | ((with_reducible refine gate_dst (N := 4) rfl ?_); refine box_event ?hg (N := 4) ?hd (cs := #[.int .i64 a1_0, .int .i64 a1_1, .string a1_2]) (t := 39) ?hr ?_; (case hd => rfl); (case hg => rfl); (case hr => first | (go_simp; done) | (go_simp; rfl)); intro gb440 hg w5 hbox hb; have n0_ := Aside0.mk (blk_below (g := gb439) (o := .cells #[.int .i64 a0_0, .int .i64 a0_1, .slice A0_2 l0_2.length c0_2, .bool a0_3, .slice A0_4 l0_4.length c0_4, .slice A0_5 l0_5.length c0_5, .slice A0_6 l0_6.length c0_6] 26 (0, 0)) (by (with_reducible repeat (first | refine blk_drewN ?_ _ | refine blk_drew ?_ | refine blk_alloc ?_ _)); exact BK439.out) hb); have n1_ := Aside0.mk (below_step (by repeat (first | (with_reducible first | exact HB.out | apply below_alloc | apply pw_below_drewN | apply below_drew1 | refine below_set ?_ GE439.out) | exact HB.out)) hb); have n2_ := Aside0.mk (hbox); have n3_ := Aside0.mk ((by rw [hg]; exact (below_size (by repeat (first | (with_reducible first | exact HB.out | apply below_alloc | apply pw_below_drewN | apply below_drew1 | refine below_set ?_ GE439.out) | exact HB.out))) : w.heap.size ≤ gb440)); have n4_ := Aside0.mk ((by rw [hg]; exact (below_size (by repeat (first | (with_reducible first | exact HB.out | apply below_alloc | apply pw_below_drewN | apply below_drew1 | refine below_set ?_ GE439.out) | exact HB.out))) : w.heap.size ≤ gb440)); have n5_ := Aside0.mk ((by rw [hg]; exact Nat.ne_of_lt (blk_lt (g := gb439) (o := .cells #[.int .i64 a0_0, .int .i64 a0_1, .slice A0_2 l0_2.length c0_2, .bool a0_3, .slice A0_4 l0_4.length c0_4, .slice A0_5 l0_5.length c0_5, .slice A0_6 l0_6.length c0_6] 26 (0, 0)) (by (with_reducible repeat (first | refine blk_drewN ?_ _ | refine blk_drew ?_ | refine blk_alloc ?_ _)); exact BK439.out)) : gb439 ≠ gb440)); have n6_ := Aside0.mk ((by rw [hg]; exact Nat.ne_of_gt (blk_lt (g := gb439) (o := .cells #[.int .i64 a0_0, .int .i64 a0_1, .slice A0_2 l0_2.length c0_2, .bool a0_3, .slice A0_4 l0_4.length c0_4, .slice A0_5 l0_5.length c0_5, .slice A0_6 l0_6.length c0_6] 26 (0, 0)) (by (with_reducible repeat (first | refine blk_drewN ?_ _ | refine blk_drew ?_ | refine blk_alloc ?_ _)); exact BK439.out)) : gb440 ≠ gb439)); clear BK439; clear HB; have BK439 := n0_; have HB := n1_; have BK440 := n2_; have GW440 := n3_; have GE440 := n4_; have NB439_440 := n5_; have NB440_439 := n6_; clear n0_ n1_ n2_ n3_ n4_ n5_ n6_; clear hb hbox hg; have hnb6 := NB439_440.out; have hnc6 := NB440_439.out; have hcz7_0 : w5.cell? ⟨gb439, 0, none⟩ = some (.int .i64 a0_0) := (blk_cell BK439.out 0).trans rfl; have hcz7_1 : w5.cell? ⟨gb439, 1, none⟩ = some (.int .i64 a0_1) := (blk_cell BK439.out 1).trans rfl; have hcz7_2 : w5.cell? ⟨gb439, 2, none⟩ = some (.slice A0_2 l0_2.length c0_2) := (blk_cell BK439.out 2).trans rfl; have hcz7_3 : w5.cell? ⟨gb439, 3, none⟩ = some (.bool a0_3) := (blk_cell BK439.out 3).trans rfl; have hcz7_4 : w5.cell? ⟨gb439, 4, none⟩ = some (.slice A0_4 l0_4.length c0_4) := (blk_cell BK439.out 4).trans rfl; have hcz7_5 : w5.cell? ⟨gb439, 5, none⟩ = some (.slice A0_5 l0_5.length c0_5) := (blk_cell BK439.out 5).trans rfl; have hcz7_6 : w5.cell? ⟨gb439, 6, none⟩ = some (.slice A0_6 l0_6.length c0_6) := (blk_cell BK439.out 6).trans rfl; have hfz7_0 := blk_frozen BK439.out 0; have hfz7_1 := blk_frozen BK439.out 1; have hfz7_2 := blk_frozen BK439.out 2; have hfz7_3 := blk_frozen BK439.out 3; have hfz7_4 := blk_frozen BK439.out 4; have hfz7_5 := blk_frozen BK439.out 5; have hfz7_6 := blk_frozen BK439.out 6))
  go_loopg [13] k (fun kq v13 w' => ∃ (x13_1 : Int), v13 = .int .i64 x13_1 ∧ Aside0 (sketch_upper.l0 kq a2 l0_5 (l0_5.length : Int) x13_1 a0_0 a0_1 l0_2 a0_3 l0_4 l0_5 l0_6 a1_0 a1_1 a1_2 = some r) ∧ Aside0 (kq ≤ k) ∧ Aside0 (w'.heap[gb439]? = some (.cells #[.int .i64 a0_0, .int .i64 a0_1, (.slice A0_2 l0_2.length c0_2), .bool a0_3, (.slice A0_4 l0_4.length c0_4), (.slice A0_5 l0_5.length c0_5), (.slice A0_6 l0_6.length c0_6)] 26 (0, 0))) ∧ Aside0 (w'.heap[gb440]? = some (.cells #[.int .i64 a1_0, .int .i64 a1_1, .string a1_2] 39 (0, 0))) ∧ Aside0 (Below w.heap.size w w'))
  case atStart => exact ⟨(0), (by first | rfl | (simp; done) | (simp [*]; done)), H', ⟨Nat.le_refl _⟩, ⟨by (with_reducible repeat (first | refine blk_drewN ?_ _ | refine blk_drew ?_ | refine blk_alloc ?_ _)); exact BK439.out⟩, ⟨by (with_reducible repeat (first | refine blk_drewN ?_ _ | refine blk_drew ?_ | refine blk_alloc ?_ _)); exact BK440.out⟩, ⟨by repeat (first | (with_reducible first | exact HB.out | apply below_alloc | apply pw_below_drewN | apply below_drew1 | refine below_set ?_ GE439.out | refine below_set ?_ GE440.out) | exact HB.out)⟩⟩
  case round =>
    clear H'
    try clear p2
    try clear c6
    try clear c7
    try clear hcz7_0
    try clear hcz7_1
    try clear hcz7_2
    try clear hcz7_3
    try clear hcz7_4
    try clear hcz7_5
    try clear hcz7_6
    try clear hfz7_0
    try clear hfz7_1
    try clear hfz7_2
    try clear hfz7_3
    try clear hfz7_4
    try clear hfz7_5
    try clear hfz7_6
    obtain ⟨x13_1, rfl, HA, HK1, BK439, BK440, HB⟩ := hrel
    cases gk with
    | zero => exact absurd HA.out (by simp [sketch_upper.l0])
    | succ k1 =>
      have H := HA.out
      clear HA
      simp only [sketch_upper.l0] at H
      by_cases c8 : x13_1 < (l0_5.length : Int)
      · rw [if_pos c8] at H
        have c8b0 : decide (x13_1 < (l0_5.length : Int)) = true := decide_eq_true c8
        clear c8
        by_cases c9 : 0 ≤ x13_1
        · rw [if_pos c9] at H
          have c9b0 : decide (0 ≤ x13_1) = true := decide_eq_true c9
          clear c9
          by_cases c10 : x13_1 < (l0_5.length : Int)
          · rw [if_pos c10] at H
            have c10b0 : decide (x13_1 < (l0_5.length : Int)) = true := decide_eq_true c10
            clear c10
            replace H := Option.bind_eq_some_iff.mp H
            obtain ⟨t443, A110, H⟩ := H
            replace H : (if t443 > 0 then (if 0 ≤ (wrap64 (2 * x13_1)) then (if (wrap64 (2 * x13_1)) < (l0_6.length : Int) then (some (rd l0_6 (wrap64 (2 * x13_1)))) else (none)) else (none)) else (if t443 = 0 then (if a2 = true then (if 0 ≤ (wrap64 (2 * x13_1)) then (if (wrap64 (2 * x13_1)) < (l0_6.length : Int) then (some (rd l0_6 (wrap64 (2 * x13_1)))) else (none)) else (none)) else (sketch_upper.l0 k1 a2 l0_5 (l0_5.length : Int) (wrap64 (x13_1 + 1)) a0_0 a0_1 l0_2 a0_3 l0_4 l0_5 l0_6 a1_0 a1_1 a1_2)) else (sketch_upper.l0 k1 a2 l0_5 (l0_5.length : Int) (wrap64 (x13_1 + 1)) a0_0 a0_1 l0_2 a0_3 l0_4 l0_5 l0_6 a1_0 a1_1 a1_2))) = some r := H
            have A11 := Aside0.mk A110
            clear A110
            by_cases c12 : t443 > 0
            · rw [if_pos c12] at H
              have c12b0 : decide (0 < t443) = true := decide_eq_true c12
              clear c12
              obtain ⟨ji13, hji13⟩ : ∃ j_ : Int, (wrap64 (2 * x13_1)) = j_ := ⟨_, rfl⟩
              replace H : (if 0 ≤ (ji13) then (if (ji13) < (l0_6.length : Int) then (some (rd l0_6 (ji13))) else (none)) else (none)) = some r := by first | (rw [hji13] at H; exact H) | (simp only [hji13] at H ⊢; exact H)
              (try rw [hji13] at A11)
              have hji13w : (IntKind.i64.wrap (2 * x13_1)) = ji13 := (i64_w _).trans hji13
              by_cases c14 : 0 ≤ (ji13)
              · rw [if_pos c14] at H
                have c14b0 : decide (0 ≤ (ji13)) = true := decide_eq_true c14
                clear c14
                by_cases c15 : (ji13) < (l0_6.length : Int)
                · rw [if_pos c15] at H
                  have c15b0 : decide ((ji13) < (l0_6.length : Int)) = true := decide_eq_true c15
                  clear c15
                  obtain rfl := Option.some.inj H
                  have p441 : 0 ≤ (x13_1 : Int) := of_decide_eq_true (by first | (with_reducible assumption) | assumption)
                  have q441 : x13_1 < (l0_5.length : Int) := of_decide_eq_true (by first | (with_reducible assumption) | assumption)
                  obtain ⟨ad441, e441, hx441_0, hx441_1, hx441_2⟩ := at_T39 HR0_5.out x13_1 p441 q441
                  cases e441
                  replace hx441_0 := (HB.out.cell (World.block_lt_of_cell? w _ hx441_0)).trans hx441_0
                  replace hx441_1 := (HB.out.cell (World.block_lt_of_cell? w _ hx441_1)).trans hx441_1
                  replace hx441_2 := (HB.out.cell (World.block_lt_of_cell? w _ hx441_2)).trans hx441_2
                  replace p441 := eq_true p441
                  replace q441 := eq_true q441
                  go_wp2_with (first | ((with_reducible refine gate_dst (N := 8) rfl ?_); refine box_event ?hg (N := 8) ?hd (cs := #[.int .i64 0, .int .i64 0, .string (⟨#[]⟩ : ByteArray)]) (t := 39) ?hr ?_; (case hd => rfl); (case hg => rfl); (case hr => first | (go_simp; done) | (go_simp; rfl)); intro gb442 hg w16 hbox hb; have n0_ := Aside0.mk (blk_below (g := gb439) (o := .cells #[.int .i64 a0_0, .int .i64 a0_1, .slice A0_2 l0_2.length c0_2, .bool a0_3, .slice A0_4 l0_4.length c0_4, .slice (some ad441) l0_5.length c0_5, .slice A0_6 l0_6.length c0_6] 26 (0, 0)) (by (with_reducible repeat (first | refine blk_drewN ?_ _ | refine blk_drew ?_ | refine blk_alloc ?_ _)); exact BK439.out) hb); have n1_ := Aside0.mk (blk_below (g := gb440) (o := .cells #[.int .i64 a1_0, .int .i64 a1_1, .string a1_2] 39 (0, 0)) (by (with_reducible repeat (first | refine blk_drewN ?_ _ | refine blk_drew ?_ | refine blk_alloc ?_ _)); exact BK440.out) hb); have n2_ := Aside0.mk (below_step (by repeat (first | (with_reducible first | exact HB.out | apply below_alloc | apply pw_below_drewN | apply below_drew1 | refine below_set ?_ GE439.out | refine below_set ?_ GE440.out) | exact HB.out)) hb); have n3_ := Aside0.mk (hbox); have n4_ := Aside0.mk ((by rw [hg]; exact (below_size (by repeat (first | (with_reducible first | exact HB.out | apply below_alloc | apply pw_below_drewN | apply below_drew1 | refine below_set ?_ GE439.out | refine below_set ?_ GE440.out) | exact HB.out))) : w.heap.size ≤ gb442)); have n5_ := Aside0.mk ((by rw [hg]; exact (below_size (by repeat (first | (with_reducible first | exact HB.out | apply below_alloc | apply pw_below_drewN | apply below_drew1 | refine below_set ?_ GE439.out | refine below_set ?_ GE440.out) | exact HB.out))) : w.heap.size ≤ gb442)); have n6_ := Aside0.mk ((by rw [hg]; exact Nat.ne_of_lt (blk_lt (g := gb439) (o := .cells #[.int .i64 a0_0, .int .i64 a0_1, .slice A0_2 l0_2.length c0_2, .bool a0_3, .slice A0_4 l0_4.length c0_4, .slice (some ad441) l0_5.length c0_5, .slice A0_6 l0_6.length c0_6] 26 (0, 0)) (by (with_reducible repeat (first | refine blk_drewN ?_ _ | refine blk_drew ?_ | refine blk_alloc ?_ _)); exact BK439.out)) : gb439 ≠ gb442)); have n7_ := Aside0.mk ((by rw [hg]; exact Nat.ne_of_gt (blk_lt (g := gb439) (o := .cells #[.int .i64 a0_0, .int .i64 a0_1, .slice A0_2 l0_2.length c0_2, .bool a0_3, .slice A0_4 l0_4.length c0_4, .slice (some ad441) l0_5.length c0_5, .slice A0_6 l0_6.length c0_6] 26 (0, 0)) (by (with_reducible repeat (first | refine blk_drewN ?_ _ | refine blk_drew ?_ | refine blk_alloc ?_ _)); exact BK439.out)) : gb442 ≠ gb439)); have n8_ := Aside0.mk ((by rw [hg]; exact Nat.ne_of_lt (blk_lt (g := gb440) (o := .cells #[.int .i64 a1_0, .int .i64 a1_1, .string a1_2] 39 (0, 0)) (by (with_reducible repeat (first | refine blk_drewN ?_ _ | refine blk_drew ?_ | refine blk_alloc ?_ _)); exact BK440.out)) : gb440 ≠ gb442)); have n9_ := Aside0.mk ((by rw [hg]; exact Nat.ne_of_gt (blk_lt (g := gb440) (o := .cells #[.int .i64 a1_0, .int .i64 a1_1, .string a1_2] 39 (0, 0)) (by (with_reducible repeat (first | refine blk_drewN ?_ _ | refine blk_drew ?_ | refine blk_alloc ?_ _)); exact BK440.out)) : gb442 ≠ gb440)); clear BK439; clear BK440; clear HB; have BK439 := n0_; have BK440 := n1_; have HB := n2_; have BK442 := n3_; have GW442 := n4_; have GE442 := n5_; have NB439_442 := n6_; have NB442_439 := n7_; have NB440_442 := n8_; have NB442_440 := n9_; clear n0_ n1_ n2_ n3_ n4_ n5_ n6_ n7_ n8_ n9_; clear hb hbox hg; have hnb17 := NB442_439.out; have hnc17 := NB439_442.out; have hnb18 := NB442_440.out; have hnc18 := NB440_442.out; have hcz19_0 : w16.cell? ⟨gb442, 0, none⟩ = some (.int .i64 0) := (blk_cell BK442.out 0).trans rfl; have hcz19_1 : w16.cell? ⟨gb442, 1, none⟩ = some (.int .i64 0) := (blk_cell BK442.out 1).trans rfl; have hcz19_2 : w16.cell? ⟨gb442, 2, none⟩ = some (.string (⟨#[]⟩ : ByteArray)) := (blk_cell BK442.out 2).trans rfl; have hfz19_0 := blk_frozen BK442.out 0; have hfz19_1 := blk_frozen BK442.out 1; have hfz19_2 := blk_frozen BK442.out 2; have hnb20 := NB440_439.out; have hnc20 := NB439_440.out; have hcz21_0 : w16.cell? ⟨gb440, 0, none⟩ = some (.int .i64 a1_0) := (blk_cell BK440.out 0).trans rfl; have hcz21_1 : w16.cell? ⟨gb440, 1, none⟩ = some (.int .i64 a1_1) := (blk_cell BK440.out 1).trans rfl; have hcz21_2 : w16.cell? ⟨gb440, 2, none⟩ = some (.string a1_2) := (blk_cell BK440.out 2).trans rfl; have hfz21_0 := blk_frozen BK440.out 0; have hfz21_1 := blk_frozen BK440.out 1; have hfz21_2 := blk_frozen BK440.out 2) | ((with_reducible refine gate_callee (f := 53) rfl ?_); refine goesL_ (some 20) rfl rfl Try.func53 (by kernel_rfl) rfl #[.agg #[.int .i64 ((rd_T39 l0_5 x13_1).f0), .int .i64 ((rd_T39 l0_5 x13_1).f1), .string ((rd_T39 l0_5 x13_1).f2)], .agg #[.int .i64 a1_0, .int .i64 a1_1, .string a1_2]] rfl (by (try simp only [List.map_toArray, List.map_cons, List.map_nil]); first | done | rfl | (simp only [List.length_drop, List.length_take]; rfl) | (simp only [Int.ofNat_lt, Int.ofNat_le, gt_iff_lt, ge_iff_le]; rfl)) ?_; (with_reducible refine (value_Compare.calls ((rd_T39 l0_5 x13_1).f0) ((rd_T39 l0_5 x13_1).f1) ((rd_T39 l0_5 x13_1).f2) a1_0 a1_1 a1_2 t443 _ A11.out).mono ?_); rintro e w22 ⟨rfl, hb⟩; refine ⟨_, rfl, ?_⟩; have n0_ := Aside0.mk (blk_below (g := gb439) (o := .cells #[.int .i64 a0_0, .int .i64 a0_1, .slice A0_2 l0_2.length c0_2, .bool a0_3, .slice A0_4 l0_4.length c0_4, .slice (some ad441) l0_5.length c0_5, .slice A0_6 l0_6.length c0_6] 26 (0, 0)) (by (with_reducible repeat (first | refine blk_drewN ?_ _ | refine blk_drew ?_ | refine blk_alloc ?_ _)); refine blk_far ?_ NB439_442.out _; (with_reducible repeat (first | refine blk_drewN ?_ _ | refine blk_drew ?_ | refine blk_alloc ?_ _)); refine blk_far ?_ NB439_442.out _; (with_reducible repeat (first | refine blk_drewN ?_ _ | refine blk_drew ?_ | refine blk_alloc ?_ _)); refine blk_far ?_ NB439_442.out _; (with_reducible repeat (first | refine blk_drewN ?_ _ | refine blk_drew ?_ | refine blk_alloc ?_ _)); exact BK439.out) hb); have n1_ := Aside0.mk (blk_below (g := gb440) (o := .cells #[.int .i64 a1_0, .int .i64 a1_1, .string a1_2] 39 (0, 0)) (by (with_reducible repeat (first | refine blk_drewN ?_ _ | refine blk_drew ?_ | refine blk_alloc ?_ _)); refine blk_far ?_ NB440_442.out _; (with_reducible repeat (first | refine blk_drewN ?_ _ | refine blk_drew ?_ | refine blk_alloc ?_ _)); refine blk_far ?_ NB440_442.out _; (with_reducible repeat (first | refine blk_drewN ?_ _ | refine blk_drew ?_ | refine blk_alloc ?_ _)); refine blk_far ?_ NB440_442.out _; (with_reducible repeat (first | refine blk_drewN ?_ _ | refine blk_drew ?_ | refine blk_alloc ?_ _)); exact BK440.out) hb); have n2_ := Aside0.mk (blk_below (g := gb442) (o := .cells #[.int .i64 ((rd_T39 l0_5 x13_1).f0), .int .i64 ((rd_T39 l0_5 x13_1).f1), .string ((rd_T39 l0_5 x13_1).f2)] 39 (0, 0)) (by (with_reducible repeat (first | refine blk_drewN ?_ _ | refine blk_drew ?_ | refine blk_alloc ?_ _)); refine blk_put (cs := #[.int .i64 ((rd_T39 l0_5 x13_1).f0), .int .i64 ((rd_T39 l0_5 x13_1).f1), .string (⟨#[]⟩ : ByteArray)]) ?_ 2 _ rfl; (with_reducible repeat (first | refine blk_drewN ?_ _ | refine blk_drew ?_ | refine blk_alloc ?_ _)); refine blk_put (cs := #[.int .i64 ((rd_T39 l0_5 x13_1).f0), .int .i64 0, .string (⟨#[]⟩ : ByteArray)]) ?_ 1 _ rfl; (with_reducible repeat (first | refine blk_drewN ?_ _ | refine blk_drew ?_ | refine blk_alloc ?_ _)); refine blk_put (cs := #[.int .i64 0, .int .i64 0, .string (⟨#[]⟩ : ByteArray)]) ?_ 0 _ rfl; (with_reducible repeat (first | refine blk_drewN ?_ _ | refine blk_drew ?_ | refine blk_alloc ?_ _)); exact BK442.out) hb); have n3_ := Aside0.mk (below_step (by repeat (first | (with_reducible first | exact HB.out | apply below_alloc | apply pw_below_drewN | apply below_drew1 | refine below_set ?_ GE439.out | refine below_set ?_ GE440.out | refine below_set ?_ GE442.out) | exact HB.out)) hb); clear BK439; clear BK440; clear BK442; clear HB; have BK439 := n0_; have BK440 := n1_; have BK442 := n2_; have HB := n3_; clear n0_ n1_ n2_ n3_; (try clear hb); (try clear hb2); (try clear hk); (try clear hi); have hcz23_0 : w22.cell? ⟨gb439, 0, none⟩ = some (.int .i64 a0_0) := (blk_cell BK439.out 0).trans rfl; have hcz23_1 : w22.cell? ⟨gb439, 1, none⟩ = some (.int .i64 a0_1) := (blk_cell BK439.out 1).trans rfl; have hcz23_2 : w22.cell? ⟨gb439, 2, none⟩ = some (.slice A0_2 l0_2.length c0_2) := (blk_cell BK439.out 2).trans rfl; have hcz23_3 : w22.cell? ⟨gb439, 3, none⟩ = some (.bool a0_3) := (blk_cell BK439.out 3).trans rfl; have hcz23_4 : w22.cell? ⟨gb439, 4, none⟩ = some (.slice A0_4 l0_4.length c0_4) := (blk_cell BK439.out 4).trans rfl; have hcz23_5 : w22.cell? ⟨gb439, 5, none⟩ = some (.slice (some ad441) l0_5.length c0_5) := (blk_cell BK439.out 5).trans rfl; have hcz23_6 : w22.cell? ⟨gb439, 6, none⟩ = some (.slice A0_6 l0_6.length c0_6) := (blk_cell BK439.out 6).trans rfl; have hfz23_0 := blk_frozen BK439.out 0; have hfz23_1 := blk_frozen BK439.out 1; have hfz23_2 := blk_frozen BK439.out 2; have hfz23_3 := blk_frozen BK439.out 3; have hfz23_4 := blk_frozen BK439.out 4; have hfz23_5 := blk_frozen BK439.out 5; have hfz23_6 := blk_frozen BK439.out 6; have p444 : 0 ≤ ((ji13) : Int) := of_decide_eq_true (by first | (with_reducible assumption) | assumption); have q444 : (ji13) < (l0_6.length : Int) := of_decide_eq_true (by first | (with_reducible assumption) | assumption); obtain ⟨ad444, e444, hx444_0⟩ := Kd.at_int HR0_6.out (ji13) p444 q444; cases e444; replace hx444_0 := (HB.out.cell (World.block_lt_of_cell? w _ hx444_0)).trans hx444_0; replace p444 := eq_true p444; replace q444 := eq_true q444))
                  go_ret
                  exact ⟨by first | rfl | (simp [errW_none, errW_some] <;> rfl) | (simp only [← hji13]; first | rfl | (simp [errW_none, errW_some] <;> rfl)) | (simp [*, errW_none, errW_some] <;> rfl), by repeat (first | (with_reducible first | exact HB.out | apply below_alloc | apply pw_below_drewN | apply below_drew1 | refine below_set ?_ GE439.out | refine below_set ?_ GE440.out | refine below_set ?_ GE442.out) | exact HB.out)⟩
                · rw [if_neg c15] at H
                  exact absurd H (by simp)
              · rw [if_neg c14] at H
                exact absurd H (by simp)
            · rw [if_neg c12] at H
              have c12b0 : decide (0 < t443) = false := decide_eq_false c12
              clear c12
              by_cases c24 : t443 = 0
              · rw [if_pos c24] at H
                have c24b0 : (t443 == 0) = true := beq_iff_eq.mpr c24
                have c24b1 : (t443 != 0) = false := bne_eq_false_iff_eq.mpr c24
                clear c24
                by_cases c25 : a2 = true
                · subst c25
                  have H1 : (if 0 ≤ (wrap64 (2 * x13_1)) then (if (wrap64 (2 * x13_1)) < (l0_6.length : Int) then (some (rd l0_6 (wrap64 (2 * x13_1)))) else (none)) else (none)) = some r := by rw [if_pos rfl] at H; exact H
                  clear H
                  have H := H1
                  clear H1
                  obtain ⟨ji26, hji26⟩ : ∃ j_ : Int, (wrap64 (2 * x13_1)) = j_ := ⟨_, rfl⟩
                  replace H : (if 0 ≤ (ji26) then (if (ji26) < (l0_6.length : Int) then (some (rd l0_6 (ji26))) else (none)) else (none)) = some r := by first | (rw [hji26] at H; exact H) | (simp only [hji26] at H ⊢; exact H)
                  (try rw [hji26] at A11)
                  have hji26w : (IntKind.i64.wrap (2 * x13_1)) = ji26 := (i64_w _).trans hji26
                  by_cases c27 : 0 ≤ (ji26)
                  · rw [if_pos c27] at H
                    have c27b0 : decide (0 ≤ (ji26)) = true := decide_eq_true c27
                    clear c27
                    by_cases c28 : (ji26) < (l0_6.length : Int)
                    · rw [if_pos c28] at H
                      have c28b0 : decide ((ji26) < (l0_6.length : Int)) = true := decide_eq_true c28
                      clear c28
                      obtain rfl := Option.some.inj H
                      have p441 : 0 ≤ (x13_1 : Int) := of_decide_eq_true (by first | (with_reducible assumption) | assumption)
                      have q441 : x13_1 < (l0_5.length : Int) := of_decide_eq_true (by first | (with_reducible assumption) | assumption)
                      obtain ⟨ad441, e441, hx441_0, hx441_1, hx441_2⟩ := at_T39 HR0_5.out x13_1 p441 q441
                      cases e441
                      replace hx441_0 := (HB.out.cell (World.block_lt_of_cell? w _ hx441_0)).trans hx441_0
                      replace hx441_1 := (HB.out.cell (World.block_lt_of_cell? w _ hx441_1)).trans hx441_1
                      replace hx441_2 := (HB.out.cell (World.block_lt_of_cell? w _ hx441_2)).trans hx441_2
                      replace p441 := eq_true p441
                      replace q441 := eq_true q441
                      go_wp2_with (first | ((with_reducible refine gate_dst (N := 8) rfl ?_); refine box_event ?hg (N := 8) ?hd (cs := #[.int .i64 0, .int .i64 0, .string (⟨#[]⟩ : ByteArray)]) (t := 39) ?hr ?_; (case hd => rfl); (case hg => rfl); (case hr => first | (go_simp; done) | (go_simp; rfl)); intro gb442 hg w29 hbox hb; have n0_ := Aside0.mk (blk_below (g := gb439) (o := .cells #[.int .i64 a0_0, .int .i64 a0_1, .slice A0_2 l0_2.length c0_2, .bool a0_3, .slice A0_4 l0_4.length c0_4, .slice (some ad441) l0_5.length c0_5, .slice A0_6 l0_6.length c0_6] 26 (0, 0)) (by (with_reducible repeat (first | refine blk_drewN ?_ _ | refine blk_drew ?_ | refine blk_alloc ?_ _)); exact BK439.out) hb); have n1_ := Aside0.mk (blk_below (g := gb440) (o := .cells #[.int .i64 a1_0, .int .i64 a1_1, .string a1_2] 39 (0, 0)) (by (with_reducible repeat (first | refine blk_drewN ?_ _ | refine blk_drew ?_ | refine blk_alloc ?_ _)); exact BK440.out) hb); have n2_ := Aside0.mk (below_step (by repeat (first | (with_reducible first | exact HB.out | apply below_alloc | apply pw_below_drewN | apply below_drew1 | refine below_set ?_ GE439.out | refine below_set ?_ GE440.out) | exact HB.out)) hb); have n3_ := Aside0.mk (hbox); have n4_ := Aside0.mk ((by rw [hg]; exact (below_size (by repeat (first | (with_reducible first | exact HB.out | apply below_alloc | apply pw_below_drewN | apply below_drew1 | refine below_set ?_ GE439.out | refine below_set ?_ GE440.out) | exact HB.out))) : w.heap.size ≤ gb442)); have n5_ := Aside0.mk ((by rw [hg]; exact (below_size (by repeat (first | (with_reducible first | exact HB.out | apply below_alloc | apply pw_below_drewN | apply below_drew1 | refine below_set ?_ GE439.out | refine below_set ?_ GE440.out) | exact HB.out))) : w.heap.size ≤ gb442)); have n6_ := Aside0.mk ((by rw [hg]; exact Nat.ne_of_lt (blk_lt (g := gb439) (o := .cells #[.int .i64 a0_0, .int .i64 a0_1, .slice A0_2 l0_2.length c0_2, .bool a0_3, .slice A0_4 l0_4.length c0_4, .slice (some ad441) l0_5.length c0_5, .slice A0_6 l0_6.length c0_6] 26 (0, 0)) (by (with_reducible repeat (first | refine blk_drewN ?_ _ | refine blk_drew ?_ | refine blk_alloc ?_ _)); exact BK439.out)) : gb439 ≠ gb442)); have n7_ := Aside0.mk ((by rw [hg]; exact Nat.ne_of_gt (blk_lt (g := gb439) (o := .cells #[.int .i64 a0_0, .int .i64 a0_1, .slice A0_2 l0_2.length c0_2, .bool a0_3, .slice A0_4 l0_4.length c0_4, .slice (some ad441) l0_5.length c0_5, .slice A0_6 l0_6.length c0_6] 26 (0, 0)) (by (with_reducible repeat (first | refine blk_drewN ?_ _ | refine blk_drew ?_ | refine blk_alloc ?_ _)); exact BK439.out)) : gb442 ≠ gb439)); have n8_ := Aside0.mk ((by rw [hg]; exact Nat.ne_of_lt (blk_lt (g := gb440) (o := .cells #[.int .i64 a1_0, .int .i64 a1_1, .string a1_2] 39 (0, 0)) (by (with_reducible repeat (first | refine blk_drewN ?_ _ | refine blk_drew ?_ | refine blk_alloc ?_ _)); exact BK440.out)) : gb440 ≠ gb442)); have n9_ := Aside0.mk ((by rw [hg]; exact Nat.ne_of_gt (blk_lt (g := gb440) (o := .cells #[.int .i64 a1_0, .int .i64 a1_1, .string a1_2] 39 (0, 0)) (by (with_reducible repeat (first | refine blk_drewN ?_ _ | refine blk_drew ?_ | refine blk_alloc ?_ _)); exact BK440.out)) : gb442 ≠ gb440)); clear BK439; clear BK440; clear HB; have BK439 := n0_; have BK440 := n1_; have HB := n2_; have BK442 := n3_; have GW442 := n4_; have GE442 := n5_; have NB439_442 := n6_; have NB442_439 := n7_; have NB440_442 := n8_; have NB442_440 := n9_; clear n0_ n1_ n2_ n3_ n4_ n5_ n6_ n7_ n8_ n9_; clear hb hbox hg; have hnb30 := NB442_439.out; have hnc30 := NB439_442.out; have hnb31 := NB442_440.out; have hnc31 := NB440_442.out; have hcz32_0 : w29.cell? ⟨gb442, 0, none⟩ = some (.int .i64 0) := (blk_cell BK442.out 0).trans rfl; have hcz32_1 : w29.cell? ⟨gb442, 1, none⟩ = some (.int .i64 0) := (blk_cell BK442.out 1).trans rfl; have hcz32_2 : w29.cell? ⟨gb442, 2, none⟩ = some (.string (⟨#[]⟩ : ByteArray)) := (blk_cell BK442.out 2).trans rfl; have hfz32_0 := blk_frozen BK442.out 0; have hfz32_1 := blk_frozen BK442.out 1; have hfz32_2 := blk_frozen BK442.out 2; have hnb33 := NB440_439.out; have hnc33 := NB439_440.out; have hcz34_0 : w29.cell? ⟨gb440, 0, none⟩ = some (.int .i64 a1_0) := (blk_cell BK440.out 0).trans rfl; have hcz34_1 : w29.cell? ⟨gb440, 1, none⟩ = some (.int .i64 a1_1) := (blk_cell BK440.out 1).trans rfl; have hcz34_2 : w29.cell? ⟨gb440, 2, none⟩ = some (.string a1_2) := (blk_cell BK440.out 2).trans rfl; have hfz34_0 := blk_frozen BK440.out 0; have hfz34_1 := blk_frozen BK440.out 1; have hfz34_2 := blk_frozen BK440.out 2) | ((with_reducible refine gate_callee (f := 53) rfl ?_); refine goesL_ (some 20) rfl rfl Try.func53 (by kernel_rfl) rfl #[.agg #[.int .i64 ((rd_T39 l0_5 x13_1).f0), .int .i64 ((rd_T39 l0_5 x13_1).f1), .string ((rd_T39 l0_5 x13_1).f2)], .agg #[.int .i64 a1_0, .int .i64 a1_1, .string a1_2]] rfl (by (try simp only [List.map_toArray, List.map_cons, List.map_nil]); first | done | rfl | (simp only [List.length_drop, List.length_take]; rfl) | (simp only [Int.ofNat_lt, Int.ofNat_le, gt_iff_lt, ge_iff_le]; rfl)) ?_; (with_reducible refine (value_Compare.calls ((rd_T39 l0_5 x13_1).f0) ((rd_T39 l0_5 x13_1).f1) ((rd_T39 l0_5 x13_1).f2) a1_0 a1_1 a1_2 t443 _ A11.out).mono ?_); rintro e w35 ⟨rfl, hb⟩; refine ⟨_, rfl, ?_⟩; have n0_ := Aside0.mk (blk_below (g := gb439) (o := .cells #[.int .i64 a0_0, .int .i64 a0_1, .slice A0_2 l0_2.length c0_2, .bool a0_3, .slice A0_4 l0_4.length c0_4, .slice (some ad441) l0_5.length c0_5, .slice A0_6 l0_6.length c0_6] 26 (0, 0)) (by (with_reducible repeat (first | refine blk_drewN ?_ _ | refine blk_drew ?_ | refine blk_alloc ?_ _)); refine blk_far ?_ NB439_442.out _; (with_reducible repeat (first | refine blk_drewN ?_ _ | refine blk_drew ?_ | refine blk_alloc ?_ _)); refine blk_far ?_ NB439_442.out _; (with_reducible repeat (first | refine blk_drewN ?_ _ | refine blk_drew ?_ | refine blk_alloc ?_ _)); refine blk_far ?_ NB439_442.out _; (with_reducible repeat (first | refine blk_drewN ?_ _ | refine blk_drew ?_ | refine blk_alloc ?_ _)); exact BK439.out) hb); have n1_ := Aside0.mk (blk_below (g := gb440) (o := .cells #[.int .i64 a1_0, .int .i64 a1_1, .string a1_2] 39 (0, 0)) (by (with_reducible repeat (first | refine blk_drewN ?_ _ | refine blk_drew ?_ | refine blk_alloc ?_ _)); refine blk_far ?_ NB440_442.out _; (with_reducible repeat (first | refine blk_drewN ?_ _ | refine blk_drew ?_ | refine blk_alloc ?_ _)); refine blk_far ?_ NB440_442.out _; (with_reducible repeat (first | refine blk_drewN ?_ _ | refine blk_drew ?_ | refine blk_alloc ?_ _)); refine blk_far ?_ NB440_442.out _; (with_reducible repeat (first | refine blk_drewN ?_ _ | refine blk_drew ?_ | refine blk_alloc ?_ _)); exact BK440.out) hb); have n2_ := Aside0.mk (blk_below (g := gb442) (o := .cells #[.int .i64 ((rd_T39 l0_5 x13_1).f0), .int .i64 ((rd_T39 l0_5 x13_1).f1), .string ((rd_T39 l0_5 x13_1).f2)] 39 (0, 0)) (by (with_reducible repeat (first | refine blk_drewN ?_ _ | refine blk_drew ?_ | refine blk_alloc ?_ _)); refine blk_put (cs := #[.int .i64 ((rd_T39 l0_5 x13_1).f0), .int .i64 ((rd_T39 l0_5 x13_1).f1), .string (⟨#[]⟩ : ByteArray)]) ?_ 2 _ rfl; (with_reducible repeat (first | refine blk_drewN ?_ _ | refine blk_drew ?_ | refine blk_alloc ?_ _)); refine blk_put (cs := #[.int .i64 ((rd_T39 l0_5 x13_1).f0), .int .i64 0, .string (⟨#[]⟩ : ByteArray)]) ?_ 1 _ rfl; (with_reducible repeat (first | refine blk_drewN ?_ _ | refine blk_drew ?_ | refine blk_alloc ?_ _)); refine blk_put (cs := #[.int .i64 0, .int .i64 0, .string (⟨#[]⟩ : ByteArray)]) ?_ 0 _ rfl; (with_reducible repeat (first | refine blk_drewN ?_ _ | refine blk_drew ?_ | refine blk_alloc ?_ _)); exact BK442.out) hb); have n3_ := Aside0.mk (below_step (by repeat (first | (with_reducible first | exact HB.out | apply below_alloc | apply pw_below_drewN | apply below_drew1 | refine below_set ?_ GE439.out | refine below_set ?_ GE440.out | refine below_set ?_ GE442.out) | exact HB.out)) hb); clear BK439; clear BK440; clear BK442; clear HB; have BK439 := n0_; have BK440 := n1_; have BK442 := n2_; have HB := n3_; clear n0_ n1_ n2_ n3_; (try clear hb); (try clear hb2); (try clear hk); (try clear hi); have hcz36_0 : w35.cell? ⟨gb439, 0, none⟩ = some (.int .i64 a0_0) := (blk_cell BK439.out 0).trans rfl; have hcz36_1 : w35.cell? ⟨gb439, 1, none⟩ = some (.int .i64 a0_1) := (blk_cell BK439.out 1).trans rfl; have hcz36_2 : w35.cell? ⟨gb439, 2, none⟩ = some (.slice A0_2 l0_2.length c0_2) := (blk_cell BK439.out 2).trans rfl; have hcz36_3 : w35.cell? ⟨gb439, 3, none⟩ = some (.bool a0_3) := (blk_cell BK439.out 3).trans rfl; have hcz36_4 : w35.cell? ⟨gb439, 4, none⟩ = some (.slice A0_4 l0_4.length c0_4) := (blk_cell BK439.out 4).trans rfl; have hcz36_5 : w35.cell? ⟨gb439, 5, none⟩ = some (.slice (some ad441) l0_5.length c0_5) := (blk_cell BK439.out 5).trans rfl; have hcz36_6 : w35.cell? ⟨gb439, 6, none⟩ = some (.slice A0_6 l0_6.length c0_6) := (blk_cell BK439.out 6).trans rfl; have hfz36_0 := blk_frozen BK439.out 0; have hfz36_1 := blk_frozen BK439.out 1; have hfz36_2 := blk_frozen BK439.out 2; have hfz36_3 := blk_frozen BK439.out 3; have hfz36_4 := blk_frozen BK439.out 4; have hfz36_5 := blk_frozen BK439.out 5; have hfz36_6 := blk_frozen BK439.out 6; have p445 : 0 ≤ ((ji26) : Int) := of_decide_eq_true (by first | (with_reducible assumption) | assumption); have q445 : (ji26) < (l0_6.length : Int) := of_decide_eq_true (by first | (with_reducible assumption) | assumption); obtain ⟨ad445, e445, hx445_0⟩ := Kd.at_int HR0_6.out (ji26) p445 q445; cases e445; replace hx445_0 := (HB.out.cell (World.block_lt_of_cell? w _ hx445_0)).trans hx445_0; replace p445 := eq_true p445; replace q445 := eq_true q445))
                      go_ret
                      exact ⟨by first | rfl | (simp [errW_none, errW_some] <;> rfl) | (simp only [← hji26]; first | rfl | (simp [errW_none, errW_some] <;> rfl)) | (simp [*, errW_none, errW_some] <;> rfl), by repeat (first | (with_reducible first | exact HB.out | apply below_alloc | apply pw_below_drewN | apply below_drew1 | refine below_set ?_ GE439.out | refine below_set ?_ GE440.out | refine below_set ?_ GE442.out) | exact HB.out)⟩
                    · rw [if_neg c28] at H
                      exact absurd H (by simp)
                  · rw [if_neg c27] at H
                    exact absurd H (by simp)
                · replace c25 := Bool.eq_false_iff.mpr c25
                  subst c25
                  have H1 : (sketch_upper.l0 k1 false l0_5 (l0_5.length : Int) (wrap64 (x13_1 + 1)) a0_0 a0_1 l0_2 a0_3 l0_4 l0_5 l0_6 a1_0 a1_1 a1_2) = some r := by rw [if_neg (show ¬ (false = true) by decide)] at H; exact H
                  clear H
                  have H := H1
                  clear H1
                  have H' := Aside0.mk H
                  clear H
                  have p441 : 0 ≤ (x13_1 : Int) := of_decide_eq_true (by first | (with_reducible assumption) | assumption)
                  have q441 : x13_1 < (l0_5.length : Int) := of_decide_eq_true (by first | (with_reducible assumption) | assumption)
                  obtain ⟨ad441, e441, hx441_0, hx441_1, hx441_2⟩ := at_T39 HR0_5.out x13_1 p441 q441
                  cases e441
                  replace hx441_0 := (HB.out.cell (World.block_lt_of_cell? w _ hx441_0)).trans hx441_0
                  replace hx441_1 := (HB.out.cell (World.block_lt_of_cell? w _ hx441_1)).trans hx441_1
                  replace hx441_2 := (HB.out.cell (World.block_lt_of_cell? w _ hx441_2)).trans hx441_2
                  replace p441 := eq_true p441
                  replace q441 := eq_true q441
                  go_wp2_with (first | ((with_reducible refine gate_dst (N := 8) rfl ?_); refine box_event ?hg (N := 8) ?hd (cs := #[.int .i64 0, .int .i64 0, .string (⟨#[]⟩ : ByteArray)]) (t := 39) ?hr ?_; (case hd => rfl); (case hg => rfl); (case hr => first | (go_simp; done) | (go_simp; rfl)); intro gb442 hg w37 hbox hb; have n0_ := Aside0.mk (blk_below (g := gb439) (o := .cells #[.int .i64 a0_0, .int .i64 a0_1, .slice A0_2 l0_2.length c0_2, .bool a0_3, .slice A0_4 l0_4.length c0_4, .slice (some ad441) l0_5.length c0_5, .slice A0_6 l0_6.length c0_6] 26 (0, 0)) (by (with_reducible repeat (first | refine blk_drewN ?_ _ | refine blk_drew ?_ | refine blk_alloc ?_ _)); exact BK439.out) hb); have n1_ := Aside0.mk (blk_below (g := gb440) (o := .cells #[.int .i64 a1_0, .int .i64 a1_1, .string a1_2] 39 (0, 0)) (by (with_reducible repeat (first | refine blk_drewN ?_ _ | refine blk_drew ?_ | refine blk_alloc ?_ _)); exact BK440.out) hb); have n2_ := Aside0.mk (below_step (by repeat (first | (with_reducible first | exact HB.out | apply below_alloc | apply pw_below_drewN | apply below_drew1 | refine below_set ?_ GE439.out | refine below_set ?_ GE440.out) | exact HB.out)) hb); have n3_ := Aside0.mk (hbox); have n4_ := Aside0.mk ((by rw [hg]; exact (below_size (by repeat (first | (with_reducible first | exact HB.out | apply below_alloc | apply pw_below_drewN | apply below_drew1 | refine below_set ?_ GE439.out | refine below_set ?_ GE440.out) | exact HB.out))) : w.heap.size ≤ gb442)); have n5_ := Aside0.mk ((by rw [hg]; exact (below_size (by repeat (first | (with_reducible first | exact HB.out | apply below_alloc | apply pw_below_drewN | apply below_drew1 | refine below_set ?_ GE439.out | refine below_set ?_ GE440.out) | exact HB.out))) : w.heap.size ≤ gb442)); have n6_ := Aside0.mk ((by rw [hg]; exact Nat.ne_of_lt (blk_lt (g := gb439) (o := .cells #[.int .i64 a0_0, .int .i64 a0_1, .slice A0_2 l0_2.length c0_2, .bool a0_3, .slice A0_4 l0_4.length c0_4, .slice (some ad441) l0_5.length c0_5, .slice A0_6 l0_6.length c0_6] 26 (0, 0)) (by (with_reducible repeat (first | refine blk_drewN ?_ _ | refine blk_drew ?_ | refine blk_alloc ?_ _)); exact BK439.out)) : gb439 ≠ gb442)); have n7_ := Aside0.mk ((by rw [hg]; exact Nat.ne_of_gt (blk_lt (g := gb439) (o := .cells #[.int .i64 a0_0, .int .i64 a0_1, .slice A0_2 l0_2.length c0_2, .bool a0_3, .slice A0_4 l0_4.length c0_4, .slice (some ad441) l0_5.length c0_5, .slice A0_6 l0_6.length c0_6] 26 (0, 0)) (by (with_reducible repeat (first | refine blk_drewN ?_ _ | refine blk_drew ?_ | refine blk_alloc ?_ _)); exact BK439.out)) : gb442 ≠ gb439)); have n8_ := Aside0.mk ((by rw [hg]; exact Nat.ne_of_lt (blk_lt (g := gb440) (o := .cells #[.int .i64 a1_0, .int .i64 a1_1, .string a1_2] 39 (0, 0)) (by (with_reducible repeat (first | refine blk_drewN ?_ _ | refine blk_drew ?_ | refine blk_alloc ?_ _)); exact BK440.out)) : gb440 ≠ gb442)); have n9_ := Aside0.mk ((by rw [hg]; exact Nat.ne_of_gt (blk_lt (g := gb440) (o := .cells #[.int .i64 a1_0, .int .i64 a1_1, .string a1_2] 39 (0, 0)) (by (with_reducible repeat (first | refine blk_drewN ?_ _ | refine blk_drew ?_ | refine blk_alloc ?_ _)); exact BK440.out)) : gb442 ≠ gb440)); clear BK439; clear BK440; clear HB; have BK439 := n0_; have BK440 := n1_; have HB := n2_; have BK442 := n3_; have GW442 := n4_; have GE442 := n5_; have NB439_442 := n6_; have NB442_439 := n7_; have NB440_442 := n8_; have NB442_440 := n9_; clear n0_ n1_ n2_ n3_ n4_ n5_ n6_ n7_ n8_ n9_; clear hb hbox hg; have hnb38 := NB442_439.out; have hnc38 := NB439_442.out; have hnb39 := NB442_440.out; have hnc39 := NB440_442.out; have hcz40_0 : w37.cell? ⟨gb442, 0, none⟩ = some (.int .i64 0) := (blk_cell BK442.out 0).trans rfl; have hcz40_1 : w37.cell? ⟨gb442, 1, none⟩ = some (.int .i64 0) := (blk_cell BK442.out 1).trans rfl; have hcz40_2 : w37.cell? ⟨gb442, 2, none⟩ = some (.string (⟨#[]⟩ : ByteArray)) := (blk_cell BK442.out 2).trans rfl; have hfz40_0 := blk_frozen BK442.out 0; have hfz40_1 := blk_frozen BK442.out 1; have hfz40_2 := blk_frozen BK442.out 2; have hnb41 := NB440_439.out; have hnc41 := NB439_440.out; have hcz42_0 : w37.cell? ⟨gb440, 0, none⟩ = some (.int .i64 a1_0) := (blk_cell BK440.out 0).trans rfl; have hcz42_1 : w37.cell? ⟨gb440, 1, none⟩ = some (.int .i64 a1_1) := (blk_cell BK440.out 1).trans rfl; have hcz42_2 : w37.cell? ⟨gb440, 2, none⟩ = some (.string a1_2) := (blk_cell BK440.out 2).trans rfl; have hfz42_0 := blk_frozen BK440.out 0; have hfz42_1 := blk_frozen BK440.out 1; have hfz42_2 := blk_frozen BK440.out 2) | ((with_reducible refine gate_callee (f := 53) rfl ?_); refine goesL_ (some 20) rfl rfl Try.func53 (by kernel_rfl) rfl #[.agg #[.int .i64 ((rd_T39 l0_5 x13_1).f0), .int .i64 ((rd_T39 l0_5 x13_1).f1), .string ((rd_T39 l0_5 x13_1).f2)], .agg #[.int .i64 a1_0, .int .i64 a1_1, .string a1_2]] rfl (by (try simp only [List.map_toArray, List.map_cons, List.map_nil]); first | done | rfl | (simp only [List.length_drop, List.length_take]; rfl) | (simp only [Int.ofNat_lt, Int.ofNat_le, gt_iff_lt, ge_iff_le]; rfl)) ?_; (with_reducible refine (value_Compare.calls ((rd_T39 l0_5 x13_1).f0) ((rd_T39 l0_5 x13_1).f1) ((rd_T39 l0_5 x13_1).f2) a1_0 a1_1 a1_2 t443 _ A11.out).mono ?_); rintro e w43 ⟨rfl, hb⟩; refine ⟨_, rfl, ?_⟩; have n0_ := Aside0.mk (blk_below (g := gb439) (o := .cells #[.int .i64 a0_0, .int .i64 a0_1, .slice A0_2 l0_2.length c0_2, .bool a0_3, .slice A0_4 l0_4.length c0_4, .slice (some ad441) l0_5.length c0_5, .slice A0_6 l0_6.length c0_6] 26 (0, 0)) (by (with_reducible repeat (first | refine blk_drewN ?_ _ | refine blk_drew ?_ | refine blk_alloc ?_ _)); refine blk_far ?_ NB439_442.out _; (with_reducible repeat (first | refine blk_drewN ?_ _ | refine blk_drew ?_ | refine blk_alloc ?_ _)); refine blk_far ?_ NB439_442.out _; (with_reducible repeat (first | refine blk_drewN ?_ _ | refine blk_drew ?_ | refine blk_alloc ?_ _)); refine blk_far ?_ NB439_442.out _; (with_reducible repeat (first | refine blk_drewN ?_ _ | refine blk_drew ?_ | refine blk_alloc ?_ _)); exact BK439.out) hb); have n1_ := Aside0.mk (blk_below (g := gb440) (o := .cells #[.int .i64 a1_0, .int .i64 a1_1, .string a1_2] 39 (0, 0)) (by (with_reducible repeat (first | refine blk_drewN ?_ _ | refine blk_drew ?_ | refine blk_alloc ?_ _)); refine blk_far ?_ NB440_442.out _; (with_reducible repeat (first | refine blk_drewN ?_ _ | refine blk_drew ?_ | refine blk_alloc ?_ _)); refine blk_far ?_ NB440_442.out _; (with_reducible repeat (first | refine blk_drewN ?_ _ | refine blk_drew ?_ | refine blk_alloc ?_ _)); refine blk_far ?_ NB440_442.out _; (with_reducible repeat (first | refine blk_drewN ?_ _ | refine blk_drew ?_ | refine blk_alloc ?_ _)); exact BK440.out) hb); have n2_ := Aside0.mk (blk_below (g := gb442) (o := .cells #[.int .i64 ((rd_T39 l0_5 x13_1).f0), .int .i64 ((rd_T39 l0_5 x13_1).f1), .string ((rd_T39 l0_5 x13_1).f2)] 39 (0, 0)) (by (with_reducible repeat (first | refine blk_drewN ?_ _ | refine blk_drew ?_ | refine blk_alloc ?_ _)); refine blk_put (cs := #[.int .i64 ((rd_T39 l0_5 x13_1).f0), .int .i64 ((rd_T39 l0_5 x13_1).f1), .string (⟨#[]⟩ : ByteArray)]) ?_ 2 _ rfl; (with_reducible repeat (first | refine blk_drewN ?_ _ | refine blk_drew ?_ | refine blk_alloc ?_ _)); refine blk_put (cs := #[.int .i64 ((rd_T39 l0_5 x13_1).f0), .int .i64 0, .string (⟨#[]⟩ : ByteArray)]) ?_ 1 _ rfl; (with_reducible repeat (first | refine blk_drewN ?_ _ | refine blk_drew ?_ | refine blk_alloc ?_ _)); refine blk_put (cs := #[.int .i64 0, .int .i64 0, .string (⟨#[]⟩ : ByteArray)]) ?_ 0 _ rfl; (with_reducible repeat (first | refine blk_drewN ?_ _ | refine blk_drew ?_ | refine blk_alloc ?_ _)); exact BK442.out) hb); have n3_ := Aside0.mk (below_step (by repeat (first | (with_reducible first | exact HB.out | apply below_alloc | apply pw_below_drewN | apply below_drew1 | refine below_set ?_ GE439.out | refine below_set ?_ GE440.out | refine below_set ?_ GE442.out) | exact HB.out)) hb); clear BK439; clear BK440; clear BK442; clear HB; have BK439 := n0_; have BK440 := n1_; have BK442 := n2_; have HB := n3_; clear n0_ n1_ n2_ n3_; (try clear hb); (try clear hb2); (try clear hk); (try clear hi)))
                  go_roundg k1
                  case measure => have := HK1.out; omega
                  case rel => exact ⟨(wrap64 (x13_1 + 1)), (by first | rfl | (simp; done) | (simp [*]; done)), H', ⟨by have := HK1.out; omega⟩, ⟨by (with_reducible repeat (first | refine blk_drewN ?_ _ | refine blk_drew ?_ | refine blk_alloc ?_ _)); exact BK439.out⟩, ⟨by (with_reducible repeat (first | refine blk_drewN ?_ _ | refine blk_drew ?_ | refine blk_alloc ?_ _)); exact BK440.out⟩, ⟨by repeat (first | (with_reducible first | exact HB.out | apply below_alloc | apply pw_below_drewN | apply below_drew1 | refine below_set ?_ GE439.out | refine below_set ?_ GE440.out | refine below_set ?_ GE442.out) | exact HB.out)⟩⟩
              · rw [if_neg c24] at H
                have c24b0 : (t443 == 0) = false := beq_eq_false_iff_ne.mpr c24
                have c24b1 : (t443 != 0) = true := bne_iff_ne.mpr c24
                have H' := Aside0.mk H
                clear H
                have p441 : 0 ≤ (x13_1 : Int) := of_decide_eq_true (by first | (with_reducible assumption) | assumption)
                have q441 : x13_1 < (l0_5.length : Int) := of_decide_eq_true (by first | (with_reducible assumption) | assumption)
                obtain ⟨ad441, e441, hx441_0, hx441_1, hx441_2⟩ := at_T39 HR0_5.out x13_1 p441 q441
                cases e441
                replace hx441_0 := (HB.out.cell (World.block_lt_of_cell? w _ hx441_0)).trans hx441_0
                replace hx441_1 := (HB.out.cell (World.block_lt_of_cell? w _ hx441_1)).trans hx441_1
                replace hx441_2 := (HB.out.cell (World.block_lt_of_cell? w _ hx441_2)).trans hx441_2
                replace p441 := eq_true p441
                replace q441 := eq_true q441
                go_wp2_with (first | ((with_reducible refine gate_dst (N := 8) rfl ?_); refine box_event ?hg (N := 8) ?hd (cs := #[.int .i64 0, .int .i64 0, .string (⟨#[]⟩ : ByteArray)]) (t := 39) ?hr ?_; (case hd => rfl); (case hg => rfl); (case hr => first | (go_simp; done) | (go_simp; rfl)); intro gb442 hg w44 hbox hb; have n0_ := Aside0.mk (blk_below (g := gb439) (o := .cells #[.int .i64 a0_0, .int .i64 a0_1, .slice A0_2 l0_2.length c0_2, .bool a0_3, .slice A0_4 l0_4.length c0_4, .slice (some ad441) l0_5.length c0_5, .slice A0_6 l0_6.length c0_6] 26 (0, 0)) (by (with_reducible repeat (first | refine blk_drewN ?_ _ | refine blk_drew ?_ | refine blk_alloc ?_ _)); exact BK439.out) hb); have n1_ := Aside0.mk (blk_below (g := gb440) (o := .cells #[.int .i64 a1_0, .int .i64 a1_1, .string a1_2] 39 (0, 0)) (by (with_reducible repeat (first | refine blk_drewN ?_ _ | refine blk_drew ?_ | refine blk_alloc ?_ _)); exact BK440.out) hb); have n2_ := Aside0.mk (below_step (by repeat (first | (with_reducible first | exact HB.out | apply below_alloc | apply pw_below_drewN | apply below_drew1 | refine below_set ?_ GE439.out | refine below_set ?_ GE440.out) | exact HB.out)) hb); have n3_ := Aside0.mk (hbox); have n4_ := Aside0.mk ((by rw [hg]; exact (below_size (by repeat (first | (with_reducible first | exact HB.out | apply below_alloc | apply pw_below_drewN | apply below_drew1 | refine below_set ?_ GE439.out | refine below_set ?_ GE440.out) | exact HB.out))) : w.heap.size ≤ gb442)); have n5_ := Aside0.mk ((by rw [hg]; exact (below_size (by repeat (first | (with_reducible first | exact HB.out | apply below_alloc | apply pw_below_drewN | apply below_drew1 | refine below_set ?_ GE439.out | refine below_set ?_ GE440.out) | exact HB.out))) : w.heap.size ≤ gb442)); have n6_ := Aside0.mk ((by rw [hg]; exact Nat.ne_of_lt (blk_lt (g := gb439) (o := .cells #[.int .i64 a0_0, .int .i64 a0_1, .slice A0_2 l0_2.length c0_2, .bool a0_3, .slice A0_4 l0_4.length c0_4, .slice (some ad441) l0_5.length c0_5, .slice A0_6 l0_6.length c0_6] 26 (0, 0)) (by (with_reducible repeat (first | refine blk_drewN ?_ _ | refine blk_drew ?_ | refine blk_alloc ?_ _)); exact BK439.out)) : gb439 ≠ gb442)); have n7_ := Aside0.mk ((by rw [hg]; exact Nat.ne_of_gt (blk_lt (g := gb439) (o := .cells #[.int .i64 a0_0, .int .i64 a0_1, .slice A0_2 l0_2.length c0_2, .bool a0_3, .slice A0_4 l0_4.length c0_4, .slice (some ad441) l0_5.length c0_5, .slice A0_6 l0_6.length c0_6] 26 (0, 0)) (by (with_reducible repeat (first | refine blk_drewN ?_ _ | refine blk_drew ?_ | refine blk_alloc ?_ _)); exact BK439.out)) : gb442 ≠ gb439)); have n8_ := Aside0.mk ((by rw [hg]; exact Nat.ne_of_lt (blk_lt (g := gb440) (o := .cells #[.int .i64 a1_0, .int .i64 a1_1, .string a1_2] 39 (0, 0)) (by (with_reducible repeat (first | refine blk_drewN ?_ _ | refine blk_drew ?_ | refine blk_alloc ?_ _)); exact BK440.out)) : gb440 ≠ gb442)); have n9_ := Aside0.mk ((by rw [hg]; exact Nat.ne_of_gt (blk_lt (g := gb440) (o := .cells #[.int .i64 a1_0, .int .i64 a1_1, .string a1_2] 39 (0, 0)) (by (with_reducible repeat (first | refine blk_drewN ?_ _ | refine blk_drew ?_ | refine blk_alloc ?_ _)); exact BK440.out)) : gb442 ≠ gb440)); clear BK439; clear BK440; clear HB; have BK439 := n0_; have BK440 := n1_; have HB := n2_; have BK442 := n3_; have GW442 := n4_; have GE442 := n5_; have NB439_442 := n6_; have NB442_439 := n7_; have NB440_442 := n8_; have NB442_440 := n9_; clear n0_ n1_ n2_ n3_ n4_ n5_ n6_ n7_ n8_ n9_; clear hb hbox hg; have hnb45 := NB442_439.out; have hnc45 := NB439_442.out; have hnb46 := NB442_440.out; have hnc46 := NB440_442.out; have hcz47_0 : w44.cell? ⟨gb442, 0, none⟩ = some (.int .i64 0) := (blk_cell BK442.out 0).trans rfl; have hcz47_1 : w44.cell? ⟨gb442, 1, none⟩ = some (.int .i64 0) := (blk_cell BK442.out 1).trans rfl; have hcz47_2 : w44.cell? ⟨gb442, 2, none⟩ = some (.string (⟨#[]⟩ : ByteArray)) := (blk_cell BK442.out 2).trans rfl; have hfz47_0 := blk_frozen BK442.out 0; have hfz47_1 := blk_frozen BK442.out 1; have hfz47_2 := blk_frozen BK442.out 2; have hnb48 := NB440_439.out; have hnc48 := NB439_440.out; have hcz49_0 : w44.cell? ⟨gb440, 0, none⟩ = some (.int .i64 a1_0) := (blk_cell BK440.out 0).trans rfl; have hcz49_1 : w44.cell? ⟨gb440, 1, none⟩ = some (.int .i64 a1_1) := (blk_cell BK440.out 1).trans rfl; have hcz49_2 : w44.cell? ⟨gb440, 2, none⟩ = some (.string a1_2) := (blk_cell BK440.out 2).trans rfl; have hfz49_0 := blk_frozen BK440.out 0; have hfz49_1 := blk_frozen BK440.out 1; have hfz49_2 := blk_frozen BK440.out 2) | ((with_reducible refine gate_callee (f := 53) rfl ?_); refine goesL_ (some 20) rfl rfl Try.func53 (by kernel_rfl) rfl #[.agg #[.int .i64 ((rd_T39 l0_5 x13_1).f0), .int .i64 ((rd_T39 l0_5 x13_1).f1), .string ((rd_T39 l0_5 x13_1).f2)], .agg #[.int .i64 a1_0, .int .i64 a1_1, .string a1_2]] rfl (by (try simp only [List.map_toArray, List.map_cons, List.map_nil]); first | done | rfl | (simp only [List.length_drop, List.length_take]; rfl) | (simp only [Int.ofNat_lt, Int.ofNat_le, gt_iff_lt, ge_iff_le]; rfl)) ?_; (with_reducible refine (value_Compare.calls ((rd_T39 l0_5 x13_1).f0) ((rd_T39 l0_5 x13_1).f1) ((rd_T39 l0_5 x13_1).f2) a1_0 a1_1 a1_2 t443 _ A11.out).mono ?_); rintro e w50 ⟨rfl, hb⟩; refine ⟨_, rfl, ?_⟩; have n0_ := Aside0.mk (blk_below (g := gb439) (o := .cells #[.int .i64 a0_0, .int .i64 a0_1, .slice A0_2 l0_2.length c0_2, .bool a0_3, .slice A0_4 l0_4.length c0_4, .slice (some ad441) l0_5.length c0_5, .slice A0_6 l0_6.length c0_6] 26 (0, 0)) (by (with_reducible repeat (first | refine blk_drewN ?_ _ | refine blk_drew ?_ | refine blk_alloc ?_ _)); refine blk_far ?_ NB439_442.out _; (with_reducible repeat (first | refine blk_drewN ?_ _ | refine blk_drew ?_ | refine blk_alloc ?_ _)); refine blk_far ?_ NB439_442.out _; (with_reducible repeat (first | refine blk_drewN ?_ _ | refine blk_drew ?_ | refine blk_alloc ?_ _)); refine blk_far ?_ NB439_442.out _; (with_reducible repeat (first | refine blk_drewN ?_ _ | refine blk_drew ?_ | refine blk_alloc ?_ _)); exact BK439.out) hb); have n1_ := Aside0.mk (blk_below (g := gb440) (o := .cells #[.int .i64 a1_0, .int .i64 a1_1, .string a1_2] 39 (0, 0)) (by (with_reducible repeat (first | refine blk_drewN ?_ _ | refine blk_drew ?_ | refine blk_alloc ?_ _)); refine blk_far ?_ NB440_442.out _; (with_reducible repeat (first | refine blk_drewN ?_ _ | refine blk_drew ?_ | refine blk_alloc ?_ _)); refine blk_far ?_ NB440_442.out _; (with_reducible repeat (first | refine blk_drewN ?_ _ | refine blk_drew ?_ | refine blk_alloc ?_ _)); refine blk_far ?_ NB440_442.out _; (with_reducible repeat (first | refine blk_drewN ?_ _ | refine blk_drew ?_ | refine blk_alloc ?_ _)); exact BK440.out) hb); have n2_ := Aside0.mk (blk_below (g := gb442) (o := .cells #[.int .i64 ((rd_T39 l0_5 x13_1).f0), .int .i64 ((rd_T39 l0_5 x13_1).f1), .string ((rd_T39 l0_5 x13_1).f2)] 39 (0, 0)) (by (with_reducible repeat (first | refine blk_drewN ?_ _ | refine blk_drew ?_ | refine blk_alloc ?_ _)); refine blk_put (cs := #[.int .i64 ((rd_T39 l0_5 x13_1).f0), .int .i64 ((rd_T39 l0_5 x13_1).f1), .string (⟨#[]⟩ : ByteArray)]) ?_ 2 _ rfl; (with_reducible repeat (first | refine blk_drewN ?_ _ | refine blk_drew ?_ | refine blk_alloc ?_ _)); refine blk_put (cs := #[.int .i64 ((rd_T39 l0_5 x13_1).f0), .int .i64 0, .string (⟨#[]⟩ : ByteArray)]) ?_ 1 _ rfl; (with_reducible repeat (first | refine blk_drewN ?_ _ | refine blk_drew ?_ | refine blk_alloc ?_ _)); refine blk_put (cs := #[.int .i64 0, .int .i64 0, .string (⟨#[]⟩ : ByteArray)]) ?_ 0 _ rfl; (with_reducible repeat (first | refine blk_drewN ?_ _ | refine blk_drew ?_ | refine blk_alloc ?_ _)); exact BK442.out) hb); have n3_ := Aside0.mk (below_step (by repeat (first | (with_reducible first | exact HB.out | apply below_alloc | apply pw_below_drewN | apply below_drew1 | refine below_set ?_ GE439.out | refine below_set ?_ GE440.out | refine below_set ?_ GE442.out) | exact HB.out)) hb); clear BK439; clear BK440; clear BK442; clear HB; have BK439 := n0_; have BK440 := n1_; have BK442 := n2_; have HB := n3_; clear n0_ n1_ n2_ n3_; (try clear hb); (try clear hb2); (try clear hk); (try clear hi)))
                go_roundg k1
                case measure => have := HK1.out; omega
                case rel => exact ⟨(wrap64 (x13_1 + 1)), (by first | rfl | (simp; done) | (simp [*]; done)), H', ⟨by have := HK1.out; omega⟩, ⟨by (with_reducible repeat (first | refine blk_drewN ?_ _ | refine blk_drew ?_ | refine blk_alloc ?_ _)); exact BK439.out⟩, ⟨by (with_reducible repeat (first | refine blk_drewN ?_ _ | refine blk_drew ?_ | refine blk_alloc ?_ _)); exact BK440.out⟩, ⟨by repeat (first | (with_reducible first | exact HB.out | apply below_alloc | apply pw_below_drewN | apply below_drew1 | refine below_set ?_ GE439.out | refine below_set ?_ GE440.out | refine below_set ?_ GE442.out) | exact HB.out)⟩⟩
          · rw [if_neg c10] at H
            exact absurd H (by simp)
        · rw [if_neg c9] at H
          exact absurd H (by simp)
      · rw [if_neg c8] at H
        have c8b0 : decide (x13_1 < (l0_5.length : Int)) = false := decide_eq_false c8
        clear c8
        replace H := Option.bind_eq_some_iff.mp H
        obtain ⟨t446, A510, H⟩ := H
        replace H : (some t446) = some r := H
        have A51 := Aside0.mk A510
        clear A510
        obtain rfl := Option.some.inj H
        have hnb52 := NB439_440.out
        have hnc52 := NB440_439.out
        have hcz53_0 : wr.cell? ⟨gb439, 0, none⟩ = some (.int .i64 a0_0) := (blk_cell BK439.out 0).trans rfl
        have hcz53_1 : wr.cell? ⟨gb439, 1, none⟩ = some (.int .i64 a0_1) := (blk_cell BK439.out 1).trans rfl
        have hcz53_2 : wr.cell? ⟨gb439, 2, none⟩ = some (.slice A0_2 l0_2.length c0_2) := (blk_cell BK439.out 2).trans rfl
        have hcz53_3 : wr.cell? ⟨gb439, 3, none⟩ = some (.bool a0_3) := (blk_cell BK439.out 3).trans rfl
        have hcz53_4 : wr.cell? ⟨gb439, 4, none⟩ = some (.slice A0_4 l0_4.length c0_4) := (blk_cell BK439.out 4).trans rfl
        have hcz53_5 : wr.cell? ⟨gb439, 5, none⟩ = some (.slice A0_5 l0_5.length c0_5) := (blk_cell BK439.out 5).trans rfl
        have hcz53_6 : wr.cell? ⟨gb439, 6, none⟩ = some (.slice A0_6 l0_6.length c0_6) := (blk_cell BK439.out 6).trans rfl
        have hfz53_0 := blk_frozen BK439.out 0
        have hfz53_1 := blk_frozen BK439.out 1
        have hfz53_2 := blk_frozen BK439.out 2
        have hfz53_3 := blk_frozen BK439.out 3
        have hfz53_4 := blk_frozen BK439.out 4
        have hfz53_5 := blk_frozen BK439.out 5
        have hfz53_6 := blk_frozen BK439.out 6
        go_wp2_with (first | ((with_reducible refine gate_callee (f := 66) rfl ?_); refine goesL_ (some 38) rfl rfl Try.func66 (by kernel_rfl) rfl #[.agg #[.int .i64 a0_0, .int .i64 a0_1, .slice A0_2 l0_2.length c0_2, .bool a0_3, .slice A0_4 l0_4.length c0_4, .slice A0_5 l0_5.length c0_5, .slice A0_6 l0_6.length c0_6]] rfl (by (try simp only [List.map_toArray, List.map_cons, List.map_nil]); first | done | rfl | (simp only [List.length_drop, List.length_take]; rfl) | (simp only [Int.ofNat_lt, Int.ofNat_le, gt_iff_lt, ge_iff_le]; rfl)) ?_; (with_reducible refine (sketch_count.calls a0_0 a0_1 _ _ l0_2 a0_3 _ _ l0_4 _ _ l0_5 _ _ l0_6 t446 _ ?side1 ?side2 ?side3 ?side4 ?side5 ?side6 ?side7 ?side8 A51.out).mono ?_); (case side1 => repeat (first | exact (Kd.C_below HR0_2.out HB.out) | (with_reducible refine Kd.C_alloc ?_ _) | (with_reducible refine Kd.C_drewN ?_ _) | (with_reducible refine Kd.C_drew ?_))); (case side2 => exact HC0_2.out); (case side3 => repeat (first | exact (Kd.C_below HR0_4.out HB.out) | (with_reducible refine Kd.C_alloc ?_ _) | (with_reducible refine Kd.C_drewN ?_ _) | (with_reducible refine Kd.C_drew ?_))); (case side4 => exact HC0_4.out); (case side5 => repeat (first | exact (Kd.C_below HR0_5.out HB.out) | (with_reducible refine Kd.C_alloc ?_ _) | (with_reducible refine Kd.C_drewN ?_ _) | (with_reducible refine Kd.C_drew ?_))); (case side6 => exact HC0_5.out); (case side7 => repeat (first | exact (Kd.C_below HR0_6.out HB.out) | (with_reducible refine Kd.C_alloc ?_ _) | (with_reducible refine Kd.C_drewN ?_ _) | (with_reducible refine Kd.C_drew ?_))); (case side8 => exact HC0_6.out); rintro e w54 ⟨rfl, hb⟩; refine ⟨_, rfl, ?_⟩; have n0_ := Aside0.mk (blk_below (g := gb439) (o := .cells #[.int .i64 a0_0, .int .i64 a0_1, .slice A0_2 l0_2.length c0_2, .bool a0_3, .slice A0_4 l0_4.length c0_4, .slice A0_5 l0_5.length c0_5, .slice A0_6 l0_6.length c0_6] 26 (0, 0)) (by (with_reducible repeat (first | refine blk_drewN ?_ _ | refine blk_drew ?_ | refine blk_alloc ?_ _)); exact BK439.out) hb); have n1_ := Aside0.mk (blk_below (g := gb440) (o := .cells #[.int .i64 a1_0, .int .i64 a1_1, .string a1_2] 39 (0, 0)) (by (with_reducible repeat (first | refine blk_drewN ?_ _ | refine blk_drew ?_ | refine blk_alloc ?_ _)); exact BK440.out) hb); have n2_ := Aside0.mk (below_step (by repeat (first | (with_reducible first | exact HB.out | apply below_alloc | apply pw_below_drewN | apply below_drew1 | refine below_set ?_ GE439.out | refine below_set ?_ GE440.out) | exact HB.out)) hb); clear BK439; clear BK440; clear HB; have BK439 := n0_; have BK440 := n1_; have HB := n2_; clear n0_ n1_ n2_; (try clear hb); (try clear hb2); (try clear hk); (try clear hi)))
        go_ret
        exact ⟨by first | rfl | (simp [errW_none, errW_some] <;> rfl) | (simp [*, errW_none, errW_some] <;> rfl), by repeat (first | (with_reducible first | exact HB.out | apply below_alloc | apply pw_below_drewN | apply below_drew1 | refine below_set ?_ GE439.out | refine below_set ?_ GE440.out) | exact HB.out)⟩
end Go.Proofs.Ytackcingpffidaa.P
