/- What Go functions of the given program return, told as Lean functions, and the walks that show it; written by a program of this session (the print of the kit, turned). Conditions: the hypotheses that stand at each theorem. -/
import Derived.Test.YtiklldjfcdblbaaPx0
import Derived.Test.YtiklldjfcdblbaaPx46
namespace Go.Proofs.Ytiklldjfcdblbaa.P
open Go.RowKit Go.Proofs.YtiklldjfcdblbaaW.PrintWords Go.Proofs.YtiklldjfcdblbaaW.PrintLast Go.Proofs.YtiklldjfcdblbaaW.PrintMore
attribute [local go_sem] max2_int min2_int max_two min_two max_three min_three max_four min_four Go.Proofs.YtiklldjfcdblbaaQ.str_gtr Go.Proofs.YtiklldjfcdblbaaQ.str_leq Go.Proofs.YtiklldjfcdblbaaQ.str_geq   -- for this text's walks alone
set_option linter.unusedVariables false
set_option linter.unusedSimpArgs false

/-! ### laminaref04_Hash: function 46 -/
def laminaref04_Hash.l0 : Nat → List (S23) → Int → Int → Option (Int)
  | 0, _, _, _ => none
  | k + 1, x1, x5, x6 => if x6 < (x1.length : Int) then (if 0 ≤ x6 then (if ((rd_T23 x1 x6).f0) = 0 then ((laminaref02_Mix.f (Go.bits .xor .u64 x5 1)).bind fun t716 => (laminaref04_Hash.l0 k x1 t716 (wrap64 (x6 + 1)))) else (if ((rd_T23 x1 x6).f0) = 1 then ((laminaref02_Mix.f (Go.bits .xor .u64 x5 2)).bind fun t717 => ((laminaref02_Mix.f (Go.bits .xor .u64 t717 (IntKind.u64.wrap ((rd_T23 x1 x6).f1)))).bind fun t718 => (laminaref04_Hash.l0 k x1 t718 (wrap64 (x6 + 1))))) else (if ((rd_T23 x1 x6).f0) = 2 then ((laminaref02_Mix.f (Go.bits .xor .u64 x5 3)).bind fun t719 => ((laminaref02_Mix.f (Go.bits .xor .u64 t719 (IntKind.u64.wrap ((rd_T23 x1 x6).f1)))).bind fun t720 => (laminaref04_Hash.l0 k x1 t720 (wrap64 (x6 + 1))))) else (if ((rd_T23 x1 x6).f0) = 3 then ((laminaref02_Mix.f (Go.bits .xor .u64 x5 4)).bind fun tM => (if ((rd_T23 x1 x6).f2).size ≤ 9223372036854775807 then ((laminaref02_Hash.f k tM (bytesOf ((rd_T23 x1 x6).f2))).bind fun tH => (laminaref04_Hash.l0 k x1 tH (wrap64 (x6 + 1)))) else none)) else (laminaref04_Hash.l0 k x1 x5 (wrap64 (x6 + 1))))))) else (none)) else (some x5)
def laminaref04_Hash.f (k : Nat) (a0 : Int) (l1 : List (S23)) : Option (Int) := (laminaref02_Mix.f a0).bind fun t713 => (laminaref04_Hash.l0 k l1 t713 0)
theorem laminaref04_Hash.mono_l : ∀ k, (∀ y0 y1 y2, LeO (laminaref04_Hash.l0 k y0 y1 y2) (laminaref04_Hash.l0 (k + 1) y0 y1 y2))
  | 0 => fun _ _ _ r h => by simp [laminaref04_Hash.l0] at h
  | k + 1 => by
    have ih0 := laminaref04_Hash.mono_l k
    · intro y0 y1 y2
      unfold laminaref04_Hash.l0
      repeat' first
      | (with_reducible exact laminaref02_Hash.mono _ _ _)
      | (with_reducible exact ih0 _ _ _)
      | (with_reducible exact LeO.refl _)
      | (with_reducible exact LeO.none _)
      | (with_reducible refine LeO.ite ?_ ?_)
      | (with_reducible refine LeO.bind ?_ (fun _ => ?_))
      | exact ih0 _ _ _
      | exact LeO.none _
      | refine LeO.ite ?_ ?_
      | refine LeO.bind ?_ (fun _ => ?_)
theorem laminaref04_Hash.mono : ∀ a0 a1 k, LeO (laminaref04_Hash.f k a0 a1) (laminaref04_Hash.f (k + 1) a0 a1) := by
  intro a0 a1 k
  have ih0 := laminaref04_Hash.mono_l k
  unfold laminaref04_Hash.f
  repeat' first
      | (with_reducible exact laminaref02_Hash.mono _ _ _)
      | (with_reducible exact ih0 _ _ _)
      | (with_reducible exact LeO.refl _)
      | (with_reducible exact LeO.none _)
      | (with_reducible refine LeO.ite ?_ ?_)
      | (with_reducible refine LeO.bind ?_ (fun _ => ?_))
      | exact ih0 _ _ _
      | exact LeO.none _
      | refine LeO.ite ?_ ?_
      | refine LeO.bind ?_ (fun _ => ?_)
set_option maxHeartbeats 8000000 in
set_option maxRecDepth 100000 in
theorem laminaref04_Hash.calls (k : Nat) (a0 : Int) (A1 : Option Addr) (c1 : Nat) (l1 : List (S23)) (r : Int) (w : World) (hr1 : Kd.C k23 w A1 l1.length l1) (hc1 : l1.length ≤ c1) (h : laminaref04_Hash.f k a0 l1 = some r) :
    Calls Try.prog 46 #[.int .u64 a0, .slice A1 l1.length c1] w fun e w' => e = .returned (.int .u64 r) ∧ Below w.heap.size w w' := by
  have hu23 := Try.underlying23
  have HR1 := Aside0.mk hr1
  have HC1 := Aside0.mk hc1
  clear hr1 hc1
  have HB := Aside0.mk (Below.refl w.heap.size w)
  have H : ((laminaref02_Mix.f a0).bind fun t713 => (laminaref04_Hash.l0 k l1 t713 0)) = some r := h
  clear h
  replace H := Option.bind_eq_some_iff.mp H
  obtain ⟨t713, A30, H⟩ := H
  replace H : (laminaref04_Hash.l0 k l1 t713 0) = some r := H
  have A3 := Aside0.mk A30
  clear A30
  have H' := Aside0.mk H
  clear H
  go_enter Try.func46, Try.ntmps46
  go_wp2_with (first | (go_at_call 77; (with_reducible refine (laminaref02_Mix.calls a0 t713 _ A3.out).mono ?_); rintro e w' ⟨rfl, ⟨nd, rfl⟩⟩; (try first | exact ⟨rfl, _, World.drewN_drewN _ _ _⟩ | exact ⟨rfl, _, Eq.trans (World.drewN_drewN _ _ _) (congrArg (World.drewN _) (Nat.add_assoc _ _ _))⟩)))
  repeat (go_quiet (first | (go_at_call 77; (with_reducible refine (laminaref02_Mix.calls a0 t713 _ A3.out).mono ?_); rintro e w' ⟨rfl, ⟨nd, rfl⟩⟩; (try first | exact ⟨rfl, _, World.drewN_drewN _ _ _⟩ | exact ⟨rfl, _, Eq.trans (World.drewN_drewN _ _ _) (congrArg (World.drewN _) (Nat.add_assoc _ _ _))⟩))); try go_wp2_with (first | (go_at_call 77; (with_reducible refine (laminaref02_Mix.calls a0 t713 _ A3.out).mono ?_); rintro e w' ⟨rfl, ⟨nd, rfl⟩⟩; (try first | exact ⟨rfl, _, World.drewN_drewN _ _ _⟩ | exact ⟨rfl, _, Eq.trans (World.drewN_drewN _ _ _) (congrArg (World.drewN _) (Nat.add_assoc _ _ _))⟩))))
  go_loopg [5, 6] k (fun kq v5 v6 w' => ∃ (x5_1 : Int) (x6_1 : Int), v5 = .int .u64 x5_1 ∧ v6 = .int .i64 x6_1 ∧ Aside0 (laminaref04_Hash.l0 kq l1 x5_1 x6_1 = some r) ∧ Aside0 (kq ≤ k) ∧ Aside0 (Below w.heap.size w w'))
  case atStart => exact ⟨(t713), (0), (by first | rfl | (simp; done) | (simp [*]; done)), (by first | rfl | (simp; done) | (simp [*]; done)), H', ⟨Nat.le_refl _⟩, ⟨by repeat (first | (with_reducible first | exact HB.out | apply below_alloc | apply pw_below_drewN | apply below_drew1) | exact HB.out)⟩⟩
  case round =>
    clear H'
    try clear c1
    try clear p2
    obtain ⟨x5_1, x6_1, rfl, rfl, HA, HK1, HB⟩ := hrel
    cases gk with
    | zero => exact absurd HA.out (by simp [laminaref04_Hash.l0])
    | succ k1 =>
      have H := HA.out
      clear HA
      simp only [laminaref04_Hash.l0] at H
      by_cases c4 : x6_1 < (l1.length : Int)
      · rw [if_pos c4] at H
        have c4b0 : decide (x6_1 < (l1.length : Int)) = true := decide_eq_true c4
        clear c4
        by_cases c5 : 0 ≤ x6_1
        · rw [if_pos c5] at H
          have c5b0 : decide (0 ≤ x6_1) = true := decide_eq_true c5
          clear c5
          by_cases c6 : ((rd_T23 l1 x6_1).f0) = 0
          · rw [if_pos c6] at H
            have c6b0 : (((rd_T23 l1 x6_1).f0) == 0) = true := beq_iff_eq.mpr c6
            have c6b1 : (((rd_T23 l1 x6_1).f0) != 0) = false := bne_eq_false_iff_eq.mpr c6
            clear c6
            replace H := Option.bind_eq_some_iff.mp H
            obtain ⟨t716, A70, H⟩ := H
            replace H : (laminaref04_Hash.l0 k1 l1 t716 (wrap64 (x6_1 + 1))) = some r := H
            have A7 := Aside0.mk A70
            clear A70
            have H' := Aside0.mk H
            clear H
            have p714 : 0 ≤ (x6_1 : Int) := of_decide_eq_true (by first | (with_reducible assumption) | assumption)
            have q714 : x6_1 < (l1.length : Int) := of_decide_eq_true (by first | (with_reducible assumption) | assumption)
            obtain ⟨ad714, e714, hx714_0, hx714_1, hx714_2⟩ := at_T23 HR1.out x6_1 p714 q714
            cases e714
            replace hx714_0 := (HB.out.cell (World.block_lt_of_cell? w _ hx714_0)).trans hx714_0
            replace hx714_1 := (HB.out.cell (World.block_lt_of_cell? w _ hx714_1)).trans hx714_1
            replace hx714_2 := (HB.out.cell (World.block_lt_of_cell? w _ hx714_2)).trans hx714_2
            replace p714 := eq_true p714
            replace q714 := eq_true q714
            go_wp2_with (first | ((with_reducible refine gate_dst (N := 7) rfl ?_); refine box_event ?hg (N := 7) ?hd (cs := #[.int .i64 0, .int .i64 0, .string (⟨#[]⟩ : ByteArray)]) (t := 23) ?hr ?_; (case hd => rfl); (case hg => rfl); (case hr => first | (go_simp; done) | (go_simp; rfl)); intro gb715 hg w8 hbox hb; have n0_ := Aside0.mk (below_step (by repeat (first | (with_reducible first | exact HB.out | apply below_alloc | apply pw_below_drewN | apply below_drew1) | exact HB.out)) hb); have n1_ := Aside0.mk (hbox); have n2_ := Aside0.mk ((by rw [hg]; exact (below_size (by repeat (first | (with_reducible first | exact HB.out | apply below_alloc | apply pw_below_drewN | apply below_drew1) | exact HB.out))) : w.heap.size ≤ gb715)); have n3_ := Aside0.mk ((by rw [hg]; exact (below_size (by repeat (first | (with_reducible first | exact HB.out | apply below_alloc | apply pw_below_drewN | apply below_drew1) | exact HB.out))) : w.heap.size ≤ gb715)); clear HB; have HB := n0_; have BK715 := n1_; have GW715 := n2_; have GE715 := n3_; clear n0_ n1_ n2_ n3_; clear hb hbox hg; have hcz9_0 : w8.cell? ⟨gb715, 0, none⟩ = some (.int .i64 0) := (blk_cell BK715.out 0).trans rfl; have hcz9_1 : w8.cell? ⟨gb715, 1, none⟩ = some (.int .i64 0) := (blk_cell BK715.out 1).trans rfl; have hcz9_2 : w8.cell? ⟨gb715, 2, none⟩ = some (.string (⟨#[]⟩ : ByteArray)) := (blk_cell BK715.out 2).trans rfl; have hfz9_0 := blk_frozen BK715.out 0; have hfz9_1 := blk_frozen BK715.out 1; have hfz9_2 := blk_frozen BK715.out 2) | (go_at_call 77; (with_reducible refine (laminaref02_Mix.calls (Go.bits .xor .u64 x5_1 1) t716 _ A7.out).mono ?_); rintro e w' ⟨rfl, ⟨nd, rfl⟩⟩; (try first | exact ⟨rfl, _, World.drewN_drewN _ _ _⟩ | exact ⟨rfl, _, Eq.trans (World.drewN_drewN _ _ _) (congrArg (World.drewN _) (Nat.add_assoc _ _ _))⟩)))
            repeat (go_quiet (first | ((with_reducible refine gate_dst (N := 7) rfl ?_); refine box_event ?hg (N := 7) ?hd (cs := #[.int .i64 0, .int .i64 0, .string (⟨#[]⟩ : ByteArray)]) (t := 23) ?hr ?_; (case hd => rfl); (case hg => rfl); (case hr => first | (go_simp; done) | (go_simp; rfl)); intro gb715 hg w8 hbox hb; have n0_ := Aside0.mk (below_step (by repeat (first | (with_reducible first | exact HB.out | apply below_alloc | apply pw_below_drewN | apply below_drew1) | exact HB.out)) hb); have n1_ := Aside0.mk (hbox); have n2_ := Aside0.mk ((by rw [hg]; exact (below_size (by repeat (first | (with_reducible first | exact HB.out | apply below_alloc | apply pw_below_drewN | apply below_drew1) | exact HB.out))) : w.heap.size ≤ gb715)); have n3_ := Aside0.mk ((by rw [hg]; exact (below_size (by repeat (first | (with_reducible first | exact HB.out | apply below_alloc | apply pw_below_drewN | apply below_drew1) | exact HB.out))) : w.heap.size ≤ gb715)); clear HB; have HB := n0_; have BK715 := n1_; have GW715 := n2_; have GE715 := n3_; clear n0_ n1_ n2_ n3_; clear hb hbox hg; have hcz9_0 : w8.cell? ⟨gb715, 0, none⟩ = some (.int .i64 0) := (blk_cell BK715.out 0).trans rfl; have hcz9_1 : w8.cell? ⟨gb715, 1, none⟩ = some (.int .i64 0) := (blk_cell BK715.out 1).trans rfl; have hcz9_2 : w8.cell? ⟨gb715, 2, none⟩ = some (.string (⟨#[]⟩ : ByteArray)) := (blk_cell BK715.out 2).trans rfl; have hfz9_0 := blk_frozen BK715.out 0; have hfz9_1 := blk_frozen BK715.out 1; have hfz9_2 := blk_frozen BK715.out 2) | (go_at_call 77; (with_reducible refine (laminaref02_Mix.calls (Go.bits .xor .u64 x5_1 1) t716 _ A7.out).mono ?_); rintro e w' ⟨rfl, ⟨nd, rfl⟩⟩; (try first | exact ⟨rfl, _, World.drewN_drewN _ _ _⟩ | exact ⟨rfl, _, Eq.trans (World.drewN_drewN _ _ _) (congrArg (World.drewN _) (Nat.add_assoc _ _ _))⟩))); try go_wp2_with (first | ((with_reducible refine gate_dst (N := 7) rfl ?_); refine box_event ?hg (N := 7) ?hd (cs := #[.int .i64 0, .int .i64 0, .string (⟨#[]⟩ : ByteArray)]) (t := 23) ?hr ?_; (case hd => rfl); (case hg => rfl); (case hr => first | (go_simp; done) | (go_simp; rfl)); intro gb715 hg w8 hbox hb; have n0_ := Aside0.mk (below_step (by repeat (first | (with_reducible first | exact HB.out | apply below_alloc | apply pw_below_drewN | apply below_drew1) | exact HB.out)) hb); have n1_ := Aside0.mk (hbox); have n2_ := Aside0.mk ((by rw [hg]; exact (below_size (by repeat (first | (with_reducible first | exact HB.out | apply below_alloc | apply pw_below_drewN | apply below_drew1) | exact HB.out))) : w.heap.size ≤ gb715)); have n3_ := Aside0.mk ((by rw [hg]; exact (below_size (by repeat (first | (with_reducible first | exact HB.out | apply below_alloc | apply pw_below_drewN | apply below_drew1) | exact HB.out))) : w.heap.size ≤ gb715)); clear HB; have HB := n0_; have BK715 := n1_; have GW715 := n2_; have GE715 := n3_; clear n0_ n1_ n2_ n3_; clear hb hbox hg; have hcz9_0 : w8.cell? ⟨gb715, 0, none⟩ = some (.int .i64 0) := (blk_cell BK715.out 0).trans rfl; have hcz9_1 : w8.cell? ⟨gb715, 1, none⟩ = some (.int .i64 0) := (blk_cell BK715.out 1).trans rfl; have hcz9_2 : w8.cell? ⟨gb715, 2, none⟩ = some (.string (⟨#[]⟩ : ByteArray)) := (blk_cell BK715.out 2).trans rfl; have hfz9_0 := blk_frozen BK715.out 0; have hfz9_1 := blk_frozen BK715.out 1; have hfz9_2 := blk_frozen BK715.out 2) | (go_at_call 77; (with_reducible refine (laminaref02_Mix.calls (Go.bits .xor .u64 x5_1 1) t716 _ A7.out).mono ?_); rintro e w' ⟨rfl, ⟨nd, rfl⟩⟩; (try first | exact ⟨rfl, _, World.drewN_drewN _ _ _⟩ | exact ⟨rfl, _, Eq.trans (World.drewN_drewN _ _ _) (congrArg (World.drewN _) (Nat.add_assoc _ _ _))⟩))))
            go_roundg k1
            case measure => have := HK1.out; omega
            case rel => exact ⟨(t716), (wrap64 (x6_1 + 1)), (by first | rfl | (simp; done) | (simp [*]; done)), (by first | rfl | (simp; done) | (simp [*]; done)), H', ⟨by have := HK1.out; omega⟩, ⟨by repeat (first | (with_reducible first | exact HB.out | apply below_alloc | apply pw_below_drewN | apply below_drew1 | refine below_set ?_ GE715.out) | exact HB.out)⟩⟩
          · rw [if_neg c6] at H
            have c6b0 : (((rd_T23 l1 x6_1).f0) == 0) = false := beq_eq_false_iff_ne.mpr c6
            have c6b1 : (((rd_T23 l1 x6_1).f0) != 0) = true := bne_iff_ne.mpr c6
            by_cases c10 : ((rd_T23 l1 x6_1).f0) = 1
            · rw [if_pos c10] at H
              have c10b0 : (((rd_T23 l1 x6_1).f0) == 1) = true := beq_iff_eq.mpr c10
              have c10b1 : (((rd_T23 l1 x6_1).f0) != 1) = false := bne_eq_false_iff_eq.mpr c10
              clear c10
              replace H := Option.bind_eq_some_iff.mp H
              obtain ⟨t717, A110, H⟩ := H
              replace H : ((laminaref02_Mix.f (Go.bits .xor .u64 t717 (IntKind.u64.wrap ((rd_T23 l1 x6_1).f1)))).bind fun t718 => (laminaref04_Hash.l0 k1 l1 t718 (wrap64 (x6_1 + 1)))) = some r := H
              have A11 := Aside0.mk A110
              clear A110
              replace H := Option.bind_eq_some_iff.mp H
              obtain ⟨t718, A120, H⟩ := H
              replace H : (laminaref04_Hash.l0 k1 l1 t718 (wrap64 (x6_1 + 1))) = some r := H
              have A12 := Aside0.mk A120
              clear A120
              have H' := Aside0.mk H
              clear H
              have p714 : 0 ≤ (x6_1 : Int) := of_decide_eq_true (by first | (with_reducible assumption) | assumption)
              have q714 : x6_1 < (l1.length : Int) := of_decide_eq_true (by first | (with_reducible assumption) | assumption)
              obtain ⟨ad714, e714, hx714_0, hx714_1, hx714_2⟩ := at_T23 HR1.out x6_1 p714 q714
              cases e714
              replace hx714_0 := (HB.out.cell (World.block_lt_of_cell? w _ hx714_0)).trans hx714_0
              replace hx714_1 := (HB.out.cell (World.block_lt_of_cell? w _ hx714_1)).trans hx714_1
              replace hx714_2 := (HB.out.cell (World.block_lt_of_cell? w _ hx714_2)).trans hx714_2
              replace p714 := eq_true p714
              replace q714 := eq_true q714
              go_wp2_with (first | ((with_reducible refine gate_dst (N := 7) rfl ?_); refine box_event ?hg (N := 7) ?hd (cs := #[.int .i64 0, .int .i64 0, .string (⟨#[]⟩ : ByteArray)]) (t := 23) ?hr ?_; (case hd => rfl); (case hg => rfl); (case hr => first | (go_simp; done) | (go_simp; rfl)); intro gb715 hg w13 hbox hb; have n0_ := Aside0.mk (below_step (by repeat (first | (with_reducible first | exact HB.out | apply below_alloc | apply pw_below_drewN | apply below_drew1) | exact HB.out)) hb); have n1_ := Aside0.mk (hbox); have n2_ := Aside0.mk ((by rw [hg]; exact (below_size (by repeat (first | (with_reducible first | exact HB.out | apply below_alloc | apply pw_below_drewN | apply below_drew1) | exact HB.out))) : w.heap.size ≤ gb715)); have n3_ := Aside0.mk ((by rw [hg]; exact (below_size (by repeat (first | (with_reducible first | exact HB.out | apply below_alloc | apply pw_below_drewN | apply below_drew1) | exact HB.out))) : w.heap.size ≤ gb715)); clear HB; have HB := n0_; have BK715 := n1_; have GW715 := n2_; have GE715 := n3_; clear n0_ n1_ n2_ n3_; clear hb hbox hg; have hcz14_0 : w13.cell? ⟨gb715, 0, none⟩ = some (.int .i64 0) := (blk_cell BK715.out 0).trans rfl; have hcz14_1 : w13.cell? ⟨gb715, 1, none⟩ = some (.int .i64 0) := (blk_cell BK715.out 1).trans rfl; have hcz14_2 : w13.cell? ⟨gb715, 2, none⟩ = some (.string (⟨#[]⟩ : ByteArray)) := (blk_cell BK715.out 2).trans rfl; have hfz14_0 := blk_frozen BK715.out 0; have hfz14_1 := blk_frozen BK715.out 1; have hfz14_2 := blk_frozen BK715.out 2) | (go_at_call 77; (with_reducible refine (laminaref02_Mix.calls (Go.bits .xor .u64 x5_1 2) t717 _ A11.out).mono ?_); rintro e w' ⟨rfl, ⟨nd, rfl⟩⟩; (try first | exact ⟨rfl, _, World.drewN_drewN _ _ _⟩ | exact ⟨rfl, _, Eq.trans (World.drewN_drewN _ _ _) (congrArg (World.drewN _) (Nat.add_assoc _ _ _))⟩)) | (go_at_call 77; (with_reducible refine (laminaref02_Mix.calls (Go.bits .xor .u64 t717 (IntKind.u64.wrap ((rd_T23 l1 x6_1).f1))) t718 _ A12.out).mono ?_); rintro e w' ⟨rfl, ⟨nd, rfl⟩⟩; (try first | exact ⟨rfl, _, World.drewN_drewN _ _ _⟩ | exact ⟨rfl, _, Eq.trans (World.drewN_drewN _ _ _) (congrArg (World.drewN _) (Nat.add_assoc _ _ _))⟩)))
              repeat (go_quiet (first | ((with_reducible refine gate_dst (N := 7) rfl ?_); refine box_event ?hg (N := 7) ?hd (cs := #[.int .i64 0, .int .i64 0, .string (⟨#[]⟩ : ByteArray)]) (t := 23) ?hr ?_; (case hd => rfl); (case hg => rfl); (case hr => first | (go_simp; done) | (go_simp; rfl)); intro gb715 hg w13 hbox hb; have n0_ := Aside0.mk (below_step (by repeat (first | (with_reducible first | exact HB.out | apply below_alloc | apply pw_below_drewN | apply below_drew1) | exact HB.out)) hb); have n1_ := Aside0.mk (hbox); have n2_ := Aside0.mk ((by rw [hg]; exact (below_size (by repeat (first | (with_reducible first | exact HB.out | apply below_alloc | apply pw_below_drewN | apply below_drew1) | exact HB.out))) : w.heap.size ≤ gb715)); have n3_ := Aside0.mk ((by rw [hg]; exact (below_size (by repeat (first | (with_reducible first | exact HB.out | apply below_alloc | apply pw_below_drewN | apply below_drew1) | exact HB.out))) : w.heap.size ≤ gb715)); clear HB; have HB := n0_; have BK715 := n1_; have GW715 := n2_; have GE715 := n3_; clear n0_ n1_ n2_ n3_; clear hb hbox hg; have hcz14_0 : w13.cell? ⟨gb715, 0, none⟩ = some (.int .i64 0) := (blk_cell BK715.out 0).trans rfl; have hcz14_1 : w13.cell? ⟨gb715, 1, none⟩ = some (.int .i64 0) := (blk_cell BK715.out 1).trans rfl; have hcz14_2 : w13.cell? ⟨gb715, 2, none⟩ = some (.string (⟨#[]⟩ : ByteArray)) := (blk_cell BK715.out 2).trans rfl; have hfz14_0 := blk_frozen BK715.out 0; have hfz14_1 := blk_frozen BK715.out 1; have hfz14_2 := blk_frozen BK715.out 2) | (go_at_call 77; (with_reducible refine (laminaref02_Mix.calls (Go.bits .xor .u64 x5_1 2) t717 _ A11.out).mono ?_); rintro e w' ⟨rfl, ⟨nd, rfl⟩⟩; (try first | exact ⟨rfl, _, World.drewN_drewN _ _ _⟩ | exact ⟨rfl, _, Eq.trans (World.drewN_drewN _ _ _) (congrArg (World.drewN _) (Nat.add_assoc _ _ _))⟩)) | (go_at_call 77; (with_reducible refine (laminaref02_Mix.calls (Go.bits .xor .u64 t717 (IntKind.u64.wrap ((rd_T23 l1 x6_1).f1))) t718 _ A12.out).mono ?_); rintro e w' ⟨rfl, ⟨nd, rfl⟩⟩; (try first | exact ⟨rfl, _, World.drewN_drewN _ _ _⟩ | exact ⟨rfl, _, Eq.trans (World.drewN_drewN _ _ _) (congrArg (World.drewN _) (Nat.add_assoc _ _ _))⟩))); try go_wp2_with (first | ((with_reducible refine gate_dst (N := 7) rfl ?_); refine box_event ?hg (N := 7) ?hd (cs := #[.int .i64 0, .int .i64 0, .string (⟨#[]⟩ : ByteArray)]) (t := 23) ?hr ?_; (case hd => rfl); (case hg => rfl); (case hr => first | (go_simp; done) | (go_simp; rfl)); intro gb715 hg w13 hbox hb; have n0_ := Aside0.mk (below_step (by repeat (first | (with_reducible first | exact HB.out | apply below_alloc | apply pw_below_drewN | apply below_drew1) | exact HB.out)) hb); have n1_ := Aside0.mk (hbox); have n2_ := Aside0.mk ((by rw [hg]; exact (below_size (by repeat (first | (with_reducible first | exact HB.out | apply below_alloc | apply pw_below_drewN | apply below_drew1) | exact HB.out))) : w.heap.size ≤ gb715)); have n3_ := Aside0.mk ((by rw [hg]; exact (below_size (by repeat (first | (with_reducible first | exact HB.out | apply below_alloc | apply pw_below_drewN | apply below_drew1) | exact HB.out))) : w.heap.size ≤ gb715)); clear HB; have HB := n0_; have BK715 := n1_; have GW715 := n2_; have GE715 := n3_; clear n0_ n1_ n2_ n3_; clear hb hbox hg; have hcz14_0 : w13.cell? ⟨gb715, 0, none⟩ = some (.int .i64 0) := (blk_cell BK715.out 0).trans rfl; have hcz14_1 : w13.cell? ⟨gb715, 1, none⟩ = some (.int .i64 0) := (blk_cell BK715.out 1).trans rfl; have hcz14_2 : w13.cell? ⟨gb715, 2, none⟩ = some (.string (⟨#[]⟩ : ByteArray)) := (blk_cell BK715.out 2).trans rfl; have hfz14_0 := blk_frozen BK715.out 0; have hfz14_1 := blk_frozen BK715.out 1; have hfz14_2 := blk_frozen BK715.out 2) | (go_at_call 77; (with_reducible refine (laminaref02_Mix.calls (Go.bits .xor .u64 x5_1 2) t717 _ A11.out).mono ?_); rintro e w' ⟨rfl, ⟨nd, rfl⟩⟩; (try first | exact ⟨rfl, _, World.drewN_drewN _ _ _⟩ | exact ⟨rfl, _, Eq.trans (World.drewN_drewN _ _ _) (congrArg (World.drewN _) (Nat.add_assoc _ _ _))⟩)) | (go_at_call 77; (with_reducible refine (laminaref02_Mix.calls (Go.bits .xor .u64 t717 (IntKind.u64.wrap ((rd_T23 l1 x6_1).f1))) t718 _ A12.out).mono ?_); rintro e w' ⟨rfl, ⟨nd, rfl⟩⟩; (try first | exact ⟨rfl, _, World.drewN_drewN _ _ _⟩ | exact ⟨rfl, _, Eq.trans (World.drewN_drewN _ _ _) (congrArg (World.drewN _) (Nat.add_assoc _ _ _))⟩))))
              go_roundg k1
              case measure => have := HK1.out; omega
              case rel => exact ⟨(t718), (wrap64 (x6_1 + 1)), (by first | rfl | (simp; done) | (simp [*]; done)), (by first | rfl | (simp; done) | (simp [*]; done)), H', ⟨by have := HK1.out; omega⟩, ⟨by repeat (first | (with_reducible first | exact HB.out | apply below_alloc | apply pw_below_drewN | apply below_drew1 | refine below_set ?_ GE715.out) | exact HB.out)⟩⟩
            · rw [if_neg c10] at H
              have c10b0 : (((rd_T23 l1 x6_1).f0) == 1) = false := beq_eq_false_iff_ne.mpr c10
              have c10b1 : (((rd_T23 l1 x6_1).f0) != 1) = true := bne_iff_ne.mpr c10
              by_cases c15 : ((rd_T23 l1 x6_1).f0) = 2
              · rw [if_pos c15] at H
                have c15b0 : (((rd_T23 l1 x6_1).f0) == 2) = true := beq_iff_eq.mpr c15
                have c15b1 : (((rd_T23 l1 x6_1).f0) != 2) = false := bne_eq_false_iff_eq.mpr c15
                clear c15
                replace H := Option.bind_eq_some_iff.mp H
                obtain ⟨t719, A160, H⟩ := H
                replace H : ((laminaref02_Mix.f (Go.bits .xor .u64 t719 (IntKind.u64.wrap ((rd_T23 l1 x6_1).f1)))).bind fun t720 => (laminaref04_Hash.l0 k1 l1 t720 (wrap64 (x6_1 + 1)))) = some r := H
                have A16 := Aside0.mk A160
                clear A160
                replace H := Option.bind_eq_some_iff.mp H
                obtain ⟨t720, A170, H⟩ := H
                replace H : (laminaref04_Hash.l0 k1 l1 t720 (wrap64 (x6_1 + 1))) = some r := H
                have A17 := Aside0.mk A170
                clear A170
                have H' := Aside0.mk H
                clear H
                have p714 : 0 ≤ (x6_1 : Int) := of_decide_eq_true (by first | (with_reducible assumption) | assumption)
                have q714 : x6_1 < (l1.length : Int) := of_decide_eq_true (by first | (with_reducible assumption) | assumption)
                obtain ⟨ad714, e714, hx714_0, hx714_1, hx714_2⟩ := at_T23 HR1.out x6_1 p714 q714
                cases e714
                replace hx714_0 := (HB.out.cell (World.block_lt_of_cell? w _ hx714_0)).trans hx714_0
                replace hx714_1 := (HB.out.cell (World.block_lt_of_cell? w _ hx714_1)).trans hx714_1
                replace hx714_2 := (HB.out.cell (World.block_lt_of_cell? w _ hx714_2)).trans hx714_2
                replace p714 := eq_true p714
                replace q714 := eq_true q714
                go_wp2_with (first | ((with_reducible refine gate_dst (N := 7) rfl ?_); refine box_event ?hg (N := 7) ?hd (cs := #[.int .i64 0, .int .i64 0, .string (⟨#[]⟩ : ByteArray)]) (t := 23) ?hr ?_; (case hd => rfl); (case hg => rfl); (case hr => first | (go_simp; done) | (go_simp; rfl)); intro gb715 hg w18 hbox hb; have n0_ := Aside0.mk (below_step (by repeat (first | (with_reducible first | exact HB.out | apply below_alloc | apply pw_below_drewN | apply below_drew1) | exact HB.out)) hb); have n1_ := Aside0.mk (hbox); have n2_ := Aside0.mk ((by rw [hg]; exact (below_size (by repeat (first | (with_reducible first | exact HB.out | apply below_alloc | apply pw_below_drewN | apply below_drew1) | exact HB.out))) : w.heap.size ≤ gb715)); have n3_ := Aside0.mk ((by rw [hg]; exact (below_size (by repeat (first | (with_reducible first | exact HB.out | apply below_alloc | apply pw_below_drewN | apply below_drew1) | exact HB.out))) : w.heap.size ≤ gb715)); clear HB; have HB := n0_; have BK715 := n1_; have GW715 := n2_; have GE715 := n3_; clear n0_ n1_ n2_ n3_; clear hb hbox hg; have hcz19_0 : w18.cell? ⟨gb715, 0, none⟩ = some (.int .i64 0) := (blk_cell BK715.out 0).trans rfl; have hcz19_1 : w18.cell? ⟨gb715, 1, none⟩ = some (.int .i64 0) := (blk_cell BK715.out 1).trans rfl; have hcz19_2 : w18.cell? ⟨gb715, 2, none⟩ = some (.string (⟨#[]⟩ : ByteArray)) := (blk_cell BK715.out 2).trans rfl; have hfz19_0 := blk_frozen BK715.out 0; have hfz19_1 := blk_frozen BK715.out 1; have hfz19_2 := blk_frozen BK715.out 2) | (go_at_call 77; (with_reducible refine (laminaref02_Mix.calls (Go.bits .xor .u64 x5_1 3) t719 _ A16.out).mono ?_); rintro e w' ⟨rfl, ⟨nd, rfl⟩⟩; (try first | exact ⟨rfl, _, World.drewN_drewN _ _ _⟩ | exact ⟨rfl, _, Eq.trans (World.drewN_drewN _ _ _) (congrArg (World.drewN _) (Nat.add_assoc _ _ _))⟩)) | (go_at_call 77; (with_reducible refine (laminaref02_Mix.calls (Go.bits .xor .u64 t719 (IntKind.u64.wrap ((rd_T23 l1 x6_1).f1))) t720 _ A17.out).mono ?_); rintro e w' ⟨rfl, ⟨nd, rfl⟩⟩; (try first | exact ⟨rfl, _, World.drewN_drewN _ _ _⟩ | exact ⟨rfl, _, Eq.trans (World.drewN_drewN _ _ _) (congrArg (World.drewN _) (Nat.add_assoc _ _ _))⟩)))
                repeat (go_quiet (first | ((with_reducible refine gate_dst (N := 7) rfl ?_); refine box_event ?hg (N := 7) ?hd (cs := #[.int .i64 0, .int .i64 0, .string (⟨#[]⟩ : ByteArray)]) (t := 23) ?hr ?_; (case hd => rfl); (case hg => rfl); (case hr => first | (go_simp; done) | (go_simp; rfl)); intro gb715 hg w18 hbox hb; have n0_ := Aside0.mk (below_step (by repeat (first | (with_reducible first | exact HB.out | apply below_alloc | apply pw_below_drewN | apply below_drew1) | exact HB.out)) hb); have n1_ := Aside0.mk (hbox); have n2_ := Aside0.mk ((by rw [hg]; exact (below_size (by repeat (first | (with_reducible first | exact HB.out | apply below_alloc | apply pw_below_drewN | apply below_drew1) | exact HB.out))) : w.heap.size ≤ gb715)); have n3_ := Aside0.mk ((by rw [hg]; exact (below_size (by repeat (first | (with_reducible first | exact HB.out | apply below_alloc | apply pw_below_drewN | apply below_drew1) | exact HB.out))) : w.heap.size ≤ gb715)); clear HB; have HB := n0_; have BK715 := n1_; have GW715 := n2_; have GE715 := n3_; clear n0_ n1_ n2_ n3_; clear hb hbox hg; have hcz19_0 : w18.cell? ⟨gb715, 0, none⟩ = some (.int .i64 0) := (blk_cell BK715.out 0).trans rfl; have hcz19_1 : w18.cell? ⟨gb715, 1, none⟩ = some (.int .i64 0) := (blk_cell BK715.out 1).trans rfl; have hcz19_2 : w18.cell? ⟨gb715, 2, none⟩ = some (.string (⟨#[]⟩ : ByteArray)) := (blk_cell BK715.out 2).trans rfl; have hfz19_0 := blk_frozen BK715.out 0; have hfz19_1 := blk_frozen BK715.out 1; have hfz19_2 := blk_frozen BK715.out 2) | (go_at_call 77; (with_reducible refine (laminaref02_Mix.calls (Go.bits .xor .u64 x5_1 3) t719 _ A16.out).mono ?_); rintro e w' ⟨rfl, ⟨nd, rfl⟩⟩; (try first | exact ⟨rfl, _, World.drewN_drewN _ _ _⟩ | exact ⟨rfl, _, Eq.trans (World.drewN_drewN _ _ _) (congrArg (World.drewN _) (Nat.add_assoc _ _ _))⟩)) | (go_at_call 77; (with_reducible refine (laminaref02_Mix.calls (Go.bits .xor .u64 t719 (IntKind.u64.wrap ((rd_T23 l1 x6_1).f1))) t720 _ A17.out).mono ?_); rintro e w' ⟨rfl, ⟨nd, rfl⟩⟩; (try first | exact ⟨rfl, _, World.drewN_drewN _ _ _⟩ | exact ⟨rfl, _, Eq.trans (World.drewN_drewN _ _ _) (congrArg (World.drewN _) (Nat.add_assoc _ _ _))⟩))); try go_wp2_with (first | ((with_reducible refine gate_dst (N := 7) rfl ?_); refine box_event ?hg (N := 7) ?hd (cs := #[.int .i64 0, .int .i64 0, .string (⟨#[]⟩ : ByteArray)]) (t := 23) ?hr ?_; (case hd => rfl); (case hg => rfl); (case hr => first | (go_simp; done) | (go_simp; rfl)); intro gb715 hg w18 hbox hb; have n0_ := Aside0.mk (below_step (by repeat (first | (with_reducible first | exact HB.out | apply below_alloc | apply pw_below_drewN | apply below_drew1) | exact HB.out)) hb); have n1_ := Aside0.mk (hbox); have n2_ := Aside0.mk ((by rw [hg]; exact (below_size (by repeat (first | (with_reducible first | exact HB.out | apply below_alloc | apply pw_below_drewN | apply below_drew1) | exact HB.out))) : w.heap.size ≤ gb715)); have n3_ := Aside0.mk ((by rw [hg]; exact (below_size (by repeat (first | (with_reducible first | exact HB.out | apply below_alloc | apply pw_below_drewN | apply below_drew1) | exact HB.out))) : w.heap.size ≤ gb715)); clear HB; have HB := n0_; have BK715 := n1_; have GW715 := n2_; have GE715 := n3_; clear n0_ n1_ n2_ n3_; clear hb hbox hg; have hcz19_0 : w18.cell? ⟨gb715, 0, none⟩ = some (.int .i64 0) := (blk_cell BK715.out 0).trans rfl; have hcz19_1 : w18.cell? ⟨gb715, 1, none⟩ = some (.int .i64 0) := (blk_cell BK715.out 1).trans rfl; have hcz19_2 : w18.cell? ⟨gb715, 2, none⟩ = some (.string (⟨#[]⟩ : ByteArray)) := (blk_cell BK715.out 2).trans rfl; have hfz19_0 := blk_frozen BK715.out 0; have hfz19_1 := blk_frozen BK715.out 1; have hfz19_2 := blk_frozen BK715.out 2) | (go_at_call 77; (with_reducible refine (laminaref02_Mix.calls (Go.bits .xor .u64 x5_1 3) t719 _ A16.out).mono ?_); rintro e w' ⟨rfl, ⟨nd, rfl⟩⟩; (try first | exact ⟨rfl, _, World.drewN_drewN _ _ _⟩ | exact ⟨rfl, _, Eq.trans (World.drewN_drewN _ _ _) (congrArg (World.drewN _) (Nat.add_assoc _ _ _))⟩)) | (go_at_call 77; (with_reducible refine (laminaref02_Mix.calls (Go.bits .xor .u64 t719 (IntKind.u64.wrap ((rd_T23 l1 x6_1).f1))) t720 _ A17.out).mono ?_); rintro e w' ⟨rfl, ⟨nd, rfl⟩⟩; (try first | exact ⟨rfl, _, World.drewN_drewN _ _ _⟩ | exact ⟨rfl, _, Eq.trans (World.drewN_drewN _ _ _) (congrArg (World.drewN _) (Nat.add_assoc _ _ _))⟩))))
                go_roundg k1
                case measure => have := HK1.out; omega
                case rel => exact ⟨(t720), (wrap64 (x6_1 + 1)), (by first | rfl | (simp; done) | (simp [*]; done)), (by first | rfl | (simp; done) | (simp [*]; done)), H', ⟨by have := HK1.out; omega⟩, ⟨by repeat (first | (with_reducible first | exact HB.out | apply below_alloc | apply pw_below_drewN | apply below_drew1 | refine below_set ?_ GE715.out) | exact HB.out)⟩⟩
              · rw [if_neg c15] at H
                have c15b0 : (((rd_T23 l1 x6_1).f0) == 2) = false := beq_eq_false_iff_ne.mpr c15
                have c15b1 : (((rd_T23 l1 x6_1).f0) != 2) = true := bne_iff_ne.mpr c15
                by_cases c20 : ((rd_T23 l1 x6_1).f0) = 3
                · rw [if_pos c20] at H
                  have c20b0 : (((rd_T23 l1 x6_1).f0) == 3) = true := beq_iff_eq.mpr c20
                  have c20b1 : (((rd_T23 l1 x6_1).f0) != 3) = false := bne_eq_false_iff_eq.mpr c20
                  clear c20
                  replace H := Option.bind_eq_some_iff.mp H
                  obtain ⟨tM, AM0, H⟩ := H
                  have AM := Aside0.mk AM0
                  clear AM0
                  replace H : (if ((rd_T23 l1 x6_1).f2).size ≤ 9223372036854775807 then ((laminaref02_Hash.f k1 tM (bytesOf ((rd_T23 l1 x6_1).f2))).bind fun tH => (laminaref04_Hash.l0 k1 l1 tH (wrap64 (x6_1 + 1)))) else none) = some r := H
                  by_cases hsz : ((rd_T23 l1 x6_1).f2).size ≤ 9223372036854775807
                  · rw [if_pos hsz] at H
                    obtain ⟨tH, AH0, H⟩ := Option.bind_eq_some_iff.mp H
                    have AH := Aside0.mk AH0
                    have H' := Aside0.mk H
                    clear AH0 H
                    have pT : 0 ≤ (x6_1 : Int) := of_decide_eq_true (by first | (with_reducible assumption) | assumption)
                    have qT : x6_1 < (l1.length : Int) := of_decide_eq_true (by first | (with_reducible assumption) | assumption)
                    obtain ⟨adT, eT, hxT_0, hxT_1, hxT_2⟩ := at_T23 HR1.out x6_1 pT qT
                    cases eT
                    replace hxT_0 := (HB.out.cell (World.block_lt_of_cell? w _ hxT_0)).trans hxT_0
                    replace hxT_1 := (HB.out.cell (World.block_lt_of_cell? w _ hxT_1)).trans hxT_1
                    replace hxT_2 := (HB.out.cell (World.block_lt_of_cell? w _ hxT_2)).trans hxT_2
                    replace pT := eq_true pT
                    replace qT := eq_true qT
                    try go_wp2_with (first | ((with_reducible refine gate_dst (N := 7) rfl ?_); refine box_event ?hg (N := 7) ?hd (cs := #[.int .i64 0, .int .i64 0, .string (⟨#[]⟩ : ByteArray)]) (t := 23) ?hr ?_; (case hd => rfl); (case hg => rfl); (case hr => first | (go_simp; done) | (go_simp; rfl)); intro gbT hg wa hbox hb; have n0_ := Aside0.mk (below_step (by repeat (first | (with_reducible first | exact HB.out | apply below_alloc | apply pw_below_drewN | apply below_drew1) | exact HB.out)) hb); have n1_ := Aside0.mk (hbox); have n2_ := Aside0.mk ((by rw [hg]; exact (below_size (by repeat (first | (with_reducible first | exact HB.out | apply below_alloc | apply pw_below_drewN | apply below_drew1) | exact HB.out))) : w.heap.size ≤ gbT)); have n3_ := Aside0.mk ((by rw [hg]; exact (below_size (by repeat (first | (with_reducible first | exact HB.out | apply below_alloc | apply pw_below_drewN | apply below_drew1) | exact HB.out))) : w.heap.size ≤ gbT)); clear HB; have HB := n0_; have BKT := n1_; have GWT := n2_; have GET := n3_; clear n0_ n1_ n2_ n3_; clear hb hbox hg; have hcT_0 : wa.cell? ⟨gbT, 0, none⟩ = some (.int .i64 0) := (blk_cell BKT.out 0).trans rfl; have hcT_1 : wa.cell? ⟨gbT, 1, none⟩ = some (.int .i64 0) := (blk_cell BKT.out 1).trans rfl; have hcT_2 : wa.cell? ⟨gbT, 2, none⟩ = some (.string (⟨#[]⟩ : ByteArray)) := (blk_cell BKT.out 2).trans rfl; have hfT_0 := blk_frozen BKT.out 0; have hfT_1 := blk_frozen BKT.out 1; have hfT_2 := blk_frozen BKT.out 2))
                    have n0_ : Aside0 ((((wa.setCell ⟨gbT, 0, none⟩ (.int .i64 ((rd_T23 l1 x6_1).f0))).setCell ⟨gbT, 1, none⟩ (.int .i64 ((rd_T23 l1 x6_1).f1))).setCell ⟨gbT, 2, none⟩ (.string ((rd_T23 l1 x6_1).f2))).heap[gbT]? = some (.cells #[.int .i64 ((rd_T23 l1 x6_1).f0), .int .i64 ((rd_T23 l1 x6_1).f1), .string ((rd_T23 l1 x6_1).f2)] 23 (0, 0))) := ⟨by (with_reducible repeat (first | refine blk_drewN ?_ _ | refine blk_drew ?_ | refine blk_alloc ?_ _)); refine blk_put (cs := #[.int .i64 ((rd_T23 l1 x6_1).f0), .int .i64 ((rd_T23 l1 x6_1).f1), .string (⟨#[]⟩ : ByteArray)]) ?_ 2 _ rfl; (with_reducible repeat (first | refine blk_drewN ?_ _ | refine blk_drew ?_ | refine blk_alloc ?_ _)); refine blk_put (cs := #[.int .i64 ((rd_T23 l1 x6_1).f0), .int .i64 0, .string (⟨#[]⟩ : ByteArray)]) ?_ 1 _ rfl; (with_reducible repeat (first | refine blk_drewN ?_ _ | refine blk_drew ?_ | refine blk_alloc ?_ _)); refine blk_put (cs := #[.int .i64 0, .int .i64 0, .string (⟨#[]⟩ : ByteArray)]) ?_ 0 _ rfl; (with_reducible repeat (first | refine blk_drewN ?_ _ | refine blk_drew ?_ | refine blk_alloc ?_ _)); exact BKT.out⟩
                    have n1_ : Aside0 (Below w.heap.size w (((wa.setCell ⟨gbT, 0, none⟩ (.int .i64 ((rd_T23 l1 x6_1).f0))).setCell ⟨gbT, 1, none⟩ (.int .i64 ((rd_T23 l1 x6_1).f1))).setCell ⟨gbT, 2, none⟩ (.string ((rd_T23 l1 x6_1).f2)))) := ⟨by repeat (first | (with_reducible first | exact HB.out | apply below_alloc | apply pw_below_drewN | apply below_drew1 | refine below_set ?_ GET.out) | exact HB.out)⟩
                    (try clear BKT)
                    (try clear HB)
                    generalize (((wa.setCell ⟨gbT, 0, none⟩ (.int .i64 ((rd_T23 l1 x6_1).f0))).setCell ⟨gbT, 1, none⟩ (.int .i64 ((rd_T23 l1 x6_1).f1))).setCell ⟨gbT, 2, none⟩ (.string ((rd_T23 l1 x6_1).f2))) = wc at n0_ n1_ ⊢
                    have BKT := n0_
                    have HB := n1_
                    clear n0_ n1_
                    have n0_ := Aside0.mk (blk_drew BKT.out)
                    have n1_ := Aside0.mk (below_drew1 HB.out)
                    clear BKT
                    clear HB
                    have BKT := n0_
                    have HB := n1_
                    clear n0_ n1_
                    have kb := fun W => print_bytes (P := Try.prog) 9 26 5 Try.underlying9 Try.underlying26 Try.underlying5 ((rd_T23 l1 x6_1).f2) W
                    refine start_ (n := 8) (S := fun w' => w'.cell? ⟨gbT, 0, none⟩ = some (.int .i64 ((rd_T23 l1 x6_1).f0)) ∧ w'.cell? ⟨gbT, 1, none⟩ = some (.int .i64 ((rd_T23 l1 x6_1).f1)) ∧ w'.cell? ⟨gbT, 2, none⟩ = some (.string ((rd_T23 l1 x6_1).f2))) (ds := []) #[false, false, false, false, false, false, false, false] (by kernel_rfl) rfl rfl ⟨(blk_cell BKT.out 0).trans rfl, (blk_cell BKT.out 1).trans rfl, (blk_cell BKT.out 2).trans rfl⟩ (fun hHeld => ?_)
                    generalize wc.drew = wd at BKT HB hHeld ⊢
                    refine pure_ (i := 0) (N := some 49) (v := ?_) (a' := ?_) #[true, false, false, false, false, false, false, false] rfl rfl (by kernel_rfl) (fun _ _ _ h => h) (Or.inl ⟨by rfl, ?_⟩) ?_ ?_
                    rotate_left
                    · intro w'
                      go_simp
                      with_reducible rfl
                    rotate_left
                    · simp only [Act.put, List.setIfInBounds_toArray, List.set_cons_zero, List.set_cons_succ, i64_w, i32_w]
                      rfl
                    refine pure_ (i := 1) (N := some 50) (v := ?_) (a' := ?_) #[true, true, false, false, false, false, false, false] rfl rfl (by kernel_rfl) (fun _ _ _ h => h) (Or.inl ⟨by rfl, ?_⟩) ?_ ?_
                    rotate_left
                    · intro w'
                      go_simp
                      with_reducible rfl
                    rotate_left
                    · simp only [Act.put, List.setIfInBounds_toArray, List.set_cons_zero, List.set_cons_succ, i64_w, i32_w]
                      rfl
                    refine pure_ (i := 3) (N := some 52) (v := ?_) (a' := ?_) #[true, true, false, true, false, false, false, false] rfl rfl (by kernel_rfl) (fun _ _ _ h => h) (Or.inl ⟨by rfl, ?_⟩) ?_ ?_
                    rotate_left
                    · intro w'
                      go_simp
                      with_reducible rfl
                    rotate_left
                    · simp only [Act.put, List.setIfInBounds_toArray, List.set_cons_zero, List.set_cons_succ, i64_w, i32_w]
                      rfl
                    refine take_ (i := 4) (N := some 53) (v := ?_) (a' := ?_) #[true, true, false, true, true, false, false, false] rfl rfl (by kernel_rfl) (fun _ _ _ h => h) (Or.inl ⟨by rfl, ?_⟩) hHeld ?_ ?_
                    rotate_left
                    · rintro w' ⟨s0, s1, s2⟩
                      go_simp
                      with_reducible rfl
                    rotate_left
                    · simp only [Act.put, List.setIfInBounds_toArray, List.set_cons_zero, List.set_cons_succ, i64_w, i32_w]
                      rfl
                    refine join_ (σ := Option Addr × Nat) 2 #[true, true, true, true, true, true, false, false] (fun s_ => [(51, .int .u64 tM), (54, .slice s_.1 ((rd_T23 l1 x6_1).f2).size s_.2)]) (fun s_ w' => w'.heap[gbT]? = some (.cells #[.int .i64 ((rd_T23 l1 x6_1).f0), .int .i64 ((rd_T23 l1 x6_1).f1), .string ((rd_T23 l1 x6_1).f2)] 23 (0, 0)) ∧ Kd.C (Kd.int .u8) w' s_.1 ((rd_T23 l1 x6_1).f2).size (bytesOf ((rd_T23 l1 x6_1).f2)) ∧ ((rd_T23 l1 x6_1).f2).size ≤ s_.2 ∧ Below w.heap.size w w') ?_ ?_
                    rotate_left
                    · intro hCont
                      refine two_ (i := 2) (j := 5) (Ni := some 51) (Nj := some 54) #[true, true, true, true, true, false, false, false] #[true, true, false, true, true, true, false, false] rfl rfl rfl rfl (by kernel_rfl) (by decide) (by decide) (fun K hK => ?_) (fun K hK => ?_)
                      · refine goes_ Try.func77 (by kernel_rfl) rfl #[.int .u64 (Go.bits .xor .u64 x5_1 4)] (by rfl) rfl rfl (by (try simp only [List.map_toArray, List.map_cons, List.map_nil]); rfl) ?_
                        with_reducible refine (laminaref02_Mix.calls (Go.bits .xor .u64 x5_1 4) tM _ AM.out).mono ?_
                        rintro e w' ⟨rfl, ⟨nd, rfl⟩⟩
                        refine ⟨_, rfl, ?_⟩
                        refine hK.out _ _ ⟨(blk_cell BKT.out 0).trans rfl, (blk_cell BKT.out 1).trans rfl, (blk_cell BKT.out 2).trans rfl⟩ (fun hHeld => ?_)
                        clear hK K
                        refine norm_ (a' := ?_) ?_ ?_
                        rotate_left
                        · show Act.put _ (some 51) _ = _
                          simp only [Act.put, List.setIfInBounds_toArray, List.set_cons_zero, List.set_cons_succ, i64_w, i32_w]
                          rfl
                        have n0_ := Aside0.mk (show (World.drewN wd nd).heap[gbT]? = some (.cells #[.int .i64 ((rd_T23 l1 x6_1).f0), .int .i64 ((rd_T23 l1 x6_1).f1), .string ((rd_T23 l1 x6_1).f2)] 23 (0, 0)) from by (with_reducible repeat (first | refine blk_drewN ?_ _ | refine blk_drew ?_ | refine blk_alloc ?_ _)); exact BKT.out)
                        have n1_ := Aside0.mk (show Below w.heap.size w (World.drewN wd nd) from by repeat (first | (with_reducible first | exact HB.out | apply below_alloc | apply pw_below_drewN | apply below_drew1 | refine below_set ?_ GET.out) | exact HB.out))
                        clear BKT HB
                        generalize World.drewN wd nd = wq at n0_ n1_ hHeld ⊢
                        have BKT := n0_
                        have HB := n1_
                        clear n0_ n1_
                        refine one_ (i := 5) (N := some 54) #[true, true, true, true, true, true, false, false] rfl rfl (by kernel_rfl) (by decide) (fun K hK => ?_)
                        refine value_ (w1 := ?_) (v := ?_) (by rfl) rfl ?_ ?_
                        rotate_left 2
                        · go_simp
                          constructor
                          · rfl
                          · rfl
                        have hb2_ := bytes_below (Below.refl wq.heap.size wq) (Nat.le_refl _) 5 ((rd_T23 l1 x6_1).f2)
                        have HCT := Aside0.mk (Kd.C_of_reads (d := (0 : Int)) (h1 := fun _ => rfl) (bytes_reads wq 5 ((rd_T23 l1 x6_1).f2) hsz))
                        have hcap_ := grownCap_ge wq ((rd_T23 l1 x6_1).f2).size 0 5
                        have n0_ := Aside0.mk (blk_below (g := gbT) (o := .cells #[.int .i64 ((rd_T23 l1 x6_1).f0), .int .i64 ((rd_T23 l1 x6_1).f1), .string ((rd_T23 l1 x6_1).f2)] 23 (0, 0)) BKT.out hb2_)
                        have n1_ := Aside0.mk (below_step HB.out hb2_)
                        clear BKT HB hb2_
                        have BKT := n0_
                        have HB := n1_
                        clear n0_ n1_
                        refine hK.out _ _ ⟨(blk_cell BKT.out 0).trans rfl, (blk_cell BKT.out 1).trans rfl, (blk_cell BKT.out 2).trans rfl⟩ (fun hHeld => ?_)
                        clear hK K
                        refine norm_ (a' := ?_) ?_ ?_
                        rotate_left
                        · show Act.put _ (some 54) _ = _
                          simp only [Act.put, List.setIfInBounds_toArray, List.set_cons_zero, List.set_cons_succ, i64_w, i32_w]
                          rfl
                        exact norm_ (by simp only [putAll, Act.put, List.setIfInBounds_toArray, List.set_cons_zero, List.set_cons_succ]) (hCont (some ⟨wq.heap.size, 0, none⟩, grownCap wq ((rd_T23 l1 x6_1).f2).size 0 5) _ ⟨BKT.out, HCT.out, hcap_, by repeat (first | (with_reducible first | exact HB.out | apply below_alloc | apply pw_below_drewN | apply below_drew1) | exact HB.out)⟩)
                      · refine value_ (w1 := ?_) (v := ?_) (by rfl) rfl ?_ ?_
                        rotate_left 2
                        · go_simp
                          constructor
                          · rfl
                          · rfl
                        have hb2_ := bytes_below (Below.refl wd.heap.size wd) (Nat.le_refl _) 5 ((rd_T23 l1 x6_1).f2)
                        have HCT := Aside0.mk (Kd.C_of_reads (d := (0 : Int)) (h1 := fun _ => rfl) (bytes_reads wd 5 ((rd_T23 l1 x6_1).f2) hsz))
                        have hcap_ := grownCap_ge wd ((rd_T23 l1 x6_1).f2).size 0 5
                        have n0_ := Aside0.mk (blk_below (g := gbT) (o := .cells #[.int .i64 ((rd_T23 l1 x6_1).f0), .int .i64 ((rd_T23 l1 x6_1).f1), .string ((rd_T23 l1 x6_1).f2)] 23 (0, 0)) BKT.out hb2_)
                        have n1_ := Aside0.mk (below_step HB.out hb2_)
                        clear BKT HB hb2_
                        have BKT := n0_
                        have HB := n1_
                        clear n0_ n1_
                        refine hK.out _ _ ⟨(blk_cell BKT.out 0).trans rfl, (blk_cell BKT.out 1).trans rfl, (blk_cell BKT.out 2).trans rfl⟩ (fun hHeld => ?_)
                        clear hK K
                        refine norm_ (a' := ?_) ?_ ?_
                        rotate_left
                        · show Act.put _ (some 54) _ = _
                          simp only [Act.put, List.setIfInBounds_toArray, List.set_cons_zero, List.set_cons_succ, i64_w, i32_w]
                          rfl
                        refine one_ (i := 2) (N := some 51) #[true, true, true, true, true, true, false, false] rfl rfl (by kernel_rfl) (by decide) (fun K hK => ?_)
                        refine goes_ Try.func77 (by kernel_rfl) rfl #[.int .u64 (Go.bits .xor .u64 x5_1 4)] (by rfl) rfl rfl (by (try simp only [List.map_toArray, List.map_cons, List.map_nil]); rfl) ?_
                        with_reducible refine (laminaref02_Mix.calls (Go.bits .xor .u64 x5_1 4) tM _ AM.out).mono ?_
                        rintro e w' ⟨rfl, ⟨nd, rfl⟩⟩
                        refine ⟨_, rfl, ?_⟩
                        refine hK.out _ _ ⟨(blk_cell BKT.out 0).trans rfl, (blk_cell BKT.out 1).trans rfl, (blk_cell BKT.out 2).trans rfl⟩ (fun hHeld => ?_)
                        clear hK K
                        refine norm_ (a' := ?_) ?_ ?_
                        rotate_left
                        · show Act.put _ (some 51) _ = _
                          simp only [Act.put, List.setIfInBounds_toArray, List.set_cons_zero, List.set_cons_succ, i64_w, i32_w]
                          rfl
                        exact norm_ (by simp only [putAll, Act.put, List.setIfInBounds_toArray, List.set_cons_zero, List.set_cons_succ]) (hCont (some ⟨wd.heap.size, 0, none⟩, grownCap wd ((rd_T23 l1 x6_1).f2).size 0 5) _ ⟨(by (with_reducible repeat (first | refine blk_drewN ?_ _ | refine blk_drew ?_ | refine blk_alloc ?_ _)); exact BKT.out), (Kd.C_drewN HCT.out nd), hcap_, by repeat (first | (with_reducible first | exact HB.out | apply below_alloc | apply pw_below_drewN | apply below_drew1) | exact HB.out)⟩)
                    clear BKT HB
                    rintro ⟨A_, cc_⟩ w' ⟨hbk_, hcc_, hcl_, hbb_⟩
                    have BKT := Aside0.mk hbk_
                    have HB := Aside0.mk hbb_
                    have HCT := Aside0.mk hcc_
                    clear hbk_ hbb_ hcc_
                    refine norm_ (a' := ?_) ?_ ?_
                    rotate_left
                    · simp only [putAll, Act.put, List.setIfInBounds_toArray, List.set_cons_zero, List.set_cons_succ]
                      rfl
                    refine one_ (i := 6) (N := some 55) #[true, true, true, true, true, true, true, false] rfl rfl (by kernel_rfl) (by decide) (fun K hK => ?_)
                    refine goes_ Try.func78 (by kernel_rfl) rfl #[.int .u64 tM, .slice A_ ((rd_T23 l1 x6_1).f2).size cc_] (by rfl) rfl rfl (by (try simp only [List.map_toArray, List.map_cons, List.map_nil]); rfl) ?_
                    rw [← bytesOf_length ((rd_T23 l1 x6_1).f2)] at HCT hcl_ ⊢
                    with_reducible refine (laminaref02_Hash.calls k1 tM A_ cc_ (bytesOf ((rd_T23 l1 x6_1).f2)) tH _ HCT.out hcl_ AH.out).mono ?_
                    rintro e w' ⟨rfl, ⟨nd, rfl⟩⟩
                    refine ⟨_, rfl, ?_⟩
                    refine hK.out _ _ ⟨(blk_cell BKT.out 0).trans rfl, (blk_cell BKT.out 1).trans rfl, (blk_cell BKT.out 2).trans rfl⟩ (fun hHeld => ?_)
                    clear hK K
                    refine norm_ (a' := ?_) ?_ ?_
                    rotate_left
                    · show Act.put _ (some 55) _ = _
                      simp only [Act.put, List.setIfInBounds_toArray, List.set_cons_zero, List.set_cons_succ, i64_w, i32_w]
                      rfl
                    refine pure_ (i := 7) (N := some 5) (v := ?_) (a' := ?_) #[true, true, true, true, true, true, true, true] rfl rfl (by kernel_rfl) (fun _ _ _ h => h) (Or.inl ⟨by rfl, ?_⟩) ?_ ?_
                    rotate_left
                    · intro w'
                      go_simp
                      with_reducible rfl
                    rotate_left
                    · simp only [Act.put, List.setIfInBounds_toArray, List.set_cons_zero, List.set_cons_succ, i64_w, i32_w]
                      rfl
                    refine done_ (by kernel_rfl) ?_
                    try go_wp2
                    go_roundg k1
                    case measure => have := HK1.out; omega
                    case rel => exact ⟨tH, (wrap64 (x6_1 + 1)), (by first | rfl | (simp; done) | (simp [*]; done)), (by first | rfl | (simp; done) | (simp [*]; done)), H', ⟨by have := HK1.out; omega⟩, ⟨by repeat (first | (with_reducible first | exact HB.out | apply below_alloc | apply pw_below_drewN | apply below_drew1) | exact HB.out)⟩⟩
                  · rw [if_neg hsz] at H
                    exact absurd H (by simp)
                · rw [if_neg c20] at H
                  have c20b0 : (((rd_T23 l1 x6_1).f0) == 3) = false := beq_eq_false_iff_ne.mpr c20
                  have c20b1 : (((rd_T23 l1 x6_1).f0) != 3) = true := bne_iff_ne.mpr c20
                  have H' := Aside0.mk H
                  clear H
                  have p714 : 0 ≤ (x6_1 : Int) := of_decide_eq_true (by first | (with_reducible assumption) | assumption)
                  have q714 : x6_1 < (l1.length : Int) := of_decide_eq_true (by first | (with_reducible assumption) | assumption)
                  obtain ⟨ad714, e714, hx714_0, hx714_1, hx714_2⟩ := at_T23 HR1.out x6_1 p714 q714
                  cases e714
                  replace hx714_0 := (HB.out.cell (World.block_lt_of_cell? w _ hx714_0)).trans hx714_0
                  replace hx714_1 := (HB.out.cell (World.block_lt_of_cell? w _ hx714_1)).trans hx714_1
                  replace hx714_2 := (HB.out.cell (World.block_lt_of_cell? w _ hx714_2)).trans hx714_2
                  replace p714 := eq_true p714
                  replace q714 := eq_true q714
                  go_wp2_with (first | ((with_reducible refine gate_dst (N := 7) rfl ?_); refine box_event ?hg (N := 7) ?hd (cs := #[.int .i64 0, .int .i64 0, .string (⟨#[]⟩ : ByteArray)]) (t := 23) ?hr ?_; (case hd => rfl); (case hg => rfl); (case hr => first | (go_simp; done) | (go_simp; rfl)); intro gb715 hg w22 hbox hb; have n0_ := Aside0.mk (below_step (by repeat (first | (with_reducible first | exact HB.out | apply below_alloc | apply pw_below_drewN | apply below_drew1) | exact HB.out)) hb); have n1_ := Aside0.mk (hbox); have n2_ := Aside0.mk ((by rw [hg]; exact (below_size (by repeat (first | (with_reducible first | exact HB.out | apply below_alloc | apply pw_below_drewN | apply below_drew1) | exact HB.out))) : w.heap.size ≤ gb715)); have n3_ := Aside0.mk ((by rw [hg]; exact (below_size (by repeat (first | (with_reducible first | exact HB.out | apply below_alloc | apply pw_below_drewN | apply below_drew1) | exact HB.out))) : w.heap.size ≤ gb715)); clear HB; have HB := n0_; have BK715 := n1_; have GW715 := n2_; have GE715 := n3_; clear n0_ n1_ n2_ n3_; clear hb hbox hg; have hcz23_0 : w22.cell? ⟨gb715, 0, none⟩ = some (.int .i64 0) := (blk_cell BK715.out 0).trans rfl; have hcz23_1 : w22.cell? ⟨gb715, 1, none⟩ = some (.int .i64 0) := (blk_cell BK715.out 1).trans rfl; have hcz23_2 : w22.cell? ⟨gb715, 2, none⟩ = some (.string (⟨#[]⟩ : ByteArray)) := (blk_cell BK715.out 2).trans rfl; have hfz23_0 := blk_frozen BK715.out 0; have hfz23_1 := blk_frozen BK715.out 1; have hfz23_2 := blk_frozen BK715.out 2))
                  repeat (go_quiet (first | ((with_reducible refine gate_dst (N := 7) rfl ?_); refine box_event ?hg (N := 7) ?hd (cs := #[.int .i64 0, .int .i64 0, .string (⟨#[]⟩ : ByteArray)]) (t := 23) ?hr ?_; (case hd => rfl); (case hg => rfl); (case hr => first | (go_simp; done) | (go_simp; rfl)); intro gb715 hg w22 hbox hb; have n0_ := Aside0.mk (below_step (by repeat (first | (with_reducible first | exact HB.out | apply below_alloc | apply pw_below_drewN | apply below_drew1) | exact HB.out)) hb); have n1_ := Aside0.mk (hbox); have n2_ := Aside0.mk ((by rw [hg]; exact (below_size (by repeat (first | (with_reducible first | exact HB.out | apply below_alloc | apply pw_below_drewN | apply below_drew1) | exact HB.out))) : w.heap.size ≤ gb715)); have n3_ := Aside0.mk ((by rw [hg]; exact (below_size (by repeat (first | (with_reducible first | exact HB.out | apply below_alloc | apply pw_below_drewN | apply below_drew1) | exact HB.out))) : w.heap.size ≤ gb715)); clear HB; have HB := n0_; have BK715 := n1_; have GW715 := n2_; have GE715 := n3_; clear n0_ n1_ n2_ n3_; clear hb hbox hg; have hcz23_0 : w22.cell? ⟨gb715, 0, none⟩ = some (.int .i64 0) := (blk_cell BK715.out 0).trans rfl; have hcz23_1 : w22.cell? ⟨gb715, 1, none⟩ = some (.int .i64 0) := (blk_cell BK715.out 1).trans rfl; have hcz23_2 : w22.cell? ⟨gb715, 2, none⟩ = some (.string (⟨#[]⟩ : ByteArray)) := (blk_cell BK715.out 2).trans rfl; have hfz23_0 := blk_frozen BK715.out 0; have hfz23_1 := blk_frozen BK715.out 1; have hfz23_2 := blk_frozen BK715.out 2)); try go_wp2_with (first | ((with_reducible refine gate_dst (N := 7) rfl ?_); refine box_event ?hg (N := 7) ?hd (cs := #[.int .i64 0, .int .i64 0, .string (⟨#[]⟩ : ByteArray)]) (t := 23) ?hr ?_; (case hd => rfl); (case hg => rfl); (case hr => first | (go_simp; done) | (go_simp; rfl)); intro gb715 hg w22 hbox hb; have n0_ := Aside0.mk (below_step (by repeat (first | (with_reducible first | exact HB.out | apply below_alloc | apply pw_below_drewN | apply below_drew1) | exact HB.out)) hb); have n1_ := Aside0.mk (hbox); have n2_ := Aside0.mk ((by rw [hg]; exact (below_size (by repeat (first | (with_reducible first | exact HB.out | apply below_alloc | apply pw_below_drewN | apply below_drew1) | exact HB.out))) : w.heap.size ≤ gb715)); have n3_ := Aside0.mk ((by rw [hg]; exact (below_size (by repeat (first | (with_reducible first | exact HB.out | apply below_alloc | apply pw_below_drewN | apply below_drew1) | exact HB.out))) : w.heap.size ≤ gb715)); clear HB; have HB := n0_; have BK715 := n1_; have GW715 := n2_; have GE715 := n3_; clear n0_ n1_ n2_ n3_; clear hb hbox hg; have hcz23_0 : w22.cell? ⟨gb715, 0, none⟩ = some (.int .i64 0) := (blk_cell BK715.out 0).trans rfl; have hcz23_1 : w22.cell? ⟨gb715, 1, none⟩ = some (.int .i64 0) := (blk_cell BK715.out 1).trans rfl; have hcz23_2 : w22.cell? ⟨gb715, 2, none⟩ = some (.string (⟨#[]⟩ : ByteArray)) := (blk_cell BK715.out 2).trans rfl; have hfz23_0 := blk_frozen BK715.out 0; have hfz23_1 := blk_frozen BK715.out 1; have hfz23_2 := blk_frozen BK715.out 2)))
                  go_roundg k1
                  case measure => have := HK1.out; omega
                  case rel => exact ⟨(x5_1), (wrap64 (x6_1 + 1)), (by first | rfl | (simp; done) | (simp [*]; done)), (by first | rfl | (simp; done) | (simp [*]; done)), H', ⟨by have := HK1.out; omega⟩, ⟨by repeat (first | (with_reducible first | exact HB.out | apply below_alloc | apply pw_below_drewN | apply below_drew1 | refine below_set ?_ GE715.out) | exact HB.out)⟩⟩
        · rw [if_neg c5] at H
          exact absurd H (by simp)
      · rw [if_neg c4] at H
        have c4b0 : decide (x6_1 < (l1.length : Int)) = false := decide_eq_false c4
        clear c4
        obtain rfl := Option.some.inj H
        go_wp2
        repeat (go_quiet (fail); try go_wp2)
        go_ret
        exact ⟨by first | rfl | (simp [errW_none, errW_some] <;> rfl) | (simp [*, errW_none, errW_some] <;> rfl), by repeat (first | (with_reducible first | exact HB.out | apply below_alloc | apply pw_below_drewN | apply below_drew1) | exact HB.out)⟩

end Go.Proofs.Ytiklldjfcdblbaa.P
