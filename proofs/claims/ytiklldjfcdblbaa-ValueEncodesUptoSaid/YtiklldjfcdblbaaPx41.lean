/- What Go functions of the given program return, told as Lean functions, and the walks that show it; written by a program of this session (the print of the kit, turned). Conditions: the hypotheses that stand at each theorem. -/
import Derived.Test.YtiklldjfcdblbaaPx0
import Derived.Test.YtiklldjfcdblbaaPx40
namespace Go.Proofs.Ytiklldjfcdblbaa.P
open Go.RowKit Go.Proofs.YtiklldjfcdblbaaW.PrintWords Go.Proofs.YtiklldjfcdblbaaW.PrintLast Go.Proofs.YtiklldjfcdblbaaW.PrintMore
attribute [local go_sem] max2_int min2_int max_two min_two max_three min_three max_four min_four Go.Proofs.YtiklldjfcdblbaaQ.str_gtr Go.Proofs.YtiklldjfcdblbaaQ.str_leq Go.Proofs.YtiklldjfcdblbaaQ.str_geq   -- for this text's walks alone
set_option linter.unusedVariables false
set_option linter.unusedSimpArgs false

/-! ### laminaref04_SortKey: function 44 -/
mutual
def laminaref04_SortKey.l0 : Nat → List (S23) → List Int → Int → Option (List Int)
  | 0, _, _, _ => none
  | k + 1, x0, x3, x4 => if x4 < (x0.length : Int) then (if 0 ≤ x4 then (if x3.length < 140737488355328 then ((some (x3 ++ [(wrap64 (((rd_T23 x0 x4).f0) + 1)) % 256] : List Int)).bind fun y643 => (if ((rd_T23 x0 x4).f0) = 1 then (if y643.length < 140737488355328 then (laminaref04_SortKey.l0 k x0 (y643 ++ [((rd_T23 x0 x4).f1) % 256]) (wrap64 (x4 + 1))) else (none)) else (if ((rd_T23 x0 x4).f0) = 2 then ((laminaref01_Fixed.f k (Go.bits .xor .u64 (IntKind.u64.wrap ((rd_T23 x0 x4).f1)) 9223372036854775808) 8).bind fun t649 => (laminaref04_SortKey.l1 k x0 y643 x4 t649 7)) else (if ((rd_T23 x0 x4).f0) = 3 then (laminaref04_SortKey.l2 k x0 y643 x4 0 ((rd_T23 x0 x4).f0) ((rd_T23 x0 x4).f1) ((rd_T23 x0 x4).f2)) else (laminaref04_SortKey.l0 k x0 y643 (wrap64 (x4 + 1))))))) else (none)) else (none)) else (some x3)
def laminaref04_SortKey.l1 : Nat → List (S23) → List Int → Int → List Int → Int → Option (List Int)
  | 0, _, _, _, _, _ => none
  | k + 1, x0, x3, x4, x6, x7 => if x7 ≥ 0 then (if 0 ≤ x7 then (if x7 < (x6.length : Int) then (if x3.length < 140737488355328 then (laminaref04_SortKey.l1 k x0 (x3 ++ [rd x6 x7]) x4 x6 (wrap64 (x7 - 1))) else (none)) else (none)) else (none)) else (laminaref04_SortKey.l0 k x0 x3 (wrap64 (x4 + 1)))
def laminaref04_SortKey.l2 : Nat → List (S23) → List Int → Int → Int → Int → Int → ByteArray → Option (List Int)
  | 0, _, _, _, _, _, _, _ => none
  | k + 1, x0, x3, x4, x8, x643000, x643001, x643002 => if x8 < (x643002.size : Int) then (if 0 ≤ x8 then (if x3.length < 140737488355328 then ((some (x3 ++ [bt x643002 x8] : List Int)).bind fun y656 => (if (bt x643002 x8) = 0 then (if y656.length < 140737488355328 then (laminaref04_SortKey.l2 k x0 (y656 ++ [255]) x4 (wrap64 (x8 + 1)) x643000 x643001 x643002) else (none)) else (laminaref04_SortKey.l2 k x0 y656 x4 (wrap64 (x8 + 1)) x643000 x643001 x643002))) else (none)) else (none)) else (if x3.length < 140737488355328 then ((some (x3 ++ [0] : List Int)).bind fun y662 => (if y662.length < 140737488355328 then (laminaref04_SortKey.l0 k x0 (y662 ++ [0]) (wrap64 (x4 + 1))) else (none))) else (none))
end
def laminaref04_SortKey.f (k : Nat) (l0 : List (S23)) : Option (List Int) := laminaref04_SortKey.l0 k l0 ([] : List Int) 0
theorem laminaref04_SortKey.mono_l : ∀ k, (∀ y0 y1 y2, LeO (laminaref04_SortKey.l0 k y0 y1 y2) (laminaref04_SortKey.l0 (k + 1) y0 y1 y2)) ∧ (∀ y0 y1 y2 y3 y4, LeO (laminaref04_SortKey.l1 k y0 y1 y2 y3 y4) (laminaref04_SortKey.l1 (k + 1) y0 y1 y2 y3 y4)) ∧ (∀ y0 y1 y2 y3 y4 y5 y6, LeO (laminaref04_SortKey.l2 k y0 y1 y2 y3 y4 y5 y6) (laminaref04_SortKey.l2 (k + 1) y0 y1 y2 y3 y4 y5 y6))
  | 0 => ⟨fun _ _ _ r h => by simp [laminaref04_SortKey.l0] at h, fun _ _ _ _ _ r h => by simp [laminaref04_SortKey.l1] at h, fun _ _ _ _ _ _ _ r h => by simp [laminaref04_SortKey.l2] at h⟩
  | k + 1 => by
    obtain ⟨ih0, ih1, ih2⟩ := laminaref04_SortKey.mono_l k
    refine ⟨?_, ?_, ?_⟩
    · intro y0 y1 y2
      unfold laminaref04_SortKey.l0
      repeat' first
      | (with_reducible exact ih0 _ _ _)
      | (with_reducible exact ih1 _ _ _ _ _)
      | (with_reducible exact ih2 _ _ _ _ _ _ _)
      | (with_reducible exact laminaref01_Fixed.mono _ _ _)
      | (with_reducible exact LeO.refl _)
      | (with_reducible exact LeO.none _)
      | (with_reducible refine LeO.ite ?_ ?_)
      | (with_reducible refine LeO.bind ?_ (fun _ => ?_))
      | exact ih0 _ _ _
      | exact ih1 _ _ _ _ _
      | exact ih2 _ _ _ _ _ _ _
      | exact laminaref01_Fixed.mono _ _ _
      | exact LeO.none _
      | refine LeO.ite ?_ ?_
      | refine LeO.bind ?_ (fun _ => ?_)
    · intro y0 y1 y2 y3 y4
      unfold laminaref04_SortKey.l1
      repeat' first
      | (with_reducible exact ih0 _ _ _)
      | (with_reducible exact ih1 _ _ _ _ _)
      | (with_reducible exact ih2 _ _ _ _ _ _ _)
      | (with_reducible exact laminaref01_Fixed.mono _ _ _)
      | (with_reducible exact LeO.refl _)
      | (with_reducible exact LeO.none _)
      | (with_reducible refine LeO.ite ?_ ?_)
      | (with_reducible refine LeO.bind ?_ (fun _ => ?_))
      | exact ih0 _ _ _
      | exact ih1 _ _ _ _ _
      | exact ih2 _ _ _ _ _ _ _
      | exact laminaref01_Fixed.mono _ _ _
      | exact LeO.none _
      | refine LeO.ite ?_ ?_
      | refine LeO.bind ?_ (fun _ => ?_)
    · intro y0 y1 y2 y3 y4 y5 y6
      unfold laminaref04_SortKey.l2
      repeat' first
      | (with_reducible exact ih0 _ _ _)
      | (with_reducible exact ih1 _ _ _ _ _)
      | (with_reducible exact ih2 _ _ _ _ _ _ _)
      | (with_reducible exact laminaref01_Fixed.mono _ _ _)
      | (with_reducible exact LeO.refl _)
      | (with_reducible exact LeO.none _)
      | (with_reducible refine LeO.ite ?_ ?_)
      | (with_reducible refine LeO.bind ?_ (fun _ => ?_))
      | exact ih0 _ _ _
      | exact ih1 _ _ _ _ _
      | exact ih2 _ _ _ _ _ _ _
      | exact laminaref01_Fixed.mono _ _ _
      | exact LeO.none _
      | refine LeO.ite ?_ ?_
      | refine LeO.bind ?_ (fun _ => ?_)
theorem laminaref04_SortKey.mono : ∀ a0 k, LeO (laminaref04_SortKey.f k a0) (laminaref04_SortKey.f (k + 1) a0) := by
  intro a0 k
  obtain ⟨ih0, ih1, ih2⟩ := laminaref04_SortKey.mono_l k
  unfold laminaref04_SortKey.f
  repeat' first
      | (with_reducible exact ih0 _ _ _)
      | (with_reducible exact ih1 _ _ _ _ _)
      | (with_reducible exact ih2 _ _ _ _ _ _ _)
      | (with_reducible exact laminaref01_Fixed.mono _ _ _)
      | (with_reducible exact LeO.refl _)
      | (with_reducible exact LeO.none _)
      | (with_reducible refine LeO.ite ?_ ?_)
      | (with_reducible refine LeO.bind ?_ (fun _ => ?_))
      | exact ih0 _ _ _
      | exact ih1 _ _ _ _ _
      | exact ih2 _ _ _ _ _ _ _
      | exact laminaref01_Fixed.mono _ _ _
      | exact LeO.none _
      | refine LeO.ite ?_ ?_
      | refine LeO.bind ?_ (fun _ => ?_)
set_option maxHeartbeats 8000000 in
set_option maxRecDepth 100000 in
theorem laminaref04_SortKey.calls (k : Nat) (A0 : Option Addr) (c0 : Nat) (l0 : List (S23)) (r : List Int) (w : World) (hr0 : Kd.C k23 w A0 l0.length l0) (hc0 : l0.length ≤ c0) (h : laminaref04_SortKey.f k l0 = some r) :
    Calls Try.prog 44 #[.slice A0 l0.length c0] w fun e w' => ∃ v0_ : Value, e = .returned (v0_) ∧ Kd.R (Kd.int .u8) 5 w' w.heap.size (fun _ => True) v0_ r ∧ Below w.heap.size w w' := by
  have hu23 := Try.underlying23
  have HR0 := Aside0.mk hr0
  have HC0 := Aside0.mk hc0
  clear hr0 hc0
  have HB := Aside0.mk (Below.refl w.heap.size w)
  have H : (laminaref04_SortKey.l0 k l0 ([] : List Int) 0) = some r := h
  clear h
  have H' := Aside0.mk H
  clear H
  go_enter Try.func44, Try.ntmps44
  go_wp2
  go_loopg [3, 4] k (fun kq v3 v4 w' => ∃ (x3_1 : List Int) (x4_1 : Int), v4 = .int .i64 x4_1 ∧ Aside0 (laminaref04_SortKey.l0 kq l0 x3_1 x4_1 = some r) ∧ Aside0 (kq ≤ k) ∧ Aside0 (Kd.R (Kd.int .u8) 5 w' w.heap.size (fun _ => True) v3 x3_1) ∧ Aside0 (Below w.heap.size w w'))
  case atStart => exact ⟨(([] : List Int)), (0), (by first | rfl | (simp; done) | (simp [*]; done)), H', ⟨Nat.le_refl _⟩, ⟨by first | exact Kd.R_nil _ _ _ _ _ | exact Kd.N_nil _ _ _ _ _ | exact Kd.V_nil _ _ _ _ _ | exact Kd.Q_nil _ _ _ _ _ | exact Kd.S_nil _ _ _ _ _⟩, ⟨by repeat (first | (with_reducible first | exact HB.out | apply below_alloc | apply pw_below_drewN | apply below_drew1) | exact HB.out)⟩⟩
  case round =>
    clear H'
    obtain ⟨x3_1, x4_1, rfl, HA, HK1, HO_3, HB⟩ := hrel
    cases gk with
    | zero => exact absurd HA.out (by simp [laminaref04_SortKey.l0])
    | succ k1 =>
      have H := HA.out
      clear HA
      simp only [laminaref04_SortKey.l0] at H
      by_cases c2 : x4_1 < (l0.length : Int)
      · rw [if_pos c2] at H
        have c2b0 : decide (x4_1 < (l0.length : Int)) = true := decide_eq_true c2
        clear c2
        by_cases c3 : 0 ≤ x4_1
        · rw [if_pos c3] at H
          have c3b0 : decide (0 ≤ x4_1) = true := decide_eq_true c3
          clear c3
          by_cases c4 : x3_1.length < 140737488355328
          · rw [if_pos c4] at H
            have LMc4 := Aside0.mk c4
            clear c4
            obtain ⟨y643, hy643⟩ : ∃ y_ : List Int, y_ = (x3_1 ++ [(wrap64 (((rd_T23 l0 x4_1).f0) + 1)) % 256]) := ⟨_, rfl⟩
            replace H : (if ((rd_T23 l0 x4_1).f0) = 1 then (if y643.length < 140737488355328 then (laminaref04_SortKey.l0 k1 l0 (y643 ++ [((rd_T23 l0 x4_1).f1) % 256]) (wrap64 (x4_1 + 1))) else (none)) else (if ((rd_T23 l0 x4_1).f0) = 2 then ((laminaref01_Fixed.f k1 (Go.bits .xor .u64 (IntKind.u64.wrap ((rd_T23 l0 x4_1).f1)) 9223372036854775808) 8).bind fun t649 => (laminaref04_SortKey.l1 k1 l0 y643 x4_1 t649 7)) else (if ((rd_T23 l0 x4_1).f0) = 3 then (laminaref04_SortKey.l2 k1 l0 y643 x4_1 0 ((rd_T23 l0 x4_1).f0) ((rd_T23 l0 x4_1).f1) ((rd_T23 l0 x4_1).f2)) else (laminaref04_SortKey.l0 k1 l0 y643 (wrap64 (x4_1 + 1)))))) = some r := by first | (rw [hy643]; with_reducible exact H) | (have H2_ := (Option.bind_some _ _).symm.trans H; rw [hy643]; with_reducible exact H2_) | (have H2_ := (Option.bind_some _ _).symm.trans H; with_reducible exact H2_) | with_reducible exact H | (rw [hy643]; exact H) | exact H
            have Ny643 := Aside0.mk hy643
            clear hy643
            by_cases c5 : ((rd_T23 l0 x4_1).f0) = 1
            · rw [if_pos c5] at H
              have c5b0 : (((rd_T23 l0 x4_1).f0) == 1) = true := beq_iff_eq.mpr c5
              have c5b1 : (((rd_T23 l0 x4_1).f0) != 1) = false := bne_eq_false_iff_eq.mpr c5
              clear c5
              by_cases c6 : y643.length < 140737488355328
              · rw [if_pos c6] at H
                have LMc6 := Aside0.mk c6
                clear c6
                obtain ⟨y646, hy646⟩ : ∃ y_ : List Int, y_ = (y643 ++ [((rd_T23 l0 x4_1).f1) % 256]) := ⟨_, rfl⟩
                replace H : (laminaref04_SortKey.l0 k1 l0 y646 (wrap64 (x4_1 + 1))) = some r := by first | (rw [hy646]; with_reducible exact H) | (have H2_ := (Option.bind_some _ _).symm.trans H; rw [hy646]; with_reducible exact H2_) | (have H2_ := (Option.bind_some _ _).symm.trans H; with_reducible exact H2_) | with_reducible exact H | (rw [hy646]; exact H) | exact H
                have Ny646 := Aside0.mk hy646
                clear hy646
                have H' := Aside0.mk H
                clear H
                have p641 : 0 ≤ (x4_1 : Int) := of_decide_eq_true (by first | (with_reducible assumption) | assumption)
                have q641 : x4_1 < (l0.length : Int) := of_decide_eq_true (by first | (with_reducible assumption) | assumption)
                obtain ⟨ad641, e641, hx641_0, hx641_1, hx641_2⟩ := at_T23 HR0.out x4_1 p641 q641
                cases e641
                replace hx641_0 := (HB.out.cell (World.block_lt_of_cell? w _ hx641_0)).trans hx641_0
                replace hx641_1 := (HB.out.cell (World.block_lt_of_cell? w _ hx641_1)).trans hx641_1
                replace hx641_2 := (HB.out.cell (World.block_lt_of_cell? w _ hx641_2)).trans hx641_2
                replace p641 := eq_true p641
                replace q641 := eq_true q641
                go_wp2_with (first | ((with_reducible refine gate_dst (N := 5) rfl ?_); refine box_event ?hg (N := 5) ?hd (cs := #[.int .i64 0, .int .i64 0, .string (⟨#[]⟩ : ByteArray)]) (t := 23) ?hr ?_; (case hd => rfl); (case hg => rfl); (case hr => first | (go_simp; done) | (go_simp; rfl)); intro gb642 hg w7 hbox hb; have n0_ := Aside0.mk (Kd.R_below (by (with_reducible repeat (first | apply Kd.R_alloc | apply Kd.R_drewN | apply Kd.R_drew)); exact HO_3.out) hb); have n1_ := Aside0.mk (below_step (by repeat (first | (with_reducible first | exact HB.out | apply below_alloc | apply pw_below_drewN | apply below_drew1) | exact HB.out)) hb); have n2_ := Aside0.mk (hbox); have n3_ := Aside0.mk ((by rw [hg]; exact (below_size (by repeat (first | (with_reducible first | exact HB.out | apply below_alloc | apply pw_below_drewN | apply below_drew1) | exact HB.out))) : w.heap.size ≤ gb642)); have n4_ := Aside0.mk ((by rw [hg]; exact (below_size (by repeat (first | (with_reducible first | exact HB.out | apply below_alloc | apply pw_below_drewN | apply below_drew1) | exact HB.out))) : w.heap.size ≤ gb642)); clear HO_3; clear HB; have HO_3 := n0_; have HB := n1_; have BK642 := n2_; have GW642 := n3_; have GE642 := n4_; clear n0_ n1_ n2_ n3_ n4_; clear hb hbox hg; have hcz8_0 : w7.cell? ⟨gb642, 0, none⟩ = some (.int .i64 0) := (blk_cell BK642.out 0).trans rfl; have hcz8_1 : w7.cell? ⟨gb642, 1, none⟩ = some (.int .i64 0) := (blk_cell BK642.out 1).trans rfl; have hcz8_2 : w7.cell? ⟨gb642, 2, none⟩ = some (.string (⟨#[]⟩ : ByteArray)) := (blk_cell BK642.out 2).trans rfl; have hfz8_0 := blk_frozen BK642.out 0; have hfz8_1 := blk_frozen BK642.out 1; have hfz8_2 := blk_frozen BK642.out 2) | ((with_reducible refine gate_builtin (b := .append) (xs := #[.tmp 19, .tmp 24]) rfl ?_); at_builtin; refine Kd.R_append (Kd.int .u8) (w0 := w) w.heap.size rfl (.tmp 19) (.tmp 24) 26 5 (.int .u8 0) 1 rfl Try.underlying26 info5 rfl (by decide) (by omega) u3 x3_1 ((wrap64 (((rd_T23 l0 x4_1).f0) + 1)) % 256) [.int .u8 ((wrap64 (((rd_T23 l0 x4_1).f0) + 1)) % 256)] (fun _ => True) (fun _ => False) rfl (by first | (go_simp; done) | (go_simp; rfl)) ?aP (fun _ hk => hk.elim) ?aF ?aO ?aB ?aS ?aL ?_; (case aP => exact rfl); (case aB => exact (by repeat (first | (with_reducible first | exact HB.out | apply below_alloc | apply pw_below_drewN | apply below_drew1 | refine below_set ?_ GE642.out) | exact HB.out))); (case aF => exact (fun _ _ => trivial)); (case aO => exact (by (with_reducible repeat (first | apply Kd.R_alloc | apply Kd.R_drewN | apply Kd.R_drew)); exact Kd.R_mono (Kd.R_far (p := ⟨gb642, 2, none⟩) (Kd.R_far (p := ⟨gb642, 1, none⟩) (Kd.R_far (p := ⟨gb642, 0, none⟩) (Kd.R_types HO_3.out BK642.out (by decide)) (fun _ hk => hk.2) (.int .i64 ((rd_T23 l0 x4_1).f0))) (fun _ hk => hk.2) (.int .i64 ((rd_T23 l0 x4_1).f1))) (fun _ hk => hk.2) (.string ((rd_T23 l0 x4_1).f2))) (fun _ hk => trivial))); (case aS => exact (below_size (by repeat (first | (with_reducible first | exact HB.out | apply below_alloc | apply pw_below_drewN | apply below_drew1 | refine below_set ?_ GE642.out) | exact HB.out)))); (case aL => have := LMc4.out; omega); intro v644 w9 ho hb hg hat; rw [← Ny643.out] at ho; have n0_ := Aside0.mk (blk_grown (g := gb642) (o := .cells #[.int .i64 ((rd_T23 l0 x4_1).f0), .int .i64 ((rd_T23 l0 x4_1).f1), .string ((rd_T23 l0 x4_1).f2)] 23 (0, 0)) (by (with_reducible repeat (first | refine blk_drewN ?_ _ | refine blk_drew ?_ | refine blk_alloc ?_ _)); refine blk_put (cs := #[.int .i64 ((rd_T23 l0 x4_1).f0), .int .i64 ((rd_T23 l0 x4_1).f1), .string (⟨#[]⟩ : ByteArray)]) ?_ 2 _ rfl; (with_reducible repeat (first | refine blk_drewN ?_ _ | refine blk_drew ?_ | refine blk_alloc ?_ _)); refine blk_put (cs := #[.int .i64 ((rd_T23 l0 x4_1).f0), .int .i64 0, .string (⟨#[]⟩ : ByteArray)]) ?_ 1 _ rfl; (with_reducible repeat (first | refine blk_drewN ?_ _ | refine blk_drew ?_ | refine blk_alloc ?_ _)); refine blk_put (cs := #[.int .i64 0, .int .i64 0, .string (⟨#[]⟩ : ByteArray)]) ?_ 0 _ rfl; (with_reducible repeat (first | refine blk_drewN ?_ _ | refine blk_drew ?_ | refine blk_alloc ?_ _)); exact BK642.out) hg (Kd.R_ne HO_3.out BK642.out (by decide))); have n1_ := Aside0.mk (hb); have n2_ := Aside0.mk (ho); clear BK642; clear HB; clear HO_3; have BK642 := n0_; have HB := n1_; have HO645 := n2_; clear n0_ n1_ n2_; clear ho hb hg hat; have hcz10_0 : w9.cell? ⟨gb642, 0, none⟩ = some (.int .i64 ((rd_T23 l0 x4_1).f0)) := (blk_cell BK642.out 0).trans rfl; have hcz10_1 : w9.cell? ⟨gb642, 1, none⟩ = some (.int .i64 ((rd_T23 l0 x4_1).f1)) := (blk_cell BK642.out 1).trans rfl; have hcz10_2 : w9.cell? ⟨gb642, 2, none⟩ = some (.string ((rd_T23 l0 x4_1).f2)) := (blk_cell BK642.out 2).trans rfl; have hfz10_0 := blk_frozen BK642.out 0; have hfz10_1 := blk_frozen BK642.out 1; have hfz10_2 := blk_frozen BK642.out 2) | ((with_reducible refine gate_builtin (b := .append) (xs := #[.tmp 30, .tmp 34]) rfl ?_); at_builtin; refine Kd.R_append (Kd.int .u8) (w0 := w) w.heap.size rfl (.tmp 30) (.tmp 34) 26 5 (.int .u8 0) 1 rfl Try.underlying26 info5 rfl (by decide) (by omega) v644 y643 (((rd_T23 l0 x4_1).f1) % 256) [.int .u8 (((rd_T23 l0 x4_1).f1) % 256)] (fun _ => True) (fun _ => False) rfl rfl ?aP (fun _ hk => hk.elim) ?aF ?aO ?aB ?aS ?aL ?_; (case aP => exact rfl); (case aB => exact (by repeat (first | (with_reducible first | exact HB.out | apply below_alloc | apply pw_below_drewN | apply below_drew1 | refine below_set ?_ GE642.out) | exact HB.out))); (case aF => exact (fun _ _ => trivial)); (case aO => exact (by (with_reducible repeat (first | apply Kd.R_alloc | apply Kd.R_drewN | apply Kd.R_drew)); exact HO645.out)); (case aS => exact (below_size (by repeat (first | (with_reducible first | exact HB.out | apply below_alloc | apply pw_below_drewN | apply below_drew1 | refine below_set ?_ GE642.out) | exact HB.out)))); (case aL => have := LMc6.out; omega); intro v647 w11 ho hb hg hat; rw [← Ny646.out] at ho; have n0_ := Aside0.mk (blk_grown (g := gb642) (o := .cells #[.int .i64 ((rd_T23 l0 x4_1).f0), .int .i64 ((rd_T23 l0 x4_1).f1), .string ((rd_T23 l0 x4_1).f2)] 23 (0, 0)) (by (with_reducible repeat (first | refine blk_drewN ?_ _ | refine blk_drew ?_ | refine blk_alloc ?_ _)); exact BK642.out) hg (Kd.R_ne HO645.out BK642.out (by decide))); have n1_ := Aside0.mk (hb); have n2_ := Aside0.mk (ho); clear BK642; clear HB; clear HO645; have BK642 := n0_; have HB := n1_; have HO648 := n2_; clear n0_ n1_ n2_; clear ho hb hg hat))
                go_roundg k1
                case measure => have := HK1.out; omega
                case rel => exact ⟨(y646), (wrap64 (x4_1 + 1)), (by first | rfl | (simp; done) | (simp [*]; done)), H', ⟨by have := HK1.out; omega⟩, ⟨by (with_reducible repeat (first | apply Kd.R_alloc | apply Kd.R_drewN | apply Kd.R_drew)); exact HO648.out⟩, ⟨by repeat (first | (with_reducible first | exact HB.out | apply below_alloc | apply pw_below_drewN | apply below_drew1 | refine below_set ?_ GE642.out) | exact HB.out)⟩⟩
              · rw [if_neg c6] at H
                exact absurd H (by simp)
            · rw [if_neg c5] at H
              have c5b0 : (((rd_T23 l0 x4_1).f0) == 1) = false := beq_eq_false_iff_ne.mpr c5
              have c5b1 : (((rd_T23 l0 x4_1).f0) != 1) = true := bne_iff_ne.mpr c5
              by_cases c12 : ((rd_T23 l0 x4_1).f0) = 2
              · rw [if_pos c12] at H
                have c12b0 : (((rd_T23 l0 x4_1).f0) == 2) = true := beq_iff_eq.mpr c12
                have c12b1 : (((rd_T23 l0 x4_1).f0) != 2) = false := bne_eq_false_iff_eq.mpr c12
                clear c12
                replace H := Option.bind_eq_some_iff.mp H
                obtain ⟨t649, A130, H⟩ := H
                replace H : (laminaref04_SortKey.l1 k1 l0 y643 x4_1 t649 7) = some r := H
                have A13 := Aside0.mk A130
                clear A130
                have H' := Aside0.mk H
                clear H
                have p641 : 0 ≤ (x4_1 : Int) := of_decide_eq_true (by first | (with_reducible assumption) | assumption)
                have q641 : x4_1 < (l0.length : Int) := of_decide_eq_true (by first | (with_reducible assumption) | assumption)
                obtain ⟨ad641, e641, hx641_0, hx641_1, hx641_2⟩ := at_T23 HR0.out x4_1 p641 q641
                cases e641
                replace hx641_0 := (HB.out.cell (World.block_lt_of_cell? w _ hx641_0)).trans hx641_0
                replace hx641_1 := (HB.out.cell (World.block_lt_of_cell? w _ hx641_1)).trans hx641_1
                replace hx641_2 := (HB.out.cell (World.block_lt_of_cell? w _ hx641_2)).trans hx641_2
                replace p641 := eq_true p641
                replace q641 := eq_true q641
                go_wp2_with (first | ((with_reducible refine gate_dst (N := 5) rfl ?_); refine box_event ?hg (N := 5) ?hd (cs := #[.int .i64 0, .int .i64 0, .string (⟨#[]⟩ : ByteArray)]) (t := 23) ?hr ?_; (case hd => rfl); (case hg => rfl); (case hr => first | (go_simp; done) | (go_simp; rfl)); intro gb642 hg w14 hbox hb; have n0_ := Aside0.mk (Kd.R_below (by (with_reducible repeat (first | apply Kd.R_alloc | apply Kd.R_drewN | apply Kd.R_drew)); exact HO_3.out) hb); have n1_ := Aside0.mk (below_step (by repeat (first | (with_reducible first | exact HB.out | apply below_alloc | apply pw_below_drewN | apply below_drew1) | exact HB.out)) hb); have n2_ := Aside0.mk (hbox); have n3_ := Aside0.mk ((by rw [hg]; exact (below_size (by repeat (first | (with_reducible first | exact HB.out | apply below_alloc | apply pw_below_drewN | apply below_drew1) | exact HB.out))) : w.heap.size ≤ gb642)); have n4_ := Aside0.mk ((by rw [hg]; exact (below_size (by repeat (first | (with_reducible first | exact HB.out | apply below_alloc | apply pw_below_drewN | apply below_drew1) | exact HB.out))) : w.heap.size ≤ gb642)); clear HO_3; clear HB; have HO_3 := n0_; have HB := n1_; have BK642 := n2_; have GW642 := n3_; have GE642 := n4_; clear n0_ n1_ n2_ n3_ n4_; clear hb hbox hg; have hcz15_0 : w14.cell? ⟨gb642, 0, none⟩ = some (.int .i64 0) := (blk_cell BK642.out 0).trans rfl; have hcz15_1 : w14.cell? ⟨gb642, 1, none⟩ = some (.int .i64 0) := (blk_cell BK642.out 1).trans rfl; have hcz15_2 : w14.cell? ⟨gb642, 2, none⟩ = some (.string (⟨#[]⟩ : ByteArray)) := (blk_cell BK642.out 2).trans rfl; have hfz15_0 := blk_frozen BK642.out 0; have hfz15_1 := blk_frozen BK642.out 1; have hfz15_2 := blk_frozen BK642.out 2) | ((with_reducible refine gate_builtin (b := .append) (xs := #[.tmp 19, .tmp 24]) rfl ?_); at_builtin; refine Kd.R_append (Kd.int .u8) (w0 := w) w.heap.size rfl (.tmp 19) (.tmp 24) 26 5 (.int .u8 0) 1 rfl Try.underlying26 info5 rfl (by decide) (by omega) u3 x3_1 ((wrap64 (((rd_T23 l0 x4_1).f0) + 1)) % 256) [.int .u8 ((wrap64 (((rd_T23 l0 x4_1).f0) + 1)) % 256)] (fun _ => True) (fun _ => False) rfl (by first | (go_simp; done) | (go_simp; rfl)) ?aP (fun _ hk => hk.elim) ?aF ?aO ?aB ?aS ?aL ?_; (case aP => exact rfl); (case aB => exact (by repeat (first | (with_reducible first | exact HB.out | apply below_alloc | apply pw_below_drewN | apply below_drew1 | refine below_set ?_ GE642.out) | exact HB.out))); (case aF => exact (fun _ _ => trivial)); (case aO => exact (by (with_reducible repeat (first | apply Kd.R_alloc | apply Kd.R_drewN | apply Kd.R_drew)); exact Kd.R_mono (Kd.R_far (p := ⟨gb642, 2, none⟩) (Kd.R_far (p := ⟨gb642, 1, none⟩) (Kd.R_far (p := ⟨gb642, 0, none⟩) (Kd.R_types HO_3.out BK642.out (by decide)) (fun _ hk => hk.2) (.int .i64 ((rd_T23 l0 x4_1).f0))) (fun _ hk => hk.2) (.int .i64 ((rd_T23 l0 x4_1).f1))) (fun _ hk => hk.2) (.string ((rd_T23 l0 x4_1).f2))) (fun _ hk => trivial))); (case aS => exact (below_size (by repeat (first | (with_reducible first | exact HB.out | apply below_alloc | apply pw_below_drewN | apply below_drew1 | refine below_set ?_ GE642.out) | exact HB.out)))); (case aL => have := LMc4.out; omega); intro v644 w16 ho hb hg hat; rw [← Ny643.out] at ho; have n0_ := Aside0.mk (blk_grown (g := gb642) (o := .cells #[.int .i64 ((rd_T23 l0 x4_1).f0), .int .i64 ((rd_T23 l0 x4_1).f1), .string ((rd_T23 l0 x4_1).f2)] 23 (0, 0)) (by (with_reducible repeat (first | refine blk_drewN ?_ _ | refine blk_drew ?_ | refine blk_alloc ?_ _)); refine blk_put (cs := #[.int .i64 ((rd_T23 l0 x4_1).f0), .int .i64 ((rd_T23 l0 x4_1).f1), .string (⟨#[]⟩ : ByteArray)]) ?_ 2 _ rfl; (with_reducible repeat (first | refine blk_drewN ?_ _ | refine blk_drew ?_ | refine blk_alloc ?_ _)); refine blk_put (cs := #[.int .i64 ((rd_T23 l0 x4_1).f0), .int .i64 0, .string (⟨#[]⟩ : ByteArray)]) ?_ 1 _ rfl; (with_reducible repeat (first | refine blk_drewN ?_ _ | refine blk_drew ?_ | refine blk_alloc ?_ _)); refine blk_put (cs := #[.int .i64 0, .int .i64 0, .string (⟨#[]⟩ : ByteArray)]) ?_ 0 _ rfl; (with_reducible repeat (first | refine blk_drewN ?_ _ | refine blk_drew ?_ | refine blk_alloc ?_ _)); exact BK642.out) hg (Kd.R_ne HO_3.out BK642.out (by decide))); have n1_ := Aside0.mk (hb); have n2_ := Aside0.mk (ho); clear BK642; clear HB; clear HO_3; have BK642 := n0_; have HB := n1_; have HO645 := n2_; clear n0_ n1_ n2_; clear ho hb hg hat; have hcz17_0 : w16.cell? ⟨gb642, 0, none⟩ = some (.int .i64 ((rd_T23 l0 x4_1).f0)) := (blk_cell BK642.out 0).trans rfl; have hcz17_1 : w16.cell? ⟨gb642, 1, none⟩ = some (.int .i64 ((rd_T23 l0 x4_1).f1)) := (blk_cell BK642.out 1).trans rfl; have hcz17_2 : w16.cell? ⟨gb642, 2, none⟩ = some (.string ((rd_T23 l0 x4_1).f2)) := (blk_cell BK642.out 2).trans rfl; have hfz17_0 := blk_frozen BK642.out 0; have hfz17_1 := blk_frozen BK642.out 1; have hfz17_2 := blk_frozen BK642.out 2) | ((with_reducible refine gate_callee (f := 74) rfl ?_); refine goesL_ (some 42) rfl rfl Try.func74 (by kernel_rfl) rfl #[.int .u64 (Go.bits .xor .u64 (IntKind.u64.wrap ((rd_T23 l0 x4_1).f1)) 9223372036854775808), .int .i64 8] rfl (by (try simp only [List.map_toArray, List.map_cons, List.map_nil]); first | done | rfl | (simp only [List.length_drop, List.length_take]; rfl) | (simp only [Int.ofNat_lt, Int.ofNat_le, gt_iff_lt, ge_iff_le]; rfl)) ?_; (with_reducible refine (laminaref01_Fixed.calls k1 (Go.bits .xor .u64 (IntKind.u64.wrap ((rd_T23 l0 x4_1).f1)) 9223372036854775808) 8 t649 _ A13.out).mono ?_); rintro e w18 ⟨v650, rfl, ho0, hb⟩; refine ⟨_, rfl, ?_⟩; have n0_ := Aside0.mk (Kd.R_elder' (by (with_reducible repeat (first | apply Kd.R_alloc | apply Kd.R_drewN | apply Kd.R_drew)); exact HO645.out) (Kd.R_base ho0) hb); have n1_ := Aside0.mk (Kd.R_lower (Kd.R_new' ho0 (Kd.R_lt (by (with_reducible repeat (first | apply Kd.R_alloc | apply Kd.R_drewN | apply Kd.R_drew)); exact HO645.out))) (below_size (by repeat (first | (with_reducible first | exact HB.out | apply below_alloc | apply pw_below_drewN | apply below_drew1 | refine below_set ?_ GE642.out) | exact HB.out)))); have n2_ := Aside0.mk (blk_below (g := gb642) (o := .cells #[.int .i64 ((rd_T23 l0 x4_1).f0), .int .i64 ((rd_T23 l0 x4_1).f1), .string ((rd_T23 l0 x4_1).f2)] 23 (0, 0)) (by (with_reducible repeat (first | refine blk_drewN ?_ _ | refine blk_drew ?_ | refine blk_alloc ?_ _)); exact BK642.out) hb); have n3_ := Aside0.mk (below_step (by repeat (first | (with_reducible first | exact HB.out | apply below_alloc | apply pw_below_drewN | apply below_drew1 | refine below_set ?_ GE642.out) | exact HB.out)) hb); clear HO645; clear BK642; clear HB; have HO645 := n0_; have HO651 := n1_; have BK642 := n2_; have HB := n3_; clear n0_ n1_ n2_ n3_; (try clear hb); (try clear hb2); (try clear hk); (try clear hi); (try clear ho0)))
                go_loopg [3, 7] k1 (fun kq v3 v7 w' => ∃ (x3_2 : List Int) (x7_2 : Int), v7 = .int .i64 x7_2 ∧ Aside0 (laminaref04_SortKey.l1 kq l0 x3_2 x4_1 t649 x7_2 = some r) ∧ Aside0 (kq ≤ k1) ∧ Aside0 (Kd.R (Kd.int .u8) 5 w' w.heap.size (fun k_ => some k_ ≠ (v650 : Value).ownBlock) v3 x3_2) ∧ Aside0 (Kd.R (Kd.int .u8) 5 w' w.heap.size (fun k_ => some k_ ≠ (v3 : Value).ownBlock) v650 t649) ∧ Aside0 (w'.heap[gb642]? = some (.cells #[.int .i64 ((rd_T23 l0 x4_1).f0), .int .i64 ((rd_T23 l0 x4_1).f1), .string ((rd_T23 l0 x4_1).f2)] 23 (0, 0))) ∧ Aside0 (Below w.heap.size w w'))
                case atStart => exact ⟨(y643), (7), (by first | rfl | (simp; done) | (simp [*]; done)), H', ⟨Nat.le_refl _⟩, ⟨by (with_reducible repeat (first | apply Kd.R_alloc | apply Kd.R_drewN | apply Kd.R_drew)); exact Kd.R_mono HO645.out (fun _ hk => hk.2)⟩, ⟨by (with_reducible repeat (first | apply Kd.R_alloc | apply Kd.R_drewN | apply Kd.R_drew)); exact Kd.R_mono HO651.out (fun _ hk => hk.2)⟩, ⟨by (with_reducible repeat (first | refine blk_drewN ?_ _ | refine blk_drew ?_ | refine blk_alloc ?_ _)); exact BK642.out⟩, ⟨by repeat (first | (with_reducible first | exact HB.out | apply below_alloc | apply pw_below_drewN | apply below_drew1 | refine below_set ?_ GE642.out) | exact HB.out)⟩⟩
                case round =>
                  clear H'
                  try clear c1
                  try clear c2
                  try clear c2b0
                  try clear p2
                  try clear c3
                  try clear c3b0
                  try clear c4
                  try clear c5
                  try clear c5b0
                  try clear c5b1
                  try clear c6
                  try clear p6
                  try clear q6
                  try clear hx6
                  try clear c7
                  try clear c12
                  try clear c12b0
                  try clear c12b1
                  try clear hcz10_0
                  try clear hcz10_1
                  try clear hcz10_2
                  try clear hcz15_0
                  try clear hcz15_1
                  try clear hcz15_2
                  try clear hcz17_0
                  try clear hcz17_1
                  try clear hcz17_2
                  try clear hcz8_0
                  try clear hcz8_1
                  try clear hcz8_2
                  try clear hfz10_0
                  try clear hfz10_1
                  try clear hfz10_2
                  try clear hfz15_0
                  try clear hfz15_1
                  try clear hfz15_2
                  try clear hfz17_0
                  try clear hfz17_1
                  try clear hfz17_2
                  try clear hfz8_0
                  try clear hfz8_1
                  try clear hfz8_2
                  try clear hx641_0
                  try clear hx641_1
                  try clear hx641_2
                  try clear p641
                  try clear q641
                  obtain ⟨x3_2, x7_2, rfl, HA, HK2, HO_3, HO_6, BK642, HB⟩ := hrel
                  cases gk with
                  | zero => exact absurd HA.out (by simp [laminaref04_SortKey.l1])
                  | succ k2 =>
                    have H := HA.out
                    clear HA
                    simp only [laminaref04_SortKey.l1] at H
                    by_cases c19 : x7_2 ≥ 0
                    · rw [if_pos c19] at H
                      have c19b0 : decide (0 ≤ x7_2) = true := decide_eq_true c19
                      clear c19
                      by_cases c20 : 0 ≤ x7_2
                      · rw [if_pos c20] at H
                        have c20b0 : decide (0 ≤ x7_2) = true := decide_eq_true c20
                        clear c20
                        by_cases c21 : x7_2 < (t649.length : Int)
                        · rw [if_pos c21] at H
                          have c21b0 : decide (x7_2 < (t649.length : Int)) = true := decide_eq_true c21
                          clear c21
                          by_cases c22 : x3_2.length < 140737488355328
                          · rw [if_pos c22] at H
                            have LMc22 := Aside0.mk c22
                            clear c22
                            obtain ⟨y653, hy653⟩ : ∃ y_ : List Int, y_ = (x3_2 ++ [rd t649 x7_2]) := ⟨_, rfl⟩
                            replace H : (laminaref04_SortKey.l1 k2 l0 y653 x4_1 t649 (wrap64 (x7_2 - 1))) = some r := by first | (rw [hy653]; with_reducible exact H) | (have H2_ := (Option.bind_some _ _).symm.trans H; rw [hy653]; with_reducible exact H2_) | (have H2_ := (Option.bind_some _ _).symm.trans H; with_reducible exact H2_) | with_reducible exact H | (rw [hy653]; exact H) | exact H
                            have Ny653 := Aside0.mk hy653
                            clear hy653
                            have H' := Aside0.mk H
                            clear H
                            obtain ⟨Ao23, co23, eo23⟩ := Kd.R_slice HO_6.out
                            subst eo23
                            have p652 : 0 ≤ (x7_2 : Int) := of_decide_eq_true (by first | (with_reducible assumption) | assumption)
                            have q652 : x7_2 < (t649.length : Int) := of_decide_eq_true (by first | (with_reducible assumption) | assumption)
                            obtain ⟨ad652, e652, hx652_0⟩ := Kd.at_int (Kd.R_reads' HO_6.out).2.2 x7_2 p652 q652
                            cases e652
                            replace p652 := eq_true p652
                            replace q652 := eq_true q652
                            go_wp2_with (first | ((with_reducible refine gate_builtin (b := .append) (xs := #[.tmp 47, .tmp 52]) rfl ?_); at_builtin; refine Kd.R_append (Kd.int .u8) (w0 := w) w.heap.size rfl (.tmp 47) (.tmp 52) 26 5 (.int .u8 0) 1 rfl Try.underlying26 info5 rfl (by decide) (by omega) u3 x3_2 (rd t649 x7_2) [.int .u8 (rd t649 x7_2)] (fun k_ => some k_ ≠ (.slice (some ad652) t649.length co23 : Value).ownBlock) (fun _ => False) rfl rfl ?aP (fun _ hk => hk.elim) ?aF ?aO ?aB ?aS ?aL ?_; (case aP => exact rfl); (case aB => exact (by repeat (first | (with_reducible first | exact HB.out | apply below_alloc | apply pw_below_drewN | apply below_drew1 | refine below_set ?_ GE642.out) | exact HB.out))); (case aF => exact (fun k_ hk => Kd.fresh' (Kd.R_lt (by (with_reducible repeat (first | apply Kd.R_alloc | apply Kd.R_drewN | apply Kd.R_drew)); exact HO_6.out)) k_ hk)); (case aO => exact (by (with_reducible repeat (first | apply Kd.R_alloc | apply Kd.R_drewN | apply Kd.R_drew)); exact HO_3.out)); (case aS => exact (below_size (by repeat (first | (with_reducible first | exact HB.out | apply below_alloc | apply pw_below_drewN | apply below_drew1 | refine below_set ?_ GE642.out) | exact HB.out)))); (case aL => have := LMc22.out; omega); intro v654 w24 ho hb hg hat; rw [← Ny653.out] at ho; have n0_ := Aside0.mk (Kd.R_after (ok := (fun _ => True)) (by (with_reducible repeat (first | apply Kd.R_alloc | apply Kd.R_drewN | apply Kd.R_drew)); exact Kd.R_mono HO_6.out (fun _ hk => ⟨trivial, hk⟩)) hg hat); have n1_ := Aside0.mk (blk_grown (g := gb642) (o := .cells #[.int .i64 ((rd_T23 l0 x4_1).f0), .int .i64 ((rd_T23 l0 x4_1).f1), .string ((rd_T23 l0 x4_1).f2)] 23 (0, 0)) (by (with_reducible repeat (first | refine blk_drewN ?_ _ | refine blk_drew ?_ | refine blk_alloc ?_ _)); exact BK642.out) hg (Kd.R_ne HO_3.out BK642.out (by decide))); have n2_ := Aside0.mk (hb); have n3_ := Aside0.mk (ho); clear HO_6; clear BK642; clear HB; clear HO_3; have HO_6 := n0_; have BK642 := n1_; have HB := n2_; have HO655 := n3_; clear n0_ n1_ n2_ n3_; clear ho hb hg hat))
                            go_roundg k2
                            case measure => have := HK1.out; have := HK2.out; omega
                            case rel => exact ⟨(y653), (wrap64 (x7_2 - 1)), (by first | rfl | (simp; done) | (simp [*]; done)), H', ⟨by have := HK1.out; have := HK2.out; omega⟩, ⟨by (with_reducible repeat (first | apply Kd.R_alloc | apply Kd.R_drewN | apply Kd.R_drew)); exact HO655.out⟩, ⟨by (with_reducible repeat (first | apply Kd.R_alloc | apply Kd.R_drewN | apply Kd.R_drew)); exact Kd.R_mono HO_6.out (fun _ hk => hk.2)⟩, ⟨by (with_reducible repeat (first | refine blk_drewN ?_ _ | refine blk_drew ?_ | refine blk_alloc ?_ _)); exact BK642.out⟩, ⟨by repeat (first | (with_reducible first | exact HB.out | apply below_alloc | apply pw_below_drewN | apply below_drew1 | refine below_set ?_ GE642.out) | exact HB.out)⟩⟩
                          · rw [if_neg c22] at H
                            exact absurd H (by simp)
                        · rw [if_neg c21] at H
                          exact absurd H (by simp)
                      · rw [if_neg c20] at H
                        exact absurd H (by simp)
                    · rw [if_neg c19] at H
                      have c19b0 : decide (0 ≤ x7_2) = false := decide_eq_false c19
                      clear c19
                      have H' := Aside0.mk H
                      clear H
                      go_wp2
                      go_roundg k2
                      case measure => have := HK1.out; have := HK2.out; omega
                      case rel => exact ⟨(x3_2), (wrap64 (x4_1 + 1)), (by first | rfl | (simp; done) | (simp [*]; done)), H', ⟨by have := HK1.out; have := HK2.out; omega⟩, ⟨by (with_reducible repeat (first | apply Kd.R_alloc | apply Kd.R_drewN | apply Kd.R_drew)); exact Kd.R_mono HO_3.out (fun _ hk => trivial)⟩, ⟨by repeat (first | (with_reducible first | exact HB.out | apply below_alloc | apply pw_below_drewN | apply below_drew1 | refine below_set ?_ GE642.out) | exact HB.out)⟩⟩
              · rw [if_neg c12] at H
                have c12b0 : (((rd_T23 l0 x4_1).f0) == 2) = false := beq_eq_false_iff_ne.mpr c12
                have c12b1 : (((rd_T23 l0 x4_1).f0) != 2) = true := bne_iff_ne.mpr c12
                by_cases c25 : ((rd_T23 l0 x4_1).f0) = 3
                · rw [if_pos c25] at H
                  have c25b0 : (((rd_T23 l0 x4_1).f0) == 3) = true := beq_iff_eq.mpr c25
                  have c25b1 : (((rd_T23 l0 x4_1).f0) != 3) = false := bne_eq_false_iff_eq.mpr c25
                  clear c25
                  have H' := Aside0.mk H
                  clear H
                  have p641 : 0 ≤ (x4_1 : Int) := of_decide_eq_true (by first | (with_reducible assumption) | assumption)
                  have q641 : x4_1 < (l0.length : Int) := of_decide_eq_true (by first | (with_reducible assumption) | assumption)
                  obtain ⟨ad641, e641, hx641_0, hx641_1, hx641_2⟩ := at_T23 HR0.out x4_1 p641 q641
                  cases e641
                  replace hx641_0 := (HB.out.cell (World.block_lt_of_cell? w _ hx641_0)).trans hx641_0
                  replace hx641_1 := (HB.out.cell (World.block_lt_of_cell? w _ hx641_1)).trans hx641_1
                  replace hx641_2 := (HB.out.cell (World.block_lt_of_cell? w _ hx641_2)).trans hx641_2
                  replace p641 := eq_true p641
                  replace q641 := eq_true q641
                  go_wp2_with (first | ((with_reducible refine gate_dst (N := 5) rfl ?_); refine box_event ?hg (N := 5) ?hd (cs := #[.int .i64 0, .int .i64 0, .string (⟨#[]⟩ : ByteArray)]) (t := 23) ?hr ?_; (case hd => rfl); (case hg => rfl); (case hr => first | (go_simp; done) | (go_simp; rfl)); intro gb642 hg w26 hbox hb; have n0_ := Aside0.mk (Kd.R_below (by (with_reducible repeat (first | apply Kd.R_alloc | apply Kd.R_drewN | apply Kd.R_drew)); exact HO_3.out) hb); have n1_ := Aside0.mk (below_step (by repeat (first | (with_reducible first | exact HB.out | apply below_alloc | apply pw_below_drewN | apply below_drew1) | exact HB.out)) hb); have n2_ := Aside0.mk (hbox); have n3_ := Aside0.mk ((by rw [hg]; exact (below_size (by repeat (first | (with_reducible first | exact HB.out | apply below_alloc | apply pw_below_drewN | apply below_drew1) | exact HB.out))) : w.heap.size ≤ gb642)); have n4_ := Aside0.mk ((by rw [hg]; exact (below_size (by repeat (first | (with_reducible first | exact HB.out | apply below_alloc | apply pw_below_drewN | apply below_drew1) | exact HB.out))) : w.heap.size ≤ gb642)); clear HO_3; clear HB; have HO_3 := n0_; have HB := n1_; have BK642 := n2_; have GW642 := n3_; have GE642 := n4_; clear n0_ n1_ n2_ n3_ n4_; clear hb hbox hg; have hcz27_0 : w26.cell? ⟨gb642, 0, none⟩ = some (.int .i64 0) := (blk_cell BK642.out 0).trans rfl; have hcz27_1 : w26.cell? ⟨gb642, 1, none⟩ = some (.int .i64 0) := (blk_cell BK642.out 1).trans rfl; have hcz27_2 : w26.cell? ⟨gb642, 2, none⟩ = some (.string (⟨#[]⟩ : ByteArray)) := (blk_cell BK642.out 2).trans rfl; have hfz27_0 := blk_frozen BK642.out 0; have hfz27_1 := blk_frozen BK642.out 1; have hfz27_2 := blk_frozen BK642.out 2) | ((with_reducible refine gate_builtin (b := .append) (xs := #[.tmp 19, .tmp 24]) rfl ?_); at_builtin; refine Kd.R_append (Kd.int .u8) (w0 := w) w.heap.size rfl (.tmp 19) (.tmp 24) 26 5 (.int .u8 0) 1 rfl Try.underlying26 info5 rfl (by decide) (by omega) u3 x3_1 ((wrap64 (((rd_T23 l0 x4_1).f0) + 1)) % 256) [.int .u8 ((wrap64 (((rd_T23 l0 x4_1).f0) + 1)) % 256)] (fun _ => True) (fun _ => False) rfl (by first | (go_simp; done) | (go_simp; rfl)) ?aP (fun _ hk => hk.elim) ?aF ?aO ?aB ?aS ?aL ?_; (case aP => exact rfl); (case aB => exact (by repeat (first | (with_reducible first | exact HB.out | apply below_alloc | apply pw_below_drewN | apply below_drew1 | refine below_set ?_ GE642.out) | exact HB.out))); (case aF => exact (fun _ _ => trivial)); (case aO => exact (by (with_reducible repeat (first | apply Kd.R_alloc | apply Kd.R_drewN | apply Kd.R_drew)); exact Kd.R_mono (Kd.R_far (p := ⟨gb642, 2, none⟩) (Kd.R_far (p := ⟨gb642, 1, none⟩) (Kd.R_far (p := ⟨gb642, 0, none⟩) (Kd.R_types HO_3.out BK642.out (by decide)) (fun _ hk => hk.2) (.int .i64 ((rd_T23 l0 x4_1).f0))) (fun _ hk => hk.2) (.int .i64 ((rd_T23 l0 x4_1).f1))) (fun _ hk => hk.2) (.string ((rd_T23 l0 x4_1).f2))) (fun _ hk => trivial))); (case aS => exact (below_size (by repeat (first | (with_reducible first | exact HB.out | apply below_alloc | apply pw_below_drewN | apply below_drew1 | refine below_set ?_ GE642.out) | exact HB.out)))); (case aL => have := LMc4.out; omega); intro v644 w28 ho hb hg hat; rw [← Ny643.out] at ho; have n0_ := Aside0.mk (blk_grown (g := gb642) (o := .cells #[.int .i64 ((rd_T23 l0 x4_1).f0), .int .i64 ((rd_T23 l0 x4_1).f1), .string ((rd_T23 l0 x4_1).f2)] 23 (0, 0)) (by (with_reducible repeat (first | refine blk_drewN ?_ _ | refine blk_drew ?_ | refine blk_alloc ?_ _)); refine blk_put (cs := #[.int .i64 ((rd_T23 l0 x4_1).f0), .int .i64 ((rd_T23 l0 x4_1).f1), .string (⟨#[]⟩ : ByteArray)]) ?_ 2 _ rfl; (with_reducible repeat (first | refine blk_drewN ?_ _ | refine blk_drew ?_ | refine blk_alloc ?_ _)); refine blk_put (cs := #[.int .i64 ((rd_T23 l0 x4_1).f0), .int .i64 0, .string (⟨#[]⟩ : ByteArray)]) ?_ 1 _ rfl; (with_reducible repeat (first | refine blk_drewN ?_ _ | refine blk_drew ?_ | refine blk_alloc ?_ _)); refine blk_put (cs := #[.int .i64 0, .int .i64 0, .string (⟨#[]⟩ : ByteArray)]) ?_ 0 _ rfl; (with_reducible repeat (first | refine blk_drewN ?_ _ | refine blk_drew ?_ | refine blk_alloc ?_ _)); exact BK642.out) hg (Kd.R_ne HO_3.out BK642.out (by decide))); have n1_ := Aside0.mk (hb); have n2_ := Aside0.mk (ho); clear BK642; clear HB; clear HO_3; have BK642 := n0_; have HB := n1_; have HO645 := n2_; clear n0_ n1_ n2_; clear ho hb hg hat; have hcz29_0 : w28.cell? ⟨gb642, 0, none⟩ = some (.int .i64 ((rd_T23 l0 x4_1).f0)) := (blk_cell BK642.out 0).trans rfl; have hcz29_1 : w28.cell? ⟨gb642, 1, none⟩ = some (.int .i64 ((rd_T23 l0 x4_1).f1)) := (blk_cell BK642.out 1).trans rfl; have hcz29_2 : w28.cell? ⟨gb642, 2, none⟩ = some (.string ((rd_T23 l0 x4_1).f2)) := (blk_cell BK642.out 2).trans rfl; have hfz29_0 := blk_frozen BK642.out 0; have hfz29_1 := blk_frozen BK642.out 1; have hfz29_2 := blk_frozen BK642.out 2))
                  go_loopg [3, 8] k1 (fun kq v3 v8 w' => ∃ (x3_2 : List Int) (x8_2 : Int), v8 = .int .i64 x8_2 ∧ Aside0 (laminaref04_SortKey.l2 kq l0 x3_2 x4_1 x8_2 ((rd_T23 l0 x4_1).f0) ((rd_T23 l0 x4_1).f1) ((rd_T23 l0 x4_1).f2) = some r) ∧ Aside0 (kq ≤ k1) ∧ Aside0 (Kd.R (Kd.int .u8) 5 w' w.heap.size (fun _ => True) v3 x3_2) ∧ Aside0 (w'.heap[gb642]? = some (.cells #[.int .i64 ((rd_T23 l0 x4_1).f0), .int .i64 ((rd_T23 l0 x4_1).f1), .string ((rd_T23 l0 x4_1).f2)] 23 (0, 0))) ∧ Aside0 (Below w.heap.size w w'))
                  case atStart => exact ⟨(y643), (0), (by first | rfl | (simp; done) | (simp [*]; done)), H', ⟨Nat.le_refl _⟩, ⟨by (with_reducible repeat (first | apply Kd.R_alloc | apply Kd.R_drewN | apply Kd.R_drew)); exact HO645.out⟩, ⟨by (with_reducible repeat (first | refine blk_drewN ?_ _ | refine blk_drew ?_ | refine blk_alloc ?_ _)); exact BK642.out⟩, ⟨by repeat (first | (with_reducible first | exact HB.out | apply below_alloc | apply pw_below_drewN | apply below_drew1 | refine below_set ?_ GE642.out) | exact HB.out)⟩⟩
                  case round =>
                    clear H'
                    try clear c1
                    try clear c2
                    try clear c2b0
                    try clear p2
                    try clear c3
                    try clear c3b0
                    try clear c4
                    try clear c5
                    try clear c5b0
                    try clear c5b1
                    try clear c6
                    try clear p6
                    try clear q6
                    try clear hx6
                    try clear c7
                    try clear c12
                    try clear c12b0
                    try clear c12b1
                    try clear c19
                    try clear c19b0
                    try clear c20
                    try clear c20b0
                    try clear c21
                    try clear c21b0
                    try clear c22
                    try clear c25
                    try clear c25b0
                    try clear c25b1
                    try clear hcz10_0
                    try clear hcz10_1
                    try clear hcz10_2
                    try clear hcz15_0
                    try clear hcz15_1
                    try clear hcz15_2
                    try clear hcz17_0
                    try clear hcz17_1
                    try clear hcz17_2
                    try clear hcz27_0
                    try clear hcz27_1
                    try clear hcz27_2
                    try clear hcz29_0
                    try clear hcz29_1
                    try clear hcz29_2
                    try clear hcz8_0
                    try clear hcz8_1
                    try clear hcz8_2
                    try clear hfz10_0
                    try clear hfz10_1
                    try clear hfz10_2
                    try clear hfz15_0
                    try clear hfz15_1
                    try clear hfz15_2
                    try clear hfz17_0
                    try clear hfz17_1
                    try clear hfz17_2
                    try clear hfz27_0
                    try clear hfz27_1
                    try clear hfz27_2
                    try clear hfz29_0
                    try clear hfz29_1
                    try clear hfz29_2
                    try clear hfz8_0
                    try clear hfz8_1
                    try clear hfz8_2
                    try clear hx641_0
                    try clear hx641_1
                    try clear hx641_2
                    try clear hx652_0
                    try clear p2
                    try clear p6
                    try clear p641
                    try clear p652
                    try clear q6
                    try clear q641
                    try clear q652
                    obtain ⟨x3_2, x8_2, rfl, HA, HK2, HO_3, BK642, HB⟩ := hrel
                    cases gk with
                    | zero => exact absurd HA.out (by simp [laminaref04_SortKey.l2])
                    | succ k2 =>
                      have H := HA.out
                      clear HA
                      simp only [laminaref04_SortKey.l2] at H
                      by_cases c30 : x8_2 < (((rd_T23 l0 x4_1).f2).size : Int)
                      · rw [if_pos c30] at H
                        have c30b0 : decide (x8_2 < (((rd_T23 l0 x4_1).f2).size : Int)) = true := decide_eq_true c30
                        clear c30
                        by_cases c31 : 0 ≤ x8_2
                        · rw [if_pos c31] at H
                          have c31b0 : decide (0 ≤ x8_2) = true := decide_eq_true c31
                          clear c31
                          by_cases c33 : x3_2.length < 140737488355328
                          · rw [if_pos c33] at H
                            have LMc33 := Aside0.mk c33
                            clear c33
                            obtain ⟨y656, hy656⟩ : ∃ y_ : List Int, y_ = (x3_2 ++ [bt ((rd_T23 l0 x4_1).f2) x8_2]) := ⟨_, rfl⟩
                            replace H : (if (bt ((rd_T23 l0 x4_1).f2) x8_2) = 0 then (if y656.length < 140737488355328 then (laminaref04_SortKey.l2 k2 l0 (y656 ++ [255]) x4_1 (wrap64 (x8_2 + 1)) ((rd_T23 l0 x4_1).f0) ((rd_T23 l0 x4_1).f1) ((rd_T23 l0 x4_1).f2)) else (none)) else (laminaref04_SortKey.l2 k2 l0 y656 x4_1 (wrap64 (x8_2 + 1)) ((rd_T23 l0 x4_1).f0) ((rd_T23 l0 x4_1).f1) ((rd_T23 l0 x4_1).f2))) = some r := by first | (rw [hy656]; with_reducible exact H) | (have H2_ := (Option.bind_some _ _).symm.trans H; rw [hy656]; with_reducible exact H2_) | (have H2_ := (Option.bind_some _ _).symm.trans H; with_reducible exact H2_) | with_reducible exact H | (rw [hy656]; exact H) | exact H
                            have Ny656 := Aside0.mk hy656
                            clear hy656
                            by_cases c35 : (bt ((rd_T23 l0 x4_1).f2) x8_2) = 0
                            · rw [if_pos c35] at H
                              have c35b0 : ((bt ((rd_T23 l0 x4_1).f2) x8_2) == 0) = true := beq_iff_eq.mpr c35
                              have c35b1 : ((bt ((rd_T23 l0 x4_1).f2) x8_2) != 0) = false := bne_eq_false_iff_eq.mpr c35
                              clear c35
                              by_cases c36 : y656.length < 140737488355328
                              · rw [if_pos c36] at H
                                have LMc36 := Aside0.mk c36
                                clear c36
                                obtain ⟨y659, hy659⟩ : ∃ y_ : List Int, y_ = (y656 ++ [255]) := ⟨_, rfl⟩
                                replace H : (laminaref04_SortKey.l2 k2 l0 y659 x4_1 (wrap64 (x8_2 + 1)) ((rd_T23 l0 x4_1).f0) ((rd_T23 l0 x4_1).f1) ((rd_T23 l0 x4_1).f2)) = some r := by first | (rw [hy659]; with_reducible exact H) | (have H2_ := (Option.bind_some _ _).symm.trans H; rw [hy659]; with_reducible exact H2_) | (have H2_ := (Option.bind_some _ _).symm.trans H; with_reducible exact H2_) | with_reducible exact H | (rw [hy659]; exact H) | exact H
                                have Ny659 := Aside0.mk hy659
                                clear hy659
                                have H' := Aside0.mk H
                                clear H
                                have hcz37_0 : wr.cell? ⟨gb642, 0, none⟩ = some (.int .i64 ((rd_T23 l0 x4_1).f0)) := (blk_cell BK642.out 0).trans rfl
                                have hcz37_1 : wr.cell? ⟨gb642, 1, none⟩ = some (.int .i64 ((rd_T23 l0 x4_1).f1)) := (blk_cell BK642.out 1).trans rfl
                                have hcz37_2 : wr.cell? ⟨gb642, 2, none⟩ = some (.string ((rd_T23 l0 x4_1).f2)) := (blk_cell BK642.out 2).trans rfl
                                have hfz37_0 := blk_frozen BK642.out 0
                                have hfz37_1 := blk_frozen BK642.out 1
                                have hfz37_2 := blk_frozen BK642.out 2
                                have p32 : 0 ≤ (x8_2 : Int) := of_decide_eq_true (by first | (with_reducible assumption) | assumption)
                                have q32 : x8_2 < (((rd_T23 l0 x4_1).f2).size : Int) := of_decide_eq_true (by first | (with_reducible assumption) | assumption)
                                have hx32 := bt_at ((rd_T23 l0 x4_1).f2) x8_2
                                replace p32 := eq_true p32
                                replace q32 := eq_true q32
                                go_wp2_with (first | ((with_reducible refine gate_builtin (b := .append) (xs := #[.tmp 63, .tmp 68]) rfl ?_); at_builtin; refine Kd.R_append (Kd.int .u8) (w0 := w) w.heap.size rfl (.tmp 63) (.tmp 68) 26 5 (.int .u8 0) 1 rfl Try.underlying26 info5 rfl (by decide) (by omega) u3 x3_2 (bt ((rd_T23 l0 x4_1).f2) x8_2) [.int .u8 (bt ((rd_T23 l0 x4_1).f2) x8_2)] (fun _ => True) (fun _ => False) rfl rfl ?aP (fun _ hk => hk.elim) ?aF ?aO ?aB ?aS ?aL ?_; (case aP => exact rfl); (case aB => exact (by repeat (first | (with_reducible first | exact HB.out | apply below_alloc | apply pw_below_drewN | apply below_drew1 | refine below_set ?_ GE642.out) | exact HB.out))); (case aF => exact (fun _ _ => trivial)); (case aO => exact (by (with_reducible repeat (first | apply Kd.R_alloc | apply Kd.R_drewN | apply Kd.R_drew)); exact HO_3.out)); (case aS => exact (below_size (by repeat (first | (with_reducible first | exact HB.out | apply below_alloc | apply pw_below_drewN | apply below_drew1 | refine below_set ?_ GE642.out) | exact HB.out)))); (case aL => have := LMc33.out; omega); intro v657 w38 ho hb hg hat; rw [← Ny656.out] at ho; have n0_ := Aside0.mk (blk_grown (g := gb642) (o := .cells #[.int .i64 ((rd_T23 l0 x4_1).f0), .int .i64 ((rd_T23 l0 x4_1).f1), .string ((rd_T23 l0 x4_1).f2)] 23 (0, 0)) (by (with_reducible repeat (first | refine blk_drewN ?_ _ | refine blk_drew ?_ | refine blk_alloc ?_ _)); exact BK642.out) hg (Kd.R_ne HO_3.out BK642.out (by decide))); have n1_ := Aside0.mk (hb); have n2_ := Aside0.mk (ho); clear BK642; clear HB; clear HO_3; have BK642 := n0_; have HB := n1_; have HO658 := n2_; clear n0_ n1_ n2_; clear ho hb hg hat; have hcz39_0 : w38.cell? ⟨gb642, 0, none⟩ = some (.int .i64 ((rd_T23 l0 x4_1).f0)) := (blk_cell BK642.out 0).trans rfl; have hcz39_1 : w38.cell? ⟨gb642, 1, none⟩ = some (.int .i64 ((rd_T23 l0 x4_1).f1)) := (blk_cell BK642.out 1).trans rfl; have hcz39_2 : w38.cell? ⟨gb642, 2, none⟩ = some (.string ((rd_T23 l0 x4_1).f2)) := (blk_cell BK642.out 2).trans rfl; have hfz39_0 := blk_frozen BK642.out 0; have hfz39_1 := blk_frozen BK642.out 1; have hfz39_2 := blk_frozen BK642.out 2; have p34 : 0 ≤ (x8_2 : Int) := of_decide_eq_true (by first | (with_reducible assumption) | assumption); have q34 : x8_2 < (((rd_T23 l0 x4_1).f2).size : Int) := of_decide_eq_true (by first | (with_reducible assumption) | assumption); have hx34 := bt_at ((rd_T23 l0 x4_1).f2) x8_2; replace p34 := eq_true p34; replace q34 := eq_true q34) | ((with_reducible refine gate_builtin (b := .append) (xs := #[.tmp 75, .tmp 76]) rfl ?_); at_builtin; refine Kd.R_append (Kd.int .u8) (w0 := w) w.heap.size rfl (.tmp 75) (.tmp 76) 26 5 (.int .u8 0) 1 rfl Try.underlying26 info5 rfl (by decide) (by omega) v657 y656 255 [.int .u8 255] (fun _ => True) (fun _ => False) rfl rfl ?aP (fun _ hk => hk.elim) ?aF ?aO ?aB ?aS ?aL ?_; (case aP => exact rfl); (case aB => exact (by repeat (first | (with_reducible first | exact HB.out | apply below_alloc | apply pw_below_drewN | apply below_drew1 | refine below_set ?_ GE642.out) | exact HB.out))); (case aF => exact (fun _ _ => trivial)); (case aO => exact (by (with_reducible repeat (first | apply Kd.R_alloc | apply Kd.R_drewN | apply Kd.R_drew)); exact HO658.out)); (case aS => exact (below_size (by repeat (first | (with_reducible first | exact HB.out | apply below_alloc | apply pw_below_drewN | apply below_drew1 | refine below_set ?_ GE642.out) | exact HB.out)))); (case aL => have := LMc36.out; omega); intro v660 w40 ho hb hg hat; rw [← Ny659.out] at ho; have n0_ := Aside0.mk (blk_grown (g := gb642) (o := .cells #[.int .i64 ((rd_T23 l0 x4_1).f0), .int .i64 ((rd_T23 l0 x4_1).f1), .string ((rd_T23 l0 x4_1).f2)] 23 (0, 0)) (by (with_reducible repeat (first | refine blk_drewN ?_ _ | refine blk_drew ?_ | refine blk_alloc ?_ _)); exact BK642.out) hg (Kd.R_ne HO658.out BK642.out (by decide))); have n1_ := Aside0.mk (hb); have n2_ := Aside0.mk (ho); clear BK642; clear HB; clear HO658; have BK642 := n0_; have HB := n1_; have HO661 := n2_; clear n0_ n1_ n2_; clear ho hb hg hat))
                                go_roundg k2
                                case measure => have := HK1.out; have := HK2.out; omega
                                case rel => exact ⟨(y659), (wrap64 (x8_2 + 1)), (by first | rfl | (simp; done) | (simp [*]; done)), H', ⟨by have := HK1.out; have := HK2.out; omega⟩, ⟨by (with_reducible repeat (first | apply Kd.R_alloc | apply Kd.R_drewN | apply Kd.R_drew)); exact HO661.out⟩, ⟨by (with_reducible repeat (first | refine blk_drewN ?_ _ | refine blk_drew ?_ | refine blk_alloc ?_ _)); exact BK642.out⟩, ⟨by repeat (first | (with_reducible first | exact HB.out | apply below_alloc | apply pw_below_drewN | apply below_drew1 | refine below_set ?_ GE642.out) | exact HB.out)⟩⟩
                              · rw [if_neg c36] at H
                                exact absurd H (by simp)
                            · rw [if_neg c35] at H
                              have c35b0 : ((bt ((rd_T23 l0 x4_1).f2) x8_2) == 0) = false := beq_eq_false_iff_ne.mpr c35
                              have c35b1 : ((bt ((rd_T23 l0 x4_1).f2) x8_2) != 0) = true := bne_iff_ne.mpr c35
                              have H' := Aside0.mk H
                              clear H
                              have hcz41_0 : wr.cell? ⟨gb642, 0, none⟩ = some (.int .i64 ((rd_T23 l0 x4_1).f0)) := (blk_cell BK642.out 0).trans rfl
                              have hcz41_1 : wr.cell? ⟨gb642, 1, none⟩ = some (.int .i64 ((rd_T23 l0 x4_1).f1)) := (blk_cell BK642.out 1).trans rfl
                              have hcz41_2 : wr.cell? ⟨gb642, 2, none⟩ = some (.string ((rd_T23 l0 x4_1).f2)) := (blk_cell BK642.out 2).trans rfl
                              have hfz41_0 := blk_frozen BK642.out 0
                              have hfz41_1 := blk_frozen BK642.out 1
                              have hfz41_2 := blk_frozen BK642.out 2
                              have p32 : 0 ≤ (x8_2 : Int) := of_decide_eq_true (by first | (with_reducible assumption) | assumption)
                              have q32 : x8_2 < (((rd_T23 l0 x4_1).f2).size : Int) := of_decide_eq_true (by first | (with_reducible assumption) | assumption)
                              have hx32 := bt_at ((rd_T23 l0 x4_1).f2) x8_2
                              replace p32 := eq_true p32
                              replace q32 := eq_true q32
                              go_wp2_with (first | ((with_reducible refine gate_builtin (b := .append) (xs := #[.tmp 63, .tmp 68]) rfl ?_); at_builtin; refine Kd.R_append (Kd.int .u8) (w0 := w) w.heap.size rfl (.tmp 63) (.tmp 68) 26 5 (.int .u8 0) 1 rfl Try.underlying26 info5 rfl (by decide) (by omega) u3 x3_2 (bt ((rd_T23 l0 x4_1).f2) x8_2) [.int .u8 (bt ((rd_T23 l0 x4_1).f2) x8_2)] (fun _ => True) (fun _ => False) rfl rfl ?aP (fun _ hk => hk.elim) ?aF ?aO ?aB ?aS ?aL ?_; (case aP => exact rfl); (case aB => exact (by repeat (first | (with_reducible first | exact HB.out | apply below_alloc | apply pw_below_drewN | apply below_drew1 | refine below_set ?_ GE642.out) | exact HB.out))); (case aF => exact (fun _ _ => trivial)); (case aO => exact (by (with_reducible repeat (first | apply Kd.R_alloc | apply Kd.R_drewN | apply Kd.R_drew)); exact HO_3.out)); (case aS => exact (below_size (by repeat (first | (with_reducible first | exact HB.out | apply below_alloc | apply pw_below_drewN | apply below_drew1 | refine below_set ?_ GE642.out) | exact HB.out)))); (case aL => have := LMc33.out; omega); intro v657 w42 ho hb hg hat; rw [← Ny656.out] at ho; have n0_ := Aside0.mk (blk_grown (g := gb642) (o := .cells #[.int .i64 ((rd_T23 l0 x4_1).f0), .int .i64 ((rd_T23 l0 x4_1).f1), .string ((rd_T23 l0 x4_1).f2)] 23 (0, 0)) (by (with_reducible repeat (first | refine blk_drewN ?_ _ | refine blk_drew ?_ | refine blk_alloc ?_ _)); exact BK642.out) hg (Kd.R_ne HO_3.out BK642.out (by decide))); have n1_ := Aside0.mk (hb); have n2_ := Aside0.mk (ho); clear BK642; clear HB; clear HO_3; have BK642 := n0_; have HB := n1_; have HO658 := n2_; clear n0_ n1_ n2_; clear ho hb hg hat; have hcz43_0 : w42.cell? ⟨gb642, 0, none⟩ = some (.int .i64 ((rd_T23 l0 x4_1).f0)) := (blk_cell BK642.out 0).trans rfl; have hcz43_1 : w42.cell? ⟨gb642, 1, none⟩ = some (.int .i64 ((rd_T23 l0 x4_1).f1)) := (blk_cell BK642.out 1).trans rfl; have hcz43_2 : w42.cell? ⟨gb642, 2, none⟩ = some (.string ((rd_T23 l0 x4_1).f2)) := (blk_cell BK642.out 2).trans rfl; have hfz43_0 := blk_frozen BK642.out 0; have hfz43_1 := blk_frozen BK642.out 1; have hfz43_2 := blk_frozen BK642.out 2; have p34 : 0 ≤ (x8_2 : Int) := of_decide_eq_true (by first | (with_reducible assumption) | assumption); have q34 : x8_2 < (((rd_T23 l0 x4_1).f2).size : Int) := of_decide_eq_true (by first | (with_reducible assumption) | assumption); have hx34 := bt_at ((rd_T23 l0 x4_1).f2) x8_2; replace p34 := eq_true p34; replace q34 := eq_true q34))
                              go_roundg k2
                              case measure => have := HK1.out; have := HK2.out; omega
                              case rel => exact ⟨(y656), (wrap64 (x8_2 + 1)), (by first | rfl | (simp; done) | (simp [*]; done)), H', ⟨by have := HK1.out; have := HK2.out; omega⟩, ⟨by (with_reducible repeat (first | apply Kd.R_alloc | apply Kd.R_drewN | apply Kd.R_drew)); exact HO658.out⟩, ⟨by (with_reducible repeat (first | refine blk_drewN ?_ _ | refine blk_drew ?_ | refine blk_alloc ?_ _)); exact BK642.out⟩, ⟨by repeat (first | (with_reducible first | exact HB.out | apply below_alloc | apply pw_below_drewN | apply below_drew1 | refine below_set ?_ GE642.out) | exact HB.out)⟩⟩
                          · rw [if_neg c33] at H
                            exact absurd H (by simp)
                        · rw [if_neg c31] at H
                          exact absurd H (by simp)
                      · rw [if_neg c30] at H
                        have c30b0 : decide (x8_2 < (((rd_T23 l0 x4_1).f2).size : Int)) = false := decide_eq_false c30
                        clear c30
                        by_cases c44 : x3_2.length < 140737488355328
                        · rw [if_pos c44] at H
                          have LMc44 := Aside0.mk c44
                          clear c44
                          obtain ⟨y662, hy662⟩ : ∃ y_ : List Int, y_ = (x3_2 ++ [0]) := ⟨_, rfl⟩
                          replace H : (if y662.length < 140737488355328 then (laminaref04_SortKey.l0 k2 l0 (y662 ++ [0]) (wrap64 (x4_1 + 1))) else (none)) = some r := by first | (rw [hy662]; with_reducible exact H) | (have H2_ := (Option.bind_some _ _).symm.trans H; rw [hy662]; with_reducible exact H2_) | (have H2_ := (Option.bind_some _ _).symm.trans H; with_reducible exact H2_) | with_reducible exact H | (rw [hy662]; exact H) | exact H
                          have Ny662 := Aside0.mk hy662
                          clear hy662
                          by_cases c45 : y662.length < 140737488355328
                          · rw [if_pos c45] at H
                            have LMc45 := Aside0.mk c45
                            clear c45
                            obtain ⟨y665, hy665⟩ : ∃ y_ : List Int, y_ = (y662 ++ [0]) := ⟨_, rfl⟩
                            replace H : (laminaref04_SortKey.l0 k2 l0 y665 (wrap64 (x4_1 + 1))) = some r := by first | (rw [hy665]; with_reducible exact H) | (have H2_ := (Option.bind_some _ _).symm.trans H; rw [hy665]; with_reducible exact H2_) | (have H2_ := (Option.bind_some _ _).symm.trans H; with_reducible exact H2_) | with_reducible exact H | (rw [hy665]; exact H) | exact H
                            have Ny665 := Aside0.mk hy665
                            clear hy665
                            have H' := Aside0.mk H
                            clear H
                            have hcz46_0 : wr.cell? ⟨gb642, 0, none⟩ = some (.int .i64 ((rd_T23 l0 x4_1).f0)) := (blk_cell BK642.out 0).trans rfl
                            have hcz46_1 : wr.cell? ⟨gb642, 1, none⟩ = some (.int .i64 ((rd_T23 l0 x4_1).f1)) := (blk_cell BK642.out 1).trans rfl
                            have hcz46_2 : wr.cell? ⟨gb642, 2, none⟩ = some (.string ((rd_T23 l0 x4_1).f2)) := (blk_cell BK642.out 2).trans rfl
                            have hfz46_0 := blk_frozen BK642.out 0
                            have hfz46_1 := blk_frozen BK642.out 1
                            have hfz46_2 := blk_frozen BK642.out 2
                            go_wp2_with (first | ((with_reducible refine gate_builtin (b := .append) (xs := #[.tmp 78, .tmp 79]) rfl ?_); at_builtin; refine Kd.R_append (Kd.int .u8) (w0 := w) w.heap.size rfl (.tmp 78) (.tmp 79) 26 5 (.int .u8 0) 1 rfl Try.underlying26 info5 rfl (by decide) (by omega) u3 x3_2 0 [.int .u8 0] (fun _ => True) (fun _ => False) rfl rfl ?aP (fun _ hk => hk.elim) ?aF ?aO ?aB ?aS ?aL ?_; (case aP => exact rfl); (case aB => exact (by repeat (first | (with_reducible first | exact HB.out | apply below_alloc | apply pw_below_drewN | apply below_drew1 | refine below_set ?_ GE642.out) | exact HB.out))); (case aF => exact (fun _ _ => trivial)); (case aO => exact (by (with_reducible repeat (first | apply Kd.R_alloc | apply Kd.R_drewN | apply Kd.R_drew)); exact HO_3.out)); (case aS => exact (below_size (by repeat (first | (with_reducible first | exact HB.out | apply below_alloc | apply pw_below_drewN | apply below_drew1 | refine below_set ?_ GE642.out) | exact HB.out)))); (case aL => have := LMc44.out; omega); intro v663 w47 ho hb hg hat; rw [← Ny662.out] at ho; have n0_ := Aside0.mk (blk_grown (g := gb642) (o := .cells #[.int .i64 ((rd_T23 l0 x4_1).f0), .int .i64 ((rd_T23 l0 x4_1).f1), .string ((rd_T23 l0 x4_1).f2)] 23 (0, 0)) (by (with_reducible repeat (first | refine blk_drewN ?_ _ | refine blk_drew ?_ | refine blk_alloc ?_ _)); exact BK642.out) hg (Kd.R_ne HO_3.out BK642.out (by decide))); have n1_ := Aside0.mk (hb); have n2_ := Aside0.mk (ho); clear BK642; clear HB; clear HO_3; have BK642 := n0_; have HB := n1_; have HO664 := n2_; clear n0_ n1_ n2_; clear ho hb hg hat) | ((with_reducible refine gate_builtin (b := .append) (xs := #[.tmp 81, .tmp 82]) rfl ?_); at_builtin; refine Kd.R_append (Kd.int .u8) (w0 := w) w.heap.size rfl (.tmp 81) (.tmp 82) 26 5 (.int .u8 0) 1 rfl Try.underlying26 info5 rfl (by decide) (by omega) v663 y662 0 [.int .u8 0] (fun _ => True) (fun _ => False) rfl rfl ?aP (fun _ hk => hk.elim) ?aF ?aO ?aB ?aS ?aL ?_; (case aP => exact rfl); (case aB => exact (by repeat (first | (with_reducible first | exact HB.out | apply below_alloc | apply pw_below_drewN | apply below_drew1 | refine below_set ?_ GE642.out) | exact HB.out))); (case aF => exact (fun _ _ => trivial)); (case aO => exact (by (with_reducible repeat (first | apply Kd.R_alloc | apply Kd.R_drewN | apply Kd.R_drew)); exact HO664.out)); (case aS => exact (below_size (by repeat (first | (with_reducible first | exact HB.out | apply below_alloc | apply pw_below_drewN | apply below_drew1 | refine below_set ?_ GE642.out) | exact HB.out)))); (case aL => have := LMc45.out; omega); intro v666 w48 ho hb hg hat; rw [← Ny665.out] at ho; have n0_ := Aside0.mk (blk_grown (g := gb642) (o := .cells #[.int .i64 ((rd_T23 l0 x4_1).f0), .int .i64 ((rd_T23 l0 x4_1).f1), .string ((rd_T23 l0 x4_1).f2)] 23 (0, 0)) (by (with_reducible repeat (first | refine blk_drewN ?_ _ | refine blk_drew ?_ | refine blk_alloc ?_ _)); exact BK642.out) hg (Kd.R_ne HO664.out BK642.out (by decide))); have n1_ := Aside0.mk (hb); have n2_ := Aside0.mk (ho); clear BK642; clear HB; clear HO664; have BK642 := n0_; have HB := n1_; have HO667 := n2_; clear n0_ n1_ n2_; clear ho hb hg hat))
                            go_roundg k2
                            case measure => have := HK1.out; have := HK2.out; omega
                            case rel => exact ⟨(y665), (wrap64 (x4_1 + 1)), (by first | rfl | (simp; done) | (simp [*]; done)), H', ⟨by have := HK1.out; have := HK2.out; omega⟩, ⟨by (with_reducible repeat (first | apply Kd.R_alloc | apply Kd.R_drewN | apply Kd.R_drew)); exact HO667.out⟩, ⟨by repeat (first | (with_reducible first | exact HB.out | apply below_alloc | apply pw_below_drewN | apply below_drew1 | refine below_set ?_ GE642.out) | exact HB.out)⟩⟩
                          · rw [if_neg c45] at H
                            exact absurd H (by simp)
                        · rw [if_neg c44] at H
                          exact absurd H (by simp)
                · rw [if_neg c25] at H
                  have c25b0 : (((rd_T23 l0 x4_1).f0) == 3) = false := beq_eq_false_iff_ne.mpr c25
                  have c25b1 : (((rd_T23 l0 x4_1).f0) != 3) = true := bne_iff_ne.mpr c25
                  have H' := Aside0.mk H
                  clear H
                  have p641 : 0 ≤ (x4_1 : Int) := of_decide_eq_true (by first | (with_reducible assumption) | assumption)
                  have q641 : x4_1 < (l0.length : Int) := of_decide_eq_true (by first | (with_reducible assumption) | assumption)
                  obtain ⟨ad641, e641, hx641_0, hx641_1, hx641_2⟩ := at_T23 HR0.out x4_1 p641 q641
                  cases e641
                  replace hx641_0 := (HB.out.cell (World.block_lt_of_cell? w _ hx641_0)).trans hx641_0
                  replace hx641_1 := (HB.out.cell (World.block_lt_of_cell? w _ hx641_1)).trans hx641_1
                  replace hx641_2 := (HB.out.cell (World.block_lt_of_cell? w _ hx641_2)).trans hx641_2
                  replace p641 := eq_true p641
                  replace q641 := eq_true q641
                  go_wp2_with (first | ((with_reducible refine gate_dst (N := 5) rfl ?_); refine box_event ?hg (N := 5) ?hd (cs := #[.int .i64 0, .int .i64 0, .string (⟨#[]⟩ : ByteArray)]) (t := 23) ?hr ?_; (case hd => rfl); (case hg => rfl); (case hr => first | (go_simp; done) | (go_simp; rfl)); intro gb642 hg w49 hbox hb; have n0_ := Aside0.mk (Kd.R_below (by (with_reducible repeat (first | apply Kd.R_alloc | apply Kd.R_drewN | apply Kd.R_drew)); exact HO_3.out) hb); have n1_ := Aside0.mk (below_step (by repeat (first | (with_reducible first | exact HB.out | apply below_alloc | apply pw_below_drewN | apply below_drew1) | exact HB.out)) hb); have n2_ := Aside0.mk (hbox); have n3_ := Aside0.mk ((by rw [hg]; exact (below_size (by repeat (first | (with_reducible first | exact HB.out | apply below_alloc | apply pw_below_drewN | apply below_drew1) | exact HB.out))) : w.heap.size ≤ gb642)); have n4_ := Aside0.mk ((by rw [hg]; exact (below_size (by repeat (first | (with_reducible first | exact HB.out | apply below_alloc | apply pw_below_drewN | apply below_drew1) | exact HB.out))) : w.heap.size ≤ gb642)); clear HO_3; clear HB; have HO_3 := n0_; have HB := n1_; have BK642 := n2_; have GW642 := n3_; have GE642 := n4_; clear n0_ n1_ n2_ n3_ n4_; clear hb hbox hg; have hcz50_0 : w49.cell? ⟨gb642, 0, none⟩ = some (.int .i64 0) := (blk_cell BK642.out 0).trans rfl; have hcz50_1 : w49.cell? ⟨gb642, 1, none⟩ = some (.int .i64 0) := (blk_cell BK642.out 1).trans rfl; have hcz50_2 : w49.cell? ⟨gb642, 2, none⟩ = some (.string (⟨#[]⟩ : ByteArray)) := (blk_cell BK642.out 2).trans rfl; have hfz50_0 := blk_frozen BK642.out 0; have hfz50_1 := blk_frozen BK642.out 1; have hfz50_2 := blk_frozen BK642.out 2) | ((with_reducible refine gate_builtin (b := .append) (xs := #[.tmp 19, .tmp 24]) rfl ?_); at_builtin; refine Kd.R_append (Kd.int .u8) (w0 := w) w.heap.size rfl (.tmp 19) (.tmp 24) 26 5 (.int .u8 0) 1 rfl Try.underlying26 info5 rfl (by decide) (by omega) u3 x3_1 ((wrap64 (((rd_T23 l0 x4_1).f0) + 1)) % 256) [.int .u8 ((wrap64 (((rd_T23 l0 x4_1).f0) + 1)) % 256)] (fun _ => True) (fun _ => False) rfl (by first | (go_simp; done) | (go_simp; rfl)) ?aP (fun _ hk => hk.elim) ?aF ?aO ?aB ?aS ?aL ?_; (case aP => exact rfl); (case aB => exact (by repeat (first | (with_reducible first | exact HB.out | apply below_alloc | apply pw_below_drewN | apply below_drew1 | refine below_set ?_ GE642.out) | exact HB.out))); (case aF => exact (fun _ _ => trivial)); (case aO => exact (by (with_reducible repeat (first | apply Kd.R_alloc | apply Kd.R_drewN | apply Kd.R_drew)); exact Kd.R_mono (Kd.R_far (p := ⟨gb642, 2, none⟩) (Kd.R_far (p := ⟨gb642, 1, none⟩) (Kd.R_far (p := ⟨gb642, 0, none⟩) (Kd.R_types HO_3.out BK642.out (by decide)) (fun _ hk => hk.2) (.int .i64 ((rd_T23 l0 x4_1).f0))) (fun _ hk => hk.2) (.int .i64 ((rd_T23 l0 x4_1).f1))) (fun _ hk => hk.2) (.string ((rd_T23 l0 x4_1).f2))) (fun _ hk => trivial))); (case aS => exact (below_size (by repeat (first | (with_reducible first | exact HB.out | apply below_alloc | apply pw_below_drewN | apply below_drew1 | refine below_set ?_ GE642.out) | exact HB.out)))); (case aL => have := LMc4.out; omega); intro v644 w51 ho hb hg hat; rw [← Ny643.out] at ho; have n0_ := Aside0.mk (blk_grown (g := gb642) (o := .cells #[.int .i64 ((rd_T23 l0 x4_1).f0), .int .i64 ((rd_T23 l0 x4_1).f1), .string ((rd_T23 l0 x4_1).f2)] 23 (0, 0)) (by (with_reducible repeat (first | refine blk_drewN ?_ _ | refine blk_drew ?_ | refine blk_alloc ?_ _)); refine blk_put (cs := #[.int .i64 ((rd_T23 l0 x4_1).f0), .int .i64 ((rd_T23 l0 x4_1).f1), .string (⟨#[]⟩ : ByteArray)]) ?_ 2 _ rfl; (with_reducible repeat (first | refine blk_drewN ?_ _ | refine blk_drew ?_ | refine blk_alloc ?_ _)); refine blk_put (cs := #[.int .i64 ((rd_T23 l0 x4_1).f0), .int .i64 0, .string (⟨#[]⟩ : ByteArray)]) ?_ 1 _ rfl; (with_reducible repeat (first | refine blk_drewN ?_ _ | refine blk_drew ?_ | refine blk_alloc ?_ _)); refine blk_put (cs := #[.int .i64 0, .int .i64 0, .string (⟨#[]⟩ : ByteArray)]) ?_ 0 _ rfl; (with_reducible repeat (first | refine blk_drewN ?_ _ | refine blk_drew ?_ | refine blk_alloc ?_ _)); exact BK642.out) hg (Kd.R_ne HO_3.out BK642.out (by decide))); have n1_ := Aside0.mk (hb); have n2_ := Aside0.mk (ho); clear BK642; clear HB; clear HO_3; have BK642 := n0_; have HB := n1_; have HO645 := n2_; clear n0_ n1_ n2_; clear ho hb hg hat; have hcz52_0 : w51.cell? ⟨gb642, 0, none⟩ = some (.int .i64 ((rd_T23 l0 x4_1).f0)) := (blk_cell BK642.out 0).trans rfl; have hcz52_1 : w51.cell? ⟨gb642, 1, none⟩ = some (.int .i64 ((rd_T23 l0 x4_1).f1)) := (blk_cell BK642.out 1).trans rfl; have hcz52_2 : w51.cell? ⟨gb642, 2, none⟩ = some (.string ((rd_T23 l0 x4_1).f2)) := (blk_cell BK642.out 2).trans rfl; have hfz52_0 := blk_frozen BK642.out 0; have hfz52_1 := blk_frozen BK642.out 1; have hfz52_2 := blk_frozen BK642.out 2))
                  go_roundg k1
                  case measure => have := HK1.out; omega
                  case rel => exact ⟨(y643), (wrap64 (x4_1 + 1)), (by first | rfl | (simp; done) | (simp [*]; done)), H', ⟨by have := HK1.out; omega⟩, ⟨by (with_reducible repeat (first | apply Kd.R_alloc | apply Kd.R_drewN | apply Kd.R_drew)); exact HO645.out⟩, ⟨by repeat (first | (with_reducible first | exact HB.out | apply below_alloc | apply pw_below_drewN | apply below_drew1 | refine below_set ?_ GE642.out) | exact HB.out)⟩⟩
          · rw [if_neg c4] at H
            exact absurd H (by simp)
        · rw [if_neg c3] at H
          exact absurd H (by simp)
      · rw [if_neg c2] at H
        have c2b0 : decide (x4_1 < (l0.length : Int)) = false := decide_eq_false c2
        clear c2
        obtain rfl := Option.some.inj H
        go_wp2
        go_ret
        exact ⟨_, by first | rfl | (simp [errW_none, errW_some] <;> rfl) | (simp [*, errW_none, errW_some] <;> rfl), by (with_reducible repeat (first | apply Kd.R_alloc | apply Kd.R_drewN | apply Kd.R_drew)); exact HO_3.out, by repeat (first | (with_reducible first | exact HB.out | apply below_alloc | apply pw_below_drewN | apply below_drew1) | exact HB.out)⟩

end Go.Proofs.Ytiklldjfcdblbaa.P
