/- What Go functions of the given program return, told as Lean functions, and the walks that show it, with plain facts on them: laminalaw16_SketchValid, Kinds, V0, V1, V2, PureSketchValid. Conditions: the hypotheses that stand at each theorem. -/
import Derived.Test.YtackcingpffidaaReads
import Derived.Test.YtackcingpffidaaZv0
import Derived.Test.YtackcingpffidaaZv1
import Derived.Test.YtackcingpffidaaZv8
import Derived.Test.YtackcingpffidaaZv11
namespace Go.Proofs.Ytackcingpffidaa.P
open Go.RowKit Go.Proofs.YtackcingpffidaaW.PrintWords Go.Proofs.YtackcingpffidaaW.PrintLast Go.Proofs.YtackcingpffidaaW.PrintMore
attribute [local go_sem] max2_int min2_int max_two min_two max_three min_three max_four min_four Go.Proofs.YtackcingpffidaaQ.str_gtr Go.Proofs.YtackcingpffidaaQ.str_leq Go.Proofs.YtackcingpffidaaQ.str_geq   -- for this text's walks alone
set_option linter.unusedVariables false
set_option linter.unusedSimpArgs false
/-! ### laminalaw16_SketchValid: function 5 -/
def laminalaw16_SketchValid.j0 : Nat → Bool → Int → Int → List Int → Bool → List Int → List (S39) → List Int → Option (Bool)
  | 0, _, _, _, _, _, _, _, _ => none
  | k + 1, x24, x727000, x727001, x727002, x727003, x727004, x727005, x727006 => if x24 = true then ((laminalaw16_awake.f k).bind fun t727 => (some t727)) else ((sketch_Valid.f k x727000 x727001 x727002 x727003 x727004 x727005 x727006).bind fun t728 => ((laminaref16_Valid.f k x727000 x727001 x727002 x727003 x727004 x727005 x727006).bind fun t729 => (if (t728 == t729) = true then ((laminalaw16_awake.f k).bind fun t730 => (some t730)) else (some false))))
def laminalaw16_SketchValid.f (k : Nat) (a0_0 : Int) (a0_1 : Int) (l0_2 : List Int) (a0_3 : Bool) (l0_4 : List Int) (l0_5 : List (S39)) (l0_6 : List Int) : Option (Bool) := if (l0_2.length : Int) > 100 then (laminalaw16_SketchValid.j0 k true a0_0 a0_1 l0_2 a0_3 l0_4 l0_5 l0_6) else (if (l0_4.length : Int) > 1000 then (laminalaw16_SketchValid.j0 k true a0_0 a0_1 l0_2 a0_3 l0_4 l0_5 l0_6) else (if (l0_5.length : Int) > 100 then (laminalaw16_SketchValid.j0 k true a0_0 a0_1 l0_2 a0_3 l0_4 l0_5 l0_6) else (laminalaw16_SketchValid.j0 k (decide ((l0_6.length : Int) > 200)) a0_0 a0_1 l0_2 a0_3 l0_4 l0_5 l0_6)))
theorem laminalaw16_SketchValid.mono_l : ∀ k, (∀ y0 y1 y2 y3 y4 y5 y6 y7, LeO (laminalaw16_SketchValid.j0 k y0 y1 y2 y3 y4 y5 y6 y7) (laminalaw16_SketchValid.j0 (k + 1) y0 y1 y2 y3 y4 y5 y6 y7))
  | 0 => fun _ _ _ _ _ _ _ _ r h => by simp [laminalaw16_SketchValid.j0] at h
  | k + 1 => by
    have ih0 := laminalaw16_SketchValid.mono_l k
    · intro y0 y1 y2 y3 y4 y5 y6 y7
      unfold laminalaw16_SketchValid.j0
      repeat' first
      | (with_reducible exact ih0 _ _ _ _ _ _ _ _)
      | (with_reducible exact laminalaw16_awake.mono _)
      | (with_reducible exact laminaref16_Valid.mono _ _ _ _ _ _ _ _)
      | (with_reducible exact sketch_Valid.mono _ _ _ _ _ _ _ _)
      | (with_reducible exact LeO.refl _)
      | (with_reducible exact LeO.none _)
      | (with_reducible refine LeO.ite ?_ ?_)
      | (with_reducible refine LeO.bind ?_ (fun _ => ?_))
      | exact ih0 _ _ _ _ _ _ _ _
      | exact laminalaw16_awake.mono _
      | exact laminaref16_Valid.mono _ _ _ _ _ _ _ _
      | exact sketch_Valid.mono _ _ _ _ _ _ _ _
      | exact LeO.none _
      | refine LeO.ite ?_ ?_
      | refine LeO.bind ?_ (fun _ => ?_)
theorem laminalaw16_SketchValid.mono : ∀ a0 a1 a2 a3 a4 a5 a6 k, LeO (laminalaw16_SketchValid.f k a0 a1 a2 a3 a4 a5 a6) (laminalaw16_SketchValid.f (k + 1) a0 a1 a2 a3 a4 a5 a6) := by
  intro a0 a1 a2 a3 a4 a5 a6 k
  have ih0 := laminalaw16_SketchValid.mono_l k
  unfold laminalaw16_SketchValid.f
  repeat' first
      | (with_reducible exact ih0 _ _ _ _ _ _ _ _)
      | (with_reducible exact laminalaw16_awake.mono _)
      | (with_reducible exact laminaref16_Valid.mono _ _ _ _ _ _ _ _)
      | (with_reducible exact sketch_Valid.mono _ _ _ _ _ _ _ _)
      | (with_reducible exact LeO.refl _)
      | (with_reducible exact LeO.none _)
      | (with_reducible refine LeO.ite ?_ ?_)
      | (with_reducible refine LeO.bind ?_ (fun _ => ?_))
      | exact ih0 _ _ _ _ _ _ _ _
      | exact laminalaw16_awake.mono _
      | exact laminaref16_Valid.mono _ _ _ _ _ _ _ _
      | exact sketch_Valid.mono _ _ _ _ _ _ _ _
      | exact LeO.none _
      | refine LeO.ite ?_ ?_
      | refine LeO.bind ?_ (fun _ => ?_)
def laminalaw16_SketchValid.T3 : Bool × List (List Nat × List Nat) := (true, [([], []), ([0], [0]), ([], []), ([2, 1], [2]), ([1, 3], [1, 3]), ([4, 3], [4]), ([5, 5], [5]), ([5, 6], [5, 6]), ([7, 6, 0, 1, 2, 3, 4, 5, 6, 7], [7])])
def laminalaw16_SketchValid.B3 : List Nat := [0, 1, 0, 7, 15, 31, 63, 127, 255]
theorem laminalaw16_SketchValid.tab3 : rtab .any (opsOf Try.f5 3) = laminalaw16_SketchValid.T3 := by kernel_rfl
theorem laminalaw16_SketchValid.bits3 : waitsOk laminalaw16_SketchValid.T3.2 laminalaw16_SketchValid.B3 = true := by kernel_rfl
set_option maxHeartbeats 8000000 in
set_option maxRecDepth 100000 in
theorem laminalaw16_SketchValid.calls (k : Nat) (a0_0 : Int) (a0_1 : Int) (A0_2 : Option Addr) (c0_2 : Nat) (l0_2 : List Int) (a0_3 : Bool) (A0_4 : Option Addr) (c0_4 : Nat) (l0_4 : List Int) (A0_5 : Option Addr) (c0_5 : Nat) (l0_5 : List (S39)) (A0_6 : Option Addr) (c0_6 : Nat) (l0_6 : List Int) (r : Bool) (w : World) (hr0_2 : Kd.C (Kd.int .u64) w A0_2 l0_2.length l0_2) (hc0_2 : l0_2.length ≤ c0_2) (hr0_4 : Kd.C (Kd.int .i64) w A0_4 l0_4.length l0_4) (hc0_4 : l0_4.length ≤ c0_4) (hr0_5 : Kd.C k39 w A0_5 l0_5.length l0_5) (hc0_5 : l0_5.length ≤ c0_5) (hr0_6 : Kd.C (Kd.int .i64) w A0_6 l0_6.length l0_6) (hc0_6 : l0_6.length ≤ c0_6) (h : laminalaw16_SketchValid.f k a0_0 a0_1 l0_2 a0_3 l0_4 l0_5 l0_6 = some r) :
    Calls Try.prog 5 #[.agg #[.int .i64 a0_0, .int .i64 a0_1, .slice A0_2 l0_2.length c0_2, .bool a0_3, .slice A0_4 l0_4.length c0_4, .slice A0_5 l0_5.length c0_5, .slice A0_6 l0_6.length c0_6]] w fun e w' => e = .returned (.bool r) ∧ Below w.heap.size w w' := by
  have hu26 := Try.underlying26
  have HR0_2 := Aside0.mk hr0_2
  have HC0_2 := Aside0.mk hc0_2
  clear hr0_2 hc0_2
  have HR0_4 := Aside0.mk hr0_4
  have HC0_4 := Aside0.mk hc0_4
  clear hr0_4 hc0_4
  have HR0_5 := Aside0.mk hr0_5
  have HC0_5 := Aside0.mk hc0_5
  clear hr0_5 hc0_5
  have HR0_6 := Aside0.mk hr0_6
  have HC0_6 := Aside0.mk hc0_6
  clear hr0_6 hc0_6
  have HB := Aside0.mk (Below.refl w.heap.size w)
  have H : (if (l0_2.length : Int) > 100 then (laminalaw16_SketchValid.j0 k true a0_0 a0_1 l0_2 a0_3 l0_4 l0_5 l0_6) else (if (l0_4.length : Int) > 1000 then (laminalaw16_SketchValid.j0 k true a0_0 a0_1 l0_2 a0_3 l0_4 l0_5 l0_6) else (if (l0_5.length : Int) > 100 then (laminalaw16_SketchValid.j0 k true a0_0 a0_1 l0_2 a0_3 l0_4 l0_5 l0_6) else (laminalaw16_SketchValid.j0 k (decide ((l0_6.length : Int) > 200)) a0_0 a0_1 l0_2 a0_3 l0_4 l0_5 l0_6)))) = some r := h
  clear h
  have HC2 := Aside0.mk H
  clear H
  go_enter Try.func5, Try.ntmps5
  go_upto_region 1 with (first | ((with_reducible refine gate_dst (N := 1) rfl ?_); (try (refine gate_guard (by rfl) ?_; dsimp only)); refine box_event ?hg (N := 1) ?hd (cs := #[.int .i64 a0_0, .int .i64 a0_1, .slice A0_2 l0_2.length c0_2, .bool a0_3, .slice A0_4 l0_4.length c0_4, .slice A0_5 l0_5.length c0_5, .slice A0_6 l0_6.length c0_6]) (t := 26) ?hr ?_; (case hd => rfl); (case hg => rfl); (case hr => first | (go_simp; done) | (go_simp; rfl)); intro gb726 hg w3 hbox hb; have n0_ := Aside0.mk (below_step (by repeat (first | (with_reducible first | exact HB.out | apply below_alloc | apply pw_below_drewN | apply below_drew1) | exact HB.out)) hb); have n1_ := Aside0.mk (hbox); have n2_ := Aside0.mk ((by rw [hg]; exact (below_size (by repeat (first | (with_reducible first | exact HB.out | apply below_alloc | apply pw_below_drewN | apply below_drew1) | exact HB.out))) : w.heap.size ≤ gb726)); have n3_ := Aside0.mk ((by rw [hg]; exact (below_size (by repeat (first | (with_reducible first | exact HB.out | apply below_alloc | apply pw_below_drewN | apply below_drew1) | exact HB.out))) : w.heap.size ≤ gb726)); clear HB; have HB := n0_; have BK726 := n1_; have GW726 := n2_; have GE726 := n3_; clear n0_ n1_ n2_ n3_; clear hb hbox hg))
  (try simp only [Act.put, List.setIfInBounds_toArray, List.set_cons_zero, List.set_cons_succ])
  go_cut [24] (fun v24 wc => ∃ (kq : Nat) (x24_1 : Bool), v24 = .bool x24_1 ∧ Aside0 (laminalaw16_SketchValid.j0 kq x24_1 a0_0 a0_1 l0_2 a0_3 l0_4 l0_5 l0_6 = some r) ∧ Aside0 (kq ≤ k) ∧ Aside0 (wc.heap[gb726]? = some (.cells #[.int .i64 a0_0, .int .i64 a0_1, (.slice A0_2 l0_2.length c0_2), .bool a0_3, (.slice A0_4 l0_4.length c0_4), (.slice A0_5 l0_5.length c0_5), (.slice A0_6 l0_6.length c0_6)] 26 (0, 0))) ∧ Aside0 (Below w.heap.size w wc))
  case first =>
    have H := HC2.out
    clear HC2
    by_cases c4 : (l0_2.length : Int) > 100
    · rw [if_pos c4] at H
      have c4b0 : decide (100 < (l0_2.length : Int)) = true := decide_eq_true c4
      have c4b1 : decide (100 < l0_2.length) = true := decide_eq_true (by omega)
      clear c4
      (first | rw [c4b0] | (simp only [i64_w, i32_w]; rw [c4b0]) | skip)
      have H' := Aside0.mk H
      clear H
      have hcz5_0 : w3.cell? ⟨gb726, 0, none⟩ = some (.int .i64 a0_0) := (blk_cell BK726.out 0).trans rfl
      have hcz5_1 : w3.cell? ⟨gb726, 1, none⟩ = some (.int .i64 a0_1) := (blk_cell BK726.out 1).trans rfl
      have hcz5_2 : w3.cell? ⟨gb726, 2, none⟩ = some (.slice A0_2 l0_2.length c0_2) := (blk_cell BK726.out 2).trans rfl
      have hcz5_3 : w3.cell? ⟨gb726, 3, none⟩ = some (.bool a0_3) := (blk_cell BK726.out 3).trans rfl
      have hcz5_4 : w3.cell? ⟨gb726, 4, none⟩ = some (.slice A0_4 l0_4.length c0_4) := (blk_cell BK726.out 4).trans rfl
      have hcz5_5 : w3.cell? ⟨gb726, 5, none⟩ = some (.slice A0_5 l0_5.length c0_5) := (blk_cell BK726.out 5).trans rfl
      have hcz5_6 : w3.cell? ⟨gb726, 6, none⟩ = some (.slice A0_6 l0_6.length c0_6) := (blk_cell BK726.out 6).trans rfl
      have hfz5_0 := blk_frozen BK726.out 0
      have hfz5_1 := blk_frozen BK726.out 1
      have hfz5_2 := blk_frozen BK726.out 2
      have hfz5_3 := blk_frozen BK726.out 3
      have hfz5_4 := blk_frozen BK726.out 4
      have hfz5_5 := blk_frozen BK726.out 5
      have hfz5_6 := blk_frozen BK726.out 6
      go_wp2
      go_meet
      case rel => exact ⟨_, (true), (by first | rfl | (simp; done) | (simp [*]; done)), H', ⟨by first | omega | exact Nat.le_refl _⟩, ⟨by (with_reducible repeat (first | refine blk_drewN ?_ _ | refine blk_drew ?_ | refine blk_alloc ?_ _)); exact BK726.out⟩, ⟨by repeat (first | (with_reducible first | exact HB.out | apply below_alloc | apply pw_below_drewN | apply below_drew1 | refine below_set ?_ GE726.out) | exact HB.out)⟩⟩
    · rw [if_neg c4] at H
      have c4b0 : decide (100 < (l0_2.length : Int)) = false := decide_eq_false c4
      have c4b1 : decide (100 < l0_2.length) = false := decide_eq_false (by omega)
      clear c4
      (first | rw [c4b0] | (simp only [i64_w, i32_w]; rw [c4b0]) | skip)
      by_cases c6 : (l0_4.length : Int) > 1000
      · rw [if_pos c6] at H
        have c6b0 : decide (1000 < (l0_4.length : Int)) = true := decide_eq_true c6
        have c6b1 : decide (1000 < l0_4.length) = true := decide_eq_true (by omega)
        clear c6
        have H' := Aside0.mk H
        clear H
        have hcz7_0 : w3.cell? ⟨gb726, 0, none⟩ = some (.int .i64 a0_0) := (blk_cell BK726.out 0).trans rfl
        have hcz7_1 : w3.cell? ⟨gb726, 1, none⟩ = some (.int .i64 a0_1) := (blk_cell BK726.out 1).trans rfl
        have hcz7_2 : w3.cell? ⟨gb726, 2, none⟩ = some (.slice A0_2 l0_2.length c0_2) := (blk_cell BK726.out 2).trans rfl
        have hcz7_3 : w3.cell? ⟨gb726, 3, none⟩ = some (.bool a0_3) := (blk_cell BK726.out 3).trans rfl
        have hcz7_4 : w3.cell? ⟨gb726, 4, none⟩ = some (.slice A0_4 l0_4.length c0_4) := (blk_cell BK726.out 4).trans rfl
        have hcz7_5 : w3.cell? ⟨gb726, 5, none⟩ = some (.slice A0_5 l0_5.length c0_5) := (blk_cell BK726.out 5).trans rfl
        have hcz7_6 : w3.cell? ⟨gb726, 6, none⟩ = some (.slice A0_6 l0_6.length c0_6) := (blk_cell BK726.out 6).trans rfl
        have hfz7_0 := blk_frozen BK726.out 0
        have hfz7_1 := blk_frozen BK726.out 1
        have hfz7_2 := blk_frozen BK726.out 2
        have hfz7_3 := blk_frozen BK726.out 3
        have hfz7_4 := blk_frozen BK726.out 4
        have hfz7_5 := blk_frozen BK726.out 5
        have hfz7_6 := blk_frozen BK726.out 6
        go_wp2
        go_meet
        case rel => exact ⟨_, (true), (by first | rfl | (simp; done) | (simp [*]; done)), H', ⟨by first | omega | exact Nat.le_refl _⟩, ⟨by (with_reducible repeat (first | refine blk_drewN ?_ _ | refine blk_drew ?_ | refine blk_alloc ?_ _)); exact BK726.out⟩, ⟨by repeat (first | (with_reducible first | exact HB.out | apply below_alloc | apply pw_below_drewN | apply below_drew1 | refine below_set ?_ GE726.out) | exact HB.out)⟩⟩
      · rw [if_neg c6] at H
        have c6b0 : decide (1000 < (l0_4.length : Int)) = false := decide_eq_false c6
        have c6b1 : decide (1000 < l0_4.length) = false := decide_eq_false (by omega)
        clear c6
        by_cases c8 : (l0_5.length : Int) > 100
        · rw [if_pos c8] at H
          have c8b0 : decide (100 < (l0_5.length : Int)) = true := decide_eq_true c8
          have c8b1 : decide (100 < l0_5.length) = true := decide_eq_true (by omega)
          clear c8
          have H' := Aside0.mk H
          clear H
          have hcz9_0 : w3.cell? ⟨gb726, 0, none⟩ = some (.int .i64 a0_0) := (blk_cell BK726.out 0).trans rfl
          have hcz9_1 : w3.cell? ⟨gb726, 1, none⟩ = some (.int .i64 a0_1) := (blk_cell BK726.out 1).trans rfl
          have hcz9_2 : w3.cell? ⟨gb726, 2, none⟩ = some (.slice A0_2 l0_2.length c0_2) := (blk_cell BK726.out 2).trans rfl
          have hcz9_3 : w3.cell? ⟨gb726, 3, none⟩ = some (.bool a0_3) := (blk_cell BK726.out 3).trans rfl
          have hcz9_4 : w3.cell? ⟨gb726, 4, none⟩ = some (.slice A0_4 l0_4.length c0_4) := (blk_cell BK726.out 4).trans rfl
          have hcz9_5 : w3.cell? ⟨gb726, 5, none⟩ = some (.slice A0_5 l0_5.length c0_5) := (blk_cell BK726.out 5).trans rfl
          have hcz9_6 : w3.cell? ⟨gb726, 6, none⟩ = some (.slice A0_6 l0_6.length c0_6) := (blk_cell BK726.out 6).trans rfl
          have hfz9_0 := blk_frozen BK726.out 0
          have hfz9_1 := blk_frozen BK726.out 1
          have hfz9_2 := blk_frozen BK726.out 2
          have hfz9_3 := blk_frozen BK726.out 3
          have hfz9_4 := blk_frozen BK726.out 4
          have hfz9_5 := blk_frozen BK726.out 5
          have hfz9_6 := blk_frozen BK726.out 6
          go_wp2
          go_meet
          case rel => exact ⟨_, (true), (by first | rfl | (simp; done) | (simp [*]; done)), H', ⟨by first | omega | exact Nat.le_refl _⟩, ⟨by (with_reducible repeat (first | refine blk_drewN ?_ _ | refine blk_drew ?_ | refine blk_alloc ?_ _)); exact BK726.out⟩, ⟨by repeat (first | (with_reducible first | exact HB.out | apply below_alloc | apply pw_below_drewN | apply below_drew1 | refine below_set ?_ GE726.out) | exact HB.out)⟩⟩
        · rw [if_neg c8] at H
          have c8b0 : decide (100 < (l0_5.length : Int)) = false := decide_eq_false c8
          have c8b1 : decide (100 < l0_5.length) = false := decide_eq_false (by omega)
          clear c8
          have H' := Aside0.mk H
          clear H
          have hcz10_0 : w3.cell? ⟨gb726, 0, none⟩ = some (.int .i64 a0_0) := (blk_cell BK726.out 0).trans rfl
          have hcz10_1 : w3.cell? ⟨gb726, 1, none⟩ = some (.int .i64 a0_1) := (blk_cell BK726.out 1).trans rfl
          have hcz10_2 : w3.cell? ⟨gb726, 2, none⟩ = some (.slice A0_2 l0_2.length c0_2) := (blk_cell BK726.out 2).trans rfl
          have hcz10_3 : w3.cell? ⟨gb726, 3, none⟩ = some (.bool a0_3) := (blk_cell BK726.out 3).trans rfl
          have hcz10_4 : w3.cell? ⟨gb726, 4, none⟩ = some (.slice A0_4 l0_4.length c0_4) := (blk_cell BK726.out 4).trans rfl
          have hcz10_5 : w3.cell? ⟨gb726, 5, none⟩ = some (.slice A0_5 l0_5.length c0_5) := (blk_cell BK726.out 5).trans rfl
          have hcz10_6 : w3.cell? ⟨gb726, 6, none⟩ = some (.slice A0_6 l0_6.length c0_6) := (blk_cell BK726.out 6).trans rfl
          have hfz10_0 := blk_frozen BK726.out 0
          have hfz10_1 := blk_frozen BK726.out 1
          have hfz10_2 := blk_frozen BK726.out 2
          have hfz10_3 := blk_frozen BK726.out 3
          have hfz10_4 := blk_frozen BK726.out 4
          have hfz10_5 := blk_frozen BK726.out 5
          have hfz10_6 := blk_frozen BK726.out 6
          go_wp2
          go_meet
          case rel => exact ⟨_, (decide ((l0_6.length : Int) > 200)), (by first | rfl | (simp; done) | (simp [*]; done)), H', ⟨by first | omega | exact Nat.le_refl _⟩, ⟨by (with_reducible repeat (first | refine blk_drewN ?_ _ | refine blk_drew ?_ | refine blk_alloc ?_ _)); exact BK726.out⟩, ⟨by repeat (first | (with_reducible first | exact HB.out | apply below_alloc | apply pw_below_drewN | apply below_drew1 | refine below_set ?_ GE726.out) | exact HB.out)⟩⟩
  case rest =>
    clear HC2
    try clear p2
    try clear c4
    try clear c4b0
    try clear c4b1
    try clear c5
    try clear c6
    try clear c6b0
    try clear c6b1
    try clear c8
    try clear c8b0
    try clear c8b1
    try clear hcz10_0
    try clear hcz10_1
    try clear hcz10_2
    try clear hcz10_3
    try clear hcz10_4
    try clear hcz10_5
    try clear hcz10_6
    try clear hcz5_0
    try clear hcz5_1
    try clear hcz5_2
    try clear hcz5_3
    try clear hcz5_4
    try clear hcz5_5
    try clear hcz5_6
    try clear hcz7_0
    try clear hcz7_1
    try clear hcz7_2
    try clear hcz7_3
    try clear hcz7_4
    try clear hcz7_5
    try clear hcz7_6
    try clear hcz9_0
    try clear hcz9_1
    try clear hcz9_2
    try clear hcz9_3
    try clear hcz9_4
    try clear hcz9_5
    try clear hcz9_6
    try clear hfz10_0
    try clear hfz10_1
    try clear hfz10_2
    try clear hfz10_3
    try clear hfz10_4
    try clear hfz10_5
    try clear hfz10_6
    try clear hfz5_0
    try clear hfz5_1
    try clear hfz5_2
    try clear hfz5_3
    try clear hfz5_4
    try clear hfz5_5
    try clear hfz5_6
    try clear hfz7_0
    try clear hfz7_1
    try clear hfz7_2
    try clear hfz7_3
    try clear hfz7_4
    try clear hfz7_5
    try clear hfz7_6
    try clear hfz9_0
    try clear hfz9_1
    try clear hfz9_2
    try clear hfz9_3
    try clear hfz9_4
    try clear hfz9_5
    try clear hfz9_6
    obtain ⟨kq, x24_1, rfl, HA, HJ1, BK726, HB⟩ := hcut
    cases kq with
    | zero => exact absurd HA.out (by simp [laminalaw16_SketchValid.j0])
    | succ kj1 =>
      have H := HA.out
      clear HA
      simp only [laminalaw16_SketchValid.j0] at H
      by_cases c11 : x24_1 = true
      · subst c11
        have H1 : ((laminalaw16_awake.f kj1).bind fun t727 => (some t727)) = some r := by rw [if_pos rfl] at H; exact H
        clear H
        have H := H1
        clear H1
        replace H := Option.bind_eq_some_iff.mp H
        obtain ⟨t727, A120, H⟩ := H
        replace H : (some t727) = some r := H
        have A12 := Aside0.mk A120
        clear A120
        obtain rfl := Option.some.inj H
        go_wp2_with (first | ((with_reducible refine gate_callee (f := 12) rfl ?_); refine goesL_ (some 25) rfl rfl Try.func12 (by kernel_rfl) rfl #[] rfl (by (try simp only [List.map_toArray, List.map_cons, List.map_nil]); first | done | rfl | (simp only [List.length_drop, List.length_take]; rfl) | (simp only [Int.ofNat_lt, Int.ofNat_le, gt_iff_lt, ge_iff_le]; rfl)) ?_; (with_reducible refine (laminalaw16_awake.calls kj1  t727 _ A12.out).mono ?_); rintro e w13 ⟨rfl, hb⟩; refine ⟨_, rfl, ?_⟩; have n0_ := Aside0.mk (blk_below (g := gb726) (o := .cells #[.int .i64 a0_0, .int .i64 a0_1, .slice A0_2 l0_2.length c0_2, .bool a0_3, .slice A0_4 l0_4.length c0_4, .slice A0_5 l0_5.length c0_5, .slice A0_6 l0_6.length c0_6] 26 (0, 0)) (by (with_reducible repeat (first | refine blk_drewN ?_ _ | refine blk_drew ?_ | refine blk_alloc ?_ _)); exact BK726.out) hb); have n1_ := Aside0.mk (below_step (by repeat (first | (with_reducible first | exact HB.out | apply below_alloc | apply pw_below_drewN | apply below_drew1 | refine below_set ?_ GE726.out) | exact HB.out)) hb); clear BK726; clear HB; have BK726 := n0_; have HB := n1_; clear n0_ n1_; (try clear hb); (try clear hb2); (try clear hk); (try clear hi)))
        go_ret
        exact ⟨by first | rfl | (simp [errW_none, errW_some] <;> rfl) | (simp [*, errW_none, errW_some] <;> rfl), by repeat (first | (with_reducible first | exact HB.out | apply below_alloc | apply pw_below_drewN | apply below_drew1 | refine below_set ?_ GE726.out) | exact HB.out)⟩
      · replace c11 := Bool.eq_false_iff.mpr c11
        subst c11
        have H1 : ((sketch_Valid.f kj1 a0_0 a0_1 l0_2 a0_3 l0_4 l0_5 l0_6).bind fun t728 => ((laminaref16_Valid.f kj1 a0_0 a0_1 l0_2 a0_3 l0_4 l0_5 l0_6).bind fun t729 => (if (t728 == t729) = true then ((laminalaw16_awake.f kj1).bind fun t730 => (some t730)) else (some false)))) = some r := by rw [if_neg (show ¬ (false = true) by decide)] at H; exact H
        clear H
        have H := H1
        clear H1
        replace H := Option.bind_eq_some_iff.mp H
        obtain ⟨t728, A140, H⟩ := H
        replace H : ((laminaref16_Valid.f kj1 a0_0 a0_1 l0_2 a0_3 l0_4 l0_5 l0_6).bind fun t729 => (if (t728 == t729) = true then ((laminalaw16_awake.f kj1).bind fun t730 => (some t730)) else (some false))) = some r := H
        have A14 := Aside0.mk A140
        clear A140
        replace H := Option.bind_eq_some_iff.mp H
        obtain ⟨t729, A150, H⟩ := H
        replace H : (if (t728 == t729) = true then ((laminalaw16_awake.f kj1).bind fun t730 => (some t730)) else (some false)) = some r := H
        have A15 := Aside0.mk A150
        clear A150
        by_cases c16 : (t728 == t729) = true
        · rw [if_pos c16] at H
          have c16b0 : (t728 == t729) = true := c16
          (try (have c16b1 : decide (t728 = t729) = true := by simpa using c16))
          (try (have c16b2 : (t728 == t729) = true := by simpa using c16))
          clear c16
          replace H := Option.bind_eq_some_iff.mp H
          obtain ⟨t730, A170, H⟩ := H
          replace H : (some t730) = some r := H
          have A17 := Aside0.mk A170
          clear A170
          obtain rfl := Option.some.inj H
          try go_wp2
          have n0_ := Aside0.mk (blk_drew BK726.out)
          have n1_ := Aside0.mk (below_drew1 HB.out)
          clear BK726
          clear HB
          have BK726 := n0_
          have HB := n1_
          clear n0_ n1_
          refine start_ (n := 9) (S := fun w' => w'.cell? ⟨gb726, 0, none⟩ = some (.int .i64 a0_0) ∧ w'.cell? ⟨gb726, 1, none⟩ = some (.int .i64 a0_1) ∧ w'.cell? ⟨gb726, 2, none⟩ = some (.slice A0_2 l0_2.length c0_2) ∧ w'.cell? ⟨gb726, 3, none⟩ = some (.bool a0_3) ∧ w'.cell? ⟨gb726, 4, none⟩ = some (.slice A0_4 l0_4.length c0_4) ∧ w'.cell? ⟨gb726, 5, none⟩ = some (.slice A0_5 l0_5.length c0_5) ∧ w'.cell? ⟨gb726, 6, none⟩ = some (.slice A0_6 l0_6.length c0_6)) (ds := []) #[false, false, false, false, false, false, false, false, false] (by kernel_rfl) rfl rfl ⟨(blk_cell BK726.out 0).trans rfl, (blk_cell BK726.out 1).trans rfl, (blk_cell BK726.out 2).trans rfl, (blk_cell BK726.out 3).trans rfl, (blk_cell BK726.out 4).trans rfl, (blk_cell BK726.out 5).trans rfl, (blk_cell BK726.out 6).trans rfl⟩ (fun hHeld => ?_); refine with_tabW laminalaw16_SketchValid.tab3 laminalaw16_SketchValid.bits3 (fun HT_ HW_ => ?_)
          generalize wc.drew = w18 at BK726 HB hHeld ⊢
          refine tk_ HT_ HW_ 0 (some 26) hHeld ?_
          refine tk_ HT_ HW_ 2 (some 28) hHeld ?_
          refine on_ HT_ 1 (some 27) (fun K hK => ?_)
          refine goes_ Try.func20 (by kernel_rfl) rfl #[.agg #[.int .i64 a0_0, .int .i64 a0_1, .slice A0_2 l0_2.length c0_2, .bool a0_3, .slice A0_4 l0_4.length c0_4, .slice A0_5 l0_5.length c0_5, .slice A0_6 l0_6.length c0_6]] (by rfl) rfl rfl (by (try simp only [List.map_toArray, List.map_cons, List.map_nil]); first | done | rfl | (simp only [List.length_drop, List.length_take]; rfl) | (simp only [Int.ofNat_lt, Int.ofNat_le, gt_iff_lt, ge_iff_le]; rfl)) ?_
          with_reducible refine (sketch_Valid.calls kj1 a0_0 a0_1 _ _ l0_2 a0_3 _ _ l0_4 _ _ l0_5 _ _ l0_6 t728 _ ?side1 ?side2 ?side3 ?side4 ?side5 ?side6 ?side7 ?side8 A14.out).mono ?_
          (case side1 => repeat (first | exact (Kd.C_below HR0_2.out HB.out) | (with_reducible refine Kd.C_alloc ?_ _) | (with_reducible refine Kd.C_drewN ?_ _) | (with_reducible refine Kd.C_drew ?_)))
          (case side2 => exact HC0_2.out)
          (case side3 => repeat (first | exact (Kd.C_below HR0_4.out HB.out) | (with_reducible refine Kd.C_alloc ?_ _) | (with_reducible refine Kd.C_drewN ?_ _) | (with_reducible refine Kd.C_drew ?_)))
          (case side4 => exact HC0_4.out)
          (case side5 => repeat (first | exact (Kd.C_below HR0_5.out HB.out) | (with_reducible refine Kd.C_alloc ?_ _) | (with_reducible refine Kd.C_drewN ?_ _) | (with_reducible refine Kd.C_drew ?_)))
          (case side6 => exact HC0_5.out)
          (case side7 => repeat (first | exact (Kd.C_below HR0_6.out HB.out) | (with_reducible refine Kd.C_alloc ?_ _) | (with_reducible refine Kd.C_drewN ?_ _) | (with_reducible refine Kd.C_drew ?_)))
          (case side8 => exact HC0_6.out)
          rintro e w19 ⟨rfl, hb⟩
          refine ⟨_, rfl, ?_⟩
          have n0_ := Aside0.mk (blk_below (g := gb726) (o := .cells #[.int .i64 a0_0, .int .i64 a0_1, .slice A0_2 l0_2.length c0_2, .bool a0_3, .slice A0_4 l0_4.length c0_4, .slice A0_5 l0_5.length c0_5, .slice A0_6 l0_6.length c0_6] 26 (0, 0)) (by (with_reducible repeat (first | refine blk_drewN ?_ _ | refine blk_drew ?_ | refine blk_alloc ?_ _)); exact BK726.out) hb)
          have n1_ := Aside0.mk (below_step (by repeat (first | (with_reducible first | exact HB.out | apply below_alloc | apply pw_below_drewN | apply below_drew1 | refine below_set ?_ GE726.out) | exact HB.out)) hb)
          clear BK726
          clear HB
          have BK726 := n0_
          have HB := n1_
          clear n0_ n1_
          (try clear hb)
          (try clear hb2)
          (try clear hk)
          (try clear hi)
          refine hK.out _ _ ⟨(blk_cell BK726.out 0).trans rfl, (blk_cell BK726.out 1).trans rfl, (blk_cell BK726.out 2).trans rfl, (blk_cell BK726.out 3).trans rfl, (blk_cell BK726.out 4).trans rfl, (blk_cell BK726.out 5).trans rfl, (blk_cell BK726.out 6).trans rfl⟩ (fun hHeld => ?_)
          clear hK K
          refine norm_ (a' := ?_) ?_ ?_
          rotate_left
          · show Act.put _ (some 27) _ = _
            simp only [Act.put, List.setIfInBounds_toArray, List.set_cons_zero, List.set_cons_succ, i64_w, i32_w]
            rfl
          refine on_ HT_ 3 (some 29) (fun K hK => ?_)
          refine goes_ Try.func11 (by kernel_rfl) rfl #[.agg #[.int .i64 a0_0, .int .i64 a0_1, .slice A0_2 l0_2.length c0_2, .bool a0_3, .slice A0_4 l0_4.length c0_4, .slice A0_5 l0_5.length c0_5, .slice A0_6 l0_6.length c0_6]] (by rfl) rfl rfl (by (try simp only [List.map_toArray, List.map_cons, List.map_nil]); first | done | rfl | (simp only [List.length_drop, List.length_take]; rfl) | (simp only [Int.ofNat_lt, Int.ofNat_le, gt_iff_lt, ge_iff_le]; rfl)) ?_
          with_reducible refine (laminaref16_Valid.calls kj1 a0_0 a0_1 _ _ l0_2 a0_3 _ _ l0_4 _ _ l0_5 _ _ l0_6 t729 _ ?side1 ?side2 ?side3 ?side4 ?side5 ?side6 ?side7 ?side8 A15.out).mono ?_
          (case side1 => repeat (first | exact (Kd.C_below HR0_2.out HB.out) | (with_reducible refine Kd.C_alloc ?_ _) | (with_reducible refine Kd.C_drewN ?_ _) | (with_reducible refine Kd.C_drew ?_)))
          (case side2 => exact HC0_2.out)
          (case side3 => repeat (first | exact (Kd.C_below HR0_4.out HB.out) | (with_reducible refine Kd.C_alloc ?_ _) | (with_reducible refine Kd.C_drewN ?_ _) | (with_reducible refine Kd.C_drew ?_)))
          (case side4 => exact HC0_4.out)
          (case side5 => repeat (first | exact (Kd.C_below HR0_5.out HB.out) | (with_reducible refine Kd.C_alloc ?_ _) | (with_reducible refine Kd.C_drewN ?_ _) | (with_reducible refine Kd.C_drew ?_)))
          (case side6 => exact HC0_5.out)
          (case side7 => repeat (first | exact (Kd.C_below HR0_6.out HB.out) | (with_reducible refine Kd.C_alloc ?_ _) | (with_reducible refine Kd.C_drewN ?_ _) | (with_reducible refine Kd.C_drew ?_)))
          (case side8 => exact HC0_6.out)
          rintro e w20 ⟨rfl, hb⟩
          refine ⟨_, rfl, ?_⟩
          have n0_ := Aside0.mk (blk_below (g := gb726) (o := .cells #[.int .i64 a0_0, .int .i64 a0_1, .slice A0_2 l0_2.length c0_2, .bool a0_3, .slice A0_4 l0_4.length c0_4, .slice A0_5 l0_5.length c0_5, .slice A0_6 l0_6.length c0_6] 26 (0, 0)) (by (with_reducible repeat (first | refine blk_drewN ?_ _ | refine blk_drew ?_ | refine blk_alloc ?_ _)); exact BK726.out) hb)
          have n1_ := Aside0.mk (below_step (by repeat (first | (with_reducible first | exact HB.out | apply below_alloc | apply pw_below_drewN | apply below_drew1 | refine below_set ?_ GE726.out) | exact HB.out)) hb)
          clear BK726
          clear HB
          have BK726 := n0_
          have HB := n1_
          clear n0_ n1_
          (try clear hb)
          (try clear hb2)
          (try clear hk)
          (try clear hi)
          refine hK.out _ _ ⟨(blk_cell BK726.out 0).trans rfl, (blk_cell BK726.out 1).trans rfl, (blk_cell BK726.out 2).trans rfl, (blk_cell BK726.out 3).trans rfl, (blk_cell BK726.out 4).trans rfl, (blk_cell BK726.out 5).trans rfl, (blk_cell BK726.out 6).trans rfl⟩ (fun hHeld => ?_)
          clear hK K
          refine norm_ (a' := ?_) ?_ ?_
          rotate_left
          · show Act.put _ (some 29) _ = _
            simp only [Act.put, List.setIfInBounds_toArray, List.set_cons_zero, List.set_cons_succ, i64_w, i32_w]
            rfl
          refine pu_ HT_ 4 (some 30) ?_
          refine pu_ HT_ 5 (some 31) ?_
          refine on_ HT_ 6 (some 32) (fun K hK => ?_)
          refine goes_ Try.func12 (by kernel_rfl) rfl #[] (by rfl) rfl rfl (by (try simp only [List.map_toArray, List.map_cons, List.map_nil]); first | done | rfl | (simp only [List.length_drop, List.length_take]; rfl) | (simp only [Int.ofNat_lt, Int.ofNat_le, gt_iff_lt, ge_iff_le]; rfl)) ?_
          with_reducible refine (laminalaw16_awake.calls kj1  t730 _ A17.out).mono ?_
          rintro e w21 ⟨rfl, hb⟩
          refine ⟨_, rfl, ?_⟩
          have n0_ := Aside0.mk (blk_below (g := gb726) (o := .cells #[.int .i64 a0_0, .int .i64 a0_1, .slice A0_2 l0_2.length c0_2, .bool a0_3, .slice A0_4 l0_4.length c0_4, .slice A0_5 l0_5.length c0_5, .slice A0_6 l0_6.length c0_6] 26 (0, 0)) (by (with_reducible repeat (first | refine blk_drewN ?_ _ | refine blk_drew ?_ | refine blk_alloc ?_ _)); exact BK726.out) hb)
          have n1_ := Aside0.mk (below_step (by repeat (first | (with_reducible first | exact HB.out | apply below_alloc | apply pw_below_drewN | apply below_drew1 | refine below_set ?_ GE726.out) | exact HB.out)) hb)
          clear BK726
          clear HB
          have BK726 := n0_
          have HB := n1_
          clear n0_ n1_
          (try clear hb)
          (try clear hb2)
          (try clear hk)
          (try clear hi)
          refine hK.out _ _ ⟨(blk_cell BK726.out 0).trans rfl, (blk_cell BK726.out 1).trans rfl, (blk_cell BK726.out 2).trans rfl, (blk_cell BK726.out 3).trans rfl, (blk_cell BK726.out 4).trans rfl, (blk_cell BK726.out 5).trans rfl, (blk_cell BK726.out 6).trans rfl⟩ (fun hHeld => ?_)
          clear hK K
          refine norm_ (a' := ?_) ?_ ?_
          rotate_left
          · show Act.put _ (some 32) _ = _
            simp only [Act.put, List.setIfInBounds_toArray, List.set_cons_zero, List.set_cons_succ, i64_w, i32_w]
            rfl
          refine pu_ HT_ 7 (some 33) ?_
          refine pu_ HT_ 8 (some 2) ?_
          refine done_ (done_of HT_.out (by kernel_rfl)) ?_
          try go_wp2
          go_ret
          exact ⟨by first | rfl | (simp [errW_none, errW_some] <;> rfl) | (simp [*, errW_none, errW_some] <;> rfl), by repeat (first | (with_reducible first | exact HB.out | apply below_alloc | apply pw_below_drewN | apply below_drew1 | refine below_set ?_ GE726.out) | exact HB.out)⟩
        · rw [if_neg c16] at H
          have c16b0 : (t728 == t729) = false := by simpa using c16
          (try (have c16b1 : decide (t728 = t729) = false := by simpa using c16))
          (try (have c16b2 : (t728 == t729) = false := by simpa using c16))
          (try (have c16b3 : ¬ (t728 = t729) := by simpa using c16))
          clear c16
          obtain rfl := Option.some.inj H
          try go_wp2
          have n0_ := Aside0.mk (blk_drew BK726.out)
          have n1_ := Aside0.mk (below_drew1 HB.out)
          clear BK726
          clear HB
          have BK726 := n0_
          have HB := n1_
          clear n0_ n1_
          refine start_ (n := 9) (S := fun w' => w'.cell? ⟨gb726, 0, none⟩ = some (.int .i64 a0_0) ∧ w'.cell? ⟨gb726, 1, none⟩ = some (.int .i64 a0_1) ∧ w'.cell? ⟨gb726, 2, none⟩ = some (.slice A0_2 l0_2.length c0_2) ∧ w'.cell? ⟨gb726, 3, none⟩ = some (.bool a0_3) ∧ w'.cell? ⟨gb726, 4, none⟩ = some (.slice A0_4 l0_4.length c0_4) ∧ w'.cell? ⟨gb726, 5, none⟩ = some (.slice A0_5 l0_5.length c0_5) ∧ w'.cell? ⟨gb726, 6, none⟩ = some (.slice A0_6 l0_6.length c0_6)) (ds := []) #[false, false, false, false, false, false, false, false, false] (by kernel_rfl) rfl rfl ⟨(blk_cell BK726.out 0).trans rfl, (blk_cell BK726.out 1).trans rfl, (blk_cell BK726.out 2).trans rfl, (blk_cell BK726.out 3).trans rfl, (blk_cell BK726.out 4).trans rfl, (blk_cell BK726.out 5).trans rfl, (blk_cell BK726.out 6).trans rfl⟩ (fun hHeld => ?_); refine with_tabW laminalaw16_SketchValid.tab3 laminalaw16_SketchValid.bits3 (fun HT_ HW_ => ?_)
          generalize wc.drew = w22 at BK726 HB hHeld ⊢
          refine tk_ HT_ HW_ 0 (some 26) hHeld ?_
          refine tk_ HT_ HW_ 2 (some 28) hHeld ?_
          refine on_ HT_ 1 (some 27) (fun K hK => ?_)
          refine goes_ Try.func20 (by kernel_rfl) rfl #[.agg #[.int .i64 a0_0, .int .i64 a0_1, .slice A0_2 l0_2.length c0_2, .bool a0_3, .slice A0_4 l0_4.length c0_4, .slice A0_5 l0_5.length c0_5, .slice A0_6 l0_6.length c0_6]] (by rfl) rfl rfl (by (try simp only [List.map_toArray, List.map_cons, List.map_nil]); first | done | rfl | (simp only [List.length_drop, List.length_take]; rfl) | (simp only [Int.ofNat_lt, Int.ofNat_le, gt_iff_lt, ge_iff_le]; rfl)) ?_
          with_reducible refine (sketch_Valid.calls kj1 a0_0 a0_1 _ _ l0_2 a0_3 _ _ l0_4 _ _ l0_5 _ _ l0_6 t728 _ ?side1 ?side2 ?side3 ?side4 ?side5 ?side6 ?side7 ?side8 A14.out).mono ?_
          (case side1 => repeat (first | exact (Kd.C_below HR0_2.out HB.out) | (with_reducible refine Kd.C_alloc ?_ _) | (with_reducible refine Kd.C_drewN ?_ _) | (with_reducible refine Kd.C_drew ?_)))
          (case side2 => exact HC0_2.out)
          (case side3 => repeat (first | exact (Kd.C_below HR0_4.out HB.out) | (with_reducible refine Kd.C_alloc ?_ _) | (with_reducible refine Kd.C_drewN ?_ _) | (with_reducible refine Kd.C_drew ?_)))
          (case side4 => exact HC0_4.out)
          (case side5 => repeat (first | exact (Kd.C_below HR0_5.out HB.out) | (with_reducible refine Kd.C_alloc ?_ _) | (with_reducible refine Kd.C_drewN ?_ _) | (with_reducible refine Kd.C_drew ?_)))
          (case side6 => exact HC0_5.out)
          (case side7 => repeat (first | exact (Kd.C_below HR0_6.out HB.out) | (with_reducible refine Kd.C_alloc ?_ _) | (with_reducible refine Kd.C_drewN ?_ _) | (with_reducible refine Kd.C_drew ?_)))
          (case side8 => exact HC0_6.out)
          rintro e w23 ⟨rfl, hb⟩
          refine ⟨_, rfl, ?_⟩
          have n0_ := Aside0.mk (blk_below (g := gb726) (o := .cells #[.int .i64 a0_0, .int .i64 a0_1, .slice A0_2 l0_2.length c0_2, .bool a0_3, .slice A0_4 l0_4.length c0_4, .slice A0_5 l0_5.length c0_5, .slice A0_6 l0_6.length c0_6] 26 (0, 0)) (by (with_reducible repeat (first | refine blk_drewN ?_ _ | refine blk_drew ?_ | refine blk_alloc ?_ _)); exact BK726.out) hb)
          have n1_ := Aside0.mk (below_step (by repeat (first | (with_reducible first | exact HB.out | apply below_alloc | apply pw_below_drewN | apply below_drew1 | refine below_set ?_ GE726.out) | exact HB.out)) hb)
          clear BK726
          clear HB
          have BK726 := n0_
          have HB := n1_
          clear n0_ n1_
          (try clear hb)
          (try clear hb2)
          (try clear hk)
          (try clear hi)
          refine hK.out _ _ ⟨(blk_cell BK726.out 0).trans rfl, (blk_cell BK726.out 1).trans rfl, (blk_cell BK726.out 2).trans rfl, (blk_cell BK726.out 3).trans rfl, (blk_cell BK726.out 4).trans rfl, (blk_cell BK726.out 5).trans rfl, (blk_cell BK726.out 6).trans rfl⟩ (fun hHeld => ?_)
          clear hK K
          refine norm_ (a' := ?_) ?_ ?_
          rotate_left
          · show Act.put _ (some 27) _ = _
            simp only [Act.put, List.setIfInBounds_toArray, List.set_cons_zero, List.set_cons_succ, i64_w, i32_w]
            rfl
          refine on_ HT_ 3 (some 29) (fun K hK => ?_)
          refine goes_ Try.func11 (by kernel_rfl) rfl #[.agg #[.int .i64 a0_0, .int .i64 a0_1, .slice A0_2 l0_2.length c0_2, .bool a0_3, .slice A0_4 l0_4.length c0_4, .slice A0_5 l0_5.length c0_5, .slice A0_6 l0_6.length c0_6]] (by rfl) rfl rfl (by (try simp only [List.map_toArray, List.map_cons, List.map_nil]); first | done | rfl | (simp only [List.length_drop, List.length_take]; rfl) | (simp only [Int.ofNat_lt, Int.ofNat_le, gt_iff_lt, ge_iff_le]; rfl)) ?_
          with_reducible refine (laminaref16_Valid.calls kj1 a0_0 a0_1 _ _ l0_2 a0_3 _ _ l0_4 _ _ l0_5 _ _ l0_6 t729 _ ?side1 ?side2 ?side3 ?side4 ?side5 ?side6 ?side7 ?side8 A15.out).mono ?_
          (case side1 => repeat (first | exact (Kd.C_below HR0_2.out HB.out) | (with_reducible refine Kd.C_alloc ?_ _) | (with_reducible refine Kd.C_drewN ?_ _) | (with_reducible refine Kd.C_drew ?_)))
          (case side2 => exact HC0_2.out)
          (case side3 => repeat (first | exact (Kd.C_below HR0_4.out HB.out) | (with_reducible refine Kd.C_alloc ?_ _) | (with_reducible refine Kd.C_drewN ?_ _) | (with_reducible refine Kd.C_drew ?_)))
          (case side4 => exact HC0_4.out)
          (case side5 => repeat (first | exact (Kd.C_below HR0_5.out HB.out) | (with_reducible refine Kd.C_alloc ?_ _) | (with_reducible refine Kd.C_drewN ?_ _) | (with_reducible refine Kd.C_drew ?_)))
          (case side6 => exact HC0_5.out)
          (case side7 => repeat (first | exact (Kd.C_below HR0_6.out HB.out) | (with_reducible refine Kd.C_alloc ?_ _) | (with_reducible refine Kd.C_drewN ?_ _) | (with_reducible refine Kd.C_drew ?_)))
          (case side8 => exact HC0_6.out)
          rintro e w24 ⟨rfl, hb⟩
          refine ⟨_, rfl, ?_⟩
          have n0_ := Aside0.mk (blk_below (g := gb726) (o := .cells #[.int .i64 a0_0, .int .i64 a0_1, .slice A0_2 l0_2.length c0_2, .bool a0_3, .slice A0_4 l0_4.length c0_4, .slice A0_5 l0_5.length c0_5, .slice A0_6 l0_6.length c0_6] 26 (0, 0)) (by (with_reducible repeat (first | refine blk_drewN ?_ _ | refine blk_drew ?_ | refine blk_alloc ?_ _)); exact BK726.out) hb)
          have n1_ := Aside0.mk (below_step (by repeat (first | (with_reducible first | exact HB.out | apply below_alloc | apply pw_below_drewN | apply below_drew1 | refine below_set ?_ GE726.out) | exact HB.out)) hb)
          clear BK726
          clear HB
          have BK726 := n0_
          have HB := n1_
          clear n0_ n1_
          (try clear hb)
          (try clear hb2)
          (try clear hk)
          (try clear hi)
          refine hK.out _ _ ⟨(blk_cell BK726.out 0).trans rfl, (blk_cell BK726.out 1).trans rfl, (blk_cell BK726.out 2).trans rfl, (blk_cell BK726.out 3).trans rfl, (blk_cell BK726.out 4).trans rfl, (blk_cell BK726.out 5).trans rfl, (blk_cell BK726.out 6).trans rfl⟩ (fun hHeld => ?_)
          clear hK K
          refine norm_ (a' := ?_) ?_ ?_
          rotate_left
          · show Act.put _ (some 29) _ = _
            simp only [Act.put, List.setIfInBounds_toArray, List.set_cons_zero, List.set_cons_succ, i64_w, i32_w]
            rfl
          refine pu_ HT_ 4 (some 30) ?_
          refine pu_ HT_ 5 (some 31) ?_
          refine sk_ HT_ 6 (some 32) ?_
          refine pu_ HT_ 7 (some 33) ?_
          refine pu_ HT_ 8 (some 2) ?_
          refine done_ (done_of HT_.out (by kernel_rfl)) ?_
          try go_wp2
          go_ret
          exact ⟨by first | rfl | (simp [errW_none, errW_some] <;> rfl) | (simp [*, errW_none, errW_some] <;> rfl), by repeat (first | (with_reducible first | exact HB.out | apply below_alloc | apply pw_below_drewN | apply below_drew1 | refine below_set ?_ GE726.out) | exact HB.out)⟩
end Go.Proofs.Ytackcingpffidaa.P
namespace Go.Proofs.Ytackcingpffidaa.P
open Go.RowKit Go.Proofs.YtackcingpffidaaW.PrintWords Go.Proofs.Ytackcingpffidaa.Reads
/-- A value of type 39 whose numbers fit and whose texts are no longer than the reach. -/
def G39 (x : S39) : Prop := (Lit.int .i64 x.f0).wf = true ∧ (Lit.int .i64 x.f1).wf = true ∧ x.f2.size ≤ 140737488351232
set_option maxRecDepth 100000 in
theorem rd39 : Rd k39 Try.prog 39 G39 :=
  (Rd.struct (fun a => (⟨a.1, a.2.1, a.2.2⟩ : S39)) (fun _ => rfl) Try.underlying39 (by kernel_rfl) (RdF.cons (Rd.int Try.underlying3 (by kernel_rfl)) rfl (RdF.cons (Rd.int Try.underlying2 (by kernel_rfl)) rfl (RdF.one (Rd.string Try.underlying9 (by kernel_rfl)) rfl)))).imp fun _ h => h
/-- A value of type 26 whose numbers fit and whose texts are no longer than the reach. -/
def G26 (x : S26) : Prop := (Lit.int .i64 x.f0).wf = true ∧ (Lit.int .i64 x.f1).wf = true ∧ (x.f2.length * 8 ≤ 140737488351232 ∧ ∀ y ∈ x.f2, (Lit.int .u64 y).wf = true) ∧ True ∧ (x.f4.length * 8 ≤ 140737488351232 ∧ ∀ y ∈ x.f4, (Lit.int .i64 y).wf = true) ∧ (x.f5.length * 32 ≤ 140737488351232 ∧ ∀ y ∈ x.f5, G39 y) ∧ (x.f6.length * 8 ≤ 140737488351232 ∧ ∀ y ∈ x.f6, (Lit.int .i64 y).wf = true)
set_option maxRecDepth 100000 in
theorem rd26 : Rd k26 Try.prog 26 G26 :=
  (Rd.struct (fun a => (⟨a.1, a.2.1, a.2.2.1, a.2.2.2.1, a.2.2.2.2.1, a.2.2.2.2.2.1, a.2.2.2.2.2.2⟩ : S26)) (fun _ => rfl) Try.underlying26 (by kernel_rfl) (RdF.cons (Rd.int Try.underlying3 (by kernel_rfl)) rfl (RdF.cons (Rd.int Try.underlying3 (by kernel_rfl)) rfl (RdF.cons (Rd.slice (Rd.int Try.underlying53 (by kernel_rfl)) Try.underlying22 (by kernel_rfl) (B := 8) (by kernel_rfl)) rfl (RdF.cons (Rd.bool Try.underlying4 (by kernel_rfl)) rfl (RdF.cons (Rd.slice (Rd.int Try.underlying3 (by kernel_rfl)) Try.underlying23 (by kernel_rfl) (B := 8) (by kernel_rfl)) rfl (RdF.cons (Rd.slice rd39 Try.underlying24 (by kernel_rfl) (B := 32) (by kernel_rfl)) rfl (RdF.one (Rd.slice (Rd.int Try.underlying3 (by kernel_rfl)) Try.underlying23 (by kernel_rfl) (B := 8) (by kernel_rfl)) rfl)))))))).imp fun _ h => h
/-- A value of type 41 whose numbers fit and whose texts are no longer than the reach. -/
def G41 (x : S41) : Prop := (Lit.int .i64 x.f0).wf = true ∧ (Lit.int .i64 x.f1).wf = true ∧ G39 x.f2
set_option maxRecDepth 100000 in
theorem rd41 : Rd k41 Try.prog 41 G41 :=
  (Rd.struct (fun a => (⟨a.1, a.2.1, a.2.2⟩ : S41)) (fun _ => rfl) Try.underlying41 (by kernel_rfl) (RdF.cons (Rd.int Try.underlying3 (by kernel_rfl)) rfl (RdF.cons (Rd.int Try.underlying3 (by kernel_rfl)) rfl (RdF.one rd39 rfl)))).imp fun _ h => h
end Go.Proofs.Ytackcingpffidaa.P
namespace Go.Proofs.Ytackcingpffidaa.P
open Go.RowKit Go.Proofs.YtackcingpffidaaW.PrintWords Go.Proofs.YtackcingpffidaaW.PrintLast
/-- What runs without rounds. -/
theorem Ev.const {α : Type} {g : Option α} {r : α} (h : g = some r) : Ev (fun _ => g) r := ⟨0, fun _ _ => h⟩
/-- A function that counts its rounds down first. -/
theorem Ev.succ {α : Type} {g : Nat → Option α} {r : α} (h : Ev (fun k => g (k + 1)) r) : Ev g r := by
  obtain ⟨K, h⟩ := h
  refine ⟨K + 1, fun k hk => ?_⟩
  obtain ⟨m, rfl⟩ : ∃ m, k = m + 1 := ⟨k - 1, by omega⟩
  exact h m (by omega)
theorem Ev.all {α : Type} {g : Nat → Option α} {r : α} (h : ∀ k, g k = some r) : Ev g r := ⟨0, fun k _ => h k⟩
/-- What is told behind one round. -/
theorem Ev.fin {α : Type} {g : Nat → Option α} {r : α} (h : ∀ k, g (k + 1) = some r) : Ev g r := by
  refine ⟨1, fun k hk => ?_⟩
  obtain ⟨m, rfl⟩ : ∃ m, k = m + 1 := ⟨k - 1, by omega⟩
  exact h m

theorem bytes_nil {s : ByteArray} (h : s.toList = ([] : List UInt8)) : s = ⟨#[]⟩ := by
  rw [Lib.toList_data] at h
  have h2 : s.data = #[] := by simpa using h
  cases s
  simp only at h2
  rw [h2]

def V (a b : Int) (s : ByteArray) : Prop := (a = 0 ∧ b = 0 ∧ s = ⟨#[]⟩) ∨ (a = 1 ∧ (b = 0 ∨ b = 1) ∧ s = ⟨#[]⟩) ∨ (a = 2 ∧ s = ⟨#[]⟩) ∨ (a = 3 ∧ b = 0 ∧ s.size ≤ 4096)
theorem ref_valid_dec (a b : Int) (s : ByteArray) : ∃ t, laminaref04_Valid.f a b s = some t ∧ (t = true ↔ V a b s) := by
  have hs : (s.toList == ([] : List UInt8)) = true ↔ s = ⟨#[]⟩ := by
    constructor
    · intro h
      exact bytes_nil (by simpa using h)
    · rintro rfl
      rw [Lib.toList_data]
      rfl
  unfold laminaref04_Valid.f V
  by_cases h0 : a = 0
  · subst h0
    by_cases h1 : b = 0
    · subst h1
      refine ⟨(s.toList == ([] : List UInt8)), rfl, hs.trans ?_⟩
      simp
    · exact ⟨false, by simp [h1], by simp [h1]⟩
  by_cases h1 : a = 1
  · subst h1
    by_cases h2 : b = 0
    · subst h2
      refine ⟨(s.toList == ([] : List UInt8)), rfl, hs.trans ?_⟩
      simp
    · by_cases h3 : b = 1
      · subst h3
        refine ⟨(s.toList == ([] : List UInt8)), rfl, hs.trans ?_⟩
        simp
      · exact ⟨false, by simp [h2, h3], by simp [h2, h3]⟩
  by_cases h2 : a = 2
  · subst h2
    refine ⟨(s.toList == ([] : List UInt8)), rfl, hs.trans ?_⟩
    simp
  by_cases h3 : a = 3
  · subst h3
    by_cases h4 : b = 0
    · subst h4
      refine ⟨decide ((s.size : Int) ≤ 4096), rfl, ?_⟩
      simp
      omega
    · exact ⟨false, by simp [h4], by simp [h4]⟩
  · exact ⟨false, by simp [h0, h1, h2, h3], by simp [h0, h1, h2, h3]⟩

def sgn (a b : Int) : Int := if a < b then -1 else if b < a then 1 else 0
/-- The order of two values. -/
def vc (a0 a1 : Int) (a2 : ByteArray) (b0 b1 : Int) (b2 : ByteArray) : Int :=
  if a0 = b0 then (if a0 = 3 then Lib.compareBytes a2.data.toList b2.data.toList else if a0 = 1 ∨ a0 = 2 then sgn a1 b1 else 0) else if a0 < b0 then -1 else 1
theorem sign_sgn (a b : Int) : value_sign.f (decide (a < b)) (decide (a > b)) = some (sgn a b) := by
  unfold value_sign.f sgn
  by_cases h : a < b <;> by_cases h2 : b < a <;> simp [h, h2]
theorem ref_sign_sgn (a b : Int) : laminaref04_sign.f (decide (a < b)) (decide (a > b)) = some (sgn a b) := by
  unfold laminaref04_sign.f sgn
  by_cases h : a < b <;> by_cases h2 : b < a <;> simp [h, h2]
theorem compare_vc (a0 a1 : Int) (a2 : ByteArray) (b0 b1 : Int) (b2 : ByteArray) : value_Compare.f a0 a1 a2 b0 b1 b2 = some (vc a0 a1 a2 b0 b1 b2) := by
  unfold value_Compare.f vc
  rw [sign_sgn]
  by_cases h : a0 = b0
  · subst h
    by_cases h3 : a0 = 3
    · subst h3; simp [strings_Compare.f]
    · by_cases h1 : a0 = 1
      · subst h1; simp
      · by_cases h2 : a0 = 2
        · subst h2; simp
        · simp [h1, h2, h3]
  · by_cases h2 : a0 < b0 <;> simp [h, h2, value_sign.f]
theorem compareBytes_less : ∀ (x y : List UInt8), Lib.compareBytes x y = if Op.bytesLess x y = true then -1 else if Op.bytesLess y x = true then 1 else 0
  | [], [] => by simp [Lib.compareBytes, Op.bytesLess]
  | [], _ :: _ => by simp [Lib.compareBytes, Op.bytesLess]
  | _ :: _, [] => by simp [Lib.compareBytes, Op.bytesLess]
  | a :: x, b :: y => by
    have ih := compareBytes_less x y
    simp only [Lib.compareBytes, Op.bytesLess]
    rcases Nat.lt_trichotomy a.toNat b.toNat with h | h | h
    · have h1 : a < b := UInt8.lt_iff_toNat_lt.2 h
      simp [h1]
    · obtain rfl : a = b := UInt8.toNat_inj.1 h
      have h2 : ¬ a < a := fun e => by have := UInt8.lt_iff_toNat_lt.1 e; omega
      simp [h2, ih]
    · have h1 : b < a := UInt8.lt_iff_toNat_lt.2 h
      have h2 : ¬ a < b := fun e => by have := UInt8.lt_iff_toNat_lt.1 e; omega
      have h3 : ¬ a = b := fun e => by subst e; omega
      simp [h1, h2, h3]
theorem ref_compare_vc (a0 a1 : Int) (a2 : ByteArray) (b0 b1 : Int) (b2 : ByteArray) (ha : V a0 a1 a2) (hb : V b0 b1 b2) : laminaref04_Compare.f a0 a1 a2 b0 b1 b2 = some (vc a0 a1 a2 b0 b1 b2) := by
  unfold laminaref04_Compare.f vc
  rw [ref_sign_sgn]
  by_cases h : a0 = b0
  · subst h
    by_cases h3 : a0 = 3
    · subst h3
      simp only [if_true, compareBytes_less, Lib.toList_data]
      unfold laminaref04_sign.f
      by_cases l : Op.bytesLess a2.data.toList b2.data.toList = true
      · simp [l]
      · by_cases l2 : Op.bytesLess b2.data.toList a2.data.toList = true <;> simp [l, l2]
    · by_cases h1 : a0 = 1
      · subst h1; simp
      · by_cases h2 : a0 = 2
        · subst h2; simp
        · have ea : a1 = 0 := by unfold V at ha; omega
          have eb : b1 = 0 := by unfold V at hb; omega
          subst ea; subst eb
          simp [h1, h2, h3, sgn]
  · by_cases h2 : a0 < b0 <;> simp [h, h2, laminaref04_sign.f]
theorem valid_same (a b : Int) (s : ByteArray) : value_Valid.f a b s = laminaref04_Valid.f a b s := by
  unfold value_Valid.f laminaref04_Valid.f
  by_cases h : s.toList = ([] : List UInt8)
  · have hb : (s.toList == ([] : List UInt8)) = true := by simpa using h
    rw [if_pos h, hb]
    by_cases h1 : b = 1
    · simp [h1]
    · have h2 : (b == 1) = false := by simpa using h1
      simp [h1, h2]
  · have hb : (s.toList == ([] : List UInt8)) = false := by simpa using h
    rw [if_neg h, hb]
    by_cases h1 : b = 1 <;> simp [h1]
theorem rvV_same (x : S39) : rvV x = vV x := by
  unfold rvV vV
  rw [valid_same]
theorem V_of (x : S39) (h : vV x = true) : V x.f0 x.f1 x.f2 := by
  obtain ⟨t, ht, hv⟩ := ref_valid_dec x.f0 x.f1 x.f2
  have h2 := rvV_is x
  rw [ht] at h2
  rw [rvV_same, h] at h2
  exact hv.1 (Option.some.inj h2)
theorem rcV_same (x y : S39) (hx : vV x = true) (hy : vV y = true) : rcV x y = cV x y := by
  unfold rcV cV
  rw [ref_compare_vc _ _ _ _ _ _ (V_of x hx) (V_of y hy), compare_vc]
end Go.Proofs.Ytackcingpffidaa.P
namespace Go.Proofs.Ytackcingpffidaa.P
open Go.RowKit Go.Proofs.YtackcingpffidaaW.PrintWords Go.Proofs.YtackcingpffidaaW.PrintLast Go.Proofs.YtackcingpffidaaW.PrintMore
set_option linter.unusedVariables false
set_option maxRecDepth 1000000 in
theorem awake_true : laminalaw16_awake.f 40 = some true := by kernel_rfl
theorem awake_ev : Ev (fun k => laminalaw16_awake.f k) true := Ev.of laminalaw16_awake.mono awake_true
theorem awake_bind : Ev (fun k => (laminalaw16_awake.f k).bind fun t => some t) true := awake_ev.bind (Ev.now true)
/-! ### the fences -/
theorem allN_iff (p : Nat → Bool) : ∀ m i, allN p i m = true ↔ ∀ j, i ≤ j → j < i + m → p j = true
  | 0, _ => by simp [allN]; intro j h1 h2; omega
  | m + 1, i => by
    simp only [allN, Bool.and_eq_true, allN_iff p m (i + 1)]
    constructor
    · rintro ⟨h0, h⟩ j h1 h2
      by_cases e : j = i
      · subst e; exact h0
      · exact h j (by omega) (by omega)
    · intro h
      exact ⟨h i (Nat.le_refl _) (by omega), fun j h1 h2 => h j (by omega) (by omega)⟩
theorem rF_fOk (l : List S39) (h : ∀ j, j < l.length → vV (rd_T39 l (j : Nat)) = true) (i : Nat) (hi : i < l.length) : rF l i = fOk l i := by
  unfold rF fOk
  rw [rvV_same]
  by_cases h0 : 0 < i
  · have h1 := h (i - 1) (by omega)
    rw [show ((i - 1 : Nat) : Int) = (i : Int) - 1 from by omega] at h1
    rw [rcV_same _ _ h1 (h i hi)]
  · simp [h0]
theorem fences_same (l : List S39) (r : List Int) (n : Int) : rfencesB l r n = fencesB l r n := by
  unfold rfencesB fencesB
  by_cases h17 : 17 < l.length
  · rw [if_pos h17, if_pos h17]
  rw [if_neg h17, if_neg h17]
  by_cases hk : (l.length = 0) = (n = 0)
  · rw [if_pos hk, if_pos hk]
    by_cases hr : r.length = 2 * l.length
    · rw [if_pos hr, if_pos hr]
      rw [Bool.eq_iff_iff]
      simp only [Bool.and_eq_true, allN_iff]
      have hR : ∀ i : Nat, rR r n l.length i = true ↔ (0 ≤ rd r (2 * (i : Int)) ∧ rd r (2 * (i : Int)) ≤ n ∧ 0 ≤ rd r (2 * (i : Int) + 1) ∧ rd r (2 * (i : Int) + 1) ≤ n ∧ (i = 0 → rd r (2 * (i : Int)) = 0) ∧ (i + 1 = l.length → rd r (2 * (i : Int) + 1) = n) ∧ (0 < i → rd r (2 * (i : Int) - 2) ≤ rd r (2 * (i : Int)) ∧ rd r (2 * (i : Int) - 1) ≤ rd r (2 * (i : Int) + 1) ∧ rd r (2 * (i : Int) - 1) ≤ rd r (2 * (i : Int)))) := by
        intro i
        unfold rR
        simp only [Bool.and_eq_true, Bool.not_eq_true', decide_eq_false_iff_not, Bool.and_eq_false_iff, Bool.or_eq_false_iff, beq_eq_false_iff_ne, bne_eq_false_iff_eq, Int.not_lt, ne_eq]
        constructor
        · rintro ⟨⟨⟨⟨⟨⟨h1, h2⟩, h3⟩, h4⟩, h5⟩, h6⟩, h7⟩
          refine ⟨h1, h2, h3, h4, fun e => ?_, fun e => ?_, fun e => ?_⟩
          · rcases h5 with h5 | h5
            · exact absurd e h5
            · exact h5
          · rcases h6 with h6 | h6
            · exact absurd e h6
            · exact h6
          · rcases h7 with h7 | h7
            · exact absurd e h7
            · exact ⟨h7.1.1, h7.1.2, h7.2⟩
        · rintro ⟨h1, h2, h3, h4, h5, h6, h7⟩
          refine ⟨⟨⟨⟨⟨⟨h1, h2⟩, h3⟩, h4⟩, ?_⟩, ?_⟩, ?_⟩
          · by_cases e : i = 0
            · exact .inr (h5 e)
            · exact .inl e
          · by_cases e : i + 1 = l.length
            · exact .inr (h6 e)
            · exact .inl e
          · by_cases e : 0 < i
            · exact .inr ⟨⟨(h7 e).1, (h7 e).2.1⟩, (h7 e).2.2⟩
            · exact .inl e
      have hr2 : ∀ i : Nat, rOk r n i = true ↔ (0 ≤ rd r (i : Int) ∧ rd r (i : Int) ≤ n ∧ (2 ≤ i → rd r ((i : Int) - 2) ≤ rd r (i : Int))) := by
        intro i
        unfold rOk
        simp only [Bool.and_eq_true, Bool.not_eq_true', decide_eq_false_iff_not, Bool.and_eq_false_iff, Int.not_lt]
        constructor
        · rintro ⟨⟨h1, h2⟩, h3⟩
          exact ⟨h1, h2, fun e => h3.resolve_left (fun h => h e)⟩
        · rintro ⟨h1, h2, h3⟩
          refine ⟨⟨h1, h2⟩, ?_⟩
          by_cases e : 2 ≤ i
          · exact .inr (h3 e)
          · exact .inl e
      have ht : ∀ i : Nat, tOk r i = true ↔ rd r (2 * (i : Int) - 1) ≤ rd r (2 * (i : Int)) := by
        intro i
        unfold tOk
        simp
      constructor
      · intro h
        have hF : ∀ j, j < l.length → rF l j = true ∧ rR r n l.length j = true := fun j hj => by
          have := h j (Nat.zero_le _) (by omega)
          exact this
        have hv : ∀ j, j < l.length → vV (rd_T39 l (j : Nat)) = true := fun j hj => by
          have h1 := (hF j hj).1
          unfold rF at h1
          simp only [Bool.and_eq_true] at h1
          rw [← rvV_same]
          exact h1.1.1.1
        refine ⟨⟨⟨fun j _ hj => ?_, fun j _ hj => ?_⟩, fun j h1 hj => ?_⟩, ?_⟩
        · rw [← rF_fOk l hv j (by omega)]; exact (hF j (by omega)).1
        · rw [hr2]
          have h2 := (hR (j / 2)).1 (hF (j / 2) (by omega)).2
          rcases Nat.mod_two_eq_zero_or_one j with e | e
          · rw [show (j : Int) = 2 * ((j / 2 : Nat) : Int) from by omega]
            exact ⟨h2.1, h2.2.1, fun hj2 => (h2.2.2.2.2.2.2 (by omega)).1⟩
          · rw [show (j : Int) = 2 * ((j / 2 : Nat) : Int) + 1 from by omega]
            refine ⟨h2.2.2.1, h2.2.2.2.1, fun hj2 => ?_⟩
            rw [show 2 * ((j / 2 : Nat) : Int) + 1 - 2 = 2 * ((j / 2 : Nat) : Int) - 1 from by omega]
            exact (h2.2.2.2.2.2.2 (by omega)).2.1
        · rw [ht]
          exact (((hR j).1 (hF j (by omega)).2).2.2.2.2.2.2 (by omega)).2.2
        · by_cases h0 : l.length = 0
          · simp [h0]
          · have ha := (hR 0).1 (hF 0 (by omega)).2
            have hb := (hR (l.length - 1)).1 (hF (l.length - 1) (by omega)).2
            have h1 := ha.2.2.2.2.1 rfl
            have h2 := hb.2.2.2.2.2.1 (by omega)
            rw [show 2 * ((l.length - 1 : Nat) : Int) + 1 = 2 * (l.length : Int) - 1 from by omega] at h2
            have h1' : rd r 0 = 0 := by simpa using h1
            simp [h1', h2]
      · rintro ⟨⟨⟨hF, hr_⟩, ht_⟩, he⟩ j _ hj
        have hv : ∀ j, j < l.length → vV (rd_T39 l (j : Nat)) = true := fun j hj => by
          have h1 := hF j (Nat.zero_le _) (by omega)
          unfold fOk at h1
          simp only [Bool.and_eq_true] at h1
          exact h1.1.1.1
        refine ⟨by rw [rF_fOk l hv j (by omega)]; exact hF j (Nat.zero_le _) hj, ?_⟩
        rw [hR]
        have h0 := (hr2 (2 * j)).1 (hr_ (2 * j) (Nat.zero_le _) (by omega))
        have h1 := (hr2 (2 * j + 1)).1 (hr_ (2 * j + 1) (Nat.zero_le _) (by omega))
        rw [show ((2 * j : Nat) : Int) = 2 * (j : Int) from by omega] at h0
        rw [show ((2 * j + 1 : Nat) : Int) = 2 * (j : Int) + 1 from by omega] at h1
        have he' : rd r 0 = 0 ∧ rd r (2 * (l.length : Int) - 1) = n := by
          simp only [Bool.or_eq_true, beq_iff_eq, Bool.and_eq_true] at he
          rcases he with he | he
          · omega
          · exact he
        refine ⟨h0.1, h0.2.1, h1.1, h1.2.1, fun e => ?_, fun e => ?_, fun e => ⟨h0.2.2 (by omega), ?_, ?_⟩⟩
        · subst e; simpa using he'.1
        · rw [show 2 * (j : Int) + 1 = 2 * (l.length : Int) - 1 from by omega]; exact he'.2
        · have := h1.2.2 (by omega)
          rwa [show 2 * (j : Int) + 1 - 2 = 2 * (j : Int) - 1 from by omega] at this
        · have := (ht j).1 (ht_ j (by omega) (by omega))
          exact this
    · rw [if_neg hr, if_neg hr]
  · rw [if_neg hk, if_neg hk]
end Go.Proofs.Ytackcingpffidaa.P
namespace Go.Proofs.Ytackcingpffidaa.P
open Go.RowKit Go.Proofs.YtackcingpffidaaW.PrintWords Go.Proofs.YtackcingpffidaaW.PrintLast Go.Proofs.YtackcingpffidaaW.PrintMore
set_option linter.unusedVariables false
set_option linter.unusedSimpArgs false
theorem Ev_pos {α : Type} {p : Prop} [Decidable p] {a b : Nat → Option α} {r : α} (h : p) (e : Ev a r) : Ev (fun k => if p then a k else b k) r := Ev.congr (fun _ => if_pos h) e
theorem Ev_neg {α : Type} {p : Prop} [Decidable p] {a b : Nat → Option α} {r : α} (h : ¬ p) (e : Ev b r) : Ev (fun k => if p then a k else b k) r := Ev.congr (fun _ => if_neg h) e
theorem wrap64_small {x : Int} (h0 : 0 ≤ x) (h1 : x < 9223372036854775808) : wrap64 x = x := by unfold wrap64; omega
/-! ### counters -/
section
variable (a0 a1 : Int) (M : List Int) (c : Bool) (C : List Int) (F : List S39) (R : List Int)
theorem ref_row (hC : C.length = 256) (r : Nat) (hr : r < 4) (B : Bool) (hB : Ev (fun k => laminaref16_validCounters.l0 k ((r + 1 : Nat) : Int) a0 a1 M c C F R) B) : ∀ (m x : Nat) (left : Int), x + m = 64 →
    Ev (fun k => laminaref16_validCounters.l1 k (r : Int) left (x : Int) a0 a1 M c C F R) (rowB (((C.take ((r + 1) * 64)).drop (r * 64)).drop x) left && B)
  | 0, x, left, h => by
    obtain rfl : x = 64 := by omega
    rw [List.drop_of_length_le (by rw [List.length_drop, List.length_take]; omega)]
    refine Ev.succ ?_
    simp only [laminaref16_validCounters.l1]
    refine Ev_neg (by omega) ?_
    by_cases h0 : left = 0
    · refine Ev_pos h0 ?_
      subst h0
      rw [wrap64_small (by omega) (by omega)]
      simpa [rowB] using hB
    · refine Ev_neg h0 ?_
      have : rowB [] left = false := by simp [rowB, h0]
      rw [this]
      exact Ev.now _
  | m + 1, x, left, h => by
    have hd : ((C.take ((r + 1) * 64)).drop (r * 64)).drop x = rd C ((r * 64 + x : Nat) : Int) :: ((C.take ((r + 1) * 64)).drop (r * 64)).drop (x + 1) := by
      rw [List.drop_eq_getElem_cons (by rw [List.length_drop, List.length_take]; omega)]
      congr 1
      unfold rd
      rw [Int.toNat_natCast, List.getD_eq_getElem?_getD, List.getElem?_eq_getElem (by omega), List.getElem_drop, List.getElem_take]
      rfl
    rw [hd]
    have hi : wrap64 (wrap64 ((r : Int) * 64) + (x : Int)) = ((r * 64 + x : Nat) : Int) := by rw [wrap64_small (x := (r : Int) * 64) (by omega) (by omega), wrap64_small (by omega) (by omega)]; omega
    refine Ev.succ ?_
    simp only [laminaref16_validCounters.l1]
    rw [hi]
    refine Ev_pos (by omega) (Ev_pos (by omega) (Ev_pos (by omega) ?_))
    generalize rd C ((r * 64 + x : Nat) : Int) = v
    by_cases h1 : v < 0
    · refine Ev_pos h1 ?_
      simp only [rowB, if_pos h1, Bool.false_and]
      exact Ev.now _
    · by_cases h2 : v > left
      · refine Ev_neg h1 (Ev_pos h2 ?_)
        simp only [rowB, if_neg h1, if_pos (show left < v from h2), Bool.false_and]
        exact Ev.now _
      · refine Ev_neg h1 (Ev_neg h2 ?_)
        simp only [rowB, if_neg h1, if_neg (show ¬ left < v from h2)]
        rw [wrap64_small (x := (x : Int) + 1) (by omega) (by omega)]
        have := ref_row hC r hr B hB m (x + 1) (wrap64 (left - v)) (by omega)
        simpa using this
theorem ref_cnt (hC : C.length = 256) : ∀ (m r : Nat), r + m = 4 → Ev (fun k => laminaref16_validCounters.l0 k (r : Int) a0 a1 M c C F R) (cntF C (wrap64 (a0 - a1)) m)
  | 0, r, h => by
    obtain rfl : r = 4 := by omega
    refine Ev.succ ?_
    simp only [laminaref16_validCounters.l0]
    exact Ev_neg (by omega) (Ev.now _)
  | m + 1, r, h => by
    refine Ev.succ ?_
    simp only [laminaref16_validCounters.l0, laminaref16_values.f, Option.bind_some]
    refine Ev_pos (by omega) ?_
    have := ref_row a0 a1 M c C F R hC r (by omega) _ (ref_cnt hC m (r + 1) (by omega)) 64 0 (wrap64 (a0 - a1)) rfl
    rw [List.drop_zero] at this
    simp only [cntF]
    rw [show 3 - m = r from by omega]
    exact this
theorem ref_counters : Ev (fun k => laminaref16_validCounters.f k a0 a1 M c C F R) (cntB C (wrap64 (a0 - a1))) := by
  unfold laminaref16_validCounters.f cntB
  by_cases h : C.length = 256
  · refine Ev.congr (fun k => if_pos (by omega)) ?_
    rw [show (C.length == 256) = true from by simp [h], Bool.true_and]
    exact ref_cnt a0 a1 M c C F R h 4 0 rfl
  · refine Ev.congr (fun k => if_neg (by omega)) ?_
    rw [show (C.length == 256) = false from by simp [h], Bool.false_and]
    exact Ev.now _
/-! ### hashes -/
def upB (M : List Int) (j : Nat) : Bool := !(decide (rd M (j : Int) ≤ rd M ((j : Int) - 1)))
theorem ref_up (hM : M.length ≤ 4611686018427387904) : ∀ (m i : Nat), 1 ≤ i → M.length - i = m → Ev (fun k => laminaref16_validHashes.l0 k (i : Int) a0 a1 M c C F R) (allN (upB M) i m)
  | 0, i, h1, h => by
    refine Ev.succ ?_
    simp only [laminaref16_validHashes.l0]
    exact Ev_neg (by omega) (Ev.now _)
  | m + 1, i, h1, h => by
    refine Ev.succ ?_
    simp only [laminaref16_validHashes.l0]
    rw [wrap64_small (x := (i : Int) - 1) (by omega) (by omega)]
    refine Ev_pos (by omega) (Ev_pos (by omega) (Ev_pos (by omega) (Ev_pos (by omega) ?_)))
    by_cases h2 : rd M (i : Int) ≤ rd M ((i : Int) - 1)
    · refine Ev_pos h2 ?_
      rw [allN_bad _ _ _ (by simp [upB, h2])]
      exact Ev.now _
    · refine Ev_neg h2 ?_
      rw [allN_next _ _ _ (by simp [upB, h2]), wrap64_small (x := (i : Int) + 1) (by omega) (by omega)]
      have := ref_up hM m (i + 1) (by omega) (by omega)
      simpa using this
theorem lib_up (n : Int) (hM : M.length ≤ 4611686018427387904) : ∀ (m i : Nat), 1 ≤ i → M.length - i = m → Ev (fun k => sketch_Valid.l0 k n (i : Int) a0 a1 M c C F R) (allN (upB M) i m && (cntB C n && fencesB F R n))
  | 0, i, h1, h => by
    refine Ev.succ ?_
    simp only [sketch_Valid.l0, sketch_validCounters.f, sketch_validFences.f, Option.bind_some]
    refine Ev_neg (by omega) ?_
    simp only [allN, Bool.true_and]
    cases cntB C n with
    | true => exact Ev.now _
    | false => exact Ev.now _
  | m + 1, i, h1, h => by
    refine Ev.succ ?_
    simp only [sketch_Valid.l0]
    rw [wrap64_small (x := (i : Int) - 1) (by omega) (by omega)]
    refine Ev_pos (by omega) (Ev_pos (by omega) (Ev_pos (by omega) (Ev_pos (by omega) ?_)))
    by_cases h2 : rd M (i : Int) ≤ rd M ((i : Int) - 1)
    · refine Ev_pos h2 ?_
      rw [allN_bad _ _ _ (by simp [upB, h2])]
      exact Ev.now _
    · refine Ev_neg h2 ?_
      rw [allN_next _ _ _ (by simp [upB, h2]), wrap64_small (x := (i : Int) + 1) (by omega) (by omega)]
      have := lib_up n hM m (i + 1) (by omega) (by omega)
      simpa using this
/-- The checks of numbers, hashes and completeness that need no loop fail. -/
def badB (a0 a1 n : Int) (len : Nat) (c : Bool) : Bool := decide (a1 < 0) || decide (a0 < a1) || decide (32 < len) || decide (n < (len : Int)) || (decide (0 < n) && decide (len = 0)) || (!c && decide (len < 32))
def validB (a0 a1 : Int) (M : List Int) (c : Bool) (C : List Int) (F : List S39) (R : List Int) : Bool :=
  !badB a0 a1 (wrap64 (a0 - a1)) M.length c && (allN (upB M) 1 (M.length - 1) && (cntB C (wrap64 (a0 - a1)) && fencesB F R (wrap64 (a0 - a1))))
theorem lib_valid (hM : M.length ≤ 4611686018427387904) : Ev (fun k => sketch_Valid.f k a0 a1 M c C F R) (validB a0 a1 M c C F R) := by
  unfold sketch_Valid.f
  simp only [sketch_count.f, Option.bind_some]
  have hj : ∀ b, Ev (fun k => sketch_Valid.j0 k (wrap64 (a0 - a1)) b a0 a1 M c C F R) (!b && (allN (upB M) 1 (M.length - 1) && (cntB C (wrap64 (a0 - a1)) && fencesB F R (wrap64 (a0 - a1))))) := by
    intro b
    refine Ev.succ ?_
    simp only [sketch_Valid.j0]
    cases b with
    | true => exact Ev.now _
    | false => exact lib_up a0 a1 M c C F R _ hM (M.length - 1) 1 (Nat.le_refl _) rfl
  unfold validB
  generalize wrap64 (a0 - a1) = n at *
  generalize hV : (allN (upB M) 1 (M.length - 1) && (cntB C n && fencesB F R n)) = V at *
  have key : ∀ b, badB a0 a1 n M.length c = b → Ev (fun k => sketch_Valid.j0 k n b a0 a1 M c C F R) (!badB a0 a1 n M.length c && V) := fun b h => by rw [h]; exact hj b
  unfold badB at key ⊢
  by_cases h1 : a1 < 0
  · exact Ev_pos h1 (key true (by simp [h1]))
  by_cases h2 : a1 > a0
  · exact (Ev_neg h1 (Ev_pos h2 (key true (by simp [show a0 < a1 from h2]))))
  by_cases h3 : (M.length : Int) > mn n 32
  · refine Ev_neg h1 (Ev_neg h2 (Ev_pos h3 (key true ?_)))
    have : 32 < M.length ∨ n < (M.length : Int) := by unfold mn at h3; split at h3 <;> omega
    rcases this with h | h <;> simp [h]
  have h3a : ¬ 32 < M.length := by unfold mn at h3; split at h3 <;> omega
  have h3b : ¬ n < (M.length : Int) := by unfold mn at h3; split at h3 <;> omega
  by_cases h4 : n > 0
  · by_cases h5 : (M.length : Int) = 0
    · have h5' : M.length = 0 := by omega
      exact (Ev_neg h1 (Ev_neg h2 (Ev_neg h3 (Ev_pos h4 (Ev_pos h5 (key true (by simp [show 0 < n from h4, h5'])))))))
    · have h5' : ¬ M.length = 0 := by omega
      cases c with
      | true => exact (Ev_neg h1 (Ev_neg h2 (Ev_neg h3 (Ev_pos h4 (Ev_neg h5 (Ev_pos rfl (key false (by simp [h1, show ¬ a0 < a1 from h2, h3a, h3b, h5', show ¬ M = [] from fun e => h5' (by simp [e])]))))))))
      | false => exact (Ev_neg h1 (Ev_neg h2 (Ev_neg h3 (Ev_pos h4 (Ev_neg h5 (Ev_neg (by simp) (key _ (by rw [Bool.eq_iff_iff]; simp [h1, show ¬ a0 < a1 from h2, h3a, h3b, h5', show ¬ M = [] from fun e => h5' (by simp [e])] <;> omega))))))))
  · cases c with
    | true => exact (Ev_neg h1 (Ev_neg h2 (Ev_neg h3 (Ev_neg h4 (Ev_pos rfl (key false (by simp [h1, show ¬ a0 < a1 from h2, h3a, h3b, show ¬ 0 < n from h4])))))))
    | false => exact (Ev_neg h1 (Ev_neg h2 (Ev_neg h3 (Ev_neg h4 (Ev_neg (by simp) (key _ (by rw [Bool.eq_iff_iff]; simp [h1, show ¬ a0 < a1 from h2, h3a, h3b, show ¬ 0 < n from h4] <;> omega)))))))
theorem ref_hashes (hM : M.length ≤ 4611686018427387904) : Ev (fun k => laminaref16_validHashes.f k a0 a1 M c C F R) (!(decide (32 < M.length) || decide (wrap64 (a0 - a1) < (M.length : Int)) || (decide (0 < wrap64 (a0 - a1)) && decide (M.length = 0)) || (!c && decide (M.length < 32))) && allN (upB M) 1 (M.length - 1)) := by
  unfold laminaref16_validHashes.f
  simp only [laminaref16_values.f, Option.bind_some]
  have hj : ∀ b, Ev (fun k => laminaref16_validHashes.j0 k b a0 a1 M c C F R) (!b && allN (upB M) 1 (M.length - 1)) := by
    intro b
    refine Ev.succ ?_
    simp only [laminaref16_validHashes.j0]
    cases b with
    | true => exact Ev.now _
    | false => exact ref_up a0 a1 M c C F R hM (M.length - 1) 1 (Nat.le_refl _) rfl
  generalize wrap64 (a0 - a1) = n at *
  generalize hV : allN (upB M) 1 (M.length - 1) = V at *
  have key : ∀ b, (decide (32 < M.length) || decide (n < (M.length : Int)) || (decide (0 < n) && decide (M.length = 0)) || (!c && decide (M.length < 32))) = b → Ev (fun k => laminaref16_validHashes.j0 k b a0 a1 M c C F R) (!(decide (32 < M.length) || decide (n < (M.length : Int)) || (decide (0 < n) && decide (M.length = 0)) || (!c && decide (M.length < 32))) && V) := fun b h => by rw [h]; exact hj b
  by_cases h3a : (M.length : Int) > 32
  · have h32 : 32 < M.length := by omega
    exact (Ev_pos h3a (key true (by simp [h32])))
  by_cases h3b : (M.length : Int) > n
  · exact (Ev_neg h3a (Ev_pos h3b (key true (by simp [show n < (M.length : Int) from h3b]))))
  have h3a' : ¬ 32 < M.length := by omega
  have h3b' : ¬ n < (M.length : Int) := h3b
  by_cases h4 : n > 0
  · by_cases h5 : (M.length : Int) = 0
    · have h5' : M.length = 0 := by omega
      exact (Ev_neg h3a (Ev_neg h3b (Ev_pos h4 (Ev_pos h5 (key true (by simp [show 0 < n from h4, h5']))))))
    · have h5' : ¬ M.length = 0 := by omega
      cases c with
      | true => exact (Ev_neg h3a (Ev_neg h3b (Ev_pos h4 (Ev_neg h5 (Ev_pos rfl (key false (by simp [h3a', h3b', h5', show ¬ M = [] from fun e => h5' (by simp [e])])))))))
      | false => exact (Ev_neg h3a (Ev_neg h3b (Ev_pos h4 (Ev_neg h5 (Ev_neg (by simp) (key _ (by rw [Bool.eq_iff_iff]; simp [h3a', h3b', h5', show ¬ M = [] from fun e => h5' (by simp [e])] <;> omega)))))))
  · cases c with
    | true => exact (Ev_neg h3a (Ev_neg h3b (Ev_neg h4 (Ev_pos rfl (key false (by simp [h3a', h3b', show ¬ 0 < n from h4]))))))
    | false => exact (Ev_neg h3a (Ev_neg h3b (Ev_neg h4 (Ev_neg (by simp) (key _ (by rw [Bool.eq_iff_iff]; simp [h3a', h3b', show ¬ 0 < n from h4] <;> omega))))))
theorem ref_valid (hM : M.length ≤ 4611686018427387904) : Ev (fun k => laminaref16_Valid.f k a0 a1 M c C F R) (validB a0 a1 M c C F R) := by
  unfold laminaref16_Valid.f validB badB
  have hH := ref_hashes a0 a1 M c C F R hM
  have hC := ref_counters a0 a1 M c C F R
  by_cases h1 : a1 ≥ 0
  · by_cases h2 : a1 ≤ a0
    · refine Ev_pos h1 (Ev_pos h2 ?_)
      simp only [laminaref16_validFences.f, Option.bind_some, fences_same]
      have e1 : decide (a1 < 0) = false := decide_eq_false (by omega)
      have e2 : decide (a0 < a1) = false := decide_eq_false (by omega)
      rw [e1, e2, Bool.false_or, Bool.false_or]
      refine Ev.bind (a := _) hH ?_
      generalize (decide (32 < M.length) || decide (wrap64 (a0 - a1) < (M.length : Int)) || (decide (0 < wrap64 (a0 - a1)) && decide (M.length = 0)) || (!c && decide (M.length < 32))) = b
      cases b with
      | true => exact Ev.now _
      | false =>
        cases allN (upB M) 1 (M.length - 1) with
        | false => exact Ev.now _
        | true =>
          refine Ev_pos rfl ?_
          refine Ev.bind (a := _) hC ?_
          cases cntB C (wrap64 (a0 - a1)) with
          | false => exact Ev.now _
          | true => exact Ev.now _
    · refine Ev_pos h1 (Ev_neg h2 ?_)
      rw [show decide (a0 < a1) = true from decide_eq_true (by omega)]
      simp only [Bool.or_true, Bool.true_or, Bool.not_true, Bool.false_and]
      exact Ev.now _
  · refine Ev_neg h1 ?_
    rw [show decide (a1 < 0) = true from decide_eq_true (by omega)]
    simp only [Bool.true_or, Bool.not_true, Bool.false_and]
    exact Ev.now _
end
end Go.Proofs.Ytackcingpffidaa.P
namespace Go.Proofs.Ytackcingpffidaa.P
open Go.RowKit Go.Proofs.YtackcingpffidaaW.PrintWords Go.Proofs.YtackcingpffidaaW.PrintLast
theorem sketchValid_pure : ∀ (x0 : S26), G26 x0 → ∃ k, laminalaw16_SketchValid.f k x0.f0 x0.f1 x0.f2 x0.f3 x0.f4 x0.f5 x0.f6 = some true := by
  intro x hx
  have hM : x.f2.length ≤ 4611686018427387904 := by have := hx.2.2.1.1; omega
  refine Ev.rounds ?_
  unfold laminalaw16_SketchValid.f
  have hj : ∀ b, Ev (fun k => laminalaw16_SketchValid.j0 k b x.f0 x.f1 x.f2 x.f3 x.f4 x.f5 x.f6) true := by
    intro b
    refine Ev.succ ?_
    simp only [laminalaw16_SketchValid.j0]
    cases b with
    | true => exact Ev_pos rfl awake_bind
    | false =>
      refine Ev_neg (by simp) ?_
      refine Ev.bind (lib_valid x.f0 x.f1 x.f2 x.f3 x.f4 x.f5 x.f6 hM) ?_
      refine Ev.bind (ref_valid x.f0 x.f1 x.f2 x.f3 x.f4 x.f5 x.f6 hM) ?_
      exact Ev_pos (by simp) awake_bind
  by_cases h1 : (x.f2.length : Int) > 100
  · exact Ev_pos h1 (hj true)
  by_cases h2 : (x.f4.length : Int) > 1000
  · exact Ev_neg h1 (Ev_pos h2 (hj true))
  by_cases h3 : (x.f5.length : Int) > 100
  · exact Ev_neg h1 (Ev_neg h2 (Ev_pos h3 (hj true)))
  · exact Ev_neg h1 (Ev_neg h2 (Ev_neg h3 (hj _)))
end Go.Proofs.Ytackcingpffidaa.P
