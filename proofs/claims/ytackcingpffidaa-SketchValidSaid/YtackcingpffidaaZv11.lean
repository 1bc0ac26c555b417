/- What Go functions of the given program return, told as Lean functions, and the walks that show it, with plain facts on them: B22, sketch_CountDistinct, laminalaw16_awake. Conditions: the hypotheses that stand at each theorem. -/
import Derived.Test.YtackcingpffidaaZv0
import Derived.Test.YtackcingpffidaaZv1
import Derived.Test.YtackcingpffidaaZv2
import Derived.Test.YtackcingpffidaaZv8
import Derived.Test.YtackcingpffidaaZv9
import Derived.Test.YtackcingpffidaaZv10
namespace Go.Proofs.Ytackcingpffidaa.P
open Go.RowKit Go.Proofs.YtackcingpffidaaW.PrintWords Go.Proofs.YtackcingpffidaaW.PrintLast Go.Proofs.YtackcingpffidaaW.PrintMore
set_option linter.unusedVariables false
theorem sketch_CountEqual.calls (k : Nat) (a0_0 : Int) (a0_1 : Int) (A0_2 : Option Addr) (c0_2 : Nat) (l0_2 : List Int) (a0_3 : Bool) (A0_4 : Option Addr) (c0_4 : Nat) (l0_4 : List Int) (A0_5 : Option Addr) (c0_5 : Nat) (l0_5 : List (S39)) (A0_6 : Option Addr) (c0_6 : Nat) (l0_6 : List Int) (a1_0 : Int) (a1_1 : Int) (a1_2 : ByteArray) (r1 : Int) (r2 : Int) (w : World) (hr0_2 : Kd.C (Kd.int .u64) w A0_2 l0_2.length l0_2) (hc0_2 : l0_2.length ≤ c0_2) (hr0_4 : Kd.C (Kd.int .i64) w A0_4 l0_4.length l0_4) (hc0_4 : l0_4.length ≤ c0_4) (hr0_5 : Kd.C k39 w A0_5 l0_5.length l0_5) (hc0_5 : l0_5.length ≤ c0_5) (hr0_6 : Kd.C (Kd.int .i64) w A0_6 l0_6.length l0_6) (hc0_6 : l0_6.length ≤ c0_6) (h : sketch_CountEqual.f k a0_0 a0_1 l0_2 a0_3 l0_4 l0_5 l0_6 a1_0 a1_1 a1_2 = some (r1, r2)) :
    Calls Try.prog 22 #[.agg #[.int .i64 a0_0, .int .i64 a0_1, .slice A0_2 l0_2.length c0_2, .bool a0_3, .slice A0_4 l0_4.length c0_4, .slice A0_5 l0_5.length c0_5, .slice A0_6 l0_6.length c0_6], .agg #[.int .i64 a1_0, .int .i64 a1_1, .string a1_2]] w fun e w' => e = .returned (.agg #[.int .i64 r1, .int .i64 r2]) ∧ Below w.heap.size w w' :=
  f22_calls k a0_0 a0_1 A0_2 c0_2 l0_2 a0_3 A0_4 c0_4 l0_4 A0_5 c0_5 l0_5 A0_6 c0_6 l0_6 ⟨a1_0, a1_1, a1_2⟩ r1 r2 w hr0_2 hc0_2 hr0_4 hc0_4 hr0_5 hc0_5 hr0_6 hc0_6 h
end Go.Proofs.Ytackcingpffidaa.P
namespace Go.Proofs.Ytackcingpffidaa.P
open Go.RowKit Go.Proofs.YtackcingpffidaaW.PrintWords Go.Proofs.YtackcingpffidaaW.PrintLast Go.Proofs.YtackcingpffidaaW.PrintMore
attribute [local go_sem] max2_int min2_int max_two min_two max_three min_three max_four min_four Go.Proofs.YtackcingpffidaaQ.str_gtr Go.Proofs.YtackcingpffidaaQ.str_leq Go.Proofs.YtackcingpffidaaQ.str_geq   -- for this text's walks alone
set_option linter.unusedVariables false
set_option linter.unusedSimpArgs false
/-! ### sketch_CountDistinct: function 28 -/
mutual
def sketch_CountDistinct.j0 : Nat → Int → Int → List Int → Bool → List Int → List (S39) → List Int → Int → Int → Option (Int × Int)
  | 0, _, _, _, _, _, _, _, _, _ => none
  | k + 1, x319000, x319001, x319002, x319003, x319004, x319005, x319006, x324000, x324001 => if (x319005.length : Int) > 0 then (if 0 < (x319005.length : Int) then (sketch_CountDistinct.j1 k (x319005.length : Int) (((rd_T39 x319005 0).f0) != 3) x319000 x319001 x319002 x319003 x319004 x319005 x319006 x324000 x324001) else (none)) else (sketch_CountDistinct.j1 k (x319005.length : Int) false x319000 x319001 x319002 x319003 x319004 x319005 x319006 x324000 x324001)
def sketch_CountDistinct.j1 : Nat → Int → Bool → Int → Int → List Int → Bool → List Int → List (S39) → List Int → Int → Int → Option (Int × Int)
  | 0, _, _, _, _, _, _, _, _, _, _, _ => none
  | k + 1, x4, x31, x319000, x319001, x319002, x319003, x319004, x319005, x319006, x324000, x324001 => if x31 = true then (if 0 ≤ (wrap64 (x4 - 1)) then (if (wrap64 (x4 - 1)) < (x319005.length : Int) then (if 0 < (x319005.length : Int) then (if (IntKind.u64.wrap ((IntKind.u64.wrap ((rd_T39 x319005 (wrap64 (x4 - 1))).f1)) - (IntKind.u64.wrap ((rd_T39 x319005 0).f1)))) < (IntKind.u64.wrap (x324001)) then (some (x324000, mn x324001 (wrap64 ((wrap64 (IntKind.u64.wrap ((IntKind.u64.wrap ((rd_T39 x319005 (wrap64 (x4 - 1))).f1)) - (IntKind.u64.wrap ((rd_T39 x319005 0).f1))))) + 1)))) else (some (x324000, x324001))) else (none)) else (none)) else (none)) else (some (x324000, x324001))
end
def sketch_CountDistinct.f (k : Nat) (a0_0 : Int) (a0_1 : Int) (l0_2 : List Int) (a0_3 : Bool) (l0_4 : List Int) (l0_5 : List (S39)) (l0_6 : List Int) : Option (Int × Int) := (sketch_count.f a0_0 a0_1 l0_2 a0_3 l0_4 l0_5 l0_6).bind fun t320 => ((sketch_span.f (l0_2.length : Int) t320).bind fun bt321 => (if a0_3 = true then (sketch_CountDistinct.j0 k a0_0 a0_1 l0_2 a0_3 l0_4 l0_5 l0_6 bt321.1 bt321.2) else (sketch_CountDistinct.j0 k a0_0 a0_1 l0_2 a0_3 l0_4 l0_5 l0_6 (wrap64 (bt321.1 + 1)) bt321.2)))
theorem sketch_CountDistinct.mono_l : ∀ k, (∀ y0 y1 y2 y3 y4 y5 y6 y7 y8, LeO (sketch_CountDistinct.j0 k y0 y1 y2 y3 y4 y5 y6 y7 y8) (sketch_CountDistinct.j0 (k + 1) y0 y1 y2 y3 y4 y5 y6 y7 y8)) ∧ (∀ y0 y1 y2 y3 y4 y5 y6 y7 y8 y9 y10, LeO (sketch_CountDistinct.j1 k y0 y1 y2 y3 y4 y5 y6 y7 y8 y9 y10) (sketch_CountDistinct.j1 (k + 1) y0 y1 y2 y3 y4 y5 y6 y7 y8 y9 y10))
  | 0 => ⟨fun _ _ _ _ _ _ _ _ _ r h => by simp [sketch_CountDistinct.j0] at h, fun _ _ _ _ _ _ _ _ _ _ _ r h => by simp [sketch_CountDistinct.j1] at h⟩
  | k + 1 => by
    obtain ⟨ih0, ih1⟩ := sketch_CountDistinct.mono_l k
    refine ⟨?_, ?_⟩
    · intro y0 y1 y2 y3 y4 y5 y6 y7 y8
      unfold sketch_CountDistinct.j0
      repeat' first
      | (with_reducible exact ih0 _ _ _ _ _ _ _ _ _)
      | (with_reducible exact ih1 _ _ _ _ _ _ _ _ _ _ _)
      | (with_reducible exact LeO.refl _)
      | (with_reducible exact LeO.none _)
      | (with_reducible refine LeO.ite ?_ ?_)
      | (with_reducible refine LeO.bind ?_ (fun _ => ?_))
      | exact ih0 _ _ _ _ _ _ _ _ _
      | exact ih1 _ _ _ _ _ _ _ _ _ _ _
      | exact LeO.none _
      | refine LeO.ite ?_ ?_
      | refine LeO.bind ?_ (fun _ => ?_)
    · intro y0 y1 y2 y3 y4 y5 y6 y7 y8 y9 y10
      unfold sketch_CountDistinct.j1
      repeat' first
      | (with_reducible exact ih0 _ _ _ _ _ _ _ _ _)
      | (with_reducible exact ih1 _ _ _ _ _ _ _ _ _ _ _)
      | (with_reducible exact LeO.refl _)
      | (with_reducible exact LeO.none _)
      | (with_reducible refine LeO.ite ?_ ?_)
      | (with_reducible refine LeO.bind ?_ (fun _ => ?_))
      | exact ih0 _ _ _ _ _ _ _ _ _
      | exact ih1 _ _ _ _ _ _ _ _ _ _ _
      | exact LeO.none _
      | refine LeO.ite ?_ ?_
      | refine LeO.bind ?_ (fun _ => ?_)
theorem sketch_CountDistinct.mono : ∀ a0 a1 a2 a3 a4 a5 a6 k, LeO (sketch_CountDistinct.f k a0 a1 a2 a3 a4 a5 a6) (sketch_CountDistinct.f (k + 1) a0 a1 a2 a3 a4 a5 a6) := by
  intro a0 a1 a2 a3 a4 a5 a6 k
  obtain ⟨ih0, ih1⟩ := sketch_CountDistinct.mono_l k
  unfold sketch_CountDistinct.f
  repeat' first
      | (with_reducible exact ih0 _ _ _ _ _ _ _ _ _)
      | (with_reducible exact ih1 _ _ _ _ _ _ _ _ _ _ _)
      | (with_reducible exact LeO.refl _)
      | (with_reducible exact LeO.none _)
      | (with_reducible refine LeO.ite ?_ ?_)
      | (with_reducible refine LeO.bind ?_ (fun _ => ?_))
      | exact ih0 _ _ _ _ _ _ _ _ _
      | exact ih1 _ _ _ _ _ _ _ _ _ _ _
      | exact LeO.none _
      | refine LeO.ite ?_ ?_
      | refine LeO.bind ?_ (fun _ => ?_)
def sketch_CountDistinct.T1 : Bool × List (List Nat × List Nat) := (true, [([], []), ([0], [0]), ([1], [1]), ([], []), ([3], [3]), ([2, 4, 4], [2, 4]), ([], []), ([6, 5, 5, 0, 1, 2, 3, 4, 5, 6], [5, 6])])
def sketch_CountDistinct.B1 : List Nat := [0, 1, 3, 0, 8, 31, 0, 127]
theorem sketch_CountDistinct.tab1 : rtab .any (opsOf Try.f28 1) = sketch_CountDistinct.T1 := by kernel_rfl
theorem sketch_CountDistinct.bits1 : waitsOk sketch_CountDistinct.T1.2 sketch_CountDistinct.B1 = true := by kernel_rfl
def sketch_CountDistinct.T6 : Bool × List (List Nat × List Nat) := (true, [([], []), ([0], [0]), ([], []), ([2], [2]), ([1, 3], [1, 3]), ([4], [4]), ([5], [5]), ([6], [6]), ([], []), ([8], [8]), ([9], [9]), ([10], [10]), ([11], [11]), ([12], [12]), ([7, 13], [7, 13]), ([14, 0, 1, 2, 3, 4, 5, 6, 7, 8, 9, 10, 11, 12, 13, 14], [14])])
def sketch_CountDistinct.B6 : List Nat := [0, 1, 0, 4, 15, 31, 63, 127, 0, 256, 768, 1792, 3840, 7936, 16383, 32767]
theorem sketch_CountDistinct.tab6 : rtab .any (opsOf Try.f28 6) = sketch_CountDistinct.T6 := by kernel_rfl
theorem sketch_CountDistinct.bits6 : waitsOk sketch_CountDistinct.T6.2 sketch_CountDistinct.B6 = true := by kernel_rfl
set_option maxHeartbeats 8000000 in
set_option maxRecDepth 100000 in
theorem sketch_CountDistinct.calls (k : Nat) (a0_0 : Int) (a0_1 : Int) (A0_2 : Option Addr) (c0_2 : Nat) (l0_2 : List Int) (a0_3 : Bool) (A0_4 : Option Addr) (c0_4 : Nat) (l0_4 : List Int) (A0_5 : Option Addr) (c0_5 : Nat) (l0_5 : List (S39)) (A0_6 : Option Addr) (c0_6 : Nat) (l0_6 : List Int) (r1 : Int) (r2 : Int) (w : World) (hr0_2 : Kd.C (Kd.int .u64) w A0_2 l0_2.length l0_2) (hc0_2 : l0_2.length ≤ c0_2) (hr0_4 : Kd.C (Kd.int .i64) w A0_4 l0_4.length l0_4) (hc0_4 : l0_4.length ≤ c0_4) (hr0_5 : Kd.C k39 w A0_5 l0_5.length l0_5) (hc0_5 : l0_5.length ≤ c0_5) (hr0_6 : Kd.C (Kd.int .i64) w A0_6 l0_6.length l0_6) (hc0_6 : l0_6.length ≤ c0_6) (h : sketch_CountDistinct.f k a0_0 a0_1 l0_2 a0_3 l0_4 l0_5 l0_6 = some (r1, r2)) :
    Calls Try.prog 28 #[.agg #[.int .i64 a0_0, .int .i64 a0_1, .slice A0_2 l0_2.length c0_2, .bool a0_3, .slice A0_4 l0_4.length c0_4, .slice A0_5 l0_5.length c0_5, .slice A0_6 l0_6.length c0_6]] w fun e w' => e = .returned (.agg #[.int .i64 r1, .int .i64 r2]) ∧ Below w.heap.size w w' := by
  have hu26 := Try.underlying26
  have hu44 := Try.underlying44
  have HR0_2 := Aside0.mk hr0_2
  have HC0_2 := Aside0.mk hc0_2
  clear hr0_2 hc0_2
  have HR0_4 := Aside0.mk hr0_4
  have HC0_4 := Aside0.mk hc0_4
  clear hr0_4 hc0_4
  have HR0_5 := Aside0.mk hr0_5
  have HC0_5 := Aside0.mk hc0_5
  clear hr0_5 hc0_5
  have HR0_6 := Aside0.mk hr0_6
  have HC0_6 := Aside0.mk hc0_6
  clear hr0_6 hc0_6
  have HB := Aside0.mk (Below.refl w.heap.size w)
  have H : ((sketch_count.f a0_0 a0_1 l0_2 a0_3 l0_4 l0_5 l0_6).bind fun t320 => ((sketch_span.f (l0_2.length : Int) t320).bind fun bt321 => (if a0_3 = true then (sketch_CountDistinct.j0 k a0_0 a0_1 l0_2 a0_3 l0_4 l0_5 l0_6 bt321.1 bt321.2) else (sketch_CountDistinct.j0 k a0_0 a0_1 l0_2 a0_3 l0_4 l0_5 l0_6 (wrap64 (bt321.1 + 1)) bt321.2)))) = some (r1, r2) := h
  clear h
  replace H := Option.bind_eq_some_iff.mp H
  obtain ⟨t320, A20, H⟩ := H
  replace H : ((sketch_span.f (l0_2.length : Int) t320).bind fun bt321 => (if a0_3 = true then (sketch_CountDistinct.j0 k a0_0 a0_1 l0_2 a0_3 l0_4 l0_5 l0_6 bt321.1 bt321.2) else (sketch_CountDistinct.j0 k a0_0 a0_1 l0_2 a0_3 l0_4 l0_5 l0_6 (wrap64 (bt321.1 + 1)) bt321.2))) = some (r1, r2) := H
  have A2 := Aside0.mk A20
  clear A20
  replace H := Option.bind_eq_some_iff.mp H
  obtain ⟨⟨t321, t322⟩, A30, H⟩ := H
  replace H : (if a0_3 = true then (sketch_CountDistinct.j0 k a0_0 a0_1 l0_2 a0_3 l0_4 l0_5 l0_6 t321 t322) else (sketch_CountDistinct.j0 k a0_0 a0_1 l0_2 a0_3 l0_4 l0_5 l0_6 (wrap64 (t321 + 1)) t322)) = some (r1, r2) := H
  have A3 := Aside0.mk A30
  clear A30
  have HC4 := Aside0.mk H
  clear H
  go_enter Try.func28, Try.ntmps28
  try go_wp2_with (first | ((with_reducible refine gate_dst (N := 1) rfl ?_); refine box_event ?hg (N := 1) ?hd (cs := #[.int .i64 a0_0, .int .i64 a0_1, .slice A0_2 l0_2.length c0_2, .bool a0_3, .slice A0_4 l0_4.length c0_4, .slice A0_5 l0_5.length c0_5, .slice A0_6 l0_6.length c0_6]) (t := 26) ?hr ?_; (case hd => rfl); (case hg => rfl); (case hr => first | (go_simp; done) | (go_simp; rfl)); intro gb318 hg w5 hbox hb; have n0_ := Aside0.mk (below_step (by repeat (first | (with_reducible first | exact HB.out | apply below_alloc | apply pw_below_drewN | apply below_drew1) | exact HB.out)) hb); have n1_ := Aside0.mk (hbox); have n2_ := Aside0.mk ((by rw [hg]; exact (below_size (by repeat (first | (with_reducible first | exact HB.out | apply below_alloc | apply pw_below_drewN | apply below_drew1) | exact HB.out))) : w.heap.size ≤ gb318)); have n3_ := Aside0.mk ((by rw [hg]; exact (below_size (by repeat (first | (with_reducible first | exact HB.out | apply below_alloc | apply pw_below_drewN | apply below_drew1) | exact HB.out))) : w.heap.size ≤ gb318)); clear HB; have HB := n0_; have BK318 := n1_; have GW318 := n2_; have GE318 := n3_; clear n0_ n1_ n2_ n3_; clear hb hbox hg) | ((with_reducible refine gate_dst (N := 2) rfl ?_); refine box_event ?hg (N := 2) ?hd (cs := #[.int .i64 0, .int .i64 0]) (t := 44) ?hr ?_; (case hd => rfl); (case hg => rfl); (case hr => first | (go_simp; done) | (go_simp; rfl)); intro gb319 hg w6 hbox hb; have n0_ := Aside0.mk (blk_below (g := gb318) (o := .cells #[.int .i64 a0_0, .int .i64 a0_1, .slice A0_2 l0_2.length c0_2, .bool a0_3, .slice A0_4 l0_4.length c0_4, .slice A0_5 l0_5.length c0_5, .slice A0_6 l0_6.length c0_6] 26 (0, 0)) (by (with_reducible repeat (first | refine blk_drewN ?_ _ | refine blk_drew ?_ | refine blk_alloc ?_ _)); exact BK318.out) hb); have n1_ := Aside0.mk (below_step (by repeat (first | (with_reducible first | exact HB.out | apply below_alloc | apply pw_below_drewN | apply below_drew1 | refine below_set ?_ GE318.out) | exact HB.out)) hb); have n2_ := Aside0.mk (hbox); have n3_ := Aside0.mk ((by rw [hg]; exact (below_size (by repeat (first | (with_reducible first | exact HB.out | apply below_alloc | apply pw_below_drewN | apply below_drew1 | refine below_set ?_ GE318.out) | exact HB.out))) : w.heap.size ≤ gb319)); have n4_ := Aside0.mk ((by rw [hg]; exact (below_size (by repeat (first | (with_reducible first | exact HB.out | apply below_alloc | apply pw_below_drewN | apply below_drew1 | refine below_set ?_ GE318.out) | exact HB.out))) : w.heap.size ≤ gb319)); have n5_ := Aside0.mk ((by rw [hg]; exact Nat.ne_of_lt (blk_lt (g := gb318) (o := .cells #[.int .i64 a0_0, .int .i64 a0_1, .slice A0_2 l0_2.length c0_2, .bool a0_3, .slice A0_4 l0_4.length c0_4, .slice A0_5 l0_5.length c0_5, .slice A0_6 l0_6.length c0_6] 26 (0, 0)) (by (with_reducible repeat (first | refine blk_drewN ?_ _ | refine blk_drew ?_ | refine blk_alloc ?_ _)); exact BK318.out)) : gb318 ≠ gb319)); have n6_ := Aside0.mk ((by rw [hg]; exact Nat.ne_of_gt (blk_lt (g := gb318) (o := .cells #[.int .i64 a0_0, .int .i64 a0_1, .slice A0_2 l0_2.length c0_2, .bool a0_3, .slice A0_4 l0_4.length c0_4, .slice A0_5 l0_5.length c0_5, .slice A0_6 l0_6.length c0_6] 26 (0, 0)) (by (with_reducible repeat (first | refine blk_drewN ?_ _ | refine blk_drew ?_ | refine blk_alloc ?_ _)); exact BK318.out)) : gb319 ≠ gb318)); clear BK318; clear HB; have BK318 := n0_; have HB := n1_; have BK319 := n2_; have GW319 := n3_; have GE319 := n4_; have NB318_319 := n5_; have NB319_318 := n6_; clear n0_ n1_ n2_ n3_ n4_ n5_ n6_; clear hb hbox hg))
  have n0_ := Aside0.mk (blk_drew BK318.out)
  have n1_ := Aside0.mk (blk_drew BK319.out)
  have n2_ := Aside0.mk (below_drew1 HB.out)
  clear BK318
  clear BK319
  clear HB
  have BK318 := n0_
  have BK319 := n1_
  have HB := n2_
  clear n0_ n1_ n2_
  refine start_ (n := 8) (S := fun w' => w'.cell? ⟨gb318, 0, none⟩ = some (.int .i64 a0_0) ∧ w'.cell? ⟨gb318, 1, none⟩ = some (.int .i64 a0_1) ∧ w'.cell? ⟨gb318, 2, none⟩ = some (.slice A0_2 l0_2.length c0_2) ∧ w'.cell? ⟨gb318, 3, none⟩ = some (.bool a0_3) ∧ w'.cell? ⟨gb318, 4, none⟩ = some (.slice A0_4 l0_4.length c0_4) ∧ w'.cell? ⟨gb318, 5, none⟩ = some (.slice A0_5 l0_5.length c0_5) ∧ w'.cell? ⟨gb318, 6, none⟩ = some (.slice A0_6 l0_6.length c0_6)) (ds := []) #[false, false, false, false, false, false, false, false] (by kernel_rfl) rfl rfl ⟨(blk_cell BK318.out 0).trans rfl, (blk_cell BK318.out 1).trans rfl, (blk_cell BK318.out 2).trans rfl, (blk_cell BK318.out 3).trans rfl, (blk_cell BK318.out 4).trans rfl, (blk_cell BK318.out 5).trans rfl, (blk_cell BK318.out 6).trans rfl⟩ (fun hHeld => ?_); refine with_tabW sketch_CountDistinct.tab1 sketch_CountDistinct.bits1 (fun HT_ HW_ => ?_)
  generalize w6.drew = w7 at BK318 BK319 HB hHeld ⊢
  refine pu_ HT_ 0 (some 6) ?_
  refine tk_ HT_ HW_ 1 (some 7) hHeld ?_
  refine pu_ HT_ 2 (some 8) ?_
  refine tk_ HT_ HW_ 3 (some 9) hHeld ?_
  refine join_ (σ := Nat) 1 #[true, true, true, true, true, true, true, false] (fun s_ => [(10, .int .i64 t320), (11, .agg #[.int .i64 t321, .int .i64 t322]), (3, .pointer (some ⟨s_, 0, none⟩))]) (fun s_ w' => (w'.cell? ⟨gb318, 0, none⟩ = some (.int .i64 a0_0) ∧ w'.cell? ⟨gb318, 1, none⟩ = some (.int .i64 a0_1) ∧ w'.cell? ⟨gb318, 2, none⟩ = some (.slice A0_2 l0_2.length c0_2) ∧ w'.cell? ⟨gb318, 3, none⟩ = some (.bool a0_3) ∧ w'.cell? ⟨gb318, 4, none⟩ = some (.slice A0_4 l0_4.length c0_4) ∧ w'.cell? ⟨gb318, 5, none⟩ = some (.slice A0_5 l0_5.length c0_5) ∧ w'.cell? ⟨gb318, 6, none⟩ = some (.slice A0_6 l0_6.length c0_6)) ∧ (w'.heap[gb318]? = some (.cells #[.int .i64 a0_0, .int .i64 a0_1, .slice A0_2 l0_2.length c0_2, .bool a0_3, .slice A0_4 l0_4.length c0_4, .slice A0_5 l0_5.length c0_5, .slice A0_6 l0_6.length c0_6] 26 (0, 0))) ∧ (w'.heap[gb319]? = some (.cells #[.int .i64 0, .int .i64 0] 44 (0, 0))) ∧ (w'.heap[s_]? = some (.cells #[.int .i64 0, .int .i64 0] 44 (0, 0))) ∧ (w.heap.size ≤ s_) ∧ (w.heap.size ≤ s_) ∧ (gb318 ≠ s_) ∧ (s_ ≠ gb318) ∧ (gb319 ≠ s_) ∧ (s_ ≠ gb319) ∧ (Below w.heap.size w w')) ?_ ?_
  rotate_left
  · intro hCont
    refine two_ (i := 4) (j := 6) (Ni := some 10) (Nj := some 3) #[true, true, true, true, true, false, false, false] #[true, true, true, true, false, false, true, false] rfl rfl rfl rfl (two_of HT_.out (by kernel_rfl)) (by decide) (by decide) (fun K hK => ?_) (fun K hK => ?_)
    · skip
      refine goes_ Try.func66 (by kernel_rfl) rfl #[.agg #[.int .i64 a0_0, .int .i64 a0_1, .slice A0_2 l0_2.length c0_2, .bool a0_3, .slice A0_4 l0_4.length c0_4, .slice A0_5 l0_5.length c0_5, .slice A0_6 l0_6.length c0_6]] (by rfl) rfl rfl (by (try simp only [List.map_toArray, List.map_cons, List.map_nil]); first | done | rfl | (simp only [List.length_drop, List.length_take]; rfl) | (simp only [Int.ofNat_lt, Int.ofNat_le, gt_iff_lt, ge_iff_le]; rfl)) ?_
      with_reducible refine (sketch_count.calls a0_0 a0_1 _ _ l0_2 a0_3 _ _ l0_4 _ _ l0_5 _ _ l0_6 t320 _ ?side1 ?side2 ?side3 ?side4 ?side5 ?side6 ?side7 ?side8 A2.out).mono ?_
      (case side1 => repeat (first | exact (Kd.C_below HR0_2.out HB.out) | (with_reducible refine Kd.C_alloc ?_ _) | (with_reducible refine Kd.C_drewN ?_ _) | (with_reducible refine Kd.C_drew ?_)))
      (case side2 => exact HC0_2.out)
      (case side3 => repeat (first | exact (Kd.C_below HR0_4.out HB.out) | (with_reducible refine Kd.C_alloc ?_ _) | (with_reducible refine Kd.C_drewN ?_ _) | (with_reducible refine Kd.C_drew ?_)))
      (case side4 => exact HC0_4.out)
      (case side5 => repeat (first | exact (Kd.C_below HR0_5.out HB.out) | (with_reducible refine Kd.C_alloc ?_ _) | (with_reducible refine Kd.C_drewN ?_ _) | (with_reducible refine Kd.C_drew ?_)))
      (case side6 => exact HC0_5.out)
      (case side7 => repeat (first | exact (Kd.C_below HR0_6.out HB.out) | (with_reducible refine Kd.C_alloc ?_ _) | (with_reducible refine Kd.C_drewN ?_ _) | (with_reducible refine Kd.C_drew ?_)))
      (case side8 => exact HC0_6.out)
      rintro e w8 ⟨rfl, hb⟩
      refine ⟨_, rfl, ?_⟩
      have n0_ := Aside0.mk (blk_below (g := gb318) (o := .cells #[.int .i64 a0_0, .int .i64 a0_1, .slice A0_2 l0_2.length c0_2, .bool a0_3, .slice A0_4 l0_4.length c0_4, .slice A0_5 l0_5.length c0_5, .slice A0_6 l0_6.length c0_6] 26 (0, 0)) (by (with_reducible repeat (first | refine blk_drewN ?_ _ | refine blk_drew ?_ | refine blk_alloc ?_ _)); exact BK318.out) hb)
      have n1_ := Aside0.mk (blk_below (g := gb319) (o := .cells #[.int .i64 0, .int .i64 0] 44 (0, 0)) (by (with_reducible repeat (first | refine blk_drewN ?_ _ | refine blk_drew ?_ | refine blk_alloc ?_ _)); exact BK319.out) hb)
      have n2_ := Aside0.mk (below_step (by repeat (first | (with_reducible first | exact HB.out | apply below_alloc | apply pw_below_drewN | apply below_drew1 | refine below_set ?_ GE318.out | refine below_set ?_ GE319.out) | exact HB.out)) hb)
      clear BK318
      clear BK319
      clear HB
      have BK318 := n0_
      have BK319 := n1_
      have HB := n2_
      clear n0_ n1_ n2_
      (try clear hb)
      (try clear hb2)
      (try clear hk)
      (try clear hi)
      refine hK.out _ _ ⟨(blk_cell BK318.out 0).trans rfl, (blk_cell BK318.out 1).trans rfl, (blk_cell BK318.out 2).trans rfl, (blk_cell BK318.out 3).trans rfl, (blk_cell BK318.out 4).trans rfl, (blk_cell BK318.out 5).trans rfl, (blk_cell BK318.out 6).trans rfl⟩ (fun hHeld => ?_)
      clear hK K
      refine norm_ (a' := ?_) ?_ ?_
      rotate_left
      · show Act.put _ (some 10) _ = _
        simp only [Act.put, List.setIfInBounds_toArray, List.set_cons_zero, List.set_cons_succ, i64_w, i32_w]
        rfl
      refine two_ (i := 5) (j := 6) (Ni := some 11) (Nj := some 3) #[true, true, true, true, true, true, false, false] #[true, true, true, true, true, false, true, false] rfl rfl rfl rfl (two_of HT_.out (by kernel_rfl)) (by decide) (by decide) (fun K hK => ?_) (fun K hK => ?_)
      · skip
        refine goes_ Try.func73 (by kernel_rfl) rfl #[.int .i64 (l0_2.length : Int), .int .i64 t320] (by rfl) rfl rfl (by (try simp only [List.map_toArray, List.map_cons, List.map_nil]); first | done | rfl | (simp only [List.length_drop, List.length_take]; rfl) | (simp only [Int.ofNat_lt, Int.ofNat_le, gt_iff_lt, ge_iff_le]; rfl)) ?_
        with_reducible refine (sketch_span.calls (l0_2.length : Int) t320 t321 t322 _ A3.out).mono ?_
        rintro e w9 ⟨rfl, hb⟩
        refine ⟨_, rfl, ?_⟩
        have n0_ := Aside0.mk (blk_below (g := gb318) (o := .cells #[.int .i64 a0_0, .int .i64 a0_1, .slice A0_2 l0_2.length c0_2, .bool a0_3, .slice A0_4 l0_4.length c0_4, .slice A0_5 l0_5.length c0_5, .slice A0_6 l0_6.length c0_6] 26 (0, 0)) (by (with_reducible repeat (first | refine blk_drewN ?_ _ | refine blk_drew ?_ | refine blk_alloc ?_ _)); exact BK318.out) hb)
        have n1_ := Aside0.mk (blk_below (g := gb319) (o := .cells #[.int .i64 0, .int .i64 0] 44 (0, 0)) (by (with_reducible repeat (first | refine blk_drewN ?_ _ | refine blk_drew ?_ | refine blk_alloc ?_ _)); exact BK319.out) hb)
        have n2_ := Aside0.mk (below_step (by repeat (first | (with_reducible first | exact HB.out | apply below_alloc | apply pw_below_drewN | apply below_drew1 | refine below_set ?_ GE318.out | refine below_set ?_ GE319.out) | exact HB.out)) hb)
        clear BK318
        clear BK319
        clear HB
        have BK318 := n0_
        have BK319 := n1_
        have HB := n2_
        clear n0_ n1_ n2_
        (try clear hb)
        (try clear hb2)
        (try clear hk)
        (try clear hi)
        refine hK.out _ _ ⟨(blk_cell BK318.out 0).trans rfl, (blk_cell BK318.out 1).trans rfl, (blk_cell BK318.out 2).trans rfl, (blk_cell BK318.out 3).trans rfl, (blk_cell BK318.out 4).trans rfl, (blk_cell BK318.out 5).trans rfl, (blk_cell BK318.out 6).trans rfl⟩ (fun hHeld => ?_)
        clear hK K
        refine norm_ (a' := ?_) ?_ ?_
        rotate_left
        · show Act.put _ (some 11) _ = _
          simp only [Act.put, List.setIfInBounds_toArray, List.set_cons_zero, List.set_cons_succ, i64_w, i32_w]
          rfl
        refine on_ HT_ 6 (some 3) (fun K hK => ?_)
        refine box_step ?hg (N := 3) ?hd (cs := #[.int .i64 0, .int .i64 0]) (t := 44) ?hr ?_; (case hd => rfl); (case hg => rfl); (case hr => first | (go_simp; done) | (go_simp; rfl))
        intro gb323 hg w10 hbox hb
        have n0_ := Aside0.mk (blk_below (g := gb318) (o := .cells #[.int .i64 a0_0, .int .i64 a0_1, .slice A0_2 l0_2.length c0_2, .bool a0_3, .slice A0_4 l0_4.length c0_4, .slice A0_5 l0_5.length c0_5, .slice A0_6 l0_6.length c0_6] 26 (0, 0)) (by (with_reducible repeat (first | refine blk_drewN ?_ _ | refine blk_drew ?_ | refine blk_alloc ?_ _)); exact BK318.out) hb)
        have n1_ := Aside0.mk (blk_below (g := gb319) (o := .cells #[.int .i64 0, .int .i64 0] 44 (0, 0)) (by (with_reducible repeat (first | refine blk_drewN ?_ _ | refine blk_drew ?_ | refine blk_alloc ?_ _)); exact BK319.out) hb)
        have n2_ := Aside0.mk (below_step (by repeat (first | (with_reducible first | exact HB.out | apply below_alloc | apply pw_below_drewN | apply below_drew1 | refine below_set ?_ GE318.out | refine below_set ?_ GE319.out) | exact HB.out)) hb)
        have n3_ := Aside0.mk (hbox)
        have n4_ := Aside0.mk ((by rw [hg]; exact (below_size (by repeat (first | (with_reducible first | exact HB.out | apply below_alloc | apply pw_below_drewN | apply below_drew1 | refine below_set ?_ GE318.out | refine below_set ?_ GE319.out) | exact HB.out))) : w.heap.size ≤ gb323))
        have n5_ := Aside0.mk ((by rw [hg]; exact (below_size (by repeat (first | (with_reducible first | exact HB.out | apply below_alloc | apply pw_below_drewN | apply below_drew1 | refine below_set ?_ GE318.out | refine below_set ?_ GE319.out) | exact HB.out))) : w.heap.size ≤ gb323))
        have n6_ := Aside0.mk ((by rw [hg]; exact Nat.ne_of_lt (blk_lt (g := gb318) (o := .cells #[.int .i64 a0_0, .int .i64 a0_1, .slice A0_2 l0_2.length c0_2, .bool a0_3, .slice A0_4 l0_4.length c0_4, .slice A0_5 l0_5.length c0_5, .slice A0_6 l0_6.length c0_6] 26 (0, 0)) (by (with_reducible repeat (first | refine blk_drewN ?_ _ | refine blk_drew ?_ | refine blk_alloc ?_ _)); exact BK318.out)) : gb318 ≠ gb323))
        have n7_ := Aside0.mk ((by rw [hg]; exact Nat.ne_of_gt (blk_lt (g := gb318) (o := .cells #[.int .i64 a0_0, .int .i64 a0_1, .slice A0_2 l0_2.length c0_2, .bool a0_3, .slice A0_4 l0_4.length c0_4, .slice A0_5 l0_5.length c0_5, .slice A0_6 l0_6.length c0_6] 26 (0, 0)) (by (with_reducible repeat (first | refine blk_drewN ?_ _ | refine blk_drew ?_ | refine blk_alloc ?_ _)); exact BK318.out)) : gb323 ≠ gb318))
        have n8_ := Aside0.mk ((by rw [hg]; exact Nat.ne_of_lt (blk_lt (g := gb319) (o := .cells #[.int .i64 0, .int .i64 0] 44 (0, 0)) (by (with_reducible repeat (first | refine blk_drewN ?_ _ | refine blk_drew ?_ | refine blk_alloc ?_ _)); exact BK319.out)) : gb319 ≠ gb323))
        have n9_ := Aside0.mk ((by rw [hg]; exact Nat.ne_of_gt (blk_lt (g := gb319) (o := .cells #[.int .i64 0, .int .i64 0] 44 (0, 0)) (by (with_reducible repeat (first | refine blk_drewN ?_ _ | refine blk_drew ?_ | refine blk_alloc ?_ _)); exact BK319.out)) : gb323 ≠ gb319))
        clear BK318
        clear BK319
        clear HB
        have BK318 := n0_
        have BK319 := n1_
        have HB := n2_
        have BK323 := n3_
        have GW323 := n4_
        have GE323 := n5_
        have NB318_323 := n6_
        have NB323_318 := n7_
        have NB319_323 := n8_
        have NB323_319 := n9_
        clear n0_ n1_ n2_ n3_ n4_ n5_ n6_ n7_ n8_ n9_
        clear hb hbox hg
        refine hK.out _ _ ⟨(blk_cell BK318.out 0).trans rfl, (blk_cell BK318.out 1).trans rfl, (blk_cell BK318.out 2).trans rfl, (blk_cell BK318.out 3).trans rfl, (blk_cell BK318.out 4).trans rfl, (blk_cell BK318.out 5).trans rfl, (blk_cell BK318.out 6).trans rfl⟩ (fun hHeld => ?_)
        clear hK K
        refine norm_ (a' := ?_) ?_ ?_
        rotate_left
        · show Act.put _ (some 3) _ = _
          simp only [Act.put, List.setIfInBounds_toArray, List.set_cons_zero, List.set_cons_succ, i64_w, i32_w]
          rfl
        exact norm_ (by simp only [putAll, Act.put, List.setIfInBounds_toArray, List.set_cons_zero, List.set_cons_succ]) (hCont (gb323) _ ⟨hHeld, (by (with_reducible repeat (first | refine blk_drewN ?_ _ | refine blk_drew ?_ | refine blk_alloc ?_ _)); exact BK318.out), (by (with_reducible repeat (first | refine blk_drewN ?_ _ | refine blk_drew ?_ | refine blk_alloc ?_ _)); exact BK319.out), (by (with_reducible repeat (first | refine blk_drewN ?_ _ | refine blk_drew ?_ | refine blk_alloc ?_ _)); exact BK323.out), GW323.out, GE323.out, NB318_323.out, NB323_318.out, NB319_323.out, NB323_319.out, (by repeat (first | (with_reducible first | exact HB.out | apply below_alloc | apply pw_below_drewN | apply below_drew1 | refine below_set ?_ GE318.out | refine below_set ?_ GE319.out | refine below_set ?_ GE323.out) | exact HB.out))⟩)
      · skip
        refine box_step ?hg (N := 3) ?hd (cs := #[.int .i64 0, .int .i64 0]) (t := 44) ?hr ?_; (case hd => rfl); (case hg => rfl); (case hr => first | (go_simp; done) | (go_simp; rfl))
        intro gb323 hg w9 hbox hb
        have n0_ := Aside0.mk (blk_below (g := gb318) (o := .cells #[.int .i64 a0_0, .int .i64 a0_1, .slice A0_2 l0_2.length c0_2, .bool a0_3, .slice A0_4 l0_4.length c0_4, .slice A0_5 l0_5.length c0_5, .slice A0_6 l0_6.length c0_6] 26 (0, 0)) (by (with_reducible repeat (first | refine blk_drewN ?_ _ | refine blk_drew ?_ | refine blk_alloc ?_ _)); exact BK318.out) hb)
        have n1_ := Aside0.mk (blk_below (g := gb319) (o := .cells #[.int .i64 0, .int .i64 0] 44 (0, 0)) (by (with_reducible repeat (first | refine blk_drewN ?_ _ | refine blk_drew ?_ | refine blk_alloc ?_ _)); exact BK319.out) hb)
        have n2_ := Aside0.mk (below_step (by repeat (first | (with_reducible first | exact HB.out | apply below_alloc | apply pw_below_drewN | apply below_drew1 | refine below_set ?_ GE318.out | refine below_set ?_ GE319.out) | exact HB.out)) hb)
        have n3_ := Aside0.mk (hbox)
        have n4_ := Aside0.mk ((by rw [hg]; exact (below_size (by repeat (first | (with_reducible first | exact HB.out | apply below_alloc | apply pw_below_drewN | apply below_drew1 | refine below_set ?_ GE318.out | refine below_set ?_ GE319.out) | exact HB.out))) : w.heap.size ≤ gb323))
        have n5_ := Aside0.mk ((by rw [hg]; exact (below_size (by repeat (first | (with_reducible first | exact HB.out | apply below_alloc | apply pw_below_drewN | apply below_drew1 | refine below_set ?_ GE318.out | refine below_set ?_ GE319.out) | exact HB.out))) : w.heap.size ≤ gb323))
        have n6_ := Aside0.mk ((by rw [hg]; exact Nat.ne_of_lt (blk_lt (g := gb318) (o := .cells #[.int .i64 a0_0, .int .i64 a0_1, .slice A0_2 l0_2.length c0_2, .bool a0_3, .slice A0_4 l0_4.length c0_4, .slice A0_5 l0_5.length c0_5, .slice A0_6 l0_6.length c0_6] 26 (0, 0)) (by (with_reducible repeat (first | refine blk_drewN ?_ _ | refine blk_drew ?_ | refine blk_alloc ?_ _)); exact BK318.out)) : gb318 ≠ gb323))
        have n7_ := Aside0.mk ((by rw [hg]; exact Nat.ne_of_gt (blk_lt (g := gb318) (o := .cells #[.int .i64 a0_0, .int .i64 a0_1, .slice A0_2 l0_2.length c0_2, .bool a0_3, .slice A0_4 l0_4.length c0_4, .slice A0_5 l0_5.length c0_5, .slice A0_6 l0_6.length c0_6] 26 (0, 0)) (by (with_reducible repeat (first | refine blk_drewN ?_ _ | refine blk_drew ?_ | refine blk_alloc ?_ _)); exact BK318.out)) : gb323 ≠ gb318))
        have n8_ := Aside0.mk ((by rw [hg]; exact Nat.ne_of_lt (blk_lt (g := gb319) (o := .cells #[.int .i64 0, .int .i64 0] 44 (0, 0)) (by (with_reducible repeat (first | refine blk_drewN ?_ _ | refine blk_drew ?_ | refine blk_alloc ?_ _)); exact BK319.out)) : gb319 ≠ gb323))
        have n9_ := Aside0.mk ((by rw [hg]; exact Nat.ne_of_gt (blk_lt (g := gb319) (o := .cells #[.int .i64 0, .int .i64 0] 44 (0, 0)) (by (with_reducible repeat (first | refine blk_drewN ?_ _ | refine blk_drew ?_ | refine blk_alloc ?_ _)); exact BK319.out)) : gb323 ≠ gb319))
        clear BK318
        clear BK319
        clear HB
        have BK318 := n0_
        have BK319 := n1_
        have HB := n2_
        have BK323 := n3_
        have GW323 := n4_
        have GE323 := n5_
        have NB318_323 := n6_
        have NB323_318 := n7_
        have NB319_323 := n8_
        have NB323_319 := n9_
        clear n0_ n1_ n2_ n3_ n4_ n5_ n6_ n7_ n8_ n9_
        clear hb hbox hg
        refine hK.out _ _ ⟨(blk_cell BK318.out 0).trans rfl, (blk_cell BK318.out 1).trans rfl, (blk_cell BK318.out 2).trans rfl, (blk_cell BK318.out 3).trans rfl, (blk_cell BK318.out 4).trans rfl, (blk_cell BK318.out 5).trans rfl, (blk_cell BK318.out 6).trans rfl⟩ (fun hHeld => ?_)
        clear hK K
        refine norm_ (a' := ?_) ?_ ?_
        rotate_left
        · show Act.put _ (some 3) _ = _
          simp only [Act.put, List.setIfInBounds_toArray, List.set_cons_zero, List.set_cons_succ, i64_w, i32_w]
          rfl
        refine on_ HT_ 5 (some 11) (fun K hK => ?_)
        refine goes_ Try.func73 (by kernel_rfl) rfl #[.int .i64 (l0_2.length : Int), .int .i64 t320] (by rfl) rfl rfl (by (try simp only [List.map_toArray, List.map_cons, List.map_nil]); first | done | rfl | (simp only [List.length_drop, List.length_take]; rfl) | (simp only [Int.ofNat_lt, Int.ofNat_le, gt_iff_lt, ge_iff_le]; rfl)) ?_
        with_reducible refine (sketch_span.calls (l0_2.length : Int) t320 t321 t322 _ A3.out).mono ?_
        rintro e w10 ⟨rfl, hb⟩
        refine ⟨_, rfl, ?_⟩
        have n0_ := Aside0.mk (blk_below (g := gb318) (o := .cells #[.int .i64 a0_0, .int .i64 a0_1, .slice A0_2 l0_2.length c0_2, .bool a0_3, .slice A0_4 l0_4.length c0_4, .slice A0_5 l0_5.length c0_5, .slice A0_6 l0_6.length c0_6] 26 (0, 0)) (by (with_reducible repeat (first | refine blk_drewN ?_ _ | refine blk_drew ?_ | refine blk_alloc ?_ _)); exact BK318.out) hb)
        have n1_ := Aside0.mk (blk_below (g := gb319) (o := .cells #[.int .i64 0, .int .i64 0] 44 (0, 0)) (by (with_reducible repeat (first | refine blk_drewN ?_ _ | refine blk_drew ?_ | refine blk_alloc ?_ _)); exact BK319.out) hb)
        have n2_ := Aside0.mk (blk_below (g := gb323) (o := .cells #[.int .i64 0, .int .i64 0] 44 (0, 0)) (by (with_reducible repeat (first | refine blk_drewN ?_ _ | refine blk_drew ?_ | refine blk_alloc ?_ _)); exact BK323.out) hb)
        have n3_ := Aside0.mk (below_step (by repeat (first | (with_reducible first | exact HB.out | apply below_alloc | apply pw_below_drewN | apply below_drew1 | refine below_set ?_ GE318.out | refine below_set ?_ GE319.out | refine below_set ?_ GE323.out) | exact HB.out)) hb)
        clear BK318
        clear BK319
        clear BK323
        clear HB
        have BK318 := n0_
        have BK319 := n1_
        have BK323 := n2_
        have HB := n3_
        clear n0_ n1_ n2_ n3_
        (try clear hb)
        (try clear hb2)
        (try clear hk)
        (try clear hi)
        refine hK.out _ _ ⟨(blk_cell BK318.out 0).trans rfl, (blk_cell BK318.out 1).trans rfl, (blk_cell BK318.out 2).trans rfl, (blk_cell BK318.out 3).trans rfl, (blk_cell BK318.out 4).trans rfl, (blk_cell BK318.out 5).trans rfl, (blk_cell BK318.out 6).trans rfl⟩ (fun hHeld => ?_)
        clear hK K
        refine norm_ (a' := ?_) ?_ ?_
        rotate_left
        · show Act.put _ (some 11) _ = _
          simp only [Act.put, List.setIfInBounds_toArray, List.set_cons_zero, List.set_cons_succ, i64_w, i32_w]
          rfl
        exact norm_ (by simp only [putAll, Act.put, List.setIfInBounds_toArray, List.set_cons_zero, List.set_cons_succ]) (hCont (gb323) _ ⟨hHeld, (by (with_reducible repeat (first | refine blk_drewN ?_ _ | refine blk_drew ?_ | refine blk_alloc ?_ _)); exact BK318.out), (by (with_reducible repeat (first | refine blk_drewN ?_ _ | refine blk_drew ?_ | refine blk_alloc ?_ _)); exact BK319.out), (by (with_reducible repeat (first | refine blk_drewN ?_ _ | refine blk_drew ?_ | refine blk_alloc ?_ _)); exact BK323.out), GW323.out, GE323.out, NB318_323.out, NB323_318.out, NB319_323.out, NB323_319.out, (by repeat (first | (with_reducible first | exact HB.out | apply below_alloc | apply pw_below_drewN | apply below_drew1 | refine below_set ?_ GE318.out | refine below_set ?_ GE319.out | refine below_set ?_ GE323.out) | exact HB.out))⟩)
    · skip
      refine box_step ?hg (N := 3) ?hd (cs := #[.int .i64 0, .int .i64 0]) (t := 44) ?hr ?_; (case hd => rfl); (case hg => rfl); (case hr => first | (go_simp; done) | (go_simp; rfl))
      intro gb323 hg w8 hbox hb
      have n0_ := Aside0.mk (blk_below (g := gb318) (o := .cells #[.int .i64 a0_0, .int .i64 a0_1, .slice A0_2 l0_2.length c0_2, .bool a0_3, .slice A0_4 l0_4.length c0_4, .slice A0_5 l0_5.length c0_5, .slice A0_6 l0_6.length c0_6] 26 (0, 0)) (by (with_reducible repeat (first | refine blk_drewN ?_ _ | refine blk_drew ?_ | refine blk_alloc ?_ _)); exact BK318.out) hb)
      have n1_ := Aside0.mk (blk_below (g := gb319) (o := .cells #[.int .i64 0, .int .i64 0] 44 (0, 0)) (by (with_reducible repeat (first | refine blk_drewN ?_ _ | refine blk_drew ?_ | refine blk_alloc ?_ _)); exact BK319.out) hb)
      have n2_ := Aside0.mk (below_step (by repeat (first | (with_reducible first | exact HB.out | apply below_alloc | apply pw_below_drewN | apply below_drew1 | refine below_set ?_ GE318.out | refine below_set ?_ GE319.out) | exact HB.out)) hb)
      have n3_ := Aside0.mk (hbox)
      have n4_ := Aside0.mk ((by rw [hg]; exact (below_size (by repeat (first | (with_reducible first | exact HB.out | apply below_alloc | apply pw_below_drewN | apply below_drew1 | refine below_set ?_ GE318.out | refine below_set ?_ GE319.out) | exact HB.out))) : w.heap.size ≤ gb323))
      have n5_ := Aside0.mk ((by rw [hg]; exact (below_size (by repeat (first | (with_reducible first | exact HB.out | apply below_alloc | apply pw_below_drewN | apply below_drew1 | refine below_set ?_ GE318.out | refine below_set ?_ GE319.out) | exact HB.out))) : w.heap.size ≤ gb323))
      have n6_ := Aside0.mk ((by rw [hg]; exact Nat.ne_of_lt (blk_lt (g := gb318) (o := .cells #[.int .i64 a0_0, .int .i64 a0_1, .slice A0_2 l0_2.length c0_2, .bool a0_3, .slice A0_4 l0_4.length c0_4, .slice A0_5 l0_5.length c0_5, .slice A0_6 l0_6.length c0_6] 26 (0, 0)) (by (with_reducible repeat (first | refine blk_drewN ?_ _ | refine blk_drew ?_ | refine blk_alloc ?_ _)); exact BK318.out)) : gb318 ≠ gb323))
      have n7_ := Aside0.mk ((by rw [hg]; exact Nat.ne_of_gt (blk_lt (g := gb318) (o := .cells #[.int .i64 a0_0, .int .i64 a0_1, .slice A0_2 l0_2.length c0_2, .bool a0_3, .slice A0_4 l0_4.length c0_4, .slice A0_5 l0_5.length c0_5, .slice A0_6 l0_6.length c0_6] 26 (0, 0)) (by (with_reducible repeat (first | refine blk_drewN ?_ _ | refine blk_drew ?_ | refine blk_alloc ?_ _)); exact BK318.out)) : gb323 ≠ gb318))
      have n8_ := Aside0.mk ((by rw [hg]; exact Nat.ne_of_lt (blk_lt (g := gb319) (o := .cells #[.int .i64 0, .int .i64 0] 44 (0, 0)) (by (with_reducible repeat (first | refine blk_drewN ?_ _ | refine blk_drew ?_ | refine blk_alloc ?_ _)); exact BK319.out)) : gb319 ≠ gb323))
      have n9_ := Aside0.mk ((by rw [hg]; exact Nat.ne_of_gt (blk_lt (g := gb319) (o := .cells #[.int .i64 0, .int .i64 0] 44 (0, 0)) (by (with_reducible repeat (first | refine blk_drewN ?_ _ | refine blk_drew ?_ | refine blk_alloc ?_ _)); exact BK319.out)) : gb323 ≠ gb319))
      clear BK318
      clear BK319
      clear HB
      have BK318 := n0_
      have BK319 := n1_
      have HB := n2_
      have BK323 := n3_
      have GW323 := n4_
      have GE323 := n5_
      have NB318_323 := n6_
      have NB323_318 := n7_
      have NB319_323 := n8_
      have NB323_319 := n9_
      clear n0_ n1_ n2_ n3_ n4_ n5_ n6_ n7_ n8_ n9_
      clear hb hbox hg
      refine hK.out _ _ ⟨(blk_cell BK318.out 0).trans rfl, (blk_cell BK318.out 1).trans rfl, (blk_cell BK318.out 2).trans rfl, (blk_cell BK318.out 3).trans rfl, (blk_cell BK318.out 4).trans rfl, (blk_cell BK318.out 5).trans rfl, (blk_cell BK318.out 6).trans rfl⟩ (fun hHeld => ?_)
      clear hK K
      refine norm_ (a' := ?_) ?_ ?_
      rotate_left
      · show Act.put _ (some 3) _ = _
        simp only [Act.put, List.setIfInBounds_toArray, List.set_cons_zero, List.set_cons_succ, i64_w, i32_w]
        rfl
      refine on_ HT_ 4 (some 10) (fun K hK => ?_)
      refine goes_ Try.func66 (by kernel_rfl) rfl #[.agg #[.int .i64 a0_0, .int .i64 a0_1, .slice A0_2 l0_2.length c0_2, .bool a0_3, .slice A0_4 l0_4.length c0_4, .slice A0_5 l0_5.length c0_5, .slice A0_6 l0_6.length c0_6]] (by rfl) rfl rfl (by (try simp only [List.map_toArray, List.map_cons, List.map_nil]); first | done | rfl | (simp only [List.length_drop, List.length_take]; rfl) | (simp only [Int.ofNat_lt, Int.ofNat_le, gt_iff_lt, ge_iff_le]; rfl)) ?_
      with_reducible refine (sketch_count.calls a0_0 a0_1 _ _ l0_2 a0_3 _ _ l0_4 _ _ l0_5 _ _ l0_6 t320 _ ?side1 ?side2 ?side3 ?side4 ?side5 ?side6 ?side7 ?side8 A2.out).mono ?_
      (case side1 => repeat (first | exact (Kd.C_below HR0_2.out HB.out) | (with_reducible refine Kd.C_alloc ?_ _) | (with_reducible refine Kd.C_drewN ?_ _) | (with_reducible refine Kd.C_drew ?_)))
      (case side2 => exact HC0_2.out)
      (case side3 => repeat (first | exact (Kd.C_below HR0_4.out HB.out) | (with_reducible refine Kd.C_alloc ?_ _) | (with_reducible refine Kd.C_drewN ?_ _) | (with_reducible refine Kd.C_drew ?_)))
      (case side4 => exact HC0_4.out)
      (case side5 => repeat (first | exact (Kd.C_below HR0_5.out HB.out) | (with_reducible refine Kd.C_alloc ?_ _) | (with_reducible refine Kd.C_drewN ?_ _) | (with_reducible refine Kd.C_drew ?_)))
      (case side6 => exact HC0_5.out)
      (case side7 => repeat (first | exact (Kd.C_below HR0_6.out HB.out) | (with_reducible refine Kd.C_alloc ?_ _) | (with_reducible refine Kd.C_drewN ?_ _) | (with_reducible refine Kd.C_drew ?_)))
      (case side8 => exact HC0_6.out)
      rintro e w9 ⟨rfl, hb⟩
      refine ⟨_, rfl, ?_⟩
      have n0_ := Aside0.mk (blk_below (g := gb318) (o := .cells #[.int .i64 a0_0, .int .i64 a0_1, .slice A0_2 l0_2.length c0_2, .bool a0_3, .slice A0_4 l0_4.length c0_4, .slice A0_5 l0_5.length c0_5, .slice A0_6 l0_6.length c0_6] 26 (0, 0)) (by (with_reducible repeat (first | refine blk_drewN ?_ _ | refine blk_drew ?_ | refine blk_alloc ?_ _)); exact BK318.out) hb)
      have n1_ := Aside0.mk (blk_below (g := gb319) (o := .cells #[.int .i64 0, .int .i64 0] 44 (0, 0)) (by (with_reducible repeat (first | refine blk_drewN ?_ _ | refine blk_drew ?_ | refine blk_alloc ?_ _)); exact BK319.out) hb)
      have n2_ := Aside0.mk (blk_below (g := gb323) (o := .cells #[.int .i64 0, .int .i64 0] 44 (0, 0)) (by (with_reducible repeat (first | refine blk_drewN ?_ _ | refine blk_drew ?_ | refine blk_alloc ?_ _)); exact BK323.out) hb)
      have n3_ := Aside0.mk (below_step (by repeat (first | (with_reducible first | exact HB.out | apply below_alloc | apply pw_below_drewN | apply below_drew1 | refine below_set ?_ GE318.out | refine below_set ?_ GE319.out | refine below_set ?_ GE323.out) | exact HB.out)) hb)
      clear BK318
      clear BK319
      clear BK323
      clear HB
      have BK318 := n0_
      have BK319 := n1_
      have BK323 := n2_
      have HB := n3_
      clear n0_ n1_ n2_ n3_
      (try clear hb)
      (try clear hb2)
      (try clear hk)
      (try clear hi)
      refine hK.out _ _ ⟨(blk_cell BK318.out 0).trans rfl, (blk_cell BK318.out 1).trans rfl, (blk_cell BK318.out 2).trans rfl, (blk_cell BK318.out 3).trans rfl, (blk_cell BK318.out 4).trans rfl, (blk_cell BK318.out 5).trans rfl, (blk_cell BK318.out 6).trans rfl⟩ (fun hHeld => ?_)
      clear hK K
      refine norm_ (a' := ?_) ?_ ?_
      rotate_left
      · show Act.put _ (some 10) _ = _
        simp only [Act.put, List.setIfInBounds_toArray, List.set_cons_zero, List.set_cons_succ, i64_w, i32_w]
        rfl
      refine on_ HT_ 5 (some 11) (fun K hK => ?_)
      refine goes_ Try.func73 (by kernel_rfl) rfl #[.int .i64 (l0_2.length : Int), .int .i64 t320] (by rfl) rfl rfl (by (try simp only [List.map_toArray, List.map_cons, List.map_nil]); first | done | rfl | (simp only [List.length_drop, List.length_take]; rfl) | (simp only [Int.ofNat_lt, Int.ofNat_le, gt_iff_lt, ge_iff_le]; rfl)) ?_
      with_reducible refine (sketch_span.calls (l0_2.length : Int) t320 t321 t322 _ A3.out).mono ?_
      rintro e w10 ⟨rfl, hb⟩
      refine ⟨_, rfl, ?_⟩
      have n0_ := Aside0.mk (blk_below (g := gb318) (o := .cells #[.int .i64 a0_0, .int .i64 a0_1, .slice A0_2 l0_2.length c0_2, .bool a0_3, .slice A0_4 l0_4.length c0_4, .slice A0_5 l0_5.length c0_5, .slice A0_6 l0_6.length c0_6] 26 (0, 0)) (by (with_reducible repeat (first | refine blk_drewN ?_ _ | refine blk_drew ?_ | refine blk_alloc ?_ _)); exact BK318.out) hb)
      have n1_ := Aside0.mk (blk_below (g := gb319) (o := .cells #[.int .i64 0, .int .i64 0] 44 (0, 0)) (by (with_reducible repeat (first | refine blk_drewN ?_ _ | refine blk_drew ?_ | refine blk_alloc ?_ _)); exact BK319.out) hb)
      have n2_ := Aside0.mk (blk_below (g := gb323) (o := .cells #[.int .i64 0, .int .i64 0] 44 (0, 0)) (by (with_reducible repeat (first | refine blk_drewN ?_ _ | refine blk_drew ?_ | refine blk_alloc ?_ _)); exact BK323.out) hb)
      have n3_ := Aside0.mk (below_step (by repeat (first | (with_reducible first | exact HB.out | apply below_alloc | apply pw_below_drewN | apply below_drew1 | refine below_set ?_ GE318.out | refine below_set ?_ GE319.out | refine below_set ?_ GE323.out) | exact HB.out)) hb)
      clear BK318
      clear BK319
      clear BK323
      clear HB
      have BK318 := n0_
      have BK319 := n1_
      have BK323 := n2_
      have HB := n3_
      clear n0_ n1_ n2_ n3_
      (try clear hb)
      (try clear hb2)
      (try clear hk)
      (try clear hi)
      refine hK.out _ _ ⟨(blk_cell BK318.out 0).trans rfl, (blk_cell BK318.out 1).trans rfl, (blk_cell BK318.out 2).trans rfl, (blk_cell BK318.out 3).trans rfl, (blk_cell BK318.out 4).trans rfl, (blk_cell BK318.out 5).trans rfl, (blk_cell BK318.out 6).trans rfl⟩ (fun hHeld => ?_)
      clear hK K
      refine norm_ (a' := ?_) ?_ ?_
      rotate_left
      · show Act.put _ (some 11) _ = _
        simp only [Act.put, List.setIfInBounds_toArray, List.set_cons_zero, List.set_cons_succ, i64_w, i32_w]
        rfl
      exact norm_ (by simp only [putAll, Act.put, List.setIfInBounds_toArray, List.set_cons_zero, List.set_cons_succ]) (hCont (gb323) _ ⟨hHeld, (by (with_reducible repeat (first | refine blk_drewN ?_ _ | refine blk_drew ?_ | refine blk_alloc ?_ _)); exact BK318.out), (by (with_reducible repeat (first | refine blk_drewN ?_ _ | refine blk_drew ?_ | refine blk_alloc ?_ _)); exact BK319.out), (by (with_reducible repeat (first | refine blk_drewN ?_ _ | refine blk_drew ?_ | refine blk_alloc ?_ _)); exact BK323.out), GW323.out, GE323.out, NB318_323.out, NB323_318.out, NB319_323.out, NB323_319.out, (by repeat (first | (with_reducible first | exact HB.out | apply below_alloc | apply pw_below_drewN | apply below_drew1 | refine below_set ?_ GE318.out | refine below_set ?_ GE319.out | refine below_set ?_ GE323.out) | exact HB.out))⟩)
  rintro gb323 w11 ⟨hS_, h0_, h1_, h2_, h3_, h4_, h5_, h6_, h7_, h8_, h9_⟩
  have n0_ : Aside0 (w11.heap[gb318]? = some (.cells #[.int .i64 a0_0, .int .i64 a0_1, .slice A0_2 l0_2.length c0_2, .bool a0_3, .slice A0_4 l0_4.length c0_4, .slice A0_5 l0_5.length c0_5, .slice A0_6 l0_6.length c0_6] 26 (0, 0))) := ⟨h0_⟩
  have n1_ : Aside0 (w11.heap[gb319]? = some (.cells #[.int .i64 0, .int .i64 0] 44 (0, 0))) := ⟨h1_⟩
  have n2_ : Aside0 (w11.heap[gb323]? = some (.cells #[.int .i64 0, .int .i64 0] 44 (0, 0))) := ⟨h2_⟩
  have n3_ : Aside0 (w.heap.size ≤ gb323) := ⟨h3_⟩
  have n4_ : Aside0 (w.heap.size ≤ gb323) := ⟨h4_⟩
  have n5_ : Aside0 (gb318 ≠ gb323) := ⟨h5_⟩
  have n6_ : Aside0 (gb323 ≠ gb318) := ⟨h6_⟩
  have n7_ : Aside0 (gb319 ≠ gb323) := ⟨h7_⟩
  have n8_ : Aside0 (gb323 ≠ gb319) := ⟨h8_⟩
  have n9_ : Aside0 (Below w.heap.size w w11) := ⟨h9_⟩
  clear BK318
  clear BK319
  clear HB
  clear h0_ h1_ h2_ h3_ h4_ h5_ h6_ h7_ h8_ h9_
  have BK318 := n0_
  have BK319 := n1_
  have BK323 := n2_
  have GW323 := n3_
  have GE323 := n4_
  have NB318_323 := n5_
  have NB323_318 := n6_
  have NB319_323 := n7_
  have NB323_319 := n8_
  have HB := n9_
  clear n0_ n1_ n2_ n3_ n4_ n5_ n6_ n7_ n8_ n9_
  have hHeld : w11.cell? ⟨gb318, 0, none⟩ = some (.int .i64 a0_0) ∧ w11.cell? ⟨gb318, 1, none⟩ = some (.int .i64 a0_1) ∧ w11.cell? ⟨gb318, 2, none⟩ = some (.slice A0_2 l0_2.length c0_2) ∧ w11.cell? ⟨gb318, 3, none⟩ = some (.bool a0_3) ∧ w11.cell? ⟨gb318, 4, none⟩ = some (.slice A0_4 l0_4.length c0_4) ∧ w11.cell? ⟨gb318, 5, none⟩ = some (.slice A0_5 l0_5.length c0_5) ∧ w11.cell? ⟨gb318, 6, none⟩ = some (.slice A0_6 l0_6.length c0_6) := hS_
  refine norm_ (a' := ?_) ?_ ?_
  rotate_left
  · simp only [putAll, Act.put, List.setIfInBounds_toArray, List.set_cons_zero, List.set_cons_succ]
    rfl
  refine on_ HT_ 7 (none) (fun K hK => ?_)
  have hs12 : w11.cell? ⟨gb323, 0, none⟩ = some (.int .i64 0) := (blk_cell BK323.out 0).trans rfl
  have hfs12 := blk_frozen BK323.out 0
  have hns12_0 := NB318_323.out
  have hns12_1 := NB319_323.out
  have hms12_0 := NB323_318.out
  have hms12_1 := NB323_319.out
  have hs13 : w11.cell? ⟨gb323, 1, none⟩ = some (.int .i64 0) := (blk_cell BK323.out 1).trans rfl
  have hfs13 := blk_frozen BK323.out 1
  have hns13_0 := NB318_323.out
  have hns13_1 := NB319_323.out
  have hms13_0 := NB323_318.out
  have hms13_1 := NB323_319.out
  refine skip_ (w1 := ?_) (by rfl) rfl ?_ ?_
  rotate_left
  · go_simp
    rfl
  refine hK.out _ _ ⟨((cell_far (p := ⟨gb323, _, none⟩) NB318_323.out _).trans (((cell_far (p := ⟨gb323, _, none⟩) NB318_323.out _).trans (hHeld.1)))), ((cell_far (p := ⟨gb323, _, none⟩) NB318_323.out _).trans (((cell_far (p := ⟨gb323, _, none⟩) NB318_323.out _).trans (hHeld.2.1)))), ((cell_far (p := ⟨gb323, _, none⟩) NB318_323.out _).trans (((cell_far (p := ⟨gb323, _, none⟩) NB318_323.out _).trans (hHeld.2.2.1)))), ((cell_far (p := ⟨gb323, _, none⟩) NB318_323.out _).trans (((cell_far (p := ⟨gb323, _, none⟩) NB318_323.out _).trans (hHeld.2.2.2.1)))), ((cell_far (p := ⟨gb323, _, none⟩) NB318_323.out _).trans (((cell_far (p := ⟨gb323, _, none⟩) NB318_323.out _).trans (hHeld.2.2.2.2.1)))), ((cell_far (p := ⟨gb323, _, none⟩) NB318_323.out _).trans (((cell_far (p := ⟨gb323, _, none⟩) NB318_323.out _).trans (hHeld.2.2.2.2.2.1)))), ((cell_far (p := ⟨gb323, _, none⟩) NB318_323.out _).trans (((cell_far (p := ⟨gb323, _, none⟩) NB318_323.out _).trans (hHeld.2.2.2.2.2.2))))⟩ (fun hHeld => ?_)
  clear hK K
  refine done_ (done_of HT_.out (by kernel_rfl)) ?_
  have hnb14 := NB318_319.out
  have hnc14 := NB319_318.out
  have hnb15 := NB318_323.out
  have hnc15 := NB323_318.out
  have hcz16_0 : w11.cell? ⟨gb318, 0, none⟩ = some (.int .i64 a0_0) := (blk_cell BK318.out 0).trans rfl
  have hcz16_1 : w11.cell? ⟨gb318, 1, none⟩ = some (.int .i64 a0_1) := (blk_cell BK318.out 1).trans rfl
  have hcz16_2 : w11.cell? ⟨gb318, 2, none⟩ = some (.slice A0_2 l0_2.length c0_2) := (blk_cell BK318.out 2).trans rfl
  have hcz16_3 : w11.cell? ⟨gb318, 3, none⟩ = some (.bool a0_3) := (blk_cell BK318.out 3).trans rfl
  have hcz16_4 : w11.cell? ⟨gb318, 4, none⟩ = some (.slice A0_4 l0_4.length c0_4) := (blk_cell BK318.out 4).trans rfl
  have hcz16_5 : w11.cell? ⟨gb318, 5, none⟩ = some (.slice A0_5 l0_5.length c0_5) := (blk_cell BK318.out 5).trans rfl
  have hcz16_6 : w11.cell? ⟨gb318, 6, none⟩ = some (.slice A0_6 l0_6.length c0_6) := (blk_cell BK318.out 6).trans rfl
  have hfz16_0 := blk_frozen BK318.out 0
  have hfz16_1 := blk_frozen BK318.out 1
  have hfz16_2 := blk_frozen BK318.out 2
  have hfz16_3 := blk_frozen BK318.out 3
  have hfz16_4 := blk_frozen BK318.out 4
  have hfz16_5 := blk_frozen BK318.out 5
  have hfz16_6 := blk_frozen BK318.out 6
  go_upto_if 14 with (fail)
  go_cut [] (fun wc => ∃ (kq : Nat) (x324000_3 : Int), Aside0 (sketch_CountDistinct.j0 kq a0_0 a0_1 l0_2 a0_3 l0_4 l0_5 l0_6 x324000_3 t322 = some (r1, r2)) ∧ Aside0 (kq ≤ k) ∧ Aside0 (wc.heap[gb318]? = some (.cells #[.int .i64 a0_0, .int .i64 a0_1, (.slice A0_2 l0_2.length c0_2), .bool a0_3, (.slice A0_4 l0_4.length c0_4), (.slice A0_5 l0_5.length c0_5), (.slice A0_6 l0_6.length c0_6)] 26 (0, 0))) ∧ Aside0 (wc.heap[gb319]? = some (.cells #[.int .i64 0, .int .i64 0] 44 (0, 0))) ∧ Aside0 (wc.heap[gb323]? = some (.cells #[.int .i64 x324000_3, .int .i64 t322] 44 (0, 0))) ∧ Aside0 (Below w.heap.size w wc))
  case first =>
    have H := HC4.out
    clear HC4
    by_cases c17 : a0_3 = true
    · subst c17
      have H1 : (sketch_CountDistinct.j0 k a0_0 a0_1 l0_2 true l0_4 l0_5 l0_6 t321 t322) = some (r1, r2) := by rw [if_pos rfl] at H; exact H
      clear H
      have H := H1
      clear H1
      have H' := Aside0.mk H
      clear H
      go_wp2
      go_meet
      case rel => exact ⟨_, (t321), H', ⟨by first | omega | exact Nat.le_refl _⟩, ⟨by (with_reducible repeat (first | refine blk_drewN ?_ _ | refine blk_drew ?_ | refine blk_alloc ?_ _)); refine blk_far ?_ NB318_323.out _; (with_reducible repeat (first | refine blk_drewN ?_ _ | refine blk_drew ?_ | refine blk_alloc ?_ _)); refine blk_far ?_ NB318_323.out _; (with_reducible repeat (first | refine blk_drewN ?_ _ | refine blk_drew ?_ | refine blk_alloc ?_ _)); exact BK318.out⟩, ⟨by (with_reducible repeat (first | refine blk_drewN ?_ _ | refine blk_drew ?_ | refine blk_alloc ?_ _)); refine blk_far ?_ NB319_323.out _; (with_reducible repeat (first | refine blk_drewN ?_ _ | refine blk_drew ?_ | refine blk_alloc ?_ _)); refine blk_far ?_ NB319_323.out _; (with_reducible repeat (first | refine blk_drewN ?_ _ | refine blk_drew ?_ | refine blk_alloc ?_ _)); exact BK319.out⟩, ⟨by (with_reducible repeat (first | refine blk_drewN ?_ _ | refine blk_drew ?_ | refine blk_alloc ?_ _)); refine blk_put (cs := #[.int .i64 t321, .int .i64 0]) ?_ 1 _ rfl; (with_reducible repeat (first | refine blk_drewN ?_ _ | refine blk_drew ?_ | refine blk_alloc ?_ _)); refine blk_put (cs := #[.int .i64 0, .int .i64 0]) ?_ 0 _ rfl; (with_reducible repeat (first | refine blk_drewN ?_ _ | refine blk_drew ?_ | refine blk_alloc ?_ _)); exact BK323.out⟩, ⟨by repeat (first | (with_reducible first | exact HB.out | apply below_alloc | apply pw_below_drewN | apply below_drew1 | refine below_set ?_ GE318.out | refine below_set ?_ GE319.out | refine below_set ?_ GE323.out) | exact HB.out)⟩⟩
    · replace c17 := Bool.eq_false_iff.mpr c17
      subst c17
      have H1 : (sketch_CountDistinct.j0 k a0_0 a0_1 l0_2 false l0_4 l0_5 l0_6 (wrap64 (t321 + 1)) t322) = some (r1, r2) := by rw [if_neg (show ¬ (false = true) by decide)] at H; exact H
      clear H
      have H := H1
      clear H1
      have H' := Aside0.mk H
      clear H
      have hnb18 := NB323_318.out
      have hnc18 := NB318_323.out
      have hnb19 := NB323_319.out
      have hnc19 := NB319_323.out
      have hcz20_0 : w11.cell? ⟨gb323, 0, none⟩ = some (.int .i64 0) := (blk_cell BK323.out 0).trans rfl
      have hcz20_1 : w11.cell? ⟨gb323, 1, none⟩ = some (.int .i64 0) := (blk_cell BK323.out 1).trans rfl
      have hfz20_0 := blk_frozen BK323.out 0
      have hfz20_1 := blk_frozen BK323.out 1
      go_wp2
      go_meet
      case rel => exact ⟨_, (wrap64 (t321 + 1)), H', ⟨by first | omega | exact Nat.le_refl _⟩, ⟨by (with_reducible repeat (first | refine blk_drewN ?_ _ | refine blk_drew ?_ | refine blk_alloc ?_ _)); refine blk_far ?_ NB318_323.out _; (with_reducible repeat (first | refine blk_drewN ?_ _ | refine blk_drew ?_ | refine blk_alloc ?_ _)); refine blk_far ?_ NB318_323.out _; (with_reducible repeat (first | refine blk_drewN ?_ _ | refine blk_drew ?_ | refine blk_alloc ?_ _)); refine blk_far ?_ NB318_323.out _; (with_reducible repeat (first | refine blk_drewN ?_ _ | refine blk_drew ?_ | refine blk_alloc ?_ _)); exact BK318.out⟩, ⟨by (with_reducible repeat (first | refine blk_drewN ?_ _ | refine blk_drew ?_ | refine blk_alloc ?_ _)); refine blk_far ?_ NB319_323.out _; (with_reducible repeat (first | refine blk_drewN ?_ _ | refine blk_drew ?_ | refine blk_alloc ?_ _)); refine blk_far ?_ NB319_323.out _; (with_reducible repeat (first | refine blk_drewN ?_ _ | refine blk_drew ?_ | refine blk_alloc ?_ _)); refine blk_far ?_ NB319_323.out _; (with_reducible repeat (first | refine blk_drewN ?_ _ | refine blk_drew ?_ | refine blk_alloc ?_ _)); exact BK319.out⟩, ⟨by (with_reducible repeat (first | refine blk_drewN ?_ _ | refine blk_drew ?_ | refine blk_alloc ?_ _)); refine blk_put (cs := #[.int .i64 t321, .int .i64 t322]) ?_ 0 _ rfl; (with_reducible repeat (first | refine blk_drewN ?_ _ | refine blk_drew ?_ | refine blk_alloc ?_ _)); refine blk_put (cs := #[.int .i64 t321, .int .i64 0]) ?_ 1 _ rfl; (with_reducible repeat (first | refine blk_drewN ?_ _ | refine blk_drew ?_ | refine blk_alloc ?_ _)); refine blk_put (cs := #[.int .i64 0, .int .i64 0]) ?_ 0 _ rfl; (with_reducible repeat (first | refine blk_drewN ?_ _ | refine blk_drew ?_ | refine blk_alloc ?_ _)); exact BK323.out⟩, ⟨by repeat (first | (with_reducible first | exact HB.out | apply below_alloc | apply pw_below_drewN | apply below_drew1 | refine below_set ?_ GE318.out | refine below_set ?_ GE319.out | refine below_set ?_ GE323.out) | exact HB.out)⟩⟩
  case rest =>
    clear HC4
    try clear c1
    try clear c2
    try clear p2
    try clear c6
    try clear p6
    try clear c7
    try clear c14
    try clear c15
    try clear c17
    try clear c18
    try clear c19
    try clear hcz16_0
    try clear hcz16_1
    try clear hcz16_2
    try clear hcz16_3
    try clear hcz16_4
    try clear hcz16_5
    try clear hcz16_6
    try clear hcz20_0
    try clear hcz20_1
    try clear hfz16_0
    try clear hfz16_1
    try clear hfz16_2
    try clear hfz16_3
    try clear hfz16_4
    try clear hfz16_5
    try clear hfz16_6
    try clear hfz20_0
    try clear hfz20_1
    obtain ⟨kq, x324000_3, HA, HJ3, BK318, BK319, BK323, HB⟩ := hcut
    cases kq with
    | zero => exact absurd HA.out (by simp [sketch_CountDistinct.j0])
    | succ kj3 =>
      have H := HA.out
      clear HA
      simp only [sketch_CountDistinct.j0] at H
      have HC21 := Aside0.mk H
      clear H
      have hnb22 := NB318_319.out
      have hnc22 := NB319_318.out
      have hnb23 := NB318_323.out
      have hnc23 := NB323_318.out
      have hcz24_0 : wc.cell? ⟨gb318, 0, none⟩ = some (.int .i64 a0_0) := (blk_cell BK318.out 0).trans rfl
      have hcz24_1 : wc.cell? ⟨gb318, 1, none⟩ = some (.int .i64 a0_1) := (blk_cell BK318.out 1).trans rfl
      have hcz24_2 : wc.cell? ⟨gb318, 2, none⟩ = some (.slice A0_2 l0_2.length c0_2) := (blk_cell BK318.out 2).trans rfl
      have hcz24_3 : wc.cell? ⟨gb318, 3, none⟩ = some (.bool a0_3) := (blk_cell BK318.out 3).trans rfl
      have hcz24_4 : wc.cell? ⟨gb318, 4, none⟩ = some (.slice A0_4 l0_4.length c0_4) := (blk_cell BK318.out 4).trans rfl
      have hcz24_5 : wc.cell? ⟨gb318, 5, none⟩ = some (.slice A0_5 l0_5.length c0_5) := (blk_cell BK318.out 5).trans rfl
      have hcz24_6 : wc.cell? ⟨gb318, 6, none⟩ = some (.slice A0_6 l0_6.length c0_6) := (blk_cell BK318.out 6).trans rfl
      have hfz24_0 := blk_frozen BK318.out 0
      have hfz24_1 := blk_frozen BK318.out 1
      have hfz24_2 := blk_frozen BK318.out 2
      have hfz24_3 := blk_frozen BK318.out 3
      have hfz24_4 := blk_frozen BK318.out 4
      have hfz24_5 := blk_frozen BK318.out 5
      have hfz24_6 := blk_frozen BK318.out 6
      go_upto_region 5 with (fail)
      go_cut [31] (fun v31 wc => ∃ (kq : Nat) (x31_20 : Bool), v31 = .bool x31_20 ∧ Aside0 (sketch_CountDistinct.j1 kq (l0_5.length : Int) x31_20 a0_0 a0_1 l0_2 a0_3 l0_4 l0_5 l0_6 x324000_3 t322 = some (r1, r2)) ∧ Aside0 (kq ≤ kj3) ∧ Aside0 (wc.heap[gb318]? = some (.cells #[.int .i64 a0_0, .int .i64 a0_1, (.slice A0_2 l0_2.length c0_2), .bool a0_3, (.slice A0_4 l0_4.length c0_4), (.slice A0_5 l0_5.length c0_5), (.slice A0_6 l0_6.length c0_6)] 26 (0, 0))) ∧ Aside0 (wc.heap[gb319]? = some (.cells #[.int .i64 0, .int .i64 0] 44 (0, 0))) ∧ Aside0 (wc.heap[gb323]? = some (.cells #[.int .i64 x324000_3, .int .i64 t322] 44 (0, 0))) ∧ Aside0 (Below w.heap.size w wc))
      case first =>
        have H := HC21.out
        clear HC21
        by_cases c25 : (l0_5.length : Int) > 0
        · rw [if_pos c25] at H
          have c25b0 : decide (0 < (l0_5.length : Int)) = true := decide_eq_true c25
          have c25b1 : decide (0 < l0_5.length) = true := decide_eq_true (by omega)
          clear c25
          (first | rw [c25b0] | (simp only [i64_w, i32_w]; rw [c25b0]) | skip)
          by_cases c26 : 0 < (l0_5.length : Int)
          · rw [if_pos c26] at H
            have c26b0 : decide (0 < (l0_5.length : Int)) = true := decide_eq_true c26
            have c26b1 : decide (0 < l0_5.length) = true := decide_eq_true (by omega)
            clear c26
            have H' := Aside0.mk H
            clear H
            have hnb27 := NB318_319.out
            have hnc27 := NB319_318.out
            have hnb28 := NB318_323.out
            have hnc28 := NB323_318.out
            have hcz29_0 : wc.cell? ⟨gb318, 0, none⟩ = some (.int .i64 a0_0) := (blk_cell BK318.out 0).trans rfl
            have hcz29_1 : wc.cell? ⟨gb318, 1, none⟩ = some (.int .i64 a0_1) := (blk_cell BK318.out 1).trans rfl
            have hcz29_2 : wc.cell? ⟨gb318, 2, none⟩ = some (.slice A0_2 l0_2.length c0_2) := (blk_cell BK318.out 2).trans rfl
            have hcz29_3 : wc.cell? ⟨gb318, 3, none⟩ = some (.bool a0_3) := (blk_cell BK318.out 3).trans rfl
            have hcz29_4 : wc.cell? ⟨gb318, 4, none⟩ = some (.slice A0_4 l0_4.length c0_4) := (blk_cell BK318.out 4).trans rfl
            have hcz29_5 : wc.cell? ⟨gb318, 5, none⟩ = some (.slice A0_5 l0_5.length c0_5) := (blk_cell BK318.out 5).trans rfl
            have hcz29_6 : wc.cell? ⟨gb318, 6, none⟩ = some (.slice A0_6 l0_6.length c0_6) := (blk_cell BK318.out 6).trans rfl
            have hfz29_0 := blk_frozen BK318.out 0
            have hfz29_1 := blk_frozen BK318.out 1
            have hfz29_2 := blk_frozen BK318.out 2
            have hfz29_3 := blk_frozen BK318.out 3
            have hfz29_4 := blk_frozen BK318.out 4
            have hfz29_5 := blk_frozen BK318.out 5
            have hfz29_6 := blk_frozen BK318.out 6
            have p324 : 0 ≤ (0 : Int) := (by omega)
            have q324 : 0 < (l0_5.length : Int) := of_decide_eq_true (by first | (with_reducible assumption) | assumption)
            obtain ⟨ad324, e324, hx324_0, hx324_1, hx324_2⟩ := at_T39 HR0_5.out 0 p324 q324
            cases e324
            have qi324 : (0 < l0_5.length) = True := eq_true (by omega)
            (try rw [show ((0 : Int)).toNat = 0 from rfl] at hx324_0)
            (try rw [show 0 * 3 = 0 from rfl] at hx324_0)
            (try rw [Addr.add_zero'] at hx324_0)
            (try rw [show ((0 : Int)).toNat = 0 from rfl] at hx324_1)
            (try rw [show 0 * 3 = 0 from rfl] at hx324_1)
            (try rw [Addr.add_zero'] at hx324_1)
            (try rw [show ((0 : Int)).toNat = 0 from rfl] at hx324_2)
            (try rw [show 0 * 3 = 0 from rfl] at hx324_2)
            (try rw [Addr.add_zero'] at hx324_2)
            replace hx324_0 := (HB.out.cell (World.block_lt_of_cell? w _ hx324_0)).trans hx324_0
            replace hx324_1 := (HB.out.cell (World.block_lt_of_cell? w _ hx324_1)).trans hx324_1
            replace hx324_2 := (HB.out.cell (World.block_lt_of_cell? w _ hx324_2)).trans hx324_2
            replace p324 := eq_true p324
            replace q324 := eq_true q324
            go_wp2
            go_meet
            case rel => exact ⟨_, ((((rd_T39 l0_5 0).f0) != 3)), (by first | rfl | (simp; done) | (simp [*]; done)), H', ⟨by have := HJ3.out; first | omega | exact Nat.le_refl _⟩, ⟨by (with_reducible repeat (first | refine blk_drewN ?_ _ | refine blk_drew ?_ | refine blk_alloc ?_ _)); exact BK318.out⟩, ⟨by (with_reducible repeat (first | refine blk_drewN ?_ _ | refine blk_drew ?_ | refine blk_alloc ?_ _)); exact BK319.out⟩, ⟨by (with_reducible repeat (first | refine blk_drewN ?_ _ | refine blk_drew ?_ | refine blk_alloc ?_ _)); exact BK323.out⟩, ⟨by repeat (first | (with_reducible first | exact HB.out | apply below_alloc | apply pw_below_drewN | apply below_drew1 | refine below_set ?_ GE318.out | refine below_set ?_ GE319.out | refine below_set ?_ GE323.out) | exact HB.out)⟩⟩
          · rw [if_neg c26] at H
            exact absurd H (by simp)
        · rw [if_neg c25] at H
          have c25b0 : decide (0 < (l0_5.length : Int)) = false := decide_eq_false c25
          have c25b1 : decide (0 < l0_5.length) = false := decide_eq_false (by omega)
          clear c25
          (first | rw [c25b0] | (simp only [i64_w, i32_w]; rw [c25b0]) | skip)
          have H' := Aside0.mk H
          clear H
          go_wp2
          go_meet
          case rel => exact ⟨_, (false), (by first | rfl | (simp; done) | (simp [*]; done)), H', ⟨by have := HJ3.out; first | omega | exact Nat.le_refl _⟩, ⟨by (with_reducible repeat (first | refine blk_drewN ?_ _ | refine blk_drew ?_ | refine blk_alloc ?_ _)); exact BK318.out⟩, ⟨by (with_reducible repeat (first | refine blk_drewN ?_ _ | refine blk_drew ?_ | refine blk_alloc ?_ _)); exact BK319.out⟩, ⟨by (with_reducible repeat (first | refine blk_drewN ?_ _ | refine blk_drew ?_ | refine blk_alloc ?_ _)); exact BK323.out⟩, ⟨by repeat (first | (with_reducible first | exact HB.out | apply below_alloc | apply pw_below_drewN | apply below_drew1 | refine below_set ?_ GE318.out | refine below_set ?_ GE319.out | refine below_set ?_ GE323.out) | exact HB.out)⟩⟩
      case rest =>
        clear HC21
        try clear c1
        try clear c2
        try clear p2
        try clear p3
        try clear q3
        try clear hx3
        try clear qi3
        try clear c6
        try clear p6
        try clear c7
        try clear c14
        try clear c15
        try clear c17
        try clear c18
        try clear c19
        try clear c22
        try clear c23
        try clear c25
        try clear c25b0
        try clear c25b1
        try clear c26
        try clear c26b0
        try clear c26b1
        try clear c27
        try clear c28
        try clear hcz16_0
        try clear hcz16_1
        try clear hcz16_2
        try clear hcz16_3
        try clear hcz16_4
        try clear hcz16_5
        try clear hcz16_6
        try clear hcz20_0
        try clear hcz20_1
        try clear hcz24_0
        try clear hcz24_1
        try clear hcz24_2
        try clear hcz24_3
        try clear hcz24_4
        try clear hcz24_5
        try clear hcz24_6
        try clear hcz29_0
        try clear hcz29_1
        try clear hcz29_2
        try clear hcz29_3
        try clear hcz29_4
        try clear hcz29_5
        try clear hcz29_6
        try clear hfz16_0
        try clear hfz16_1
        try clear hfz16_2
        try clear hfz16_3
        try clear hfz16_4
        try clear hfz16_5
        try clear hfz16_6
        try clear hfz20_0
        try clear hfz20_1
        try clear hfz24_0
        try clear hfz24_1
        try clear hfz24_2
        try clear hfz24_3
        try clear hfz24_4
        try clear hfz24_5
        try clear hfz24_6
        try clear hfz29_0
        try clear hfz29_1
        try clear hfz29_2
        try clear hfz29_3
        try clear hfz29_4
        try clear hfz29_5
        try clear hfz29_6
        try clear hx324_0
        try clear hx324_1
        try clear hx324_2
        try clear p2
        try clear p324
        try clear p6
        try clear q324
        obtain ⟨kq, x31_20, rfl, HA, HJ20, BK318, BK319, BK323, HB⟩ := hcut
        cases kq with
        | zero => exact absurd HA.out (by simp [sketch_CountDistinct.j1])
        | succ kj20 =>
          have H := HA.out
          clear HA
          simp only [sketch_CountDistinct.j1] at H
          by_cases c30 : x31_20 = true
          · subst c30
            have H1 : (if 0 ≤ (wrap64 ((l0_5.length : Int) - 1)) then (if (wrap64 ((l0_5.length : Int) - 1)) < (l0_5.length : Int) then (if 0 < (l0_5.length : Int) then (if (IntKind.u64.wrap ((IntKind.u64.wrap ((rd_T39 l0_5 (wrap64 ((l0_5.length : Int) - 1))).f1)) - (IntKind.u64.wrap ((rd_T39 l0_5 0).f1)))) < (IntKind.u64.wrap (t322)) then (some (x324000_3, mn t322 (wrap64 ((wrap64 (IntKind.u64.wrap ((IntKind.u64.wrap ((rd_T39 l0_5 (wrap64 ((l0_5.length : Int) - 1))).f1)) - (IntKind.u64.wrap ((rd_T39 l0_5 0).f1))))) + 1)))) else (some (x324000_3, t322))) else (none)) else (none)) else (none)) = some (r1, r2) := by rw [if_pos rfl] at H; exact H
            clear H
            have H := H1
            clear H1
            obtain ⟨ji31, hji31⟩ : ∃ j_ : Int, (wrap64 ((l0_5.length : Int) - 1)) = j_ := ⟨_, rfl⟩
            replace H : (if 0 ≤ (ji31) then (if (ji31) < (l0_5.length : Int) then (if 0 < (l0_5.length : Int) then (if (IntKind.u64.wrap ((IntKind.u64.wrap ((rd_T39 l0_5 (ji31)).f1)) - (IntKind.u64.wrap ((rd_T39 l0_5 0).f1)))) < (IntKind.u64.wrap (t322)) then (some (x324000_3, mn t322 (wrap64 ((wrap64 (IntKind.u64.wrap ((IntKind.u64.wrap ((rd_T39 l0_5 (ji31)).f1)) - (IntKind.u64.wrap ((rd_T39 l0_5 0).f1))))) + 1)))) else (some (x324000_3, t322))) else (none)) else (none)) else (none)) = some (r1, r2) := by first | (rw [hji31] at H; exact H) | (simp only [hji31] at H ⊢; exact H)
            have hji31w : (IntKind.i64.wrap ((l0_5.length : Int) - 1)) = ji31 := (i64_w _).trans hji31
            by_cases c32 : 0 ≤ (ji31)
            · rw [if_pos c32] at H
              have c32b0 : decide (0 ≤ (ji31)) = true := decide_eq_true c32
              clear c32
              by_cases c33 : (ji31) < (l0_5.length : Int)
              · rw [if_pos c33] at H
                have c33b0 : decide ((ji31) < (l0_5.length : Int)) = true := decide_eq_true c33
                clear c33
                by_cases c34 : 0 < (l0_5.length : Int)
                · rw [if_pos c34] at H
                  have c34b0 : decide (0 < (l0_5.length : Int)) = true := decide_eq_true c34
                  have c34b1 : decide (0 < l0_5.length) = true := decide_eq_true (by omega)
                  clear c34
                  by_cases c35 : (IntKind.u64.wrap ((IntKind.u64.wrap ((rd_T39 l0_5 (ji31)).f1)) - (IntKind.u64.wrap ((rd_T39 l0_5 0).f1)))) < (IntKind.u64.wrap (t322))
                  · rw [if_pos c35] at H
                    have c35b0 : decide ((IntKind.u64.wrap ((IntKind.u64.wrap ((rd_T39 l0_5 (ji31)).f1)) - (IntKind.u64.wrap ((rd_T39 l0_5 0).f1)))) < (IntKind.u64.wrap (t322))) = true := decide_eq_true c35
                    clear c35
                    obtain ⟨ji36, hji36⟩ : ∃ j_ : Int, (mn t322 (wrap64 ((wrap64 (IntKind.u64.wrap ((IntKind.u64.wrap ((rd_T39 l0_5 (ji31)).f1)) - (IntKind.u64.wrap ((rd_T39 l0_5 0).f1))))) + 1))) = j_ := ⟨_, rfl⟩
                    replace H : (some (x324000_3, ji36)) = some (r1, r2) := by first | (rw [hji36] at H; exact H) | (simp only [hji36] at H ⊢; exact H)
                    have hji36_ : (if (wrap64 ((wrap64 (IntKind.u64.wrap ((IntKind.u64.wrap ((rd_T39 l0_5 (ji31)).f1)) - (IntKind.u64.wrap ((rd_T39 l0_5 0).f1))))) + 1)) < t322 then (wrap64 ((wrap64 (IntKind.u64.wrap ((IntKind.u64.wrap ((rd_T39 l0_5 (ji31)).f1)) - (IntKind.u64.wrap ((rd_T39 l0_5 0).f1))))) + 1)) else t322) = ji36 := hji36
                    simp only [Option.some.injEq, Prod.mk.injEq] at H
                    obtain ⟨rfl, rfl⟩ := H
                    try go_wp2
                    have n0_ := Aside0.mk (blk_drew BK318.out)
                    have n1_ := Aside0.mk (blk_drew BK319.out)
                    have n2_ := Aside0.mk (blk_drew BK323.out)
                    have n3_ := Aside0.mk (below_drew1 HB.out)
                    clear BK318
                    clear BK319
                    clear BK323
                    clear HB
                    have BK318 := n0_
                    have BK319 := n1_
                    have BK323 := n2_
                    have HB := n3_
                    clear n0_ n1_ n2_ n3_
                    have p325 : 0 ≤ ((ji31) : Int) := of_decide_eq_true (by first | (with_reducible assumption) | assumption)
                    have q325 : (ji31) < (l0_5.length : Int) := of_decide_eq_true (by first | (with_reducible assumption) | assumption)
                    obtain ⟨ad325, e325, hx325_0, hx325_1, hx325_2⟩ := at_T39 HR0_5.out (ji31) p325 q325
                    have hw325_2 := hx325_2
                    have hw325_1 := hx325_1
                    have hw325_0 := hx325_0
                    cases e325
                    replace hx325_0 := (HB.out.cell (World.block_lt_of_cell? w _ hx325_0)).trans hx325_0
                    replace hx325_1 := (HB.out.cell (World.block_lt_of_cell? w _ hx325_1)).trans hx325_1
                    replace hx325_2 := (HB.out.cell (World.block_lt_of_cell? w _ hx325_2)).trans hx325_2
                    replace p325 := eq_true p325
                    replace q325 := eq_true q325
                    have p326 : 0 ≤ (0 : Int) := (by omega)
                    have q326 : 0 < (l0_5.length : Int) := of_decide_eq_true (by first | (with_reducible assumption) | assumption)
                    obtain ⟨ad326, e326, hx326_0, hx326_1, hx326_2⟩ := at_T39 HR0_5.out 0 p326 q326
                    have hw326_2 := hx326_2
                    (try rw [show ((0 : Int)).toNat = 0 from rfl] at hw326_2)
                    (try rw [show 0 * 3 = 0 from rfl] at hw326_2)
                    (try rw [Addr.add_zero'] at hw326_2)
                    have hw326_1 := hx326_1
                    (try rw [show ((0 : Int)).toNat = 0 from rfl] at hw326_1)
                    (try rw [show 0 * 3 = 0 from rfl] at hw326_1)
                    (try rw [Addr.add_zero'] at hw326_1)
                    have hw326_0 := hx326_0
                    (try rw [show ((0 : Int)).toNat = 0 from rfl] at hw326_0)
                    (try rw [show 0 * 3 = 0 from rfl] at hw326_0)
                    (try rw [Addr.add_zero'] at hw326_0)
                    obtain rfl : ad325 = ad326 := (by injection e326)
                    have qi326 : (0 < l0_5.length) = True := eq_true (by omega)
                    (try rw [show ((0 : Int)).toNat = 0 from rfl] at hx326_0)
                    (try rw [show 0 * 3 = 0 from rfl] at hx326_0)
                    (try rw [Addr.add_zero'] at hx326_0)
                    (try rw [show ((0 : Int)).toNat = 0 from rfl] at hx326_1)
                    (try rw [show 0 * 3 = 0 from rfl] at hx326_1)
                    (try rw [Addr.add_zero'] at hx326_1)
                    (try rw [show ((0 : Int)).toNat = 0 from rfl] at hx326_2)
                    (try rw [show 0 * 3 = 0 from rfl] at hx326_2)
                    (try rw [Addr.add_zero'] at hx326_2)
                    replace hx326_0 := (HB.out.cell (World.block_lt_of_cell? w _ hx326_0)).trans hx326_0
                    replace hx326_1 := (HB.out.cell (World.block_lt_of_cell? w _ hx326_1)).trans hx326_1
                    replace hx326_2 := (HB.out.cell (World.block_lt_of_cell? w _ hx326_2)).trans hx326_2
                    replace p326 := eq_true p326
                    replace q326 := eq_true q326
                    refine start_ (n := 16) (S := fun w' => w'.cell? ⟨gb318, 0, none⟩ = some (.int .i64 a0_0) ∧ w'.cell? ⟨gb318, 1, none⟩ = some (.int .i64 a0_1) ∧ w'.cell? ⟨gb318, 2, none⟩ = some (.slice A0_2 l0_2.length c0_2) ∧ w'.cell? ⟨gb318, 3, none⟩ = some (.bool a0_3) ∧ w'.cell? ⟨gb318, 4, none⟩ = some (.slice A0_4 l0_4.length c0_4) ∧ w'.cell? ⟨gb318, 5, none⟩ = some (.slice (some ad325) l0_5.length c0_5) ∧ w'.cell? ⟨gb318, 6, none⟩ = some (.slice A0_6 l0_6.length c0_6) ∧ w'.cell? (ad325.add (((ji31)).toNat * 3)) = some (.int .i64 ((rd_T39 l0_5 (ji31)).f0)) ∧ w'.cell? ⟨(ad325.add (((ji31)).toNat * 3)).block, (ad325.add (((ji31)).toNat * 3)).off + 1, none⟩ = some (.int .i64 ((rd_T39 l0_5 (ji31)).f1)) ∧ w'.cell? ⟨(ad325.add (((ji31)).toNat * 3)).block, (ad325.add (((ji31)).toNat * 3)).off + 2, none⟩ = some (.string ((rd_T39 l0_5 (ji31)).f2)) ∧ w'.cell? ad325 = some (.int .i64 ((rd_T39 l0_5 0).f0)) ∧ w'.cell? ⟨ad325.block, ad325.off + 1, none⟩ = some (.int .i64 ((rd_T39 l0_5 0).f1)) ∧ w'.cell? ⟨ad325.block, ad325.off + 2, none⟩ = some (.string ((rd_T39 l0_5 0).f2))) (ds := []) #[false, false, false, false, false, false, false, false, false, false, false, false, false, false, false, false] (by kernel_rfl) rfl rfl ⟨(blk_cell BK318.out 0).trans rfl, (blk_cell BK318.out 1).trans rfl, (blk_cell BK318.out 2).trans rfl, (blk_cell BK318.out 3).trans rfl, (blk_cell BK318.out 4).trans rfl, (blk_cell BK318.out 5).trans rfl, (blk_cell BK318.out 6).trans rfl, ((HB.out.cell (World.block_lt_of_cell? w _ hw325_0)).trans hw325_0), ((HB.out.cell (World.block_lt_of_cell? w _ hw325_1)).trans hw325_1), ((HB.out.cell (World.block_lt_of_cell? w _ hw325_2)).trans hw325_2), ((HB.out.cell (World.block_lt_of_cell? w _ hw326_0)).trans hw326_0), ((HB.out.cell (World.block_lt_of_cell? w _ hw326_1)).trans hw326_1), ((HB.out.cell (World.block_lt_of_cell? w _ hw326_2)).trans hw326_2)⟩ (fun hHeld => ?_); refine with_tabW sketch_CountDistinct.tab6 sketch_CountDistinct.bits6 (fun HT_ HW_ => ?_)
                    generalize wc.drew = w37 at BK318 BK319 BK323 HB hx325_0 hx325_1 hx325_2 hx326_0 hx326_1 hx326_2 hHeld ⊢
                    refine pu_ HT_ 0 (some 32) ?_
                    refine pu_ HT_ 2 (some 34) ?_
                    refine pu_ HT_ 3 (some 35) ?_
                    refine pu_ HT_ 8 (some 40) ?_
                    refine tk_ HT_ HW_ 1 (some 33) hHeld ?_
                    refine pu_ HT_ 4 (some 36) ?_
                    refine pu_ HT_ 5 (some 37) ?_
                    refine tk_ HT_ HW_ 6 (some 38) hHeld ?_
                    refine pu_ HT_ 7 (some 39) ?_
                    refine tk_ HT_ HW_ 9 (some 41) hHeld ?_
                    refine pu_ HT_ 10 (some 42) ?_
                    refine pu_ HT_ 11 (some 43) ?_
                    refine tk_ HT_ HW_ 12 (some 44) hHeld ?_
                    refine pu_ HT_ 13 (some 45) ?_
                    refine pu_ HT_ 14 (some 46) ?_
                    refine pu_ HT_ 15 (some 5) ?_
                    refine done_ (done_of HT_.out (by kernel_rfl)) ?_
                    have hnb38 := NB323_318.out
                    have hnc38 := NB318_323.out
                    have hnb39 := NB323_319.out
                    have hnc39 := NB319_323.out
                    have hcz40_0 : w37.cell? ⟨gb323, 0, none⟩ = some (.int .i64 x324000_3) := (blk_cell BK323.out 0).trans rfl
                    have hcz40_1 : w37.cell? ⟨gb323, 1, none⟩ = some (.int .i64 t322) := (blk_cell BK323.out 1).trans rfl
                    have hfz40_0 := blk_frozen BK323.out 0
                    have hfz40_1 := blk_frozen BK323.out 1
                    have hnb41 := NB319_318.out
                    have hnc41 := NB318_319.out
                    have hcz42_0 : w37.cell? ⟨gb319, 0, none⟩ = some (.int .i64 0) := (blk_cell BK319.out 0).trans rfl
                    have hcz42_1 : w37.cell? ⟨gb319, 1, none⟩ = some (.int .i64 0) := (blk_cell BK319.out 1).trans rfl
                    have hfz42_0 := blk_frozen BK319.out 0
                    have hfz42_1 := blk_frozen BK319.out 1
                    try go_wp2
                    refine bodyPost_ret (results_cell_row rfl _ _ gb319 44 #[.int .i64 x324000_3, .int .i64 ji36] (0, 0) _ rfl (by (with_reducible repeat (first | refine blk_drewN ?_ _ | refine blk_drew ?_ | refine blk_alloc ?_ _)); refine blk_put (cs := #[.int .i64 x324000_3, .int .i64 0]) ?_ 1 _ rfl; (with_reducible repeat (first | refine blk_drewN ?_ _ | refine blk_drew ?_ | refine blk_alloc ?_ _)); refine blk_put (cs := #[.int .i64 0, .int .i64 0]) ?_ 0 _ rfl; (with_reducible repeat (first | refine blk_drewN ?_ _ | refine blk_drew ?_ | refine blk_alloc ?_ _)); refine blk_far ?_ NB319_323.out _; (with_reducible repeat (first | refine blk_drewN ?_ _ | refine blk_drew ?_ | refine blk_alloc ?_ _)); exact BK319.out) Try.underlying44 rfl (by kernel_rfl)) rfl ?_
                    exact ⟨by first | rfl | (simp [errW_none, errW_some] <;> rfl) | (simp only [← hji31, ← hji36]; first | rfl | (simp [errW_none, errW_some] <;> rfl)) | (simp [*, errW_none, errW_some] <;> rfl), by repeat (first | (with_reducible first | exact HB.out | apply below_alloc | apply pw_below_drewN | apply below_drew1 | refine below_set ?_ GE318.out | refine below_set ?_ GE319.out | refine below_set ?_ GE323.out) | exact HB.out)⟩
                  · rw [if_neg c35] at H
                    have c35b0 : decide ((IntKind.u64.wrap ((IntKind.u64.wrap ((rd_T39 l0_5 (ji31)).f1)) - (IntKind.u64.wrap ((rd_T39 l0_5 0).f1)))) < (IntKind.u64.wrap (t322))) = false := decide_eq_false c35
                    clear c35
                    simp only [Option.some.injEq, Prod.mk.injEq] at H
                    obtain ⟨rfl, rfl⟩ := H
                    try go_wp2
                    have n0_ := Aside0.mk (blk_drew BK318.out)
                    have n1_ := Aside0.mk (blk_drew BK319.out)
                    have n2_ := Aside0.mk (blk_drew BK323.out)
                    have n3_ := Aside0.mk (below_drew1 HB.out)
                    clear BK318
                    clear BK319
                    clear BK323
                    clear HB
                    have BK318 := n0_
                    have BK319 := n1_
                    have BK323 := n2_
                    have HB := n3_
                    clear n0_ n1_ n2_ n3_
                    have p325 : 0 ≤ ((ji31) : Int) := of_decide_eq_true (by first | (with_reducible assumption) | assumption)
                    have q325 : (ji31) < (l0_5.length : Int) := of_decide_eq_true (by first | (with_reducible assumption) | assumption)
                    obtain ⟨ad325, e325, hx325_0, hx325_1, hx325_2⟩ := at_T39 HR0_5.out (ji31) p325 q325
                    have hw325_2 := hx325_2
                    have hw325_1 := hx325_1
                    have hw325_0 := hx325_0
                    cases e325
                    replace hx325_0 := (HB.out.cell (World.block_lt_of_cell? w _ hx325_0)).trans hx325_0
                    replace hx325_1 := (HB.out.cell (World.block_lt_of_cell? w _ hx325_1)).trans hx325_1
                    replace hx325_2 := (HB.out.cell (World.block_lt_of_cell? w _ hx325_2)).trans hx325_2
                    replace p325 := eq_true p325
                    replace q325 := eq_true q325
                    have p326 : 0 ≤ (0 : Int) := (by omega)
                    have q326 : 0 < (l0_5.length : Int) := of_decide_eq_true (by first | (with_reducible assumption) | assumption)
                    obtain ⟨ad326, e326, hx326_0, hx326_1, hx326_2⟩ := at_T39 HR0_5.out 0 p326 q326
                    have hw326_2 := hx326_2
                    (try rw [show ((0 : Int)).toNat = 0 from rfl] at hw326_2)
                    (try rw [show 0 * 3 = 0 from rfl] at hw326_2)
                    (try rw [Addr.add_zero'] at hw326_2)
                    have hw326_1 := hx326_1
                    (try rw [show ((0 : Int)).toNat = 0 from rfl] at hw326_1)
                    (try rw [show 0 * 3 = 0 from rfl] at hw326_1)
                    (try rw [Addr.add_zero'] at hw326_1)
                    have hw326_0 := hx326_0
                    (try rw [show ((0 : Int)).toNat = 0 from rfl] at hw326_0)
                    (try rw [show 0 * 3 = 0 from rfl] at hw326_0)
                    (try rw [Addr.add_zero'] at hw326_0)
                    obtain rfl : ad325 = ad326 := (by injection e326)
                    have qi326 : (0 < l0_5.length) = True := eq_true (by omega)
                    (try rw [show ((0 : Int)).toNat = 0 from rfl] at hx326_0)
                    (try rw [show 0 * 3 = 0 from rfl] at hx326_0)
                    (try rw [Addr.add_zero'] at hx326_0)
                    (try rw [show ((0 : Int)).toNat = 0 from rfl] at hx326_1)
                    (try rw [show 0 * 3 = 0 from rfl] at hx326_1)
                    (try rw [Addr.add_zero'] at hx326_1)
                    (try rw [show ((0 : Int)).toNat = 0 from rfl] at hx326_2)
                    (try rw [show 0 * 3 = 0 from rfl] at hx326_2)
                    (try rw [Addr.add_zero'] at hx326_2)
                    replace hx326_0 := (HB.out.cell (World.block_lt_of_cell? w _ hx326_0)).trans hx326_0
                    replace hx326_1 := (HB.out.cell (World.block_lt_of_cell? w _ hx326_1)).trans hx326_1
                    replace hx326_2 := (HB.out.cell (World.block_lt_of_cell? w _ hx326_2)).trans hx326_2
                    replace p326 := eq_true p326
                    replace q326 := eq_true q326
                    refine start_ (n := 16) (S := fun w' => w'.cell? ⟨gb318, 0, none⟩ = some (.int .i64 a0_0) ∧ w'.cell? ⟨gb318, 1, none⟩ = some (.int .i64 a0_1) ∧ w'.cell? ⟨gb318, 2, none⟩ = some (.slice A0_2 l0_2.length c0_2) ∧ w'.cell? ⟨gb318, 3, none⟩ = some (.bool a0_3) ∧ w'.cell? ⟨gb318, 4, none⟩ = some (.slice A0_4 l0_4.length c0_4) ∧ w'.cell? ⟨gb318, 5, none⟩ = some (.slice (some ad325) l0_5.length c0_5) ∧ w'.cell? ⟨gb318, 6, none⟩ = some (.slice A0_6 l0_6.length c0_6) ∧ w'.cell? (ad325.add (((ji31)).toNat * 3)) = some (.int .i64 ((rd_T39 l0_5 (ji31)).f0)) ∧ w'.cell? ⟨(ad325.add (((ji31)).toNat * 3)).block, (ad325.add (((ji31)).toNat * 3)).off + 1, none⟩ = some (.int .i64 ((rd_T39 l0_5 (ji31)).f1)) ∧ w'.cell? ⟨(ad325.add (((ji31)).toNat * 3)).block, (ad325.add (((ji31)).toNat * 3)).off + 2, none⟩ = some (.string ((rd_T39 l0_5 (ji31)).f2)) ∧ w'.cell? ad325 = some (.int .i64 ((rd_T39 l0_5 0).f0)) ∧ w'.cell? ⟨ad325.block, ad325.off + 1, none⟩ = some (.int .i64 ((rd_T39 l0_5 0).f1)) ∧ w'.cell? ⟨ad325.block, ad325.off + 2, none⟩ = some (.string ((rd_T39 l0_5 0).f2))) (ds := []) #[false, false, false, false, false, false, false, false, false, false, false, false, false, false, false, false] (by kernel_rfl) rfl rfl ⟨(blk_cell BK318.out 0).trans rfl, (blk_cell BK318.out 1).trans rfl, (blk_cell BK318.out 2).trans rfl, (blk_cell BK318.out 3).trans rfl, (blk_cell BK318.out 4).trans rfl, (blk_cell BK318.out 5).trans rfl, (blk_cell BK318.out 6).trans rfl, ((HB.out.cell (World.block_lt_of_cell? w _ hw325_0)).trans hw325_0), ((HB.out.cell (World.block_lt_of_cell? w _ hw325_1)).trans hw325_1), ((HB.out.cell (World.block_lt_of_cell? w _ hw325_2)).trans hw325_2), ((HB.out.cell (World.block_lt_of_cell? w _ hw326_0)).trans hw326_0), ((HB.out.cell (World.block_lt_of_cell? w _ hw326_1)).trans hw326_1), ((HB.out.cell (World.block_lt_of_cell? w _ hw326_2)).trans hw326_2)⟩ (fun hHeld => ?_); refine with_tabW sketch_CountDistinct.tab6 sketch_CountDistinct.bits6 (fun HT_ HW_ => ?_)
                    generalize wc.drew = w43 at BK318 BK319 BK323 HB hx325_0 hx325_1 hx325_2 hx326_0 hx326_1 hx326_2 hHeld ⊢
                    refine pu_ HT_ 0 (some 32) ?_
                    refine pu_ HT_ 2 (some 34) ?_
                    refine pu_ HT_ 3 (some 35) ?_
                    refine pu_ HT_ 8 (some 40) ?_
                    refine tk_ HT_ HW_ 1 (some 33) hHeld ?_
                    refine pu_ HT_ 4 (some 36) ?_
                    refine pu_ HT_ 5 (some 37) ?_
                    refine tk_ HT_ HW_ 6 (some 38) hHeld ?_
                    refine pu_ HT_ 7 (some 39) ?_
                    refine tk_ HT_ HW_ 9 (some 41) hHeld ?_
                    refine pu_ HT_ 10 (some 42) ?_
                    refine pu_ HT_ 11 (some 43) ?_
                    refine tk_ HT_ HW_ 12 (some 44) hHeld ?_
                    refine pu_ HT_ 13 (some 45) ?_
                    refine pu_ HT_ 14 (some 46) ?_
                    refine pu_ HT_ 15 (some 5) ?_
                    refine done_ (done_of HT_.out (by kernel_rfl)) ?_
                    have hnb44 := NB323_318.out
                    have hnc44 := NB318_323.out
                    have hnb45 := NB323_319.out
                    have hnc45 := NB319_323.out
                    have hcz46_0 : w43.cell? ⟨gb323, 0, none⟩ = some (.int .i64 x324000_3) := (blk_cell BK323.out 0).trans rfl
                    have hcz46_1 : w43.cell? ⟨gb323, 1, none⟩ = some (.int .i64 t322) := (blk_cell BK323.out 1).trans rfl
                    have hfz46_0 := blk_frozen BK323.out 0
                    have hfz46_1 := blk_frozen BK323.out 1
                    have hnb47 := NB319_318.out
                    have hnc47 := NB318_319.out
                    have hcz48_0 : w43.cell? ⟨gb319, 0, none⟩ = some (.int .i64 0) := (blk_cell BK319.out 0).trans rfl
                    have hcz48_1 : w43.cell? ⟨gb319, 1, none⟩ = some (.int .i64 0) := (blk_cell BK319.out 1).trans rfl
                    have hfz48_0 := blk_frozen BK319.out 0
                    have hfz48_1 := blk_frozen BK319.out 1
                    try go_wp2
                    refine bodyPost_ret (results_cell_row rfl _ _ gb319 44 #[.int .i64 x324000_3, .int .i64 t322] (0, 0) _ rfl (by (with_reducible repeat (first | refine blk_drewN ?_ _ | refine blk_drew ?_ | refine blk_alloc ?_ _)); refine blk_put (cs := #[.int .i64 x324000_3, .int .i64 0]) ?_ 1 _ rfl; (with_reducible repeat (first | refine blk_drewN ?_ _ | refine blk_drew ?_ | refine blk_alloc ?_ _)); refine blk_put (cs := #[.int .i64 0, .int .i64 0]) ?_ 0 _ rfl; (with_reducible repeat (first | refine blk_drewN ?_ _ | refine blk_drew ?_ | refine blk_alloc ?_ _)); exact BK319.out) Try.underlying44 rfl (by kernel_rfl)) rfl ?_
                    exact ⟨by first | rfl | (simp [errW_none, errW_some] <;> rfl) | (simp only [← hji31]; first | rfl | (simp [errW_none, errW_some] <;> rfl)) | (simp [*, errW_none, errW_some] <;> rfl), by repeat (first | (with_reducible first | exact HB.out | apply below_alloc | apply pw_below_drewN | apply below_drew1 | refine below_set ?_ GE318.out | refine below_set ?_ GE319.out | refine below_set ?_ GE323.out) | exact HB.out)⟩
                · rw [if_neg c34] at H
                  exact absurd H (by simp)
              · rw [if_neg c33] at H
                exact absurd H (by simp)
            · rw [if_neg c32] at H
              exact absurd H (by simp)
          · replace c30 := Bool.eq_false_iff.mpr c30
            subst c30
            have H1 : (some (x324000_3, t322)) = some (r1, r2) := by rw [if_neg (show ¬ (false = true) by decide)] at H; exact H
            clear H
            have H := H1
            clear H1
            simp only [Option.some.injEq, Prod.mk.injEq] at H
            obtain ⟨rfl, rfl⟩ := H
            have hnb49 := NB323_318.out
            have hnc49 := NB318_323.out
            have hnb50 := NB323_319.out
            have hnc50 := NB319_323.out
            have hcz51_0 : wc.cell? ⟨gb323, 0, none⟩ = some (.int .i64 x324000_3) := (blk_cell BK323.out 0).trans rfl
            have hcz51_1 : wc.cell? ⟨gb323, 1, none⟩ = some (.int .i64 t322) := (blk_cell BK323.out 1).trans rfl
            have hfz51_0 := blk_frozen BK323.out 0
            have hfz51_1 := blk_frozen BK323.out 1
            have hnb52 := NB319_318.out
            have hnc52 := NB318_319.out
            have hcz53_0 : wc.cell? ⟨gb319, 0, none⟩ = some (.int .i64 0) := (blk_cell BK319.out 0).trans rfl
            have hcz53_1 : wc.cell? ⟨gb319, 1, none⟩ = some (.int .i64 0) := (blk_cell BK319.out 1).trans rfl
            have hfz53_0 := blk_frozen BK319.out 0
            have hfz53_1 := blk_frozen BK319.out 1
            go_wp2
            refine bodyPost_ret (results_cell_row rfl _ _ gb319 44 #[.int .i64 x324000_3, .int .i64 t322] (0, 0) _ rfl (by (with_reducible repeat (first | refine blk_drewN ?_ _ | refine blk_drew ?_ | refine blk_alloc ?_ _)); refine blk_put (cs := #[.int .i64 x324000_3, .int .i64 0]) ?_ 1 _ rfl; (with_reducible repeat (first | refine blk_drewN ?_ _ | refine blk_drew ?_ | refine blk_alloc ?_ _)); refine blk_put (cs := #[.int .i64 0, .int .i64 0]) ?_ 0 _ rfl; (with_reducible repeat (first | refine blk_drewN ?_ _ | refine blk_drew ?_ | refine blk_alloc ?_ _)); exact BK319.out) Try.underlying44 rfl (by kernel_rfl)) rfl ?_
            exact ⟨by first | rfl | (simp [errW_none, errW_some] <;> rfl) | (simp [*, errW_none, errW_some] <;> rfl), by repeat (first | (with_reducible first | exact HB.out | apply below_alloc | apply pw_below_drewN | apply below_drew1 | refine below_set ?_ GE318.out | refine below_set ?_ GE319.out | refine below_set ?_ GE323.out) | exact HB.out)⟩
end Go.Proofs.Ytackcingpffidaa.P
namespace Go.Proofs.Ytackcingpffidaa.P
open Go.RowKit Go.Proofs.YtackcingpffidaaW.PrintWords Go.Proofs.YtackcingpffidaaW.PrintLast Go.Proofs.YtackcingpffidaaW.PrintMore
attribute [local go_sem high] eqA44
attribute [local go_sem] max2_int min2_int max_two min_two max_three min_three max_four min_four Go.Proofs.YtackcingpffidaaQ.str_gtr Go.Proofs.YtackcingpffidaaQ.str_leq Go.Proofs.YtackcingpffidaaQ.str_geq   -- for this text's walks alone
set_option linter.unusedVariables false
set_option linter.unusedSimpArgs false
/-! ### laminalaw16_awake: function 12 -/
def laminalaw16_awake.f (k : Nat)  : Option (Bool) := (laminalaw16_integer.f 1).bind fun bt328 => ((laminalaw16_integer.f 2).bind fun bt331 => ((laminalaw16_integer.f 2).bind fun bt334 => ((sketch_Build.f k (([(⟨bt328.1, bt328.2.1, bt328.2.2⟩ : S39), (⟨bt331.1, bt331.2.1, bt331.2.2⟩ : S39), (⟨bt334.1, bt334.2.1, bt334.2.2⟩ : S39), (⟨0, 0, (⟨#[]⟩ : ByteArray)⟩ : S39)] : List (S39)))).bind fun bt340 => (if bt340.1 = 4 then (if bt340.2.1 = 1 then (if (bt340.2.2.2.2.2.1.length : Int) = 2 then (if (bt340.2.2.2.2.2.2.length : Int) = 4 then (if 3 < (bt340.2.2.2.2.2.2.length : Int) then (if (rd bt340.2.2.2.2.2.2 3) = 3 then ((sketch_Valid.f k bt340.1 bt340.2.1 bt340.2.2.1 bt340.2.2.2.1 bt340.2.2.2.2.1 bt340.2.2.2.2.2.1 bt340.2.2.2.2.2.2).bind fun t357 => (if t357 = true then ((laminalaw16_integer.f 2).bind fun bt358 => ((sketch_CountEqual.f k bt340.1 bt340.2.1 bt340.2.2.1 bt340.2.2.2.1 bt340.2.2.2.2.1 bt340.2.2.2.2.2.1 bt340.2.2.2.2.2.2 bt358.1 bt358.2.1 bt358.2.2).bind fun bt361 => (if (bt361.1 == 2 && (bt361.2 == 2)) = true then ((laminalaw16_integer.f 2).bind fun bt363 => ((sketch_CountLess.f k bt340.1 bt340.2.1 bt340.2.2.1 bt340.2.2.2.1 bt340.2.2.2.2.1 bt340.2.2.2.2.2.1 bt340.2.2.2.2.2.2 bt363.1 bt363.2.1 bt363.2.2).bind fun bt366 => (if (bt366.1 == 1 && (bt366.2 == 1)) = true then ((sketch_CountDistinct.f k bt340.1 bt340.2.1 bt340.2.2.1 bt340.2.2.2.1 bt340.2.2.2.2.1 bt340.2.2.2.2.2.1 bt340.2.2.2.2.2.2).bind fun bt368 => (some (bt368.1 == 2 && (bt368.2 == 2)))) else (none)))) else (none)))) else (none))) else (none)) else (none)) else (none)) else (none)) else (none)) else (none)))))
theorem laminalaw16_awake.mono : ∀ k, LeO (laminalaw16_awake.f k ) (laminalaw16_awake.f (k + 1) ) := by
  intro  k
  unfold laminalaw16_awake.f
  repeat' first
      | (with_reducible exact sketch_Build.mono _ _)
      | (with_reducible exact sketch_CountDistinct.mono _ _ _ _ _ _ _ _)
      | (with_reducible exact sketch_CountEqual.mono _ _ _ _ _ _ _ _ _ _ _)
      | (with_reducible exact sketch_CountLess.mono _ _ _ _ _ _ _ _ _ _ _)
      | (with_reducible exact sketch_Valid.mono _ _ _ _ _ _ _ _)
      | (with_reducible exact LeO.refl _)
      | (with_reducible exact LeO.none _)
      | (with_reducible refine LeO.ite ?_ ?_)
      | (with_reducible refine LeO.bind ?_ (fun _ => ?_))
      | exact sketch_Build.mono _ _
      | exact sketch_CountDistinct.mono _ _ _ _ _ _ _ _
      | exact sketch_CountEqual.mono _ _ _ _ _ _ _ _ _ _ _
      | exact sketch_CountLess.mono _ _ _ _ _ _ _ _ _ _ _
      | exact sketch_Valid.mono _ _ _ _ _ _ _ _
      | exact LeO.none _
      | refine LeO.ite ?_ ?_
      | refine LeO.bind ?_ (fun _ => ?_)
def laminalaw16_awake.T2 : Bool × List (List Nat × List Nat) := (true, [([], []), ([0], [0]), ([1], [1]), ([2], [2]), ([3], [3]), ([4, 3], [3, 4]), ([5, 3], [3, 5]), ([3, 6], [3, 6]), ([7, 3], [7]), ([8], [8]), ([9, 8], [8, 9]), ([10, 8], [8, 10]), ([11, 8], [8, 11]), ([8, 12], [8, 12]), ([13, 8], [13]), ([14], [14]), ([15, 14], [14, 15]), ([16, 14], [14, 16]), ([17, 14], [14, 17]), ([14, 18], [14, 18]), ([19, 14], [19]), ([20], [20]), ([21, 20], [20, 21]), ([22, 20], [20, 22]), ([23, 20], [20, 23]), ([24, 20], [20, 24]), ([20, 25], [20, 25]), ([26, 20], [26]), ([27], [27]), ([28, 27, 27], [27, 28]), ([27, 29], [27, 29]), ([30, 29], [30]), ([31], [31]), ([31, 31], [31]), ([32, 33, 33, 31], [31, 32, 33]), ([31], [31]), ([34, 35, 31], [31, 34, 35]), ([31, 36], [31, 36]), ([37, 34], [37]), ([38], [38]), ([38, 38], [38]), ([39, 40, 40, 38], [38, 39, 40]), ([38], [38]), ([41, 42, 38], [38, 41, 42]), ([38, 43], [38, 43]), ([44, 41], [44]), ([45], [45]), ([46, 45, 45], [45, 46]), ([45], [45]), ([47, 48, 45], [45, 47, 48]), ([45, 49], [45, 49]), ([50, 47, 0, 1, 2, 3, 4, 5, 6, 7, 8, 9, 10, 11, 12, 13, 14, 15, 16, 17, 18, 19, 20, 21, 22, 23, 24, 25, 26, 27, 28, 29, 30, 31, 32, 33, 34, 35, 36, 37, 38, 39, 40, 41, 42, 43, 44, 45, 46, 47, 48, 49, 50], [50])])
def laminalaw16_awake.B2 : List Nat := [0, 1, 3, 7, 15, 31, 63, 127, 255, 511, 1023, 2047, 4095, 8191, 16383, 32767, 65535, 131071, 262143, 524287, 1048575, 2097151, 4194303, 8388607, 16777215, 33554431, 67108863, 134217727, 268435455, 536870911, 1073741823, 2147483647, 4294967295, 4294967295, 17179869183, 4294967295, 68719476735, 137438953471, 274877906943, 549755813887, 549755813887, 2199023255551, 549755813887, 8796093022207, 17592186044415, 35184372088831, 70368744177663, 140737488355327, 70368744177663, 562949953421311, 1125899906842623, 2251799813685247]
theorem laminalaw16_awake.tab2 : rtab .any (opsOf Try.f12 2) = laminalaw16_awake.T2 := by kernel_rfl
theorem laminalaw16_awake.bits2 : waitsOk laminalaw16_awake.T2.2 laminalaw16_awake.B2 = true := by kernel_rfl
set_option maxHeartbeats 8000000 in
set_option maxRecDepth 100000 in
theorem laminalaw16_awake.calls (k : Nat)  (r : Bool) (w : World) (h : laminalaw16_awake.f k  = some r) :
    Calls Try.prog 12 #[] w fun e w' => e = .returned (.bool r) ∧ Below w.heap.size w w' := by
  have hu39 := Try.underlying39
  have hu26 := Try.underlying26
  have hu44 := Try.underlying44
  have HB := Aside0.mk (Below.refl w.heap.size w)
  have H : ((laminalaw16_integer.f 1).bind fun bt328 => ((laminalaw16_integer.f 2).bind fun bt331 => ((laminalaw16_integer.f 2).bind fun bt334 => ((sketch_Build.f k (([(⟨bt328.1, bt328.2.1, bt328.2.2⟩ : S39), (⟨bt331.1, bt331.2.1, bt331.2.2⟩ : S39), (⟨bt334.1, bt334.2.1, bt334.2.2⟩ : S39), (⟨0, 0, (⟨#[]⟩ : ByteArray)⟩ : S39)] : List (S39)))).bind fun bt340 => (if bt340.1 = 4 then (if bt340.2.1 = 1 then (if (bt340.2.2.2.2.2.1.length : Int) = 2 then (if (bt340.2.2.2.2.2.2.length : Int) = 4 then (if 3 < (bt340.2.2.2.2.2.2.length : Int) then (if (rd bt340.2.2.2.2.2.2 3) = 3 then ((sketch_Valid.f k bt340.1 bt340.2.1 bt340.2.2.1 bt340.2.2.2.1 bt340.2.2.2.2.1 bt340.2.2.2.2.2.1 bt340.2.2.2.2.2.2).bind fun t357 => (if t357 = true then ((laminalaw16_integer.f 2).bind fun bt358 => ((sketch_CountEqual.f k bt340.1 bt340.2.1 bt340.2.2.1 bt340.2.2.2.1 bt340.2.2.2.2.1 bt340.2.2.2.2.2.1 bt340.2.2.2.2.2.2 bt358.1 bt358.2.1 bt358.2.2).bind fun bt361 => (if (bt361.1 == 2 && (bt361.2 == 2)) = true then ((laminalaw16_integer.f 2).bind fun bt363 => ((sketch_CountLess.f k bt340.1 bt340.2.1 bt340.2.2.1 bt340.2.2.2.1 bt340.2.2.2.2.1 bt340.2.2.2.2.2.1 bt340.2.2.2.2.2.2 bt363.1 bt363.2.1 bt363.2.2).bind fun bt366 => (if (bt366.1 == 1 && (bt366.2 == 1)) = true then ((sketch_CountDistinct.f k bt340.1 bt340.2.1 bt340.2.2.1 bt340.2.2.2.1 bt340.2.2.2.2.1 bt340.2.2.2.2.2.1 bt340.2.2.2.2.2.2).bind fun bt368 => (some (bt368.1 == 2 && (bt368.2 == 2)))) else (none)))) else (none)))) else (none))) else (none)) else (none)) else (none)) else (none)) else (none)) else (none)))))) = some r := h
  clear h
  replace H := Option.bind_eq_some_iff.mp H
  obtain ⟨⟨t328, t329, t330⟩, A10, H⟩ := H
  replace H : ((laminalaw16_integer.f 2).bind fun bt331 => ((laminalaw16_integer.f 2).bind fun bt334 => ((sketch_Build.f k (([(⟨t328, t329, t330⟩ : S39), (⟨bt331.1, bt331.2.1, bt331.2.2⟩ : S39), (⟨bt334.1, bt334.2.1, bt334.2.2⟩ : S39), (⟨0, 0, (⟨#[]⟩ : ByteArray)⟩ : S39)] : List (S39)))).bind fun bt340 => (if bt340.1 = 4 then (if bt340.2.1 = 1 then (if (bt340.2.2.2.2.2.1.length : Int) = 2 then (if (bt340.2.2.2.2.2.2.length : Int) = 4 then (if 3 < (bt340.2.2.2.2.2.2.length : Int) then (if (rd bt340.2.2.2.2.2.2 3) = 3 then ((sketch_Valid.f k bt340.1 bt340.2.1 bt340.2.2.1 bt340.2.2.2.1 bt340.2.2.2.2.1 bt340.2.2.2.2.2.1 bt340.2.2.2.2.2.2).bind fun t357 => (if t357 = true then ((laminalaw16_integer.f 2).bind fun bt358 => ((sketch_CountEqual.f k bt340.1 bt340.2.1 bt340.2.2.1 bt340.2.2.2.1 bt340.2.2.2.2.1 bt340.2.2.2.2.2.1 bt340.2.2.2.2.2.2 bt358.1 bt358.2.1 bt358.2.2).bind fun bt361 => (if (bt361.1 == 2 && (bt361.2 == 2)) = true then ((laminalaw16_integer.f 2).bind fun bt363 => ((sketch_CountLess.f k bt340.1 bt340.2.1 bt340.2.2.1 bt340.2.2.2.1 bt340.2.2.2.2.1 bt340.2.2.2.2.2.1 bt340.2.2.2.2.2.2 bt363.1 bt363.2.1 bt363.2.2).bind fun bt366 => (if (bt366.1 == 1 && (bt366.2 == 1)) = true then ((sketch_CountDistinct.f k bt340.1 bt340.2.1 bt340.2.2.1 bt340.2.2.2.1 bt340.2.2.2.2.1 bt340.2.2.2.2.2.1 bt340.2.2.2.2.2.2).bind fun bt368 => (some (bt368.1 == 2 && (bt368.2 == 2)))) else (none)))) else (none)))) else (none))) else (none)) else (none)) else (none)) else (none)) else (none)) else (none))))) = some r := H
  have A1 := Aside0.mk A10
  clear A10
  replace H := Option.bind_eq_some_iff.mp H
  obtain ⟨⟨t331, t332, t333⟩, A20, H⟩ := H
  replace H : ((laminalaw16_integer.f 2).bind fun bt334 => ((sketch_Build.f k (([(⟨t328, t329, t330⟩ : S39), (⟨t331, t332, t333⟩ : S39), (⟨bt334.1, bt334.2.1, bt334.2.2⟩ : S39), (⟨0, 0, (⟨#[]⟩ : ByteArray)⟩ : S39)] : List (S39)))).bind fun bt340 => (if bt340.1 = 4 then (if bt340.2.1 = 1 then (if (bt340.2.2.2.2.2.1.length : Int) = 2 then (if (bt340.2.2.2.2.2.2.length : Int) = 4 then (if 3 < (bt340.2.2.2.2.2.2.length : Int) then (if (rd bt340.2.2.2.2.2.2 3) = 3 then ((sketch_Valid.f k bt340.1 bt340.2.1 bt340.2.2.1 bt340.2.2.2.1 bt340.2.2.2.2.1 bt340.2.2.2.2.2.1 bt340.2.2.2.2.2.2).bind fun t357 => (if t357 = true then ((laminalaw16_integer.f 2).bind fun bt358 => ((sketch_CountEqual.f k bt340.1 bt340.2.1 bt340.2.2.1 bt340.2.2.2.1 bt340.2.2.2.2.1 bt340.2.2.2.2.2.1 bt340.2.2.2.2.2.2 bt358.1 bt358.2.1 bt358.2.2).bind fun bt361 => (if (bt361.1 == 2 && (bt361.2 == 2)) = true then ((laminalaw16_integer.f 2).bind fun bt363 => ((sketch_CountLess.f k bt340.1 bt340.2.1 bt340.2.2.1 bt340.2.2.2.1 bt340.2.2.2.2.1 bt340.2.2.2.2.2.1 bt340.2.2.2.2.2.2 bt363.1 bt363.2.1 bt363.2.2).bind fun bt366 => (if (bt366.1 == 1 && (bt366.2 == 1)) = true then ((sketch_CountDistinct.f k bt340.1 bt340.2.1 bt340.2.2.1 bt340.2.2.2.1 bt340.2.2.2.2.1 bt340.2.2.2.2.2.1 bt340.2.2.2.2.2.2).bind fun bt368 => (some (bt368.1 == 2 && (bt368.2 == 2)))) else (none)))) else (none)))) else (none))) else (none)) else (none)) else (none)) else (none)) else (none)) else (none)))) = some r := H
  have A2 := Aside0.mk A20
  clear A20
  replace H := Option.bind_eq_some_iff.mp H
  obtain ⟨⟨t334, t335, t336⟩, A30, H⟩ := H
  replace H : ((sketch_Build.f k (([(⟨t328, t329, t330⟩ : S39), (⟨t331, t332, t333⟩ : S39), (⟨t334, t335, t336⟩ : S39), (⟨0, 0, (⟨#[]⟩ : ByteArray)⟩ : S39)] : List (S39)))).bind fun bt340 => (if bt340.1 = 4 then (if bt340.2.1 = 1 then (if (bt340.2.2.2.2.2.1.length : Int) = 2 then (if (bt340.2.2.2.2.2.2.length : Int) = 4 then (if 3 < (bt340.2.2.2.2.2.2.length : Int) then (if (rd bt340.2.2.2.2.2.2 3) = 3 then ((sketch_Valid.f k bt340.1 bt340.2.1 bt340.2.2.1 bt340.2.2.2.1 bt340.2.2.2.2.1 bt340.2.2.2.2.2.1 bt340.2.2.2.2.2.2).bind fun t357 => (if t357 = true then ((laminalaw16_integer.f 2).bind fun bt358 => ((sketch_CountEqual.f k bt340.1 bt340.2.1 bt340.2.2.1 bt340.2.2.2.1 bt340.2.2.2.2.1 bt340.2.2.2.2.2.1 bt340.2.2.2.2.2.2 bt358.1 bt358.2.1 bt358.2.2).bind fun bt361 => (if (bt361.1 == 2 && (bt361.2 == 2)) = true then ((laminalaw16_integer.f 2).bind fun bt363 => ((sketch_CountLess.f k bt340.1 bt340.2.1 bt340.2.2.1 bt340.2.2.2.1 bt340.2.2.2.2.1 bt340.2.2.2.2.2.1 bt340.2.2.2.2.2.2 bt363.1 bt363.2.1 bt363.2.2).bind fun bt366 => (if (bt366.1 == 1 && (bt366.2 == 1)) = true then ((sketch_CountDistinct.f k bt340.1 bt340.2.1 bt340.2.2.1 bt340.2.2.2.1 bt340.2.2.2.2.1 bt340.2.2.2.2.2.1 bt340.2.2.2.2.2.2).bind fun bt368 => (some (bt368.1 == 2 && (bt368.2 == 2)))) else (none)))) else (none)))) else (none))) else (none)) else (none)) else (none)) else (none)) else (none)) else (none))) = some r := H
  have A3 := Aside0.mk A30
  clear A30
  obtain ⟨y337, hy337⟩ : ∃ y_ : List (S39), y_ = (([(⟨t328, t329, t330⟩ : S39), (⟨t331, t332, t333⟩ : S39), (⟨t334, t335, t336⟩ : S39), (⟨0, 0, (⟨#[]⟩ : ByteArray)⟩ : S39)] : List (S39))) := ⟨_, rfl⟩
  replace H : ((sketch_Build.f k y337).bind fun bt340 => (if bt340.1 = 4 then (if bt340.2.1 = 1 then (if (bt340.2.2.2.2.2.1.length : Int) = 2 then (if (bt340.2.2.2.2.2.2.length : Int) = 4 then (if 3 < (bt340.2.2.2.2.2.2.length : Int) then (if (rd bt340.2.2.2.2.2.2 3) = 3 then ((sketch_Valid.f k bt340.1 bt340.2.1 bt340.2.2.1 bt340.2.2.2.1 bt340.2.2.2.2.1 bt340.2.2.2.2.2.1 bt340.2.2.2.2.2.2).bind fun t357 => (if t357 = true then ((laminalaw16_integer.f 2).bind fun bt358 => ((sketch_CountEqual.f k bt340.1 bt340.2.1 bt340.2.2.1 bt340.2.2.2.1 bt340.2.2.2.2.1 bt340.2.2.2.2.2.1 bt340.2.2.2.2.2.2 bt358.1 bt358.2.1 bt358.2.2).bind fun bt361 => (if (bt361.1 == 2 && (bt361.2 == 2)) = true then ((laminalaw16_integer.f 2).bind fun bt363 => ((sketch_CountLess.f k bt340.1 bt340.2.1 bt340.2.2.1 bt340.2.2.2.1 bt340.2.2.2.2.1 bt340.2.2.2.2.2.1 bt340.2.2.2.2.2.2 bt363.1 bt363.2.1 bt363.2.2).bind fun bt366 => (if (bt366.1 == 1 && (bt366.2 == 1)) = true then ((sketch_CountDistinct.f k bt340.1 bt340.2.1 bt340.2.2.1 bt340.2.2.2.1 bt340.2.2.2.2.1 bt340.2.2.2.2.2.1 bt340.2.2.2.2.2.2).bind fun bt368 => (some (bt368.1 == 2 && (bt368.2 == 2)))) else (none)))) else (none)))) else (none))) else (none)) else (none)) else (none)) else (none)) else (none)) else (none))) = some r := by first | (rw [hy337]; with_reducible exact H) | (have H2_ := (Option.bind_some _ _).symm.trans H; rw [hy337]; with_reducible exact H2_) | (have H2_ := (Option.bind_some _ _).symm.trans H; with_reducible exact H2_) | with_reducible exact H | (rw [hy337]; exact H) | exact H
  have Ny337 := Aside0.mk hy337
  clear hy337
  replace H := Option.bind_eq_some_iff.mp H
  obtain ⟨⟨t340, t341, t342, t345, t346, t349, t352⟩, A40, H⟩ := H
  replace H : (if t340 = 4 then (if t341 = 1 then (if (t349.length : Int) = 2 then (if (t352.length : Int) = 4 then (if 3 < (t352.length : Int) then (if (rd t352 3) = 3 then ((sketch_Valid.f k t340 t341 t342 t345 t346 t349 t352).bind fun t357 => (if t357 = true then ((laminalaw16_integer.f 2).bind fun bt358 => ((sketch_CountEqual.f k t340 t341 t342 t345 t346 t349 t352 bt358.1 bt358.2.1 bt358.2.2).bind fun bt361 => (if (bt361.1 == 2 && (bt361.2 == 2)) = true then ((laminalaw16_integer.f 2).bind fun bt363 => ((sketch_CountLess.f k t340 t341 t342 t345 t346 t349 t352 bt363.1 bt363.2.1 bt363.2.2).bind fun bt366 => (if (bt366.1 == 1 && (bt366.2 == 1)) = true then ((sketch_CountDistinct.f k t340 t341 t342 t345 t346 t349 t352).bind fun bt368 => (some (bt368.1 == 2 && (bt368.2 == 2)))) else (none)))) else (none)))) else (none))) else (none)) else (none)) else (none)) else (none)) else (none)) else (none)) = some r := H
  have A4 := Aside0.mk A40
  clear A40
  by_cases c5 : t340 = 4
  · rw [if_pos c5] at H
    have c5b0 : (t340 == 4) = true := beq_iff_eq.mpr c5
    have c5b1 : (t340 != 4) = false := bne_eq_false_iff_eq.mpr c5
    clear c5
    by_cases c6 : t341 = 1
    · rw [if_pos c6] at H
      have c6b0 : (t341 == 1) = true := beq_iff_eq.mpr c6
      have c6b1 : (t341 != 1) = false := bne_eq_false_iff_eq.mpr c6
      clear c6
      by_cases c7 : (t349.length : Int) = 2
      · rw [if_pos c7] at H
        have c7b0 : ((t349.length : Int) == 2) = true := beq_iff_eq.mpr c7
        have c7b1 : ((t349.length : Int) != 2) = false := bne_eq_false_iff_eq.mpr c7
        clear c7
        by_cases c8 : (t352.length : Int) = 4
        · rw [if_pos c8] at H
          have c8b0 : ((t352.length : Int) == 4) = true := beq_iff_eq.mpr c8
          have c8b1 : ((t352.length : Int) != 4) = false := bne_eq_false_iff_eq.mpr c8
          clear c8
          by_cases c9 : 3 < (t352.length : Int)
          · rw [if_pos c9] at H
            have c9b0 : decide (3 < (t352.length : Int)) = true := decide_eq_true c9
            have c9b1 : decide (3 < t352.length) = true := decide_eq_true (by omega)
            clear c9
            by_cases c10 : (rd t352 3) = 3
            · rw [if_pos c10] at H
              have c10b0 : ((rd t352 3) == 3) = true := beq_iff_eq.mpr c10
              have c10b1 : ((rd t352 3) != 3) = false := bne_eq_false_iff_eq.mpr c10
              clear c10
              replace H := Option.bind_eq_some_iff.mp H
              obtain ⟨t357, A110, H⟩ := H
              replace H : (if t357 = true then ((laminalaw16_integer.f 2).bind fun bt358 => ((sketch_CountEqual.f k t340 t341 t342 t345 t346 t349 t352 bt358.1 bt358.2.1 bt358.2.2).bind fun bt361 => (if (bt361.1 == 2 && (bt361.2 == 2)) = true then ((laminalaw16_integer.f 2).bind fun bt363 => ((sketch_CountLess.f k t340 t341 t342 t345 t346 t349 t352 bt363.1 bt363.2.1 bt363.2.2).bind fun bt366 => (if (bt366.1 == 1 && (bt366.2 == 1)) = true then ((sketch_CountDistinct.f k t340 t341 t342 t345 t346 t349 t352).bind fun bt368 => (some (bt368.1 == 2 && (bt368.2 == 2)))) else (none)))) else (none)))) else (none)) = some r := H
              have A11 := Aside0.mk A110
              clear A110
              by_cases c12 : t357 = true
              · subst c12
                have H1 : ((laminalaw16_integer.f 2).bind fun bt358 => ((sketch_CountEqual.f k t340 t341 t342 t345 t346 t349 t352 bt358.1 bt358.2.1 bt358.2.2).bind fun bt361 => (if (bt361.1 == 2 && (bt361.2 == 2)) = true then ((laminalaw16_integer.f 2).bind fun bt363 => ((sketch_CountLess.f k t340 t341 t342 t345 t346 t349 t352 bt363.1 bt363.2.1 bt363.2.2).bind fun bt366 => (if (bt366.1 == 1 && (bt366.2 == 1)) = true then ((sketch_CountDistinct.f k t340 t341 t342 t345 t346 t349 t352).bind fun bt368 => (some (bt368.1 == 2 && (bt368.2 == 2)))) else (none)))) else (none)))) = some r := by rw [if_pos rfl] at H; exact H
                clear H
                have H := H1
                clear H1
                replace H := Option.bind_eq_some_iff.mp H
                obtain ⟨⟨t358, t359, t360⟩, A130, H⟩ := H
                replace H : ((sketch_CountEqual.f k t340 t341 t342 t345 t346 t349 t352 t358 t359 t360).bind fun bt361 => (if (bt361.1 == 2 && (bt361.2 == 2)) = true then ((laminalaw16_integer.f 2).bind fun bt363 => ((sketch_CountLess.f k t340 t341 t342 t345 t346 t349 t352 bt363.1 bt363.2.1 bt363.2.2).bind fun bt366 => (if (bt366.1 == 1 && (bt366.2 == 1)) = true then ((sketch_CountDistinct.f k t340 t341 t342 t345 t346 t349 t352).bind fun bt368 => (some (bt368.1 == 2 && (bt368.2 == 2)))) else (none)))) else (none))) = some r := H
                have A13 := Aside0.mk A130
                clear A130
                replace H := Option.bind_eq_some_iff.mp H
                obtain ⟨⟨t361, t362⟩, A140, H⟩ := H
                replace H : (if (t361 == 2 && (t362 == 2)) = true then ((laminalaw16_integer.f 2).bind fun bt363 => ((sketch_CountLess.f k t340 t341 t342 t345 t346 t349 t352 bt363.1 bt363.2.1 bt363.2.2).bind fun bt366 => (if (bt366.1 == 1 && (bt366.2 == 1)) = true then ((sketch_CountDistinct.f k t340 t341 t342 t345 t346 t349 t352).bind fun bt368 => (some (bt368.1 == 2 && (bt368.2 == 2)))) else (none)))) else (none)) = some r := H
                have A14 := Aside0.mk A140
                clear A140
                by_cases c15 : (t361 == 2 && (t362 == 2)) = true
                · rw [if_pos c15] at H
                  have c15b0 : (t361 == 2 && (t362 == 2)) = true := c15
                  (try (have c15b1 : decide (t361 = 2 && (t362 == 2)) = true := by simpa using c15))
                  (try (have c15b2 : (t361 == 2 && (t362 == 2)) = true := by simpa using c15))
                  clear c15
                  replace H := Option.bind_eq_some_iff.mp H
                  obtain ⟨⟨t363, t364, t365⟩, A160, H⟩ := H
                  replace H : ((sketch_CountLess.f k t340 t341 t342 t345 t346 t349 t352 t363 t364 t365).bind fun bt366 => (if (bt366.1 == 1 && (bt366.2 == 1)) = true then ((sketch_CountDistinct.f k t340 t341 t342 t345 t346 t349 t352).bind fun bt368 => (some (bt368.1 == 2 && (bt368.2 == 2)))) else (none))) = some r := H
                  have A16 := Aside0.mk A160
                  clear A160
                  replace H := Option.bind_eq_some_iff.mp H
                  obtain ⟨⟨t366, t367⟩, A170, H⟩ := H
                  replace H : (if (t366 == 1 && (t367 == 1)) = true then ((sketch_CountDistinct.f k t340 t341 t342 t345 t346 t349 t352).bind fun bt368 => (some (bt368.1 == 2 && (bt368.2 == 2)))) else (none)) = some r := H
                  have A17 := Aside0.mk A170
                  clear A170
                  by_cases c18 : (t366 == 1 && (t367 == 1)) = true
                  · rw [if_pos c18] at H
                    have c18b0 : (t366 == 1 && (t367 == 1)) = true := c18
                    (try (have c18b1 : decide (t366 = 1 && (t367 == 1)) = true := by simpa using c18))
                    (try (have c18b2 : (t366 == 1 && (t367 == 1)) = true := by simpa using c18))
                    clear c18
                    replace H := Option.bind_eq_some_iff.mp H
                    obtain ⟨⟨t368, t369⟩, A190, H⟩ := H
                    replace H : (some (t368 == 2 && (t369 == 2))) = some r := H
                    have A19 := Aside0.mk A190
                    clear A190
                    obtain rfl := Option.some.inj H
                    go_enter Try.func12, Try.ntmps12
                    try go_wp2_with (first | ((with_reducible refine gate_callee (f := 40) rfl ?_); refine goesL_ (some 2) rfl rfl Try.func40 (by kernel_rfl) rfl #[.int .i64 1] rfl (by (try simp only [List.map_toArray, List.map_cons, List.map_nil]); first | done | rfl | (simp only [List.length_drop, List.length_take]; rfl) | (simp only [Int.ofNat_lt, Int.ofNat_le, gt_iff_lt, ge_iff_le]; rfl)) ?_; (with_reducible refine (laminalaw16_integer.calls 1 t328 t329 t330 _ A1.out).mono ?_); rintro e w20 ⟨rfl, hb⟩; refine ⟨_, rfl, ?_⟩; have n0_ := Aside0.mk (below_step (by repeat (first | (with_reducible first | exact HB.out | apply below_alloc | apply pw_below_drewN | apply below_drew1) | exact HB.out)) hb); clear HB; have HB := n0_; clear n0_; (try clear hb); (try clear hb2); (try clear hk); (try clear hi)) | ((with_reducible refine gate_callee (f := 40) rfl ?_); refine goesL_ (some 3) rfl rfl Try.func40 (by kernel_rfl) rfl #[.int .i64 2] rfl (by (try simp only [List.map_toArray, List.map_cons, List.map_nil]); first | done | rfl | (simp only [List.length_drop, List.length_take]; rfl) | (simp only [Int.ofNat_lt, Int.ofNat_le, gt_iff_lt, ge_iff_le]; rfl)) ?_; (with_reducible refine (laminalaw16_integer.calls 2 t331 t332 t333 _ A2.out).mono ?_); rintro e w21 ⟨rfl, hb⟩; refine ⟨_, rfl, ?_⟩; have n0_ := Aside0.mk (below_step (by repeat (first | (with_reducible first | exact HB.out | apply below_alloc | apply pw_below_drewN | apply below_drew1) | exact HB.out)) hb); clear HB; have HB := n0_; clear n0_; (try clear hb); (try clear hb2); (try clear hk); (try clear hi)) | ((with_reducible refine gate_callee (f := 40) rfl ?_); refine goesL_ (some 4) rfl rfl Try.func40 (by kernel_rfl) rfl #[.int .i64 2] rfl (by (try simp only [List.map_toArray, List.map_cons, List.map_nil]); first | done | rfl | (simp only [List.length_drop, List.length_take]; rfl) | (simp only [Int.ofNat_lt, Int.ofNat_le, gt_iff_lt, ge_iff_le]; rfl)) ?_; (with_reducible refine (laminalaw16_integer.calls 2 t334 t335 t336 _ A3.out).mono ?_); rintro e w22 ⟨rfl, hb⟩; refine ⟨_, rfl, ?_⟩; have n0_ := Aside0.mk (below_step (by repeat (first | (with_reducible first | exact HB.out | apply below_alloc | apply pw_below_drewN | apply below_drew1) | exact HB.out)) hb); clear HB; have HB := n0_; clear n0_; (try clear hb); (try clear hb2); (try clear hk); (try clear hi)) | ((with_reducible refine gate_dst (N := 6) rfl ?_); (try (refine gate_guard (by rfl) ?_; dsimp only)); refine Kd.R_lit k39 _ 39 ?hg (N := 6) ?hd (xs := ([(⟨t328, t329, t330⟩ : S39), (⟨t331, t332, t333⟩ : S39), (⟨t334, t335, t336⟩ : S39), (⟨0, 0, (⟨#[]⟩ : ByteArray)⟩ : S39)] : List (S39))) (inner := [.int .i64 t328, .int .i64 t329, .string t330, .int .i64 t331, .int .i64 t332, .string t333, .int .i64 t334, .int .i64 t335, .string t336, .int .i64 0, .int .i64 0, .string (⟨#[]⟩ : ByteArray)]) (ok := fun _ => True) (okp := fun _ => True) ?hr ?hp (fun _ hk => hk) trivial (Below.refl _ _) (Nat.le_refl _) (by simp) ?_; (case hd => rfl); (case hg => rfl); (case hr => first | (go_simp; done) | (go_simp; rfl)); (case hp => exact (Reps.c3 (show Kd.M k39 _ _ _ (⟨t328, t329, t330⟩ : S39) [.int .i64 t328, .int .i64 t329, .string t330] from (k39_mkM _ _ _ (⟨t328, t329, t330⟩ : S39) )) (Reps.c3 (show Kd.M k39 _ _ _ (⟨t331, t332, t333⟩ : S39) [.int .i64 t331, .int .i64 t332, .string t333] from (k39_mkM _ _ _ (⟨t331, t332, t333⟩ : S39) )) (Reps.c3 (show Kd.M k39 _ _ _ (⟨t334, t335, t336⟩ : S39) [.int .i64 t334, .int .i64 t335, .string t336] from (k39_mkM _ _ _ (⟨t334, t335, t336⟩ : S39) )) (Reps.c3 (show Kd.M k39 _ _ _ (⟨0, 0, (⟨#[]⟩ : ByteArray)⟩ : S39) [.int .i64 0, .int .i64 0, .string (⟨#[]⟩ : ByteArray)] from (k39_mkM _ _ _ (⟨0, 0, (⟨#[]⟩ : ByteArray)⟩ : S39) )) (Reps.none _ _)))))); intro v338 w23 ho24 hb hg_ hnew_; clear hg_ hnew_; (first | rw [← Ny337.out] at ho24 | (simp only [Int.reduceToNat] at ho24; rw [← Ny337.out] at ho24)); have n0_ := Aside0.mk (Kd.R_lower ho24 (below_size (by repeat (first | (with_reducible first | exact HB.out | apply below_alloc | apply pw_below_drewN | apply below_drew1) | exact HB.out)))); have n1_ := Aside0.mk (below_step (by repeat (first | (with_reducible first | exact HB.out | apply below_alloc | apply pw_below_drewN | apply below_drew1) | exact HB.out)) hb); clear HB; have HO339 := n0_; have HB := n1_; clear n0_ n1_; clear hb ho24; obtain ⟨Ao25, co25, eo25⟩ := Kd.R_slice HO339.out; subst eo25) | ((with_reducible refine gate_callee (f := 18) rfl ?_); refine goesL_ (some 7) rfl rfl Try.func18 (by kernel_rfl) rfl #[.slice Ao25 y337.length co25] rfl (by (try simp only [List.map_toArray, List.map_cons, List.map_nil]); first | done | rfl | (simp only [List.length_drop, List.length_take]; rfl) | (simp only [Int.ofNat_lt, Int.ofNat_le, gt_iff_lt, ge_iff_le]; rfl)) ?_; (with_reducible refine (sketch_Build.calls k _ _ y337 t340 t341 t342 t345 t346 t349 t352 _ ?side1 ?side2 A4.out).mono ?_); (case side1 => repeat (first | exact (Kd.R_reads' HO339.out).2.2 | (with_reducible refine Kd.C_alloc ?_ _) | (with_reducible refine Kd.C_drewN ?_ _) | (with_reducible refine Kd.C_drew ?_))); (case side2 => exact (Kd.R_reads' HO339.out).2.1); rintro e w26 ⟨v343, v347, v350, v353, rfl, ho0, ho1, ho2, ho3, hb⟩; refine ⟨_, rfl, ?_⟩; have n0_ := Aside0.mk (Kd.R_elder' (by (with_reducible repeat (first | apply Kd.R_alloc | apply Kd.R_drewN | apply Kd.R_drew)); exact HO339.out) (Kd.R_base ho2) hb); have n1_ := Aside0.mk (Kd.R_lower ho0 (below_size (by repeat (first | (with_reducible first | exact HB.out | apply below_alloc | apply pw_below_drewN | apply below_drew1) | exact HB.out)))); have n2_ := Aside0.mk (Kd.R_lower ho1 (below_size (by repeat (first | (with_reducible first | exact HB.out | apply below_alloc | apply pw_below_drewN | apply below_drew1) | exact HB.out)))); have n3_ := Aside0.mk (Kd.R_lower (Kd.R_new' ho2 (Kd.R_lt (by (with_reducible repeat (first | apply Kd.R_alloc | apply Kd.R_drewN | apply Kd.R_drew)); exact HO339.out))) (below_size (by repeat (first | (with_reducible first | exact HB.out | apply below_alloc | apply pw_below_drewN | apply below_drew1) | exact HB.out)))); have n4_ := Aside0.mk (Kd.R_lower ho3 (below_size (by repeat (first | (with_reducible first | exact HB.out | apply below_alloc | apply pw_below_drewN | apply below_drew1) | exact HB.out)))); have n5_ := Aside0.mk (below_step (by repeat (first | (with_reducible first | exact HB.out | apply below_alloc | apply pw_below_drewN | apply below_drew1) | exact HB.out)) hb); clear HO339; clear HB; have HO339 := n0_; have HO344 := n1_; have HO348 := n2_; have HO351 := n3_; have HO354 := n4_; have HB := n5_; clear n0_ n1_ n2_ n3_ n4_ n5_; (try clear hb); (try clear hb2); (try clear hk); (try clear hi); (try clear ho0); (try clear ho1); (try clear ho2); (try clear ho3)) | ((with_reducible refine gate_dst (N := 1) rfl ?_); (try (refine gate_guard (by rfl) ?_; dsimp only)); refine box_event ?hg (N := 1) ?hd (cs := #[.int .i64 0, .int .i64 0, .slice none 0 0, .bool false, .slice none 0 0, .slice none 0 0, .slice none 0 0]) (t := 26) ?hr ?_; (case hd => rfl); (case hg => rfl); (case hr => first | (go_simp; done) | (go_simp; rfl)); intro gb355 hg w27 hbox hb; have n0_ := Aside0.mk (Kd.R_below (by (with_reducible repeat (first | apply Kd.R_alloc | apply Kd.R_drewN | apply Kd.R_drew)); exact HO339.out) hb); have n1_ := Aside0.mk (Kd.R_below (by (with_reducible repeat (first | apply Kd.R_alloc | apply Kd.R_drewN | apply Kd.R_drew)); exact HO344.out) hb); have n2_ := Aside0.mk (Kd.R_below (by (with_reducible repeat (first | apply Kd.R_alloc | apply Kd.R_drewN | apply Kd.R_drew)); exact HO348.out) hb); have n3_ := Aside0.mk (Kd.R_below (by (with_reducible repeat (first | apply Kd.R_alloc | apply Kd.R_drewN | apply Kd.R_drew)); exact HO351.out) hb); have n4_ := Aside0.mk (Kd.R_below (by (with_reducible repeat (first | apply Kd.R_alloc | apply Kd.R_drewN | apply Kd.R_drew)); exact HO354.out) hb); have n5_ := Aside0.mk (below_step (by repeat (first | (with_reducible first | exact HB.out | apply below_alloc | apply pw_below_drewN | apply below_drew1) | exact HB.out)) hb); have n6_ := Aside0.mk (hbox); have n7_ := Aside0.mk ((by rw [hg]; exact (below_size (by repeat (first | (with_reducible first | exact HB.out | apply below_alloc | apply pw_below_drewN | apply below_drew1) | exact HB.out))) : w.heap.size ≤ gb355)); have n8_ := Aside0.mk ((by rw [hg]; exact (below_size (by repeat (first | (with_reducible first | exact HB.out | apply below_alloc | apply pw_below_drewN | apply below_drew1) | exact HB.out))) : w.heap.size ≤ gb355)); clear HO339; clear HO344; clear HO348; clear HO351; clear HO354; clear HB; have HO339 := n0_; have HO344 := n1_; have HO348 := n2_; have HO351 := n3_; have HO354 := n4_; have HB := n5_; have BK355 := n6_; have GW355 := n7_; have GE355 := n8_; clear n0_ n1_ n2_ n3_ n4_ n5_ n6_ n7_ n8_; clear hb hbox hg; have hcz28_0 : w27.cell? ⟨gb355, 0, none⟩ = some (.int .i64 0) := (blk_cell BK355.out 0).trans rfl; have hcz28_1 : w27.cell? ⟨gb355, 1, none⟩ = some (.int .i64 0) := (blk_cell BK355.out 1).trans rfl; have hcz28_2 : w27.cell? ⟨gb355, 2, none⟩ = some (.slice none 0 0) := (blk_cell BK355.out 2).trans rfl; have hcz28_3 : w27.cell? ⟨gb355, 3, none⟩ = some (.bool false) := (blk_cell BK355.out 3).trans rfl; have hcz28_4 : w27.cell? ⟨gb355, 4, none⟩ = some (.slice none 0 0) := (blk_cell BK355.out 4).trans rfl; have hcz28_5 : w27.cell? ⟨gb355, 5, none⟩ = some (.slice none 0 0) := (blk_cell BK355.out 5).trans rfl; have hcz28_6 : w27.cell? ⟨gb355, 6, none⟩ = some (.slice none 0 0) := (blk_cell BK355.out 6).trans rfl; have hfz28_0 := blk_frozen BK355.out 0; have hfz28_1 := blk_frozen BK355.out 1; have hfz28_2 := blk_frozen BK355.out 2; have hfz28_3 := blk_frozen BK355.out 3; have hfz28_4 := blk_frozen BK355.out 4; have hfz28_5 := blk_frozen BK355.out 5; have hfz28_6 := blk_frozen BK355.out 6; obtain ⟨Ao29, co29, eo29⟩ := Kd.R_slice HO344.out; subst eo29; obtain ⟨Ao30, co30, eo30⟩ := Kd.R_slice HO348.out; subst eo30; obtain ⟨Ao31, co31, eo31⟩ := Kd.R_slice HO351.out; subst eo31; obtain ⟨Ao32, co32, eo32⟩ := Kd.R_slice HO354.out; subst eo32))
                    have n0_ : Aside0 (Kd.R k39 39 (((((((w27.setCell ⟨gb355, 0, none⟩ (.int .i64 t340)).setCell ⟨gb355, 1, none⟩ (.int .i64 t341)).setCell ⟨gb355, 2, none⟩ (.slice Ao29 t342.length co29)).setCell ⟨gb355, 3, none⟩ (.bool t345)).setCell ⟨gb355, 4, none⟩ (.slice Ao30 t346.length co30)).setCell ⟨gb355, 5, none⟩ (.slice Ao31 t349.length co31)).setCell ⟨gb355, 6, none⟩ (.slice Ao32 t352.length co32)) w.heap.size (fun k_ => some k_ ≠ (.slice Ao31 t349.length co31 : Value).ownBlock) (.slice Ao25 y337.length co25) y337) := ⟨by (with_reducible repeat (first | apply Kd.R_alloc | apply Kd.R_drewN | apply Kd.R_drew)); exact Kd.R_mono (Kd.R_far (p := ⟨gb355, 6, none⟩) (Kd.R_far (p := ⟨gb355, 5, none⟩) (Kd.R_far (p := ⟨gb355, 4, none⟩) (Kd.R_far (p := ⟨gb355, 3, none⟩) (Kd.R_far (p := ⟨gb355, 2, none⟩) (Kd.R_far (p := ⟨gb355, 1, none⟩) (Kd.R_far (p := ⟨gb355, 0, none⟩) (Kd.R_types HO339.out BK355.out (by decide)) (fun _ hk => hk.2) (.int .i64 t340)) (fun _ hk => hk.2) (.int .i64 t341)) (fun _ hk => hk.2) (.slice Ao29 t342.length co29)) (fun _ hk => hk.2) (.bool t345)) (fun _ hk => hk.2) (.slice Ao30 t346.length co30)) (fun _ hk => hk.2) (.slice Ao31 t349.length co31)) (fun _ hk => hk.2) (.slice Ao32 t352.length co32)) (fun _ hk => hk.1.2)⟩
                    have n1_ : Aside0 (Kd.R (Kd.int .u64) 53 (((((((w27.setCell ⟨gb355, 0, none⟩ (.int .i64 t340)).setCell ⟨gb355, 1, none⟩ (.int .i64 t341)).setCell ⟨gb355, 2, none⟩ (.slice Ao29 t342.length co29)).setCell ⟨gb355, 3, none⟩ (.bool t345)).setCell ⟨gb355, 4, none⟩ (.slice Ao30 t346.length co30)).setCell ⟨gb355, 5, none⟩ (.slice Ao31 t349.length co31)).setCell ⟨gb355, 6, none⟩ (.slice Ao32 t352.length co32)) w.heap.size (fun _ => True) (.slice Ao29 t342.length co29) t342) := ⟨by (with_reducible repeat (first | apply Kd.R_alloc | apply Kd.R_drewN | apply Kd.R_drew)); exact Kd.R_mono (Kd.R_far (p := ⟨gb355, 6, none⟩) (Kd.R_far (p := ⟨gb355, 5, none⟩) (Kd.R_far (p := ⟨gb355, 4, none⟩) (Kd.R_far (p := ⟨gb355, 3, none⟩) (Kd.R_far (p := ⟨gb355, 2, none⟩) (Kd.R_far (p := ⟨gb355, 1, none⟩) (Kd.R_far (p := ⟨gb355, 0, none⟩) (Kd.R_types HO344.out BK355.out (by decide)) (fun _ hk => hk.2) (.int .i64 t340)) (fun _ hk => hk.2) (.int .i64 t341)) (fun _ hk => hk.2) (.slice Ao29 t342.length co29)) (fun _ hk => hk.2) (.bool t345)) (fun _ hk => hk.2) (.slice Ao30 t346.length co30)) (fun _ hk => hk.2) (.slice Ao31 t349.length co31)) (fun _ hk => hk.2) (.slice Ao32 t352.length co32)) (fun _ hk => trivial)⟩
                    have n2_ : Aside0 (Kd.R (Kd.int .i64) 3 (((((((w27.setCell ⟨gb355, 0, none⟩ (.int .i64 t340)).setCell ⟨gb355, 1, none⟩ (.int .i64 t341)).setCell ⟨gb355, 2, none⟩ (.slice Ao29 t342.length co29)).setCell ⟨gb355, 3, none⟩ (.bool t345)).setCell ⟨gb355, 4, none⟩ (.slice Ao30 t346.length co30)).setCell ⟨gb355, 5, none⟩ (.slice Ao31 t349.length co31)).setCell ⟨gb355, 6, none⟩ (.slice Ao32 t352.length co32)) w.heap.size (fun k_ => some k_ ≠ (.slice Ao32 t352.length co32 : Value).ownBlock) (.slice Ao30 t346.length co30) t346) := ⟨by (with_reducible repeat (first | apply Kd.R_alloc | apply Kd.R_drewN | apply Kd.R_drew)); exact Kd.R_mono (Kd.R_far (p := ⟨gb355, 6, none⟩) (Kd.R_far (p := ⟨gb355, 5, none⟩) (Kd.R_far (p := ⟨gb355, 4, none⟩) (Kd.R_far (p := ⟨gb355, 3, none⟩) (Kd.R_far (p := ⟨gb355, 2, none⟩) (Kd.R_far (p := ⟨gb355, 1, none⟩) (Kd.R_far (p := ⟨gb355, 0, none⟩) (Kd.R_types HO348.out BK355.out (by decide)) (fun _ hk => hk.2) (.int .i64 t340)) (fun _ hk => hk.2) (.int .i64 t341)) (fun _ hk => hk.2) (.slice Ao29 t342.length co29)) (fun _ hk => hk.2) (.bool t345)) (fun _ hk => hk.2) (.slice Ao30 t346.length co30)) (fun _ hk => hk.2) (.slice Ao31 t349.length co31)) (fun _ hk => hk.2) (.slice Ao32 t352.length co32)) (fun _ hk => hk.1)⟩
                    have n3_ : Aside0 (Kd.R k39 39 (((((((w27.setCell ⟨gb355, 0, none⟩ (.int .i64 t340)).setCell ⟨gb355, 1, none⟩ (.int .i64 t341)).setCell ⟨gb355, 2, none⟩ (.slice Ao29 t342.length co29)).setCell ⟨gb355, 3, none⟩ (.bool t345)).setCell ⟨gb355, 4, none⟩ (.slice Ao30 t346.length co30)).setCell ⟨gb355, 5, none⟩ (.slice Ao31 t349.length co31)).setCell ⟨gb355, 6, none⟩ (.slice Ao32 t352.length co32)) w.heap.size (fun k_ => some k_ ≠ (.slice Ao25 y337.length co25 : Value).ownBlock) (.slice Ao31 t349.length co31) t349) := ⟨by (with_reducible repeat (first | apply Kd.R_alloc | apply Kd.R_drewN | apply Kd.R_drew)); exact Kd.R_mono (Kd.R_far (p := ⟨gb355, 6, none⟩) (Kd.R_far (p := ⟨gb355, 5, none⟩) (Kd.R_far (p := ⟨gb355, 4, none⟩) (Kd.R_far (p := ⟨gb355, 3, none⟩) (Kd.R_far (p := ⟨gb355, 2, none⟩) (Kd.R_far (p := ⟨gb355, 1, none⟩) (Kd.R_far (p := ⟨gb355, 0, none⟩) (Kd.R_types HO351.out BK355.out (by decide)) (fun _ hk => hk.2) (.int .i64 t340)) (fun _ hk => hk.2) (.int .i64 t341)) (fun _ hk => hk.2) (.slice Ao29 t342.length co29)) (fun _ hk => hk.2) (.bool t345)) (fun _ hk => hk.2) (.slice Ao30 t346.length co30)) (fun _ hk => hk.2) (.slice Ao31 t349.length co31)) (fun _ hk => hk.2) (.slice Ao32 t352.length co32)) (fun _ hk => hk.1.2)⟩
                    have n4_ : Aside0 (Kd.R (Kd.int .i64) 3 (((((((w27.setCell ⟨gb355, 0, none⟩ (.int .i64 t340)).setCell ⟨gb355, 1, none⟩ (.int .i64 t341)).setCell ⟨gb355, 2, none⟩ (.slice Ao29 t342.length co29)).setCell ⟨gb355, 3, none⟩ (.bool t345)).setCell ⟨gb355, 4, none⟩ (.slice Ao30 t346.length co30)).setCell ⟨gb355, 5, none⟩ (.slice Ao31 t349.length co31)).setCell ⟨gb355, 6, none⟩ (.slice Ao32 t352.length co32)) w.heap.size (fun k_ => some k_ ≠ (.slice Ao30 t346.length co30 : Value).ownBlock) (.slice Ao32 t352.length co32) t352) := ⟨by (with_reducible repeat (first | apply Kd.R_alloc | apply Kd.R_drewN | apply Kd.R_drew)); exact Kd.R_mono (Kd.R_far (p := ⟨gb355, 6, none⟩) (Kd.R_far (p := ⟨gb355, 5, none⟩) (Kd.R_far (p := ⟨gb355, 4, none⟩) (Kd.R_far (p := ⟨gb355, 3, none⟩) (Kd.R_far (p := ⟨gb355, 2, none⟩) (Kd.R_far (p := ⟨gb355, 1, none⟩) (Kd.R_far (p := ⟨gb355, 0, none⟩) (Kd.R_types HO354.out BK355.out (by decide)) (fun _ hk => hk.2) (.int .i64 t340)) (fun _ hk => hk.2) (.int .i64 t341)) (fun _ hk => hk.2) (.slice Ao29 t342.length co29)) (fun _ hk => hk.2) (.bool t345)) (fun _ hk => hk.2) (.slice Ao30 t346.length co30)) (fun _ hk => hk.2) (.slice Ao31 t349.length co31)) (fun _ hk => hk.2) (.slice Ao32 t352.length co32)) (fun _ hk => hk.1)⟩
                    have n5_ : Aside0 ((((((((w27.setCell ⟨gb355, 0, none⟩ (.int .i64 t340)).setCell ⟨gb355, 1, none⟩ (.int .i64 t341)).setCell ⟨gb355, 2, none⟩ (.slice Ao29 t342.length co29)).setCell ⟨gb355, 3, none⟩ (.bool t345)).setCell ⟨gb355, 4, none⟩ (.slice Ao30 t346.length co30)).setCell ⟨gb355, 5, none⟩ (.slice Ao31 t349.length co31)).setCell ⟨gb355, 6, none⟩ (.slice Ao32 t352.length co32)).heap[gb355]? = some (.cells #[.int .i64 t340, .int .i64 t341, .slice Ao29 t342.length co29, .bool t345, .slice Ao30 t346.length co30, .slice Ao31 t349.length co31, .slice Ao32 t352.length co32] 26 (0, 0))) := ⟨by (with_reducible repeat (first | refine blk_drewN ?_ _ | refine blk_drew ?_ | refine blk_alloc ?_ _)); refine blk_put (cs := #[.int .i64 t340, .int .i64 t341, .slice Ao29 t342.length co29, .bool t345, .slice Ao30 t346.length co30, .slice Ao31 t349.length co31, .slice none 0 0]) ?_ 6 _ rfl; (with_reducible repeat (first | refine blk_drewN ?_ _ | refine blk_drew ?_ | refine blk_alloc ?_ _)); refine blk_put (cs := #[.int .i64 t340, .int .i64 t341, .slice Ao29 t342.length co29, .bool t345, .slice Ao30 t346.length co30, .slice none 0 0, .slice none 0 0]) ?_ 5 _ rfl; (with_reducible repeat (first | refine blk_drewN ?_ _ | refine blk_drew ?_ | refine blk_alloc ?_ _)); refine blk_put (cs := #[.int .i64 t340, .int .i64 t341, .slice Ao29 t342.length co29, .bool t345, .slice none 0 0, .slice none 0 0, .slice none 0 0]) ?_ 4 _ rfl; (with_reducible repeat (first | refine blk_drewN ?_ _ | refine blk_drew ?_ | refine blk_alloc ?_ _)); refine blk_put (cs := #[.int .i64 t340, .int .i64 t341, .slice Ao29 t342.length co29, .bool false, .slice none 0 0, .slice none 0 0, .slice none 0 0]) ?_ 3 _ rfl; (with_reducible repeat (first | refine blk_drewN ?_ _ | refine blk_drew ?_ | refine blk_alloc ?_ _)); refine blk_put (cs := #[.int .i64 t340, .int .i64 t341, .slice none 0 0, .bool false, .slice none 0 0, .slice none 0 0, .slice none 0 0]) ?_ 2 _ rfl; (with_reducible repeat (first | refine blk_drewN ?_ _ | refine blk_drew ?_ | refine blk_alloc ?_ _)); refine blk_put (cs := #[.int .i64 t340, .int .i64 0, .slice none 0 0, .bool false, .slice none 0 0, .slice none 0 0, .slice none 0 0]) ?_ 1 _ rfl; (with_reducible repeat (first | refine blk_drewN ?_ _ | refine blk_drew ?_ | refine blk_alloc ?_ _)); refine blk_put (cs := #[.int .i64 0, .int .i64 0, .slice none 0 0, .bool false, .slice none 0 0, .slice none 0 0, .slice none 0 0]) ?_ 0 _ rfl; (with_reducible repeat (first | refine blk_drewN ?_ _ | refine blk_drew ?_ | refine blk_alloc ?_ _)); exact BK355.out⟩
                    have n6_ : Aside0 (Below w.heap.size w (((((((w27.setCell ⟨gb355, 0, none⟩ (.int .i64 t340)).setCell ⟨gb355, 1, none⟩ (.int .i64 t341)).setCell ⟨gb355, 2, none⟩ (.slice Ao29 t342.length co29)).setCell ⟨gb355, 3, none⟩ (.bool t345)).setCell ⟨gb355, 4, none⟩ (.slice Ao30 t346.length co30)).setCell ⟨gb355, 5, none⟩ (.slice Ao31 t349.length co31)).setCell ⟨gb355, 6, none⟩ (.slice Ao32 t352.length co32))) := ⟨by repeat (first | (with_reducible first | exact HB.out | apply below_alloc | apply pw_below_drewN | apply below_drew1 | refine below_set ?_ GE355.out) | exact HB.out)⟩
                    (try clear HO339)
                    (try clear HO344)
                    (try clear HO348)
                    (try clear HO351)
                    (try clear HO354)
                    (try clear BK355)
                    (try clear HB)
                    generalize (((((((w27.setCell ⟨gb355, 0, none⟩ (.int .i64 t340)).setCell ⟨gb355, 1, none⟩ (.int .i64 t341)).setCell ⟨gb355, 2, none⟩ (.slice Ao29 t342.length co29)).setCell ⟨gb355, 3, none⟩ (.bool t345)).setCell ⟨gb355, 4, none⟩ (.slice Ao30 t346.length co30)).setCell ⟨gb355, 5, none⟩ (.slice Ao31 t349.length co31)).setCell ⟨gb355, 6, none⟩ (.slice Ao32 t352.length co32)) = w33 at n0_ n1_ n2_ n3_ n4_ n5_ n6_ ⊢
                    have HO339 := n0_
                    have HO344 := n1_
                    have HO348 := n2_
                    have HO351 := n3_
                    have HO354 := n4_
                    have BK355 := n5_
                    have HB := n6_
                    clear n0_ n1_ n2_ n3_ n4_ n5_ n6_
                    have n0_ := Aside0.mk (Kd.R_drew HO339.out)
                    have n1_ := Aside0.mk (Kd.R_drew HO344.out)
                    have n2_ := Aside0.mk (Kd.R_drew HO348.out)
                    have n3_ := Aside0.mk (Kd.R_drew HO351.out)
                    have n4_ := Aside0.mk (Kd.R_drew HO354.out)
                    have n5_ := Aside0.mk (blk_drew BK355.out)
                    have n6_ := Aside0.mk (below_drew1 HB.out)
                    clear HO339
                    clear HO344
                    clear HO348
                    clear HO351
                    clear HO354
                    clear BK355
                    clear HB
                    have HO339 := n0_
                    have HO344 := n1_
                    have HO348 := n2_
                    have HO351 := n3_
                    have HO354 := n4_
                    have BK355 := n5_
                    have HB := n6_
                    clear n0_ n1_ n2_ n3_ n4_ n5_ n6_
                    have p356 : 0 ≤ (3 : Int) := (by omega)
                    have q356 : 3 < (t352.length : Int) := of_decide_eq_true (by first | (with_reducible assumption) | assumption)
                    obtain ⟨ad356, e356, hx356_0⟩ := Kd.at_int (Kd.R_reads' HO354.out).2.2 3 p356 q356
                    cases e356
                    (try simp only [show (3 : Int).toNat = 3 from rfl, Nat.reduceMul, Nat.reduceEqDiff, Go.Addr.add, ↓reduceIte] at hx356_0)
                    have qi356 : (3 < t352.length) = True := eq_true (by omega)
                    (try rw [show ((3 : Int)).toNat = 3 from rfl] at hx356_0)
                    replace p356 := eq_true p356
                    replace q356 := eq_true q356
                    refine start_ (n := 52) (S := fun w' => w'.cell? ⟨gb355, 0, none⟩ = some (.int .i64 t340) ∧ w'.cell? ⟨gb355, 1, none⟩ = some (.int .i64 t341) ∧ w'.cell? ⟨gb355, 2, none⟩ = some (.slice Ao29 t342.length co29) ∧ w'.cell? ⟨gb355, 3, none⟩ = some (.bool t345) ∧ w'.cell? ⟨gb355, 4, none⟩ = some (.slice Ao30 t346.length co30) ∧ w'.cell? ⟨gb355, 5, none⟩ = some (.slice Ao31 t349.length co31) ∧ w'.cell? ⟨gb355, 6, none⟩ = some (.slice (some ad356) t352.length co32) ∧ w'.cell? ⟨ad356.block, ad356.off + 3, none⟩ = some (.int .i64 (rd t352 3))) (ds := []) #[false, false, false, false, false, false, false, false, false, false, false, false, false, false, false, false, false, false, false, false, false, false, false, false, false, false, false, false, false, false, false, false, false, false, false, false, false, false, false, false, false, false, false, false, false, false, false, false, false, false, false, false] (by kernel_rfl) rfl rfl ⟨(blk_cell BK355.out 0).trans rfl, (blk_cell BK355.out 1).trans rfl, (blk_cell BK355.out 2).trans rfl, (blk_cell BK355.out 3).trans rfl, (blk_cell BK355.out 4).trans rfl, (blk_cell BK355.out 5).trans rfl, (blk_cell BK355.out 6).trans rfl, hx356_0⟩ (fun hHeld => ?_); refine with_tabW laminalaw16_awake.tab2 laminalaw16_awake.bits2 (fun HT_ HW_ => ?_)
                    generalize w33.drew = w34 at HO339 HO344 HO348 HO351 HO354 BK355 HB hx356_0 hHeld ⊢
                    refine pu_ HT_ 0 (some 8) ?_
                    refine tk_ HT_ HW_ 1 (some 9) hHeld ?_
                    refine pu_ HT_ 2 (some 10) ?_
                    refine pu_ HT_ 3 (some 11) ?_
                    refine pu_ HT_ 4 (some 12) ?_
                    refine tk_ HT_ HW_ 5 (some 13) hHeld ?_
                    refine pu_ HT_ 6 (some 14) ?_
                    refine pu_ HT_ 7 (some 15) ?_
                    refine pu_ HT_ 8 (some 16) ?_
                    refine pu_ HT_ 9 (some 17) ?_
                    refine tk_ HT_ HW_ 10 (some 18) hHeld ?_
                    refine pu_ HT_ 11 (some 19) ?_
                    refine pu_ HT_ 12 (some 20) ?_
                    refine pu_ HT_ 13 (some 21) ?_
                    refine pu_ HT_ 14 (some 22) ?_
                    refine pu_ HT_ 15 (some 23) ?_
                    refine tk_ HT_ HW_ 16 (some 24) hHeld ?_
                    refine pu_ HT_ 17 (some 25) ?_
                    refine pu_ HT_ 18 (some 26) ?_
                    refine pu_ HT_ 19 (some 27) ?_
                    refine pu_ HT_ 20 (some 28) ?_
                    refine pu_ HT_ 21 (some 29) ?_
                    refine tk_ HT_ HW_ 22 (some 30) hHeld ?_
                    refine pu_ HT_ 23 (some 31) ?_
                    refine tk_ HT_ HW_ 24 (some 32) hHeld ?_
                    refine pu_ HT_ 25 (some 33) ?_
                    refine pu_ HT_ 26 (some 34) ?_
                    refine pu_ HT_ 27 (some 35) ?_
                    refine tk_ HT_ HW_ 28 (some 36) hHeld ?_
                    refine on_ HT_ 29 (some 37) (fun K hK => ?_)
                    refine goes_ Try.func20 (by kernel_rfl) rfl #[.agg #[.int .i64 t340, .int .i64 t341, .slice Ao29 t342.length co29, .bool t345, .slice Ao30 t346.length co30, .slice Ao31 t349.length co31, .slice (some ad356) t352.length co32]] (by rfl) rfl rfl (by (try simp only [List.map_toArray, List.map_cons, List.map_nil]); first | done | rfl | (simp only [List.length_drop, List.length_take]; rfl) | (simp only [Int.ofNat_lt, Int.ofNat_le, gt_iff_lt, ge_iff_le]; rfl)) ?_
                    with_reducible refine (sketch_Valid.calls k t340 t341 _ _ t342 t345 _ _ t346 _ _ t349 _ _ t352 true _ ?side1 ?side2 ?side3 ?side4 ?side5 ?side6 ?side7 ?side8 A11.out).mono ?_
                    (case side1 => repeat (first | exact (Kd.R_reads' HO344.out).2.2 | (with_reducible refine Kd.C_alloc ?_ _) | (with_reducible refine Kd.C_drewN ?_ _) | (with_reducible refine Kd.C_drew ?_)))
                    (case side2 => exact (Kd.R_reads' HO344.out).2.1)
                    (case side3 => repeat (first | exact (Kd.R_reads' HO348.out).2.2 | (with_reducible refine Kd.C_alloc ?_ _) | (with_reducible refine Kd.C_drewN ?_ _) | (with_reducible refine Kd.C_drew ?_)))
                    (case side4 => exact (Kd.R_reads' HO348.out).2.1)
                    (case side5 => repeat (first | exact (Kd.R_reads' HO351.out).2.2 | (with_reducible refine Kd.C_alloc ?_ _) | (with_reducible refine Kd.C_drewN ?_ _) | (with_reducible refine Kd.C_drew ?_)))
                    (case side6 => exact (Kd.R_reads' HO351.out).2.1)
                    (case side7 => repeat (first | exact (Kd.R_reads' HO354.out).2.2 | (with_reducible refine Kd.C_alloc ?_ _) | (with_reducible refine Kd.C_drewN ?_ _) | (with_reducible refine Kd.C_drew ?_)))
                    (case side8 => exact (Kd.R_reads' HO354.out).2.1)
                    rintro e w35 ⟨rfl, hb⟩
                    have HS7_ := (hb.cell (World.block_lt_of_cell? _ _ (hHeld.2.2.2.2.2.2.2))).trans (hHeld.2.2.2.2.2.2.2)
                    refine ⟨_, rfl, ?_⟩
                    have n0_ := Aside0.mk (Kd.R_below (by (with_reducible repeat (first | apply Kd.R_alloc | apply Kd.R_drewN | apply Kd.R_drew)); exact HO339.out) hb)
                    have n1_ := Aside0.mk (Kd.R_below (by (with_reducible repeat (first | apply Kd.R_alloc | apply Kd.R_drewN | apply Kd.R_drew)); exact HO344.out) hb)
                    have n2_ := Aside0.mk (Kd.R_below (by (with_reducible repeat (first | apply Kd.R_alloc | apply Kd.R_drewN | apply Kd.R_drew)); exact HO348.out) hb)
                    have n3_ := Aside0.mk (Kd.R_below (by (with_reducible repeat (first | apply Kd.R_alloc | apply Kd.R_drewN | apply Kd.R_drew)); exact HO351.out) hb)
                    have n4_ := Aside0.mk (Kd.R_below (by (with_reducible repeat (first | apply Kd.R_alloc | apply Kd.R_drewN | apply Kd.R_drew)); exact HO354.out) hb)
                    have n5_ := Aside0.mk (blk_below (g := gb355) (o := .cells #[.int .i64 t340, .int .i64 t341, .slice Ao29 t342.length co29, .bool t345, .slice Ao30 t346.length co30, .slice Ao31 t349.length co31, .slice (some ad356) t352.length co32] 26 (0, 0)) (by (with_reducible repeat (first | refine blk_drewN ?_ _ | refine blk_drew ?_ | refine blk_alloc ?_ _)); exact BK355.out) hb)
                    have n6_ := Aside0.mk (below_step (by repeat (first | (with_reducible first | exact HB.out | apply below_alloc | apply pw_below_drewN | apply below_drew1 | refine below_set ?_ GE355.out) | exact HB.out)) hb)
                    clear HO339
                    clear HO344
                    clear HO348
                    clear HO351
                    clear HO354
                    clear BK355
                    clear HB
                    have HO339 := n0_
                    have HO344 := n1_
                    have HO348 := n2_
                    have HO351 := n3_
                    have HO354 := n4_
                    have BK355 := n5_
                    have HB := n6_
                    clear n0_ n1_ n2_ n3_ n4_ n5_ n6_
                    (try clear hb)
                    (try clear hb2)
                    (try clear hk)
                    (try clear hi)
                    refine hK.out _ _ ⟨(blk_cell BK355.out 0).trans rfl, (blk_cell BK355.out 1).trans rfl, (blk_cell BK355.out 2).trans rfl, (blk_cell BK355.out 3).trans rfl, (blk_cell BK355.out 4).trans rfl, (blk_cell BK355.out 5).trans rfl, (blk_cell BK355.out 6).trans rfl, HS7_⟩ (fun hHeld => ?_)
                    clear hK K
                    refine norm_ (a' := ?_) ?_ ?_
                    rotate_left
                    · show Act.put _ (some 37) _ = _
                      simp only [Act.put, List.setIfInBounds_toArray, List.set_cons_zero, List.set_cons_succ, i64_w, i32_w]
                      rfl
                    refine pu_ HT_ 30 (some 38) ?_
                    refine pu_ HT_ 31 (some 39) ?_
                    refine pu_ HT_ 35 (some 43) ?_
                    refine tk_ HT_ HW_ 32 (some 40) hHeld ?_
                    refine on_ HT_ 33 (some 41) (fun K hK => ?_)
                    refine goes_ Try.func40 (by kernel_rfl) rfl #[.int .i64 2] (by rfl) rfl rfl (by (try simp only [List.map_toArray, List.map_cons, List.map_nil]); first | done | rfl | (simp only [List.length_drop, List.length_take]; rfl) | (simp only [Int.ofNat_lt, Int.ofNat_le, gt_iff_lt, ge_iff_le]; rfl)) ?_
                    with_reducible refine (laminalaw16_integer.calls 2 t358 t359 t360 _ A13.out).mono ?_
                    rintro e w36 ⟨rfl, hb⟩
                    have HS7_ := (hb.cell (World.block_lt_of_cell? _ _ (hHeld.2.2.2.2.2.2.2))).trans (hHeld.2.2.2.2.2.2.2)
                    refine ⟨_, rfl, ?_⟩
                    have n0_ := Aside0.mk (Kd.R_below (by (with_reducible repeat (first | apply Kd.R_alloc | apply Kd.R_drewN | apply Kd.R_drew)); exact HO339.out) hb)
                    have n1_ := Aside0.mk (Kd.R_below (by (with_reducible repeat (first | apply Kd.R_alloc | apply Kd.R_drewN | apply Kd.R_drew)); exact HO344.out) hb)
                    have n2_ := Aside0.mk (Kd.R_below (by (with_reducible repeat (first | apply Kd.R_alloc | apply Kd.R_drewN | apply Kd.R_drew)); exact HO348.out) hb)
                    have n3_ := Aside0.mk (Kd.R_below (by (with_reducible repeat (first | apply Kd.R_alloc | apply Kd.R_drewN | apply Kd.R_drew)); exact HO351.out) hb)
                    have n4_ := Aside0.mk (Kd.R_below (by (with_reducible repeat (first | apply Kd.R_alloc | apply Kd.R_drewN | apply Kd.R_drew)); exact HO354.out) hb)
                    have n5_ := Aside0.mk (blk_below (g := gb355) (o := .cells #[.int .i64 t340, .int .i64 t341, .slice Ao29 t342.length co29, .bool t345, .slice Ao30 t346.length co30, .slice Ao31 t349.length co31, .slice (some ad356) t352.length co32] 26 (0, 0)) (by (with_reducible repeat (first | refine blk_drewN ?_ _ | refine blk_drew ?_ | refine blk_alloc ?_ _)); exact BK355.out) hb)
                    have n6_ := Aside0.mk (below_step (by repeat (first | (with_reducible first | exact HB.out | apply below_alloc | apply pw_below_drewN | apply below_drew1 | refine below_set ?_ GE355.out) | exact HB.out)) hb)
                    clear HO339
                    clear HO344
                    clear HO348
                    clear HO351
                    clear HO354
                    clear BK355
                    clear HB
                    have HO339 := n0_
                    have HO344 := n1_
                    have HO348 := n2_
                    have HO351 := n3_
                    have HO354 := n4_
                    have BK355 := n5_
                    have HB := n6_
                    clear n0_ n1_ n2_ n3_ n4_ n5_ n6_
                    (try clear hb)
                    (try clear hb2)
                    (try clear hk)
                    (try clear hi)
                    refine hK.out _ _ ⟨(blk_cell BK355.out 0).trans rfl, (blk_cell BK355.out 1).trans rfl, (blk_cell BK355.out 2).trans rfl, (blk_cell BK355.out 3).trans rfl, (blk_cell BK355.out 4).trans rfl, (blk_cell BK355.out 5).trans rfl, (blk_cell BK355.out 6).trans rfl, HS7_⟩ (fun hHeld => ?_)
                    clear hK K
                    refine norm_ (a' := ?_) ?_ ?_
                    rotate_left
                    · show Act.put _ (some 41) _ = _
                      simp only [Act.put, List.setIfInBounds_toArray, List.set_cons_zero, List.set_cons_succ, i64_w, i32_w]
                      rfl
                    refine on_ HT_ 34 (some 42) (fun K hK => ?_)
                    refine goes_ Try.func22 (by kernel_rfl) rfl #[.agg #[.int .i64 t340, .int .i64 t341, .slice Ao29 t342.length co29, .bool t345, .slice Ao30 t346.length co30, .slice Ao31 t349.length co31, .slice (some ad356) t352.length co32], .agg #[.int .i64 t358, .int .i64 t359, .string t360]] (by rfl) rfl rfl (by (try simp only [List.map_toArray, List.map_cons, List.map_nil]); first | done | rfl | (simp only [List.length_drop, List.length_take]; rfl) | (simp only [Int.ofNat_lt, Int.ofNat_le, gt_iff_lt, ge_iff_le]; rfl)) ?_
                    with_reducible refine (sketch_CountEqual.calls k t340 t341 _ _ t342 t345 _ _ t346 _ _ t349 _ _ t352 t358 t359 t360 t361 t362 _ ?side1 ?side2 ?side3 ?side4 ?side5 ?side6 ?side7 ?side8 A14.out).mono ?_
                    (case side1 => repeat (first | exact (Kd.R_reads' HO344.out).2.2 | (with_reducible refine Kd.C_alloc ?_ _) | (with_reducible refine Kd.C_drewN ?_ _) | (with_reducible refine Kd.C_drew ?_)))
                    (case side2 => exact (Kd.R_reads' HO344.out).2.1)
                    (case side3 => repeat (first | exact (Kd.R_reads' HO348.out).2.2 | (with_reducible refine Kd.C_alloc ?_ _) | (with_reducible refine Kd.C_drewN ?_ _) | (with_reducible refine Kd.C_drew ?_)))
                    (case side4 => exact (Kd.R_reads' HO348.out).2.1)
                    (case side5 => repeat (first | exact (Kd.R_reads' HO351.out).2.2 | (with_reducible refine Kd.C_alloc ?_ _) | (with_reducible refine Kd.C_drewN ?_ _) | (with_reducible refine Kd.C_drew ?_)))
                    (case side6 => exact (Kd.R_reads' HO351.out).2.1)
                    (case side7 => repeat (first | exact (Kd.R_reads' HO354.out).2.2 | (with_reducible refine Kd.C_alloc ?_ _) | (with_reducible refine Kd.C_drewN ?_ _) | (with_reducible refine Kd.C_drew ?_)))
                    (case side8 => exact (Kd.R_reads' HO354.out).2.1)
                    rintro e w37 ⟨rfl, hb⟩
                    have HS7_ := (hb.cell (World.block_lt_of_cell? _ _ (hHeld.2.2.2.2.2.2.2))).trans (hHeld.2.2.2.2.2.2.2)
                    refine ⟨_, rfl, ?_⟩
                    have n0_ := Aside0.mk (Kd.R_below (by (with_reducible repeat (first | apply Kd.R_alloc | apply Kd.R_drewN | apply Kd.R_drew)); exact HO339.out) hb)
                    have n1_ := Aside0.mk (Kd.R_below (by (with_reducible repeat (first | apply Kd.R_alloc | apply Kd.R_drewN | apply Kd.R_drew)); exact HO344.out) hb)
                    have n2_ := Aside0.mk (Kd.R_below (by (with_reducible repeat (first | apply Kd.R_alloc | apply Kd.R_drewN | apply Kd.R_drew)); exact HO348.out) hb)
                    have n3_ := Aside0.mk (Kd.R_below (by (with_reducible repeat (first | apply Kd.R_alloc | apply Kd.R_drewN | apply Kd.R_drew)); exact HO351.out) hb)
                    have n4_ := Aside0.mk (Kd.R_below (by (with_reducible repeat (first | apply Kd.R_alloc | apply Kd.R_drewN | apply Kd.R_drew)); exact HO354.out) hb)
                    have n5_ := Aside0.mk (blk_below (g := gb355) (o := .cells #[.int .i64 t340, .int .i64 t341, .slice Ao29 t342.length co29, .bool t345, .slice Ao30 t346.length co30, .slice Ao31 t349.length co31, .slice (some ad356) t352.length co32] 26 (0, 0)) (by (with_reducible repeat (first | refine blk_drewN ?_ _ | refine blk_drew ?_ | refine blk_alloc ?_ _)); exact BK355.out) hb)
                    have n6_ := Aside0.mk (below_step (by repeat (first | (with_reducible first | exact HB.out | apply below_alloc | apply pw_below_drewN | apply below_drew1 | refine below_set ?_ GE355.out) | exact HB.out)) hb)
                    clear HO339
                    clear HO344
                    clear HO348
                    clear HO351
                    clear HO354
                    clear BK355
                    clear HB
                    have HO339 := n0_
                    have HO344 := n1_
                    have HO348 := n2_
                    have HO351 := n3_
                    have HO354 := n4_
                    have BK355 := n5_
                    have HB := n6_
                    clear n0_ n1_ n2_ n3_ n4_ n5_ n6_
                    (try clear hb)
                    (try clear hb2)
                    (try clear hk)
                    (try clear hi)
                    refine hK.out _ _ ⟨(blk_cell BK355.out 0).trans rfl, (blk_cell BK355.out 1).trans rfl, (blk_cell BK355.out 2).trans rfl, (blk_cell BK355.out 3).trans rfl, (blk_cell BK355.out 4).trans rfl, (blk_cell BK355.out 5).trans rfl, (blk_cell BK355.out 6).trans rfl, HS7_⟩ (fun hHeld => ?_)
                    clear hK K
                    refine norm_ (a' := ?_) ?_ ?_
                    rotate_left
                    · show Act.put _ (some 42) _ = _
                      simp only [Act.put, List.setIfInBounds_toArray, List.set_cons_zero, List.set_cons_succ, i64_w, i32_w]
                      rfl
                    refine pu_ HT_ 36 (some 44) ?_
                    refine pu_ HT_ 37 (some 45) ?_
                    refine pu_ HT_ 38 (some 46) ?_
                    refine pu_ HT_ 42 (some 50) ?_
                    refine tk_ HT_ HW_ 39 (some 47) hHeld ?_
                    refine on_ HT_ 40 (some 48) (fun K hK => ?_)
                    refine goes_ Try.func40 (by kernel_rfl) rfl #[.int .i64 2] (by rfl) rfl rfl (by (try simp only [List.map_toArray, List.map_cons, List.map_nil]); first | done | rfl | (simp only [List.length_drop, List.length_take]; rfl) | (simp only [Int.ofNat_lt, Int.ofNat_le, gt_iff_lt, ge_iff_le]; rfl)) ?_
                    with_reducible refine (laminalaw16_integer.calls 2 t363 t364 t365 _ A16.out).mono ?_
                    rintro e w38 ⟨rfl, hb⟩
                    have HS7_ := (hb.cell (World.block_lt_of_cell? _ _ (hHeld.2.2.2.2.2.2.2))).trans (hHeld.2.2.2.2.2.2.2)
                    refine ⟨_, rfl, ?_⟩
                    have n0_ := Aside0.mk (Kd.R_below (by (with_reducible repeat (first | apply Kd.R_alloc | apply Kd.R_drewN | apply Kd.R_drew)); exact HO339.out) hb)
                    have n1_ := Aside0.mk (Kd.R_below (by (with_reducible repeat (first | apply Kd.R_alloc | apply Kd.R_drewN | apply Kd.R_drew)); exact HO344.out) hb)
                    have n2_ := Aside0.mk (Kd.R_below (by (with_reducible repeat (first | apply Kd.R_alloc | apply Kd.R_drewN | apply Kd.R_drew)); exact HO348.out) hb)
                    have n3_ := Aside0.mk (Kd.R_below (by (with_reducible repeat (first | apply Kd.R_alloc | apply Kd.R_drewN | apply Kd.R_drew)); exact HO351.out) hb)
                    have n4_ := Aside0.mk (Kd.R_below (by (with_reducible repeat (first | apply Kd.R_alloc | apply Kd.R_drewN | apply Kd.R_drew)); exact HO354.out) hb)
                    have n5_ := Aside0.mk (blk_below (g := gb355) (o := .cells #[.int .i64 t340, .int .i64 t341, .slice Ao29 t342.length co29, .bool t345, .slice Ao30 t346.length co30, .slice Ao31 t349.length co31, .slice (some ad356) t352.length co32] 26 (0, 0)) (by (with_reducible repeat (first | refine blk_drewN ?_ _ | refine blk_drew ?_ | refine blk_alloc ?_ _)); exact BK355.out) hb)
                    have n6_ := Aside0.mk (below_step (by repeat (first | (with_reducible first | exact HB.out | apply below_alloc | apply pw_below_drewN | apply below_drew1 | refine below_set ?_ GE355.out) | exact HB.out)) hb)
                    clear HO339
                    clear HO344
                    clear HO348
                    clear HO351
                    clear HO354
                    clear BK355
                    clear HB
                    have HO339 := n0_
                    have HO344 := n1_
                    have HO348 := n2_
                    have HO351 := n3_
                    have HO354 := n4_
                    have BK355 := n5_
                    have HB := n6_
                    clear n0_ n1_ n2_ n3_ n4_ n5_ n6_
                    (try clear hb)
                    (try clear hb2)
                    (try clear hk)
                    (try clear hi)
                    refine hK.out _ _ ⟨(blk_cell BK355.out 0).trans rfl, (blk_cell BK355.out 1).trans rfl, (blk_cell BK355.out 2).trans rfl, (blk_cell BK355.out 3).trans rfl, (blk_cell BK355.out 4).trans rfl, (blk_cell BK355.out 5).trans rfl, (blk_cell BK355.out 6).trans rfl, HS7_⟩ (fun hHeld => ?_)
                    clear hK K
                    refine norm_ (a' := ?_) ?_ ?_
                    rotate_left
                    · show Act.put _ (some 48) _ = _
                      simp only [Act.put, List.setIfInBounds_toArray, List.set_cons_zero, List.set_cons_succ, i64_w, i32_w]
                      rfl
                    refine on_ HT_ 41 (some 49) (fun K hK => ?_)
                    refine goes_ Try.func24 (by kernel_rfl) rfl #[.agg #[.int .i64 t340, .int .i64 t341, .slice Ao29 t342.length co29, .bool t345, .slice Ao30 t346.length co30, .slice Ao31 t349.length co31, .slice (some ad356) t352.length co32], .agg #[.int .i64 t363, .int .i64 t364, .string t365]] (by rfl) rfl rfl (by (try simp only [List.map_toArray, List.map_cons, List.map_nil]); first | done | rfl | (simp only [List.length_drop, List.length_take]; rfl) | (simp only [Int.ofNat_lt, Int.ofNat_le, gt_iff_lt, ge_iff_le]; rfl)) ?_
                    with_reducible refine (sketch_CountLess.calls k t340 t341 _ _ t342 t345 _ _ t346 _ _ t349 _ _ t352 t363 t364 t365 t366 t367 _ ?side1 ?side2 ?side3 ?side4 ?side5 ?side6 ?side7 ?side8 A17.out).mono ?_
                    (case side1 => repeat (first | exact (Kd.R_reads' HO344.out).2.2 | (with_reducible refine Kd.C_alloc ?_ _) | (with_reducible refine Kd.C_drewN ?_ _) | (with_reducible refine Kd.C_drew ?_)))
                    (case side2 => exact (Kd.R_reads' HO344.out).2.1)
                    (case side3 => repeat (first | exact (Kd.R_reads' HO348.out).2.2 | (with_reducible refine Kd.C_alloc ?_ _) | (with_reducible refine Kd.C_drewN ?_ _) | (with_reducible refine Kd.C_drew ?_)))
                    (case side4 => exact (Kd.R_reads' HO348.out).2.1)
                    (case side5 => repeat (first | exact (Kd.R_reads' HO351.out).2.2 | (with_reducible refine Kd.C_alloc ?_ _) | (with_reducible refine Kd.C_drewN ?_ _) | (with_reducible refine Kd.C_drew ?_)))
                    (case side6 => exact (Kd.R_reads' HO351.out).2.1)
                    (case side7 => repeat (first | exact (Kd.R_reads' HO354.out).2.2 | (with_reducible refine Kd.C_alloc ?_ _) | (with_reducible refine Kd.C_drewN ?_ _) | (with_reducible refine Kd.C_drew ?_)))
                    (case side8 => exact (Kd.R_reads' HO354.out).2.1)
                    rintro e w39 ⟨rfl, hb⟩
                    have HS7_ := (hb.cell (World.block_lt_of_cell? _ _ (hHeld.2.2.2.2.2.2.2))).trans (hHeld.2.2.2.2.2.2.2)
                    refine ⟨_, rfl, ?_⟩
                    have n0_ := Aside0.mk (Kd.R_below (by (with_reducible repeat (first | apply Kd.R_alloc | apply Kd.R_drewN | apply Kd.R_drew)); exact HO339.out) hb)
                    have n1_ := Aside0.mk (Kd.R_below (by (with_reducible repeat (first | apply Kd.R_alloc | apply Kd.R_drewN | apply Kd.R_drew)); exact HO344.out) hb)
                    have n2_ := Aside0.mk (Kd.R_below (by (with_reducible repeat (first | apply Kd.R_alloc | apply Kd.R_drewN | apply Kd.R_drew)); exact HO348.out) hb)
                    have n3_ := Aside0.mk (Kd.R_below (by (with_reducible repeat (first | apply Kd.R_alloc | apply Kd.R_drewN | apply Kd.R_drew)); exact HO351.out) hb)
                    have n4_ := Aside0.mk (Kd.R_below (by (with_reducible repeat (first | apply Kd.R_alloc | apply Kd.R_drewN | apply Kd.R_drew)); exact HO354.out) hb)
                    have n5_ := Aside0.mk (blk_below (g := gb355) (o := .cells #[.int .i64 t340, .int .i64 t341, .slice Ao29 t342.length co29, .bool t345, .slice Ao30 t346.length co30, .slice Ao31 t349.length co31, .slice (some ad356) t352.length co32] 26 (0, 0)) (by (with_reducible repeat (first | refine blk_drewN ?_ _ | refine blk_drew ?_ | refine blk_alloc ?_ _)); exact BK355.out) hb)
                    have n6_ := Aside0.mk (below_step (by repeat (first | (with_reducible first | exact HB.out | apply below_alloc | apply pw_below_drewN | apply below_drew1 | refine below_set ?_ GE355.out) | exact HB.out)) hb)
                    clear HO339
                    clear HO344
                    clear HO348
                    clear HO351
                    clear HO354
                    clear BK355
                    clear HB
                    have HO339 := n0_
                    have HO344 := n1_
                    have HO348 := n2_
                    have HO351 := n3_
                    have HO354 := n4_
                    have BK355 := n5_
                    have HB := n6_
                    clear n0_ n1_ n2_ n3_ n4_ n5_ n6_
                    (try clear hb)
                    (try clear hb2)
                    (try clear hk)
                    (try clear hi)
                    refine hK.out _ _ ⟨(blk_cell BK355.out 0).trans rfl, (blk_cell BK355.out 1).trans rfl, (blk_cell BK355.out 2).trans rfl, (blk_cell BK355.out 3).trans rfl, (blk_cell BK355.out 4).trans rfl, (blk_cell BK355.out 5).trans rfl, (blk_cell BK355.out 6).trans rfl, HS7_⟩ (fun hHeld => ?_)
                    clear hK K
                    refine norm_ (a' := ?_) ?_ ?_
                    rotate_left
                    · show Act.put _ (some 49) _ = _
                      simp only [Act.put, List.setIfInBounds_toArray, List.set_cons_zero, List.set_cons_succ, i64_w, i32_w]
                      rfl
                    refine pu_ HT_ 43 (some 51) ?_
                    refine pu_ HT_ 44 (some 52) ?_
                    refine pu_ HT_ 45 (some 53) ?_
                    refine pu_ HT_ 48 (some 56) ?_
                    refine tk_ HT_ HW_ 46 (some 54) hHeld ?_
                    refine on_ HT_ 47 (some 55) (fun K hK => ?_)
                    refine goes_ Try.func28 (by kernel_rfl) rfl #[.agg #[.int .i64 t340, .int .i64 t341, .slice Ao29 t342.length co29, .bool t345, .slice Ao30 t346.length co30, .slice Ao31 t349.length co31, .slice (some ad356) t352.length co32]] (by rfl) rfl rfl (by (try simp only [List.map_toArray, List.map_cons, List.map_nil]); first | done | rfl | (simp only [List.length_drop, List.length_take]; rfl) | (simp only [Int.ofNat_lt, Int.ofNat_le, gt_iff_lt, ge_iff_le]; rfl)) ?_
                    with_reducible refine (sketch_CountDistinct.calls k t340 t341 _ _ t342 t345 _ _ t346 _ _ t349 _ _ t352 t368 t369 _ ?side1 ?side2 ?side3 ?side4 ?side5 ?side6 ?side7 ?side8 A19.out).mono ?_
                    (case side1 => repeat (first | exact (Kd.R_reads' HO344.out).2.2 | (with_reducible refine Kd.C_alloc ?_ _) | (with_reducible refine Kd.C_drewN ?_ _) | (with_reducible refine Kd.C_drew ?_)))
                    (case side2 => exact (Kd.R_reads' HO344.out).2.1)
                    (case side3 => repeat (first | exact (Kd.R_reads' HO348.out).2.2 | (with_reducible refine Kd.C_alloc ?_ _) | (with_reducible refine Kd.C_drewN ?_ _) | (with_reducible refine Kd.C_drew ?_)))
                    (case side4 => exact (Kd.R_reads' HO348.out).2.1)
                    (case side5 => repeat (first | exact (Kd.R_reads' HO351.out).2.2 | (with_reducible refine Kd.C_alloc ?_ _) | (with_reducible refine Kd.C_drewN ?_ _) | (with_reducible refine Kd.C_drew ?_)))
                    (case side6 => exact (Kd.R_reads' HO351.out).2.1)
                    (case side7 => repeat (first | exact (Kd.R_reads' HO354.out).2.2 | (with_reducible refine Kd.C_alloc ?_ _) | (with_reducible refine Kd.C_drewN ?_ _) | (with_reducible refine Kd.C_drew ?_)))
                    (case side8 => exact (Kd.R_reads' HO354.out).2.1)
                    rintro e w40 ⟨rfl, hb⟩
                    have HS7_ := (hb.cell (World.block_lt_of_cell? _ _ (hHeld.2.2.2.2.2.2.2))).trans (hHeld.2.2.2.2.2.2.2)
                    refine ⟨_, rfl, ?_⟩
                    have n0_ := Aside0.mk (Kd.R_below (by (with_reducible repeat (first | apply Kd.R_alloc | apply Kd.R_drewN | apply Kd.R_drew)); exact HO339.out) hb)
                    have n1_ := Aside0.mk (Kd.R_below (by (with_reducible repeat (first | apply Kd.R_alloc | apply Kd.R_drewN | apply Kd.R_drew)); exact HO344.out) hb)
                    have n2_ := Aside0.mk (Kd.R_below (by (with_reducible repeat (first | apply Kd.R_alloc | apply Kd.R_drewN | apply Kd.R_drew)); exact HO348.out) hb)
                    have n3_ := Aside0.mk (Kd.R_below (by (with_reducible repeat (first | apply Kd.R_alloc | apply Kd.R_drewN | apply Kd.R_drew)); exact HO351.out) hb)
                    have n4_ := Aside0.mk (Kd.R_below (by (with_reducible repeat (first | apply Kd.R_alloc | apply Kd.R_drewN | apply Kd.R_drew)); exact HO354.out) hb)
                    have n5_ := Aside0.mk (blk_below (g := gb355) (o := .cells #[.int .i64 t340, .int .i64 t341, .slice Ao29 t342.length co29, .bool t345, .slice Ao30 t346.length co30, .slice Ao31 t349.length co31, .slice (some ad356) t352.length co32] 26 (0, 0)) (by (with_reducible repeat (first | refine blk_drewN ?_ _ | refine blk_drew ?_ | refine blk_alloc ?_ _)); exact BK355.out) hb)
                    have n6_ := Aside0.mk (below_step (by repeat (first | (with_reducible first | exact HB.out | apply below_alloc | apply pw_below_drewN | apply below_drew1 | refine below_set ?_ GE355.out) | exact HB.out)) hb)
                    clear HO339
                    clear HO344
                    clear HO348
                    clear HO351
                    clear HO354
                    clear BK355
                    clear HB
                    have HO339 := n0_
                    have HO344 := n1_
                    have HO348 := n2_
                    have HO351 := n3_
                    have HO354 := n4_
                    have BK355 := n5_
                    have HB := n6_
                    clear n0_ n1_ n2_ n3_ n4_ n5_ n6_
                    (try clear hb)
                    (try clear hb2)
                    (try clear hk)
                    (try clear hi)
                    refine hK.out _ _ ⟨(blk_cell BK355.out 0).trans rfl, (blk_cell BK355.out 1).trans rfl, (blk_cell BK355.out 2).trans rfl, (blk_cell BK355.out 3).trans rfl, (blk_cell BK355.out 4).trans rfl, (blk_cell BK355.out 5).trans rfl, (blk_cell BK355.out 6).trans rfl, HS7_⟩ (fun hHeld => ?_)
                    clear hK K
                    refine norm_ (a' := ?_) ?_ ?_
                    rotate_left
                    · show Act.put _ (some 55) _ = _
                      simp only [Act.put, List.setIfInBounds_toArray, List.set_cons_zero, List.set_cons_succ, i64_w, i32_w]
                      rfl
                    refine pu_ HT_ 49 (some 57) ?_
                    refine pu_ HT_ 50 (some 58) ?_
                    refine pu_ HT_ 51 (some 0) ?_
                    refine done_ (done_of HT_.out (by kernel_rfl)) ?_
                    try go_wp2
                    go_ret
                    exact ⟨by first | rfl | (simp [errW_none, errW_some] <;> rfl) | (simp [*, errW_none, errW_some] <;> rfl), by repeat (first | (with_reducible first | exact HB.out | apply below_alloc | apply pw_below_drewN | apply below_drew1 | refine below_set ?_ GE355.out) | exact HB.out)⟩
                  · rw [if_neg c18] at H
                    exact absurd H (by simp)
                · rw [if_neg c15] at H
                  exact absurd H (by simp)
              · replace c12 := Bool.eq_false_iff.mpr c12
                subst c12
                have H1 : (none) = some r := by rw [if_neg (show ¬ (false = true) by decide)] at H; exact H
                clear H
                have H := H1
                clear H1
                exact absurd H (by simp)
            · rw [if_neg c10] at H
              exact absurd H (by simp)
          · rw [if_neg c9] at H
            exact absurd H (by simp)
        · rw [if_neg c8] at H
          exact absurd H (by simp)
      · rw [if_neg c7] at H
        exact absurd H (by simp)
    · rw [if_neg c6] at H
      exact absurd H (by simp)
  · rw [if_neg c5] at H
    exact absurd H (by simp)
end Go.Proofs.Ytackcingpffidaa.P
