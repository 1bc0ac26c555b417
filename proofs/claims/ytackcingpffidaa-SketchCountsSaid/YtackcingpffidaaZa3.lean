/- What Go functions of the given program return, told as Lean functions, and the walks that show it, with plain facts on them: laminaref16_CountLess, U7, H23, H72. Conditions: the hypotheses that stand at each theorem. -/
import Derived.Test.YtackcingpffidaaZa0
import Derived.Test.YtackcingpffidaaZa1
import Derived.Test.YtackcingpffidaaZa2
namespace Go.Proofs.Ytackcingpffidaa.P
open Go.RowKit Go.Proofs.YtackcingpffidaaW.PrintWords Go.Proofs.YtackcingpffidaaW.PrintLast Go.Proofs.YtackcingpffidaaW.PrintMore
attribute [local go_sem] max2_int min2_int max_two min_two max_three min_three max_four min_four Go.Proofs.YtackcingpffidaaQ.str_gtr Go.Proofs.YtackcingpffidaaQ.str_leq Go.Proofs.YtackcingpffidaaQ.str_geq   -- for this text's walks alone
set_option linter.unusedVariables false
set_option linter.unusedSimpArgs false
/-! ### laminaref16_CountLess: function 25 -/
def laminaref16_CountLess.f (k : Nat) (a0_0 : Int) (a0_1 : Int) (l0_2 : List Int) (a0_3 : Bool) (l0_4 : List Int) (l0_5 : List (S39)) (l0_6 : List Int) (a1_0 : Int) (a1_1 : Int) (a1_2 : ByteArray) : Option (Int × Int) := if a1_0 = 0 then ((laminaref16_span.f 0 0).bind fun bt159 => (some (bt159.1, bt159.2))) else ((laminaref16_LessMin.f k a0_0 a0_1 l0_2 a0_3 l0_4 l0_5 l0_6 a1_0 a1_1 a1_2 false).bind fun t161 => ((laminaref16_LessMax.f k a0_0 a0_1 l0_2 a0_3 l0_4 l0_5 l0_6 a1_0 a1_1 a1_2 false).bind fun t162 => ((laminaref16_span.f t161 t162).bind fun bt163 => (some (bt163.1, bt163.2)))))
theorem laminaref16_CountLess.mono : ∀ a0 a1 a2 a3 a4 a5 a6 a7 a8 a9 k, LeO (laminaref16_CountLess.f k a0 a1 a2 a3 a4 a5 a6 a7 a8 a9) (laminaref16_CountLess.f (k + 1) a0 a1 a2 a3 a4 a5 a6 a7 a8 a9) := by
 intro a0 a1 a2 a3 a4 a5 a6 a7 a8 a9 k
 unfold laminaref16_CountLess.f
 repeat' first
   | (with_reducible exact laminaref16_LessMax.mono _ _ _ _ _ _ _ _ _ _ _ _)
   | (with_reducible exact laminaref16_LessMin.mono _ _ _ _ _ _ _ _ _ _ _ _)
   | (with_reducible exact LeO.refl _)
   | (with_reducible exact LeO.none _)
   | (with_reducible refine LeO.ite ?_ ?_)
   | (with_reducible refine LeO.bind ?_ (fun _ => ?_))
   | exact laminaref16_LessMax.mono _ _ _ _ _ _ _ _ _ _ _ _
   | exact laminaref16_LessMin.mono _ _ _ _ _ _ _ _ _ _ _ _
   | exact LeO.none _
   | refine LeO.ite ?_ ?_
   | refine LeO.bind ?_ (fun _ => ?_)
def laminaref16_CountLess.T3 : Bool × List (List Nat × List Nat) := (true, [([], []), ([], []), ([0, 1], [0, 1]), ([], []), ([], []), ([3, 4, 2], [3, 4]), ([2, 5, 5], [2, 5]), ([6, 6, 0, 1, 2, 3, 4, 5, 6], [6])])
def laminaref16_CountLess.B3 : List Nat := [0, 0, 3, 0, 0, 31, 63, 127]
theorem laminaref16_CountLess.tab3 : rtab .any (opsOf Try.f25 3) = laminaref16_CountLess.T3 := by kernel_rfl
theorem laminaref16_CountLess.bits3 : waitsOk laminaref16_CountLess.T3.2 laminaref16_CountLess.B3 = true := by kernel_rfl
set_option maxHeartbeats 8000000 in
set_option maxRecDepth 100000 in
theorem laminaref16_CountLess.calls (k : Nat) (a0_0 : Int) (a0_1 : Int) (A0_2 : Option Addr) (c0_2 : Nat) (l0_2 : List Int) (a0_3 : Bool) (A0_4 : Option Addr) (c0_4 : Nat) (l0_4 : List Int) (A0_5 : Option Addr) (c0_5 : Nat) (l0_5 : List (S39)) (A0_6 : Option Addr) (c0_6 : Nat) (l0_6 : List Int) (a1_0 : Int) (a1_1 : Int) (a1_2 : ByteArray) (r1 : Int) (r2 : Int) (w : World) (hr0_2 : Kd.C (Kd.int .u64) w A0_2 l0_2.length l0_2) (hc0_2 : l0_2.length ≤ c0_2) (hr0_4 : Kd.C (Kd.int .i64) w A0_4 l0_4.length l0_4) (hc0_4 : l0_4.length ≤ c0_4) (hr0_5 : Kd.C k39 w A0_5 l0_5.length l0_5) (hc0_5 : l0_5.length ≤ c0_5) (hr0_6 : Kd.C (Kd.int .i64) w A0_6 l0_6.length l0_6) (hc0_6 : l0_6.length ≤ c0_6) (h : laminaref16_CountLess.f k a0_0 a0_1 l0_2 a0_3 l0_4 l0_5 l0_6 a1_0 a1_1 a1_2 = some (r1, r2)) :
  Calls Try.prog 25 #[.agg #[.int .i64 a0_0, .int .i64 a0_1, .slice A0_2 l0_2.length c0_2, .bool a0_3, .slice A0_4 l0_4.length c0_4, .slice A0_5 l0_5.length c0_5, .slice A0_6 l0_6.length c0_6], .agg #[.int .i64 a1_0, .int .i64 a1_1, .string a1_2]] w fun e w' => e = .returned (.agg #[.int .i64 r1, .int .i64 r2]) ∧ Below w.heap.size w w' := by
 have hu26 := Try.underlying26
 have hu39 := Try.underlying39
 have hu44 := Try.underlying44
 have HR0_2 := Aside0.mk hr0_2
 have HC0_2 := Aside0.mk hc0_2
 clear hr0_2 hc0_2
 have HR0_4 := Aside0.mk hr0_4
 have HC0_4 := Aside0.mk hc0_4
 clear hr0_4 hc0_4
 have HR0_5 := Aside0.mk hr0_5
 have HC0_5 := Aside0.mk hc0_5
 clear hr0_5 hc0_5
 have HR0_6 := Aside0.mk hr0_6
 have HC0_6 := Aside0.mk hc0_6
 clear hr0_6 hc0_6
 have HB := Aside0.mk (Below.refl w.heap.size w)
 have H : (if a1_0 = 0 then ((laminaref16_span.f 0 0).bind fun bt159 => (some (bt159.1, bt159.2))) else ((laminaref16_LessMin.f k a0_0 a0_1 l0_2 a0_3 l0_4 l0_5 l0_6 a1_0 a1_1 a1_2 false).bind fun t161 => ((laminaref16_LessMax.f k a0_0 a0_1 l0_2 a0_3 l0_4 l0_5 l0_6 a1_0 a1_1 a1_2 false).bind fun t162 => ((laminaref16_span.f t161 t162).bind fun bt163 => (some (bt163.1, bt163.2)))))) = some (r1, r2) := h
 clear h
 by_cases c3 : a1_0 = 0
 ·rw [if_pos c3] at H
  have c3b0 : (a1_0 == 0) = true := beq_iff_eq.mpr c3
  have c3b1 : (a1_0 != 0) = false := bne_eq_false_iff_eq.mpr c3
  clear c3
  replace H := Option.bind_eq_some_iff.mp H
  obtain ⟨⟨t159, t160⟩, A40, H⟩ := H
  replace H : (some (t159, t160)) = some (r1, r2) := H
  have A4 := Aside0.mk A40
  clear A40
  simp only [Option.some.injEq, Prod.mk.injEq] at H
  obtain ⟨rfl, rfl⟩ := H
  go_enter Try.func25, Try.ntmps25
  go_wp2_with (first | ((with_reducible refine gate_dst (N := 2) rfl ?_); refine box_ 2 (cs := #[.int .i64 a0_0, .int .i64 a0_1, .slice A0_2 l0_2.length c0_2, .bool a0_3, .slice A0_4 l0_4.length c0_4, .slice A0_5 l0_5.length c0_5, .slice A0_6 l0_6.length c0_6]) (t := 26) ?_; intro gb156 hg w5 hbox hb; have BK156 := Aside0.mk (hbox); have GW156 := Aside0.mk ((by rw [hg]; exact (below_size (hb_ HB.out)) : w.heap.size ≤ gb156)); have GE156 := Aside0.mk ((by rw [hg]; exact (below_size (hb_ HB.out)) : w.heap.size ≤ gb156)); replace HB := Aside0.mk (below_step (hb_ HB.out) hb); clear hb hbox hg) | ((with_reducible refine gate_dst (N := 3) rfl ?_); refine box_ 3 (cs := #[.int .i64 a1_0, .int .i64 a1_1, .string a1_2]) (t := 39) ?_; intro gb157 hg w6 hbox hb; have BK157 := Aside0.mk (hbox); have GW157 := Aside0.mk ((by rw [hg]; exact (below_size (hb1_ HB.out GE156.out)) : w.heap.size ≤ gb157)); have GE157 := Aside0.mk ((by rw [hg]; exact (below_size (hb1_ HB.out GE156.out)) : w.heap.size ≤ gb157)); have NB156_157 := Aside0.mk ((by rw [hg]; exact Nat.ne_of_lt (blk_lt (bk_ BK156.out)) : gb156 ≠ gb157)); have NB157_156 := Aside0.mk ((by rw [hg]; exact Nat.ne_of_gt (blk_lt (bk_ BK156.out)) : gb157 ≠ gb156)); replace BK156 := Aside0.mk (blk_below (bk_ BK156.out) hb); replace HB := Aside0.mk (below_step (hb1_ HB.out GE156.out) hb); clear hb hbox hg) | ((with_reducible refine gate_dst (N := 4) rfl ?_); refine box_ 4 (cs := #[.int .i64 0, .int .i64 0]) (t := 44) ?_; intro gb158 hg w7 hbox hb; have BK158 := Aside0.mk (hbox); have GW158 := Aside0.mk ((by rw [hg]; exact (below_size (hb2_ HB.out GE156.out GE157.out)) : w.heap.size ≤ gb158)); have GE158 := Aside0.mk ((by rw [hg]; exact (below_size (hb2_ HB.out GE156.out GE157.out)) : w.heap.size ≤ gb158)); have NB156_158 := Aside0.mk ((by rw [hg]; exact Nat.ne_of_lt (blk_lt (bk_ BK156.out)) : gb156 ≠ gb158)); have NB158_156 := Aside0.mk ((by rw [hg]; exact Nat.ne_of_gt (blk_lt (bk_ BK156.out)) : gb158 ≠ gb156)); have NB157_158 := Aside0.mk ((by rw [hg]; exact Nat.ne_of_lt (blk_lt (bk_ BK157.out)) : gb157 ≠ gb158)); have NB158_157 := Aside0.mk ((by rw [hg]; exact Nat.ne_of_gt (blk_lt (bk_ BK157.out)) : gb158 ≠ gb157)); replace BK156 := Aside0.mk (blk_below (bk_ BK156.out) hb); replace BK157 := Aside0.mk (blk_below (bk_ BK157.out) hb); replace HB := Aside0.mk (below_step (hb2_ HB.out GE156.out GE157.out) hb); clear hb hbox hg; have hnb8 := NB157_156.out; have hnc8 := NB156_157.out; have hnb9 := NB157_158.out; have hnc9 := NB158_157.out; obtain ⟨hcz10_0, hcz10_1, hcz10_2, hfz10_0, hfz10_1, hfz10_2⟩ := bf3 BK157.out) | ((with_reducible refine gate_callee (f := 76) rfl ?_); refine goesL_ (some 8) rfl rfl Try.func76 (by kernel_rfl) rfl #[.int .i64 0, .int .i64 0] rfl (by (try simp only [List.map_toArray, List.map_cons, List.map_nil]); first | done | rfl | (simp only [List.length_drop, List.length_take]; rfl) | (simp only [Int.ofNat_lt, Int.ofNat_le, gt_iff_lt, ge_iff_le]; rfl)) ?_; (with_reducible refine (laminaref16_span.calls 0 0 t159 t160 _ A4.out).mono ?_); rintro e w11 ⟨rfl, hb⟩; refine ⟨_, rfl, ?_⟩; replace BK156 := Aside0.mk (blk_below (bk_ BK156.out) hb); replace BK157 := Aside0.mk (blk_below (bk_ BK157.out) hb); replace BK158 := Aside0.mk (blk_below (bk_ BK158.out) hb); replace HB := Aside0.mk (below_step (by repeat (first | (with_reducible first | exact HB.out | apply below_alloc | apply pw_below_drewN | apply below_drew1 | refine below_set ?_ GE156.out | refine below_set ?_ GE157.out | refine below_set ?_ GE158.out) | exact HB.out)) hb); (try clear hb); have hnb12 := NB158_156.out; have hnc12 := NB156_158.out; obtain ⟨hcz13_0, hcz13_1, hfz13_0, hfz13_1⟩ := bf2 BK158.out))
  refine bodyPost_ret (results_cell_row rfl _ _ gb158 44 #[.int .i64 t159, .int .i64 t160] (0, 0) _ rfl (by (with_reducible repeat (first | refine blk_drewN ?_ _ | refine blk_drew ?_ | refine blk_alloc ?_ _)); refine blk_put (cs := #[.int .i64 t159, .int .i64 0]) ?_ 1 _ rfl; (with_reducible repeat (first | refine blk_drewN ?_ _ | refine blk_drew ?_ | refine blk_alloc ?_ _)); refine blk_put (cs := #[.int .i64 0, .int .i64 0]) ?_ 0 _ rfl; (with_reducible repeat (first | refine blk_drewN ?_ _ | refine blk_drew ?_ | refine blk_alloc ?_ _)); exact BK158.out) Try.underlying44 rfl (by kernel_rfl)) rfl ?_
  exact er_ (by repeat (first | (with_reducible first | exact HB.out | apply below_alloc | apply pw_below_drewN | apply below_drew1 | refine below_set ?_ GE156.out | refine below_set ?_ GE157.out | refine below_set ?_ GE158.out) | exact HB.out))
 ·rw [if_neg c3] at H
  have c3b0 : (a1_0 == 0) = false := beq_eq_false_iff_ne.mpr c3
  have c3b1 : (a1_0 != 0) = true := bne_iff_ne.mpr c3
  replace H := Option.bind_eq_some_iff.mp H
  obtain ⟨t161, A140, H⟩ := H
  replace H : ((laminaref16_LessMax.f k a0_0 a0_1 l0_2 a0_3 l0_4 l0_5 l0_6 a1_0 a1_1 a1_2 false).bind fun t162 => ((laminaref16_span.f t161 t162).bind fun bt163 => (some (bt163.1, bt163.2)))) = some (r1, r2) := H
  have A14 := Aside0.mk A140
  clear A140
  replace H := Option.bind_eq_some_iff.mp H
  obtain ⟨t162, A150, H⟩ := H
  replace H : ((laminaref16_span.f t161 t162).bind fun bt163 => (some (bt163.1, bt163.2))) = some (r1, r2) := H
  have A15 := Aside0.mk A150
  clear A150
  replace H := Option.bind_eq_some_iff.mp H
  obtain ⟨⟨t163, t164⟩, A160, H⟩ := H
  replace H : (some (t163, t164)) = some (r1, r2) := H
  have A16 := Aside0.mk A160
  clear A160
  simp only [Option.some.injEq, Prod.mk.injEq] at H
  obtain ⟨rfl, rfl⟩ := H
  go_enter Try.func25, Try.ntmps25
  try go_wp2_with (first | ((with_reducible refine gate_dst (N := 2) rfl ?_); refine box_ 2 (cs := #[.int .i64 a0_0, .int .i64 a0_1, .slice A0_2 l0_2.length c0_2, .bool a0_3, .slice A0_4 l0_4.length c0_4, .slice A0_5 l0_5.length c0_5, .slice A0_6 l0_6.length c0_6]) (t := 26) ?_; intro gb156 hg w17 hbox hb; have BK156 := Aside0.mk (hbox); have GW156 := Aside0.mk ((by rw [hg]; exact (below_size (hb_ HB.out)) : w.heap.size ≤ gb156)); have GE156 := Aside0.mk ((by rw [hg]; exact (below_size (hb_ HB.out)) : w.heap.size ≤ gb156)); replace HB := Aside0.mk (below_step (hb_ HB.out) hb); clear hb hbox hg) | ((with_reducible refine gate_dst (N := 3) rfl ?_); refine box_ 3 (cs := #[.int .i64 a1_0, .int .i64 a1_1, .string a1_2]) (t := 39) ?_; intro gb157 hg w18 hbox hb; have BK157 := Aside0.mk (hbox); have GW157 := Aside0.mk ((by rw [hg]; exact (below_size (hb1_ HB.out GE156.out)) : w.heap.size ≤ gb157)); have GE157 := Aside0.mk ((by rw [hg]; exact (below_size (hb1_ HB.out GE156.out)) : w.heap.size ≤ gb157)); have NB156_157 := Aside0.mk ((by rw [hg]; exact Nat.ne_of_lt (blk_lt (bk_ BK156.out)) : gb156 ≠ gb157)); have NB157_156 := Aside0.mk ((by rw [hg]; exact Nat.ne_of_gt (blk_lt (bk_ BK156.out)) : gb157 ≠ gb156)); replace BK156 := Aside0.mk (blk_below (bk_ BK156.out) hb); replace HB := Aside0.mk (below_step (hb1_ HB.out GE156.out) hb); clear hb hbox hg) | ((with_reducible refine gate_dst (N := 4) rfl ?_); refine box_ 4 (cs := #[.int .i64 0, .int .i64 0]) (t := 44) ?_; intro gb158 hg w19 hbox hb; have BK158 := Aside0.mk (hbox); have GW158 := Aside0.mk ((by rw [hg]; exact (below_size (hb2_ HB.out GE156.out GE157.out)) : w.heap.size ≤ gb158)); have GE158 := Aside0.mk ((by rw [hg]; exact (below_size (hb2_ HB.out GE156.out GE157.out)) : w.heap.size ≤ gb158)); have NB156_158 := Aside0.mk ((by rw [hg]; exact Nat.ne_of_lt (blk_lt (bk_ BK156.out)) : gb156 ≠ gb158)); have NB158_156 := Aside0.mk ((by rw [hg]; exact Nat.ne_of_gt (blk_lt (bk_ BK156.out)) : gb158 ≠ gb156)); have NB157_158 := Aside0.mk ((by rw [hg]; exact Nat.ne_of_lt (blk_lt (bk_ BK157.out)) : gb157 ≠ gb158)); have NB158_157 := Aside0.mk ((by rw [hg]; exact Nat.ne_of_gt (blk_lt (bk_ BK157.out)) : gb158 ≠ gb157)); replace BK156 := Aside0.mk (blk_below (bk_ BK156.out) hb); replace BK157 := Aside0.mk (blk_below (bk_ BK157.out) hb); replace HB := Aside0.mk (below_step (hb2_ HB.out GE156.out GE157.out) hb); clear hb hbox hg; have hnb20 := NB157_156.out; have hnc20 := NB156_157.out; have hnb21 := NB157_158.out; have hnc21 := NB158_157.out; obtain ⟨hcz22_0, hcz22_1, hcz22_2, hfz22_0, hfz22_1, hfz22_2⟩ := bf3 BK157.out))
  replace BK156 := Aside0.mk (blk_drew BK156.out)
  replace BK157 := Aside0.mk (blk_drew BK157.out)
  replace BK158 := Aside0.mk (blk_drew BK158.out)
  replace HB := Aside0.mk (below_drew1 HB.out)
  refine start_ (n := 8) (S := fun w' => w'.cell? ⟨gb156, 0, none⟩ = some (.int .i64 a0_0) ∧ w'.cell? ⟨gb156, 1, none⟩ = some (.int .i64 a0_1) ∧ w'.cell? ⟨gb156, 2, none⟩ = some (.slice A0_2 l0_2.length c0_2) ∧ w'.cell? ⟨gb156, 3, none⟩ = some (.bool a0_3) ∧ w'.cell? ⟨gb156, 4, none⟩ = some (.slice A0_4 l0_4.length c0_4) ∧ w'.cell? ⟨gb156, 5, none⟩ = some (.slice A0_5 l0_5.length c0_5) ∧ w'.cell? ⟨gb156, 6, none⟩ = some (.slice A0_6 l0_6.length c0_6) ∧ w'.cell? ⟨gb157, 0, none⟩ = some (.int .i64 a1_0) ∧ w'.cell? ⟨gb157, 1, none⟩ = some (.int .i64 a1_1) ∧ w'.cell? ⟨gb157, 2, none⟩ = some (.string a1_2)) (ds := []) #[false, false, false, false, false, false, false, false] (by kernel_rfl) rfl rfl (ap7 (bc7 BK156.out) (bc3 BK157.out)) (fun hHeld => ?_); refine with_tabW laminaref16_CountLess.tab3 laminaref16_CountLess.bits3 (fun HT_ HW_ => ?_)
  generalize w19.drew = w23 at BK156 BK157 BK158 HB hHeld ⊢
  refine tk_ HT_ HW_ 0 (some 9) hHeld ?_
  refine tk_ HT_ HW_ 1 (some 10) hHeld ?_
  refine tk_ HT_ HW_ 3 (some 12) hHeld ?_
  refine tk_ HT_ HW_ 4 (some 13) hHeld ?_
  refine on_ HT_ 2 (some 11) (fun K hK => ?_)
  refine gos_ Try.func78 #[.agg #[.int .i64 a0_0, .int .i64 a0_1, .slice A0_2 l0_2.length c0_2, .bool a0_3, .slice A0_4 l0_4.length c0_4, .slice A0_5 l0_5.length c0_5, .slice A0_6 l0_6.length c0_6], .agg #[.int .i64 a1_0, .int .i64 a1_1, .string a1_2], .bool false] ?_
  with_reducible refine (laminaref16_LessMin.calls k a0_0 a0_1 _ _ l0_2 a0_3 _ _ l0_4 _ _ l0_5 _ _ l0_6 a1_0 a1_1 a1_2 false t161 _ ?side1 ?side2 ?side3 ?side4 ?side5 ?side6 ?side7 ?side8 A14.out).mono ?_
  (case side1 => exact cb_ HR0_2.out HB.out)
  (case side2 => exact HC0_2.out)
  (case side3 => exact cb_ HR0_4.out HB.out)
  (case side4 => exact HC0_4.out)
  (case side5 => exact cb_ HR0_5.out HB.out)
  (case side6 => exact HC0_5.out)
  (case side7 => exact cb_ HR0_6.out HB.out)
  (case side8 => exact HC0_6.out)
  rintro e w24 ⟨rfl, hb⟩
  refine ⟨_, rfl, ?_⟩
  replace BK156 := Aside0.mk (blk_below (bk_ BK156.out) hb)
  replace BK157 := Aside0.mk (blk_below (bk_ BK157.out) hb)
  replace BK158 := Aside0.mk (blk_below (bk_ BK158.out) hb)
  replace HB := Aside0.mk (below_step (by repeat (first | (with_reducible first | exact HB.out | apply below_alloc | apply pw_below_drewN | apply below_drew1 | refine below_set ?_ GE156.out | refine below_set ?_ GE157.out | refine below_set ?_ GE158.out) | exact HB.out)) hb)
  (try clear hb)
  refine hK.out _ _ (ap7 (bc7 BK156.out) (bc3 BK157.out)) (fun hHeld => ?_)
  clear hK K
  refine nm_ (some 11) ?_
  refine on_ HT_ 5 (some 14) (fun K hK => ?_)
  refine gos_ Try.func77 #[.agg #[.int .i64 a0_0, .int .i64 a0_1, .slice A0_2 l0_2.length c0_2, .bool a0_3, .slice A0_4 l0_4.length c0_4, .slice A0_5 l0_5.length c0_5, .slice A0_6 l0_6.length c0_6], .agg #[.int .i64 a1_0, .int .i64 a1_1, .string a1_2], .bool false] ?_
  with_reducible refine (laminaref16_LessMax.calls k a0_0 a0_1 _ _ l0_2 a0_3 _ _ l0_4 _ _ l0_5 _ _ l0_6 a1_0 a1_1 a1_2 false t162 _ ?side1 ?side2 ?side3 ?side4 ?side5 ?side6 ?side7 ?side8 A15.out).mono ?_
  (case side1 => exact cb_ HR0_2.out HB.out)
  (case side2 => exact HC0_2.out)
  (case side3 => exact cb_ HR0_4.out HB.out)
  (case side4 => exact HC0_4.out)
  (case side5 => exact cb_ HR0_5.out HB.out)
  (case side6 => exact HC0_5.out)
  (case side7 => exact cb_ HR0_6.out HB.out)
  (case side8 => exact HC0_6.out)
  rintro e w25 ⟨rfl, hb⟩
  refine ⟨_, rfl, ?_⟩
  replace BK156 := Aside0.mk (blk_below (bk_ BK156.out) hb)
  replace BK157 := Aside0.mk (blk_below (bk_ BK157.out) hb)
  replace BK158 := Aside0.mk (blk_below (bk_ BK158.out) hb)
  replace HB := Aside0.mk (below_step (by repeat (first | (with_reducible first | exact HB.out | apply below_alloc | apply pw_below_drewN | apply below_drew1 | refine below_set ?_ GE156.out | refine below_set ?_ GE157.out | refine below_set ?_ GE158.out) | exact HB.out)) hb)
  (try clear hb)
  refine hK.out _ _ (ap7 (bc7 BK156.out) (bc3 BK157.out)) (fun hHeld => ?_)
  clear hK K
  refine nm_ (some 14) ?_
  refine on_ HT_ 6 (some 15) (fun K hK => ?_)
  refine gos_ Try.func76 #[.int .i64 t161, .int .i64 t162] ?_
  with_reducible refine (laminaref16_span.calls t161 t162 t163 t164 _ A16.out).mono ?_
  rintro e w26 ⟨rfl, hb⟩
  refine ⟨_, rfl, ?_⟩
  replace BK156 := Aside0.mk (blk_below (bk_ BK156.out) hb)
  replace BK157 := Aside0.mk (blk_below (bk_ BK157.out) hb)
  replace BK158 := Aside0.mk (blk_below (bk_ BK158.out) hb)
  replace HB := Aside0.mk (below_step (by repeat (first | (with_reducible first | exact HB.out | apply below_alloc | apply pw_below_drewN | apply below_drew1 | refine below_set ?_ GE156.out | refine below_set ?_ GE157.out | refine below_set ?_ GE158.out) | exact HB.out)) hb)
  (try clear hb)
  refine hK.out _ _ (ap7 (bc7 BK156.out) (bc3 BK157.out)) (fun hHeld => ?_)
  clear hK K
  refine nm_ (some 15) ?_
  refine on_ HT_ 7 (none) (fun K hK => ?_)
  have hs27 : w26.cell? ⟨gb158, 0, none⟩ = some (.int .i64 0) := (blk_cell BK158.out 0).trans rfl
  have hfs27 := blk_frozen BK158.out 0
  have hns27_0 := NB156_158.out
  have hns27_1 := NB157_158.out
  have hms27_0 := NB158_156.out
  have hms27_1 := NB158_157.out
  have hs28 : w26.cell? ⟨gb158, 1, none⟩ = some (.int .i64 0) := (blk_cell BK158.out 1).trans rfl
  have hfs28 := blk_frozen BK158.out 1
  have hns28_0 := NB156_158.out
  have hns28_1 := NB157_158.out
  have hms28_0 := NB158_156.out
  have hms28_1 := NB158_157.out
  refine skip_ (w1 := ?_) (by rfl) rfl ?_ ?_
  rotate_left
  ·go_simp
   rfl
  refine hK.out _ _ ⟨((cell_far (p := ⟨gb158, _, none⟩) NB156_158.out _).trans (((cell_far (p := ⟨gb158, _, none⟩) NB156_158.out _).trans (hHeld.1)))), ((cell_far (p := ⟨gb158, _, none⟩) NB156_158.out _).trans (((cell_far (p := ⟨gb158, _, none⟩) NB156_158.out _).trans (hHeld.2.1)))), ((cell_far (p := ⟨gb158, _, none⟩) NB156_158.out _).trans (((cell_far (p := ⟨gb158, _, none⟩) NB156_158.out _).trans (hHeld.2.2.1)))), ((cell_far (p := ⟨gb158, _, none⟩) NB156_158.out _).trans (((cell_far (p := ⟨gb158, _, none⟩) NB156_158.out _).trans (hHeld.2.2.2.1)))), ((cell_far (p := ⟨gb158, _, none⟩) NB156_158.out _).trans (((cell_far (p := ⟨gb158, _, none⟩) NB156_158.out _).trans (hHeld.2.2.2.2.1)))), ((cell_far (p := ⟨gb158, _, none⟩) NB156_158.out _).trans (((cell_far (p := ⟨gb158, _, none⟩) NB156_158.out _).trans (hHeld.2.2.2.2.2.1)))), ((cell_far (p := ⟨gb158, _, none⟩) NB156_158.out _).trans (((cell_far (p := ⟨gb158, _, none⟩) NB156_158.out _).trans (hHeld.2.2.2.2.2.2.1)))), ((cell_far (p := ⟨gb158, _, none⟩) NB157_158.out _).trans (((cell_far (p := ⟨gb158, _, none⟩) NB157_158.out _).trans (hHeld.2.2.2.2.2.2.2.1)))), ((cell_far (p := ⟨gb158, _, none⟩) NB157_158.out _).trans (((cell_far (p := ⟨gb158, _, none⟩) NB157_158.out _).trans (hHeld.2.2.2.2.2.2.2.2.1)))), ((cell_far (p := ⟨gb158, _, none⟩) NB157_158.out _).trans (((cell_far (p := ⟨gb158, _, none⟩) NB157_158.out _).trans (hHeld.2.2.2.2.2.2.2.2.2))))⟩ (fun hHeld => ?_)
  clear hK K
  refine done_ (done_of HT_.out (by kernel_rfl)) ?_
  try go_wp2
  refine bodyPost_ret (results_cell_row rfl _ _ gb158 44 #[.int .i64 t163, .int .i64 t164] (0, 0) _ rfl (by (with_reducible repeat (first | refine blk_drewN ?_ _ | refine blk_drew ?_ | refine blk_alloc ?_ _)); refine blk_put (cs := #[.int .i64 t163, .int .i64 0]) ?_ 1 _ rfl; (with_reducible repeat (first | refine blk_drewN ?_ _ | refine blk_drew ?_ | refine blk_alloc ?_ _)); refine blk_put (cs := #[.int .i64 0, .int .i64 0]) ?_ 0 _ rfl; (with_reducible repeat (first | refine blk_drewN ?_ _ | refine blk_drew ?_ | refine blk_alloc ?_ _)); exact BK158.out) Try.underlying44 rfl (by kernel_rfl)) rfl ?_
  exact er_ (by repeat (first | (with_reducible first | exact HB.out | apply below_alloc | apply pw_below_drewN | apply below_drew1 | refine below_set ?_ GE156.out | refine below_set ?_ GE157.out | refine below_set ?_ GE158.out) | exact HB.out))
end Go.Proofs.Ytackcingpffidaa.P
namespace Go.Proofs.Ytackcingpffidaa.P
set_option linter.unusedVariables false
open Go.RowKit Go.Proofs.YtackcingpffidaaW.PrintWords Go.Proofs.YtackcingpffidaaW.PrintLast Go.Proofs.YtackcingpffidaaW.PrintMore
/-- The last fence that equals the value tells the least count. -/
def leastR (F : List S39) (R : List Int) (v : S39) : Nat → Nat → Int → Option Int
  | 0, _, c => some c
  | m + 1, i, c => if rcV (rd_T39 F (i : Int)) v == 0 then (if 2 * i + 1 < R.length then leastR F R v m (i + 1) (mx 0 (wrap64 (rd R ((2 * i + 1 : Nat) : Int) - rd R ((2 * i : Nat) : Int)))) else none) else leastR F R v m (i + 1) c
def minsR (k : Nat) (v : S39) (C : List Int) : Int → Nat → Nat → Option Int
  | high, _, 0 => some high
  | high, r, m + 1 => (laminaref16_Cell.f k r v.f0 v.f1 v.f2).bind fun c => if 0 ≤ c ∧ c.toNat < C.length then minsR k v C (mn high (rd C c)) (r + 1) m else none
theorem minsR_next {k : Nat} {v : S39} {C : List Int} {high x : Int} {r m : Nat} (h : minsR k v C high r (m + 1) = some x) : ∃ c : Int, laminaref16_Cell.f k r v.f0 v.f1 v.f2 = some c ∧ 0 ≤ c ∧ c.toNat < C.length ∧ minsR k v C (mn high (rd C c)) (r + 1) m = some x := by
  unfold minsR at h
  obtain ⟨c, h1, h2⟩ := Option.bind_eq_some_iff.mp h
  by_cases hc : 0 ≤ c ∧ c.toNat < C.length
  · rw [if_pos hc] at h2
    exact ⟨c, h1, hc.1, hc.2, h2⟩
  · rw [if_neg hc] at h2
    exact absurd h2 (by simp)
theorem minsR.mono (k : Nat) (v : S39) (C : List Int) : ∀ m high r, LeO (minsR k v C high r m) (minsR (k + 1) v C high r m)
  | 0, _, _ => LeO.refl _
  | m + 1, high, r => LeO.bind (laminaref16_Cell.mono _ _ _ _ _) (fun _ => LeO.ite (minsR.mono k v C m _ _) (LeO.none _))
/-- Outside the fences. -/
def outB (F : List S39) (v : S39) : Bool := decide (rcV v (rd_T39 F 0) < 0) || decide (0 < rcV v (rd_T39 F ((F.length : Int) - 1)))
def laminaref16_CountEqual.f (k : Nat) (a0_0 : Int) (a0_1 : Int) (l0_2 : List Int) (a0_3 : Bool) (l0_4 : List Int) (l0_5 : List (S39)) (l0_6 : List Int) (a1_0 : Int) (a1_1 : Int) (a1_2 : ByteArray) : Option (Int × Int) :=
  (laminaref16_foreign.f a0_0 a0_1 l0_2 a0_3 l0_4 l0_5 l0_6 a1_0 a1_1 a1_2).bind fun fb => if fb = true then some (0, 0) else if 1000 < l0_5.length ∨ l0_5.length = 0 then none else
  if outB l0_5 ⟨a1_0, a1_1, a1_2⟩ = true then some (0, 0) else
  (if a0_3 = true then laminaref16_hashed.f k a0_0 a0_1 l0_2 a0_3 l0_4 l0_5 l0_6 a1_0 a1_1 a1_2 else some true).bind fun hb => if hb = true then
  (leastR l0_5 l0_6 ⟨a1_0, a1_1, a1_2⟩ l0_5.length 0 0).bind fun low => (laminaref16_LessMax.f k a0_0 a0_1 l0_2 a0_3 l0_4 l0_5 l0_6 a1_0 a1_1 a1_2 true).bind fun up => (laminaref16_LessMin.f k a0_0 a0_1 l0_2 a0_3 l0_4 l0_5 l0_6 a1_0 a1_1 a1_2 false).bind fun lo =>
  (minsR k ⟨a1_0, a1_1, a1_2⟩ l0_4 (wrap64 (up - lo)) 0 4).bind fun high => some (low, high) else some (0, 0)
theorem laminaref16_CountEqual.mono : ∀ a0 a1 a2 a3 a4 a5 a6 a7 a8 a9 k, LeO (laminaref16_CountEqual.f k a0 a1 a2 a3 a4 a5 a6 a7 a8 a9) (laminaref16_CountEqual.f (k + 1) a0 a1 a2 a3 a4 a5 a6 a7 a8 a9) := by
  intro a0 a1 a2 a3 a4 a5 a6 a7 a8 a9 k
  unfold laminaref16_CountEqual.f
  exact LeO.bind (LeO.refl _) fun _ => LeO.ite (LeO.refl _) (LeO.ite (LeO.none _) (LeO.ite (LeO.refl _) (LeO.bind (LeO.ite (laminaref16_hashed.mono _ _ _ _ _ _ _ _ _ _ _) (LeO.refl _)) fun _ => LeO.ite (LeO.bind (LeO.refl _) fun _ => LeO.bind (laminaref16_LessMax.mono _ _ _ _ _ _ _ _ _ _ _ _) fun _ => LeO.bind (laminaref16_LessMin.mono _ _ _ _ _ _ _ _ _ _ _ _) fun _ => LeO.bind (minsR.mono _ _ _ _ _ _) fun _ => LeO.refl _) (LeO.refl _))))
/-- The bounds by operator; N and X give a rank bound by its flag. -/
def switchR (op n : Int) (N X : Bool → Option Int) (E : Int × Int) : Option (Int × Int) :=
  if op = 1 then some E else if op = 2 then some (restS n E) else if op = 3 then (N false).bind fun a => (X false).bind fun b => some (a, b) else if op = 4 then (N true).bind fun a => (X true).bind fun b => some (a, b)
  else if op = 5 then (X true).bind fun b => (N true).bind fun a => some (wrap64 (n - b), wrap64 (n - a)) else if op = 6 then (X false).bind fun b => (N false).bind fun a => some (wrap64 (n - b), wrap64 (n - a)) else some (0, 0)
def laminaref16_CountMatching.f (k : Nat) (a0_0 : Int) (a0_1 : Int) (l0_2 : List Int) (a0_3 : Bool) (l0_4 : List Int) (l0_5 : List (S39)) (l0_6 : List Int) (a1_0 : Int) (a1_1 : Int) (a1_2 : Int) (a1_3 : Int) (a1_4 : ByteArray) : Option (Int × Int) :=
  if a1_1 = 20 then some (a0_1, a0_1) else if a1_1 = 21 then some (wrap64 (a0_0 - a0_1), wrap64 (a0_0 - a0_1)) else
  (laminaref16_foreign.f a0_0 a0_1 l0_2 a0_3 l0_4 l0_5 l0_6 a1_2 a1_3 a1_4).bind fun fb => if fb = true then some (0, 0) else
  (laminaref16_CountEqual.f k a0_0 a0_1 l0_2 a0_3 l0_4 l0_5 l0_6 a1_2 a1_3 a1_4).bind fun E =>
  switchR a1_1 (wrap64 (a0_0 - a0_1)) (laminaref16_LessMin.f k a0_0 a0_1 l0_2 a0_3 l0_4 l0_5 l0_6 a1_2 a1_3 a1_4) (laminaref16_LessMax.f k a0_0 a0_1 l0_2 a0_3 l0_4 l0_5 l0_6 a1_2 a1_3 a1_4) E
theorem switchR.mono (op n : Int) {N N' X X' : Bool → Option Int} (hN : ∀ b, LeO (N b) (N' b)) (hX : ∀ b, LeO (X b) (X' b)) (E : Int × Int) : LeO (switchR op n N X E) (switchR op n N' X' E) := by
  unfold switchR
  exact LeO.ite (LeO.refl _) (LeO.ite (LeO.refl _) (LeO.ite (LeO.bind (hN _) fun _ => LeO.bind (hX _) fun _ => LeO.refl _) (LeO.ite (LeO.bind (hN _) fun _ => LeO.bind (hX _) fun _ => LeO.refl _) (LeO.ite (LeO.bind (hX _) fun _ => LeO.bind (hN _) fun _ => LeO.refl _) (LeO.ite (LeO.bind (hX _) fun _ => LeO.bind (hN _) fun _ => LeO.refl _) (LeO.refl _))))))
theorem laminaref16_CountMatching.mono : ∀ a0 a1 a2 a3 a4 a5 a6 a7 a8 a9 a10 a11 k, LeO (laminaref16_CountMatching.f k a0 a1 a2 a3 a4 a5 a6 a7 a8 a9 a10 a11) (laminaref16_CountMatching.f (k + 1) a0 a1 a2 a3 a4 a5 a6 a7 a8 a9 a10 a11) := by
  intro a0 a1 a2 a3 a4 a5 a6 a7 a8 a9 a10 a11 k
  unfold laminaref16_CountMatching.f
  exact LeO.ite (LeO.refl _) (LeO.ite (LeO.refl _) (LeO.bind (LeO.refl _) fun _ => LeO.ite (LeO.refl _) (LeO.bind (laminaref16_CountEqual.mono _ _ _ _ _ _ _ _ _ _ _) fun _ => switchR.mono _ _ (laminaref16_LessMin.mono _ _ _ _ _ _ _ _ _ _ · _) (laminaref16_LessMax.mono _ _ _ _ _ _ _ _ _ _ · _) _)))
end Go.Proofs.Ytackcingpffidaa.P
namespace Go.Proofs.Ytackcingpffidaa.P
open Go.RowKit Go.Proofs.YtackcingpffidaaW.PrintWords Go.Proofs.YtackcingpffidaaW.PrintLast Go.Proofs.YtackcingpffidaaW.PrintMore
attribute [local go_sem] max2_int min2_int max_two min_two
set_option linter.unusedVariables false
set_option linter.unusedSimpArgs false
theorem eqR_calls (x y : S39) (b : Bool) (h : (rcV x y == 0) = b) (w : World) : Calls Try.prog 65 #[.agg #[.int .i64 x.f0, .int .i64 x.f1, .string x.f2], .agg #[.int .i64 y.f0, .int .i64 y.f1, .string y.f2]] w fun e w' => e = .returned (.bool b) ∧ Below w.heap.size w w' :=
  laminaref04_Equal.calls _ _ _ _ _ _ b w (by unfold laminaref04_Equal.f; rw [rcV_is, ← h]; rfl)
def f23_T1 : Bool × List (List Nat × List Nat) := (true, [([], []), ([], []), ([0, 1], [0, 1]), ([2, 2], [2]), ([3], [3]), ([3], [3]), ([5, 3], [3, 5]), ([6, 3], [3, 6]), ([7, 3], [3, 7]), ([4, 8, 3, 3], [3, 4, 8]), ([9, 3], [3, 9]), ([3, 10], [3, 10]), ([11, 9], [11]), ([12], [12]), ([12], [12]), ([14, 12], [12, 14]), ([12], [12]), ([16, 12], [12, 16]), ([17, 12], [12, 17]), ([18, 12], [12, 18]), ([15, 19, 12], [12, 15, 19]), ([20, 12], [12, 20]), ([13, 21, 12, 12], [12, 13, 21]), ([22, 12], [12, 22]), ([12, 23], [12, 23]), ([24, 22], [24]), ([25], [25]), ([26, 25], [25, 26]), ([27, 25, 25], [25, 27]), ([28], [28]), ([28], [28]), ([29, 30, 28, 28], [28, 29, 30]), ([31, 28], [28, 31]), ([28, 32, 25], [25, 28, 32]), ([25, 33], [25, 33])])
def f23_B1 : List Nat := [0, 0, 3, 7, 15, 15, 47, 111, 239, 511, 1023, 2047, 4095, 8191, 8191, 24575, 8191, 73727, 204799, 466943, 1040383, 2088959, 4194303, 8388607, 16777215, 33554431, 67108863, 134217727, 268435455, 536870911, 536870911, 2147483647, 4294967295, 8589934591, 17179869183]
set_option maxRecDepth 100000 in
theorem f23_tab1 : rtab .any (opsOf Try.f23 1) = f23_T1 := by kernel_rfl
theorem f23_bits1 : waitsOk f23_T1.2 f23_B1 = true := by kernel_rfl
def f23_T7 : Bool × List (List Nat × List Nat) := (true, [([], []), ([0], [0]), ([], []), ([1, 2], [1, 2]), ([3], [3]), ([], []), ([4, 5], [4, 5])])
def f23_B7 : List Nat := [0, 1, 0, 7, 15, 0, 63]
set_option maxRecDepth 100000 in
theorem f23_tab7 : rtab .any (opsOf Try.f23 7) = f23_T7 := by kernel_rfl
theorem f23_bits7 : waitsOk f23_T7.2 f23_B7 = true := by kernel_rfl
def f23_T8 : Bool × List (List Nat × List Nat) := (true, [([], []), ([0], [0]), ([], []), ([2], [2]), ([3], [3]), ([1, 4], [1, 4]), ([5], [5]), ([], []), ([7], [7]), ([], []), ([9], [9]), ([8, 10], [8, 10]), ([11], [11]), ([6, 12], [6, 12]), ([13], [13]), ([14, 0, 1, 2, 3, 4, 5, 6, 7, 8, 9, 10, 11, 12, 13, 14], [14])])
def f23_B8 : List Nat := [0, 1, 0, 4, 12, 31, 63, 0, 128, 0, 512, 1920, 3968, 8191, 16383, 32767]
set_option maxRecDepth 100000 in
theorem f23_tab8 : rtab .any (opsOf Try.f23 8) = f23_T8 := by kernel_rfl
theorem f23_bits8 : waitsOk f23_T8.2 f23_B8 = true := by kernel_rfl
def f23_T9 : Bool × List (List Nat × List Nat) := (true, [([], []), ([], []), ([0, 1], [0, 1]), ([], []), ([], []), ([3, 4, 2], [3, 4]), ([2, 5], [2, 5]), ([6, 5, 0, 1, 2, 3, 4, 5, 6], [6])])
def f23_B9 : List Nat := [0, 0, 3, 0, 0, 31, 63, 127]
set_option maxRecDepth 100000 in
theorem f23_tab9 : rtab .any (opsOf Try.f23 9) = f23_T9 := by kernel_rfl
theorem f23_bits9 : waitsOk f23_T9.2 f23_B9 = true := by kernel_rfl
def f23_T13 : Bool × List (List Nat × List Nat) := (true, [([], []), ([], []), ([1], [1]), ([], []), ([], []), ([3, 4], [3, 4]), ([2, 5], [2, 5]), ([6], [6]), ([0, 7], [0, 7]), ([8, 5, 0, 1, 2, 3, 4, 5, 6, 7, 8], [0, 8])])
def f23_B13 : List Nat := [0, 0, 2, 0, 0, 24, 62, 126, 255, 511]
set_option maxRecDepth 100000 in
theorem f23_tab13 : rtab .any (opsOf Try.f23 13) = f23_T13 := by kernel_rfl
theorem f23_bits13 : waitsOk f23_T13.2 f23_B13 = true := by kernel_rfl
set_option maxHeartbeats 8000000 in
set_option maxRecDepth 100000 in
theorem laminaref16_CountEqual.calls0 (k : Nat) (a0 a1 : Int) (A2 : Option Addr) (c2 : Nat) (l2 : List Int) (b3 : Bool) (A4 : Option Addr) (c4 : Nat) (l4 : List Int) (A5 : Option Addr) (c5 : Nat) (l5 : List S39) (A6 : Option Addr) (c6 : Nat) (l6 : List Int) (v : S39) (r1 r2 : Int) (w : World) (hr2 : Kd.C (Kd.int .u64) w A2 l2.length l2) (hc2 : l2.length ≤ c2) (hr4 : Kd.C (Kd.int .i64) w A4 l4.length l4) (hc4 : l4.length ≤ c4) (hr5 : Kd.C k39 w A5 l5.length l5) (hc5 : l5.length ≤ c5) (hr6 : Kd.C (Kd.int .i64) w A6 l6.length l6) (hc6 : l6.length ≤ c6) (h : laminaref16_CountEqual.f k a0 a1 l2 b3 l4 l5 l6 v.f0 v.f1 v.f2 = some (r1, r2)) :
    Calls Try.prog 23 #[.agg #[.int .i64 a0, .int .i64 a1, .slice A2 l2.length c2, .bool b3, .slice A4 l4.length c4, .slice A5 l5.length c5, .slice A6 l6.length c6], .agg #[.int .i64 v.f0, .int .i64 v.f1, .string v.f2]] w fun e w' => e = .returned (.agg #[.int .i64 r1, .int .i64 r2]) ∧ Below w.heap.size w w' := by
  unfold laminaref16_CountEqual.f at h
  obtain ⟨fb, hfb, h⟩ := Option.bind_eq_some_iff.mp h
  have HFB := Aside0.mk hfb
  have HH := Aside0.mk h
  clear h hfb
  have HK0 : SK w A2 c2 l2 A4 c4 l4 A5 c5 l5 A6 c6 l6 := ⟨hr2, hc2, hr4, hc4, hr5, hc5, hr6, hc6⟩
  have HR5 := Aside0.mk hr5
  have HR6 := Aside0.mk hr6
  have HR4 := Aside0.mk hr4
  have HKw := Aside0.mk HK0
  clear HK0 hr2 hr4 hr5 hr6
  go_enter Try.func23, Try.ntmps23
  go_upto_region 1 with (first | (refine box_ 2 (cs := #[.int .i64 a0, .int .i64 a1, .slice A2 l2.length c2, .bool b3, .slice A4 l4.length c4, .slice A5 l5.length c5, .slice A6 l6.length c6]) (t := 26) (fun g2 hg_ w1 BK2 HB => ?_); clear hg_; replace BK2 := Aside0.mk BK2; replace HB := Aside0.mk HB) | (refine box_ 3 (cs := #[.int .i64 v.f0, .int .i64 v.f1, .string v.f2]) (t := 39) (fun g3 hg_ w2 BK3 hb => ?_); clear hg_; replace BK2 := Aside0.mk (blk_below BK2.out hb); replace BK3 := Aside0.mk BK3; replace HB := Aside0.mk (HB.out.trans (hb.mono (below_size HB.out))); clear hb))
  replace BK2 := Aside0.mk (blk_alloc BK2.out (.cells #[.int .i64 0, .int .i64 0] 44))
  replace BK3 := Aside0.mk (blk_alloc BK3.out (.cells #[.int .i64 0, .int .i64 0] 44))
  have BK4 := Aside0.mk (heap_alloc_new w2 (.cells #[.int .i64 0, .int .i64 0] 44))
  have HBV := Aside0.mk (below_alloc HB.out (.cells #[.int .i64 0, .int .i64 0] 44))
  have hg4 : w.heap.size ≤ w2.heap.size := below_size HB.out
  obtain ⟨V, hV⟩ : ∃ V, w2.alloc (.cells #[.int .i64 0, .int .i64 0] 44) = V := ⟨_, rfl⟩
  rw [hV] at BK2 BK3 BK4 HBV ⊢
  clear hV HB
  generalize w2.heap.size = g4 at *
  clear w2
  have HS : Aside0 (∀ W, Below V.heap.size V W → sk7 g2 a0 a1 A2 c2 l2 b3 A4 c4 l4 A5 c5 l5 A6 c6 l6 W (v3 g3 v W (True))) := ⟨fun W hb => sk7_of (blk_below BK2.out hb) (v3_of (blk_below BK3.out hb) trivial)⟩
  have HK : Aside0 (∀ W, Below V.heap.size V W → SK W A2 c2 l2 A4 c4 l4 A5 c5 l5 A6 c6 l6) := ⟨fun W hb => HKw.out.below (HBV.out.trans (hb.mono (below_size HBV.out)))⟩
  clear BK2 BK3 HKw
  have HY := Aside0.mk (below_drew1 (Below.refl V.heap.size V))
  cases fb with
  | true =>
    have hz : (0, 0) = (r1, r2) := Option.some.inj (by have h_ := HH.out; rwa [if_pos rfl] at h_)
    obtain ⟨rfl, rfl⟩ := Prod.mk.inj hz
    clear HH hz
    refine start_ (n := 35) (S := fun W => sk7 g2 a0 a1 A2 c2 l2 b3 A4 c4 l4 A5 c5 l5 A6 c6 l6 W (v3 g3 v W (True))) (ds := []) #[false, false, false, false, false, false, false, false, false, false, false, false, false, false, false, false, false, false, false, false, false, false, false, false, false, false, false, false, false, false, false, false, false, false, false] (by kernel_rfl) rfl rfl (HS.out _ HY.out) (fun hHeld => ?_)
    refine with_tabW f23_tab1 f23_bits1 (fun HT_ HW_ => ?_)
    generalize V.drew = wd at HY hHeld ⊢
    refine tk_ HT_ HW_ 0 (some 9) hHeld ?_
    refine tk_ HT_ HW_ 1 (some 10) hHeld ?_
    refine cl_ HT_ 2 (some 11) Try.func74 (un8 (laminaref16_foreign.calls a0 a1 _ _ _ _ _ _ _ _ _ _ _ _ _ v.f0 v.f1 v.f2 true _) (HK.out _ HY.out) HFB.out) HY HS (fun w9 HY hHeld => ?_)
    refine pu_ HT_ 3 (some 12) ?_
    refine sk_ HT_ 4 (some 13) ?_
    refine sk_ HT_ 5 (some 14) ?_
    refine sk_ HT_ 6 (some 15) ?_
    refine sk_ HT_ 7 (some 16) ?_
    refine sk_ HT_ 8 (some 17) ?_
    refine sk_ HT_ 9 (some 18) ?_
    refine sk_ HT_ 10 (some 19) ?_
    refine pu_ HT_ 11 (some 20) ?_
    refine pu_ HT_ 12 (some 21) ?_
    refine sk_ HT_ 13 (some 22) ?_
    refine sk_ HT_ 14 (some 23) ?_
    refine sk_ HT_ 15 (some 24) ?_
    refine sk_ HT_ 16 (some 25) ?_
    refine sk_ HT_ 17 (some 26) ?_
    refine sk_ HT_ 18 (some 27) ?_
    refine sk_ HT_ 19 (some 28) ?_
    refine sk_ HT_ 20 (some 29) ?_
    refine sk_ HT_ 21 (some 30) ?_
    refine sk_ HT_ 22 (some 31) ?_
    refine sk_ HT_ 23 (some 32) ?_
    refine pu_ HT_ 24 (some 33) ?_
    refine pu_ HT_ 25 (some 34) ?_
    refine sk_ HT_ 26 (some 35) ?_
    refine sk_ HT_ 27 (some 36) ?_
    refine sk_ HT_ 28 (some 37) ?_
    refine sk_ HT_ 29 (some 38) ?_
    refine sk_ HT_ 30 (some 39) ?_
    refine sk_ HT_ 31 (some 40) ?_
    refine sk_ HT_ 32 (some 41) ?_
    refine sk_ HT_ 33 (some 42) ?_
    refine pu_ HT_ 34 (some 43) ?_
    refine done_ (done_of HT_.out (by kernel_rfl)) ?_
    clear HT_ HW_ hHeld
    go_wp2_with (go_at_call 76; refine (laminaref16_span.calls 0 0 0 0 _ rfl).mono ?_; rintro e w9 ⟨rfl, hb⟩; replace HY := Aside0.mk (HY.out.trans (hb.mono HY.out.size)); clear hb; have B4 := blk_below BK4.out HY.out; obtain ⟨e0, e1, z0, z1⟩ := bf2 B4)
    refine ret2_ (p := fun W => bodyPost _ _ _ _ _ W) B4 (HBV.out.trans (HY.out.mono (below_size HBV.out))) hg4 (.int .i64 0) (.int .i64 0) (fun W d0 d1 rB => ?_)
    exact bodyPost_ret (v := .agg #[.int .i64 0, .int .i64 0]) (by simp [results, Try.results23, go_sem, d0, d1]) rfl ⟨rfl, rB⟩
  | false =>
  have HH2 := HH.out
  rw [if_neg (by decide)] at HH2
  by_cases hl : 1000 < l5.length ∨ l5.length = 0
  · rw [if_pos hl] at HH2
    exact absurd HH2 (by simp)
  rw [if_neg hl] at HH2
  have HH3 := Aside0.mk HH2
  have hln : 0 < l5.length := by omega
  have hl5 : l5.length ≤ 1000 := by omega
  clear HH HH2 hl
  obtain ⟨ad, rfl, hx0, hx1, hx2⟩ := at_T39 HR5.out 0 (by omega) (by omega)
  obtain ⟨ad1, e1, hy0, hy1, hy2⟩ := at_T39 HR5.out ((l5.length - 1 : Nat) : Int) (by omega) (by omega)
  obtain rfl := Option.some.inj e1
  clear e1
  rw [Int.toNat_natCast] at hy0 hy1 hy2
  obtain ⟨x, hxx⟩ : ∃ x, rd_T39 l5 0 = x := ⟨_, rfl⟩
  obtain ⟨y, hyy⟩ : ∃ x, rd_T39 l5 ((l5.length - 1 : Nat) : Int) = x := ⟨_, rfl⟩
  rw [hxx] at hx0 hx1 hx2
  rw [hyy] at hy0 hy1 hy2
  obtain ⟨cx, hcx⟩ : ∃ c, rcV v x = c := ⟨_, rfl⟩
  obtain ⟨cy, hcy⟩ : ∃ c, rcV v y = c := ⟨_, rfl⟩
  obtain ⟨b4, hb4⟩ : ∃ b, decide (cx < 0) = b := ⟨_, rfl⟩
  obtain ⟨b5, hb5⟩ : ∃ b, decide (0 < cy) = b := ⟨_, rfl⟩
  have HGE : Aside0 (outB l5 v = (b4 || b5)) := ⟨by unfold outB; rw [hxx, hcx, hb4, show (l5.length : Int) - 1 = ((l5.length - 1 : Nat) : Int) from by omega, hyy, hcy, hb5]⟩
  have HCX := Aside0.mk hcx
  have HCY := Aside0.mk hcy
  have HSX : Aside0 (∀ W, Below V.heap.size V W → sk7 g2 a0 a1 A2 c2 l2 b3 A4 c4 l4 (some ad) c5 l5 A6 c6 l6 W (v3 g3 v W (W.cell? ad = some (.int .i64 x.f0) ∧ W.cell? ⟨ad.block, ad.off + 1, none⟩ = some (.int .i64 x.f1) ∧ W.cell? ⟨ad.block, ad.off + 2, none⟩ = some (.string x.f2) ∧ W.cell? (ad.add ((l5.length - 1) * 3)) = some (.int .i64 y.f0) ∧ W.cell? ⟨(ad.add ((l5.length - 1) * 3)).block, (ad.add ((l5.length - 1) * 3)).off + 1, none⟩ = some (.int .i64 y.f1) ∧ W.cell? ⟨(ad.add ((l5.length - 1) * 3)).block, (ad.add ((l5.length - 1) * 3)).off + 2, none⟩ = some (.string y.f2)))) := ⟨fun W hb => by
    obtain ⟨t0, t1, t2, t3, t4, t5, t6, t7, t8, t9, _⟩ := HS.out W hb
    have hbw := HBV.out.trans (hb.mono (below_size HBV.out))
    exact ⟨t0, t1, t2, t3, t4, t5, t6, t7, t8, t9, by simpa [Addr.add] using up_ hbw hx0, by simpa [Addr.add] using up_ hbw hx1, by simpa [Addr.add] using up_ hbw hx2, up_ hbw hy0, up_ hbw hy1, up_ hbw hy2⟩⟩
  have hd0 : decide ((0 : Int) < l5.length) = true := decide_eq_true (by omega)
  have hd1 : decide ((l5.length : Int) ≤ 0) = false := decide_eq_false (by omega)
  have hwn : IntKind.i64.wrap ((l5.length : Int) - 1) = ((l5.length - 1 : Nat) : Int) := by rw [i64_w]; unfold wrap64; omega
  have hfn : decide (((l5.length - 1 : Nat) : Int) < l5.length) = true := decide_eq_true (by omega)
  have hfn2 : decide ((l5.length : Int) ≤ ((l5.length - 1 : Nat) : Int)) = false := decide_eq_false (by omega)
  have hfn3 : l5.length - 1 < l5.length := by omega
  clear hx0 hx1 hx2 hy0 hy1 hy2 hxx hyy hcx hcy
  cases b4 with
  | true =>
    have hz : (0, 0) = (r1, r2) := Option.some.inj (by have h_ := HH3.out; rwa [if_pos (show outB l5 ⟨v.f0, v.f1, v.f2⟩ = true from HGE.out)] at h_)
    obtain ⟨rfl, rfl⟩ := Prod.mk.inj hz
    clear HH3 hz
    refine start_ (n := 35) (S := fun W => sk7 g2 a0 a1 A2 c2 l2 b3 A4 c4 l4 (some ad) c5 l5 A6 c6 l6 W (v3 g3 v W (W.cell? ad = some (.int .i64 x.f0) ∧ W.cell? ⟨ad.block, ad.off + 1, none⟩ = some (.int .i64 x.f1) ∧ W.cell? ⟨ad.block, ad.off + 2, none⟩ = some (.string x.f2) ∧ W.cell? (ad.add ((l5.length - 1) * 3)) = some (.int .i64 y.f0) ∧ W.cell? ⟨(ad.add ((l5.length - 1) * 3)).block, (ad.add ((l5.length - 1) * 3)).off + 1, none⟩ = some (.int .i64 y.f1) ∧ W.cell? ⟨(ad.add ((l5.length - 1) * 3)).block, (ad.add ((l5.length - 1) * 3)).off + 2, none⟩ = some (.string y.f2)))) (ds := []) #[false, false, false, false, false, false, false, false, false, false, false, false, false, false, false, false, false, false, false, false, false, false, false, false, false, false, false, false, false, false, false, false, false, false, false] (by kernel_rfl) rfl rfl (HSX.out _ HY.out) (fun hHeld => ?_)
    refine with_tabW f23_tab1 f23_bits1 (fun HT_ HW_ => ?_)
    generalize V.drew = wd at HY hHeld ⊢
    refine tk_ HT_ HW_ 0 (some 9) hHeld ?_
    refine tk_ HT_ HW_ 1 (some 10) hHeld ?_
    refine cl_ HT_ 2 (some 11) Try.func74 (un8 (laminaref16_foreign.calls a0 a1 _ _ _ _ _ _ _ _ _ _ _ _ _ v.f0 v.f1 v.f2 false _) (HK.out _ HY.out) HFB.out) HY HSX (fun w9 HY hHeld => ?_)
    refine pu_ HT_ 3 (some 12) ?_
    refine tk_ HT_ HW_ 4 (some 13) hHeld ?_
    refine pu_ HT_ 5 (some 14) ?_
    refine tk_ HT_ HW_ 6 (some 15) hHeld ?_
    refine tk_ HT_ HW_ 7 (some 16) hHeld ?_
    refine tk_ HT_ HW_ 8 (some 17) hHeld ?_
    refine cl_ HT_ 9 (some 18) Try.func32 (rcV_calls v x cx HCX.out _) HY HSX (fun w9 HY hHeld => ?_)
    refine pu_ HT_ 10 (some 19) ?_
    refine pu_ HT_ 11 (some 20) ?_
    refine pu_ HT_ 12 (some 21) ?_
    refine sk_ HT_ 13 (some 22) ?_
    refine sk_ HT_ 14 (some 23) ?_
    refine sk_ HT_ 15 (some 24) ?_
    refine sk_ HT_ 16 (some 25) ?_
    refine sk_ HT_ 17 (some 26) ?_
    refine sk_ HT_ 18 (some 27) ?_
    refine sk_ HT_ 19 (some 28) ?_
    refine sk_ HT_ 20 (some 29) ?_
    refine sk_ HT_ 21 (some 30) ?_
    refine sk_ HT_ 22 (some 31) ?_
    refine sk_ HT_ 23 (some 32) ?_
    refine pu_ HT_ 24 (some 33) ?_
    refine pu_ HT_ 25 (some 34) ?_
    refine sk_ HT_ 26 (some 35) ?_
    refine sk_ HT_ 27 (some 36) ?_
    refine sk_ HT_ 28 (some 37) ?_
    refine sk_ HT_ 29 (some 38) ?_
    refine sk_ HT_ 30 (some 39) ?_
    refine sk_ HT_ 31 (some 40) ?_
    refine sk_ HT_ 32 (some 41) ?_
    refine sk_ HT_ 33 (some 42) ?_
    refine pu_ HT_ 34 (some 43) ?_
    refine done_ (done_of HT_.out (by kernel_rfl)) ?_
    clear HT_ HW_ hHeld
    go_wp2_with (go_at_call 76; refine (laminaref16_span.calls 0 0 0 0 _ rfl).mono ?_; rintro e w9 ⟨rfl, hb⟩; replace HY := Aside0.mk (HY.out.trans (hb.mono HY.out.size)); clear hb; have B4 := blk_below BK4.out HY.out; obtain ⟨e0, e1, z0, z1⟩ := bf2 B4)
    refine ret2_ (p := fun W => bodyPost _ _ _ _ _ W) B4 (HBV.out.trans (HY.out.mono (below_size HBV.out))) hg4 (.int .i64 0) (.int .i64 0) (fun W d0 d1 rB => ?_)
    exact bodyPost_ret (v := .agg #[.int .i64 0, .int .i64 0]) (by simp [results, Try.results23, go_sem, d0, d1]) rfl ⟨rfl, rB⟩
  | false =>
  cases b5 with
  | true =>
    have hz : (0, 0) = (r1, r2) := Option.some.inj (by have h_ := HH3.out; rwa [if_pos (show outB l5 ⟨v.f0, v.f1, v.f2⟩ = true from HGE.out)] at h_)
    obtain ⟨rfl, rfl⟩ := Prod.mk.inj hz
    clear HH3 hz
    refine start_ (n := 35) (S := fun W => sk7 g2 a0 a1 A2 c2 l2 b3 A4 c4 l4 (some ad) c5 l5 A6 c6 l6 W (v3 g3 v W (W.cell? ad = some (.int .i64 x.f0) ∧ W.cell? ⟨ad.block, ad.off + 1, none⟩ = some (.int .i64 x.f1) ∧ W.cell? ⟨ad.block, ad.off + 2, none⟩ = some (.string x.f2) ∧ W.cell? (ad.add ((l5.length - 1) * 3)) = some (.int .i64 y.f0) ∧ W.cell? ⟨(ad.add ((l5.length - 1) * 3)).block, (ad.add ((l5.length - 1) * 3)).off + 1, none⟩ = some (.int .i64 y.f1) ∧ W.cell? ⟨(ad.add ((l5.length - 1) * 3)).block, (ad.add ((l5.length - 1) * 3)).off + 2, none⟩ = some (.string y.f2)))) (ds := []) #[false, false, false, false, false, false, false, false, false, false, false, false, false, false, false, false, false, false, false, false, false, false, false, false, false, false, false, false, false, false, false, false, false, false, false] (by kernel_rfl) rfl rfl (HSX.out _ HY.out) (fun hHeld => ?_)
    refine with_tabW f23_tab1 f23_bits1 (fun HT_ HW_ => ?_)
    generalize V.drew = wd at HY hHeld ⊢
    refine tk_ HT_ HW_ 0 (some 9) hHeld ?_
    refine tk_ HT_ HW_ 1 (some 10) hHeld ?_
    refine cl_ HT_ 2 (some 11) Try.func74 (un8 (laminaref16_foreign.calls a0 a1 _ _ _ _ _ _ _ _ _ _ _ _ _ v.f0 v.f1 v.f2 false _) (HK.out _ HY.out) HFB.out) HY HSX (fun w9 HY hHeld => ?_)
    refine pu_ HT_ 3 (some 12) ?_
    refine tk_ HT_ HW_ 4 (some 13) hHeld ?_
    refine pu_ HT_ 5 (some 14) ?_
    refine tk_ HT_ HW_ 6 (some 15) hHeld ?_
    refine tk_ HT_ HW_ 7 (some 16) hHeld ?_
    refine tk_ HT_ HW_ 8 (some 17) hHeld ?_
    refine cl_ HT_ 9 (some 18) Try.func32 (rcV_calls v x cx HCX.out _) HY HSX (fun w9 HY hHeld => ?_)
    refine pu_ HT_ 10 (some 19) ?_
    refine pu_ HT_ 11 (some 20) ?_
    refine pu_ HT_ 12 (some 21) ?_
    refine tk_ HT_ HW_ 13 (some 22) hHeld ?_
    refine pu_ HT_ 14 (some 23) ?_
    refine tk_ HT_ HW_ 15 (some 24) hHeld ?_
    refine pu_ HT_ 16 (some 25) ?_
    refine tk_ HT_ HW_ 17 (some 26) hHeld ?_
    refine pu_ HT_ 18 (some 27) ?_
    refine pu_ HT_ 19 (some 28) ?_
    refine tk_ HT_ HW_ 20 (some 29) hHeld ?_
    refine tk_ HT_ HW_ 21 (some 30) hHeld ?_
    refine cl_ HT_ 22 (some 31) Try.func32 (rcV_calls v y cy HCY.out _) HY HSX (fun w9 HY hHeld => ?_)
    refine pu_ HT_ 23 (some 32) ?_
    refine pu_ HT_ 24 (some 33) ?_
    refine pu_ HT_ 25 (some 34) ?_
    refine sk_ HT_ 26 (some 35) ?_
    refine sk_ HT_ 27 (some 36) ?_
    refine sk_ HT_ 28 (some 37) ?_
    refine sk_ HT_ 29 (some 38) ?_
    refine sk_ HT_ 30 (some 39) ?_
    refine sk_ HT_ 31 (some 40) ?_
    refine sk_ HT_ 32 (some 41) ?_
    refine sk_ HT_ 33 (some 42) ?_
    refine pu_ HT_ 34 (some 43) ?_
    refine done_ (done_of HT_.out (by kernel_rfl)) ?_
    clear HT_ HW_ hHeld
    go_wp2_with (go_at_call 76; refine (laminaref16_span.calls 0 0 0 0 _ rfl).mono ?_; rintro e w9 ⟨rfl, hb⟩; replace HY := Aside0.mk (HY.out.trans (hb.mono HY.out.size)); clear hb; have B4 := blk_below BK4.out HY.out; obtain ⟨e0, e1, z0, z1⟩ := bf2 B4)
    refine ret2_ (p := fun W => bodyPost _ _ _ _ _ W) B4 (HBV.out.trans (HY.out.mono (below_size HBV.out))) hg4 (.int .i64 0) (.int .i64 0) (fun W d0 d1 rB => ?_)
    exact bodyPost_ret (v := .agg #[.int .i64 0, .int .i64 0]) (by simp [results, Try.results23, go_sem, d0, d1]) rfl ⟨rfl, rB⟩
  | false =>
  have HH4 := HH3.out
  rw [if_neg (show ¬ outB l5 ⟨v.f0, v.f1, v.f2⟩ = true from by rw [show outB l5 ⟨v.f0, v.f1, v.f2⟩ = false from HGE.out]; decide)] at HH4
  obtain ⟨hb_, hhb, HH5⟩ := Option.bind_eq_some_iff.mp HH4
  clear HH3 HH4 HGE
  cases hb_ with
  | false =>
    have hz : (0, 0) = (r1, r2) := Option.some.inj (by rwa [if_neg (by decide)] at HH5)
    obtain ⟨rfl, rfl⟩ := Prod.mk.inj hz
    cases b3 with
    | false => exact absurd hhb (by simp)
    | true =>
    have HHB : Aside0 (laminaref16_hashed.f k a0 a1 l2 true l4 l5 l6 v.f0 v.f1 v.f2 = some false) := ⟨by rwa [if_pos rfl] at hhb⟩
    clear HH5 hz hhb
    refine start_ (n := 35) (S := fun W => sk7 g2 a0 a1 A2 c2 l2 true A4 c4 l4 (some ad) c5 l5 A6 c6 l6 W (v3 g3 v W (W.cell? ad = some (.int .i64 x.f0) ∧ W.cell? ⟨ad.block, ad.off + 1, none⟩ = some (.int .i64 x.f1) ∧ W.cell? ⟨ad.block, ad.off + 2, none⟩ = some (.string x.f2) ∧ W.cell? (ad.add ((l5.length - 1) * 3)) = some (.int .i64 y.f0) ∧ W.cell? ⟨(ad.add ((l5.length - 1) * 3)).block, (ad.add ((l5.length - 1) * 3)).off + 1, none⟩ = some (.int .i64 y.f1) ∧ W.cell? ⟨(ad.add ((l5.length - 1) * 3)).block, (ad.add ((l5.length - 1) * 3)).off + 2, none⟩ = some (.string y.f2)))) (ds := []) #[false, false, false, false, false, false, false, false, false, false, false, false, false, false, false, false, false, false, false, false, false, false, false, false, false, false, false, false, false, false, false, false, false, false, false] (by kernel_rfl) rfl rfl (HSX.out _ HY.out) (fun hHeld => ?_)
    refine with_tabW f23_tab1 f23_bits1 (fun HT_ HW_ => ?_)
    generalize V.drew = wd at HY hHeld ⊢
    refine tk_ HT_ HW_ 0 (some 9) hHeld ?_
    refine tk_ HT_ HW_ 1 (some 10) hHeld ?_
    refine cl_ HT_ 2 (some 11) Try.func74 (un8 (laminaref16_foreign.calls a0 a1 _ _ _ _ _ _ _ _ _ _ _ _ _ v.f0 v.f1 v.f2 false _) (HK.out _ HY.out) HFB.out) HY HSX (fun w9 HY hHeld => ?_)
    refine pu_ HT_ 3 (some 12) ?_
    refine tk_ HT_ HW_ 4 (some 13) hHeld ?_
    refine pu_ HT_ 5 (some 14) ?_
    refine tk_ HT_ HW_ 6 (some 15) hHeld ?_
    refine tk_ HT_ HW_ 7 (some 16) hHeld ?_
    refine tk_ HT_ HW_ 8 (some 17) hHeld ?_
    refine cl_ HT_ 9 (some 18) Try.func32 (rcV_calls v x cx HCX.out _) HY HSX (fun w9 HY hHeld => ?_)
    refine pu_ HT_ 10 (some 19) ?_
    refine pu_ HT_ 11 (some 20) ?_
    refine pu_ HT_ 12 (some 21) ?_
    refine tk_ HT_ HW_ 13 (some 22) hHeld ?_
    refine pu_ HT_ 14 (some 23) ?_
    refine tk_ HT_ HW_ 15 (some 24) hHeld ?_
    refine pu_ HT_ 16 (some 25) ?_
    refine tk_ HT_ HW_ 17 (some 26) hHeld ?_
    refine pu_ HT_ 18 (some 27) ?_
    refine pu_ HT_ 19 (some 28) ?_
    refine tk_ HT_ HW_ 20 (some 29) hHeld ?_
    refine tk_ HT_ HW_ 21 (some 30) hHeld ?_
    refine cl_ HT_ 22 (some 31) Try.func32 (rcV_calls v y cy HCY.out _) HY HSX (fun w9 HY hHeld => ?_)
    refine pu_ HT_ 23 (some 32) ?_
    refine pu_ HT_ 24 (some 33) ?_
    refine pu_ HT_ 25 (some 34) ?_
    refine pu_ HT_ 26 (some 35) ?_
    refine tk_ HT_ HW_ 27 (some 36) hHeld ?_
    refine pu_ HT_ 28 (some 37) ?_
    refine tk_ HT_ HW_ 29 (some 38) hHeld ?_
    refine tk_ HT_ HW_ 30 (some 39) hHeld ?_
    refine cl_ HT_ 31 (some 40) Try.func75 (un8 (laminaref16_hashed.calls k a0 a1 _ _ _ _ _ _ _ _ _ _ _ _ _ v.f0 v.f1 v.f2 false _) (HK.out _ HY.out) HHB.out) HY HSX (fun w9 HY hHeld => ?_)
    refine pu_ HT_ 32 (some 41) ?_
    refine pu_ HT_ 33 (some 42) ?_
    refine pu_ HT_ 34 (some 43) ?_
    refine done_ (done_of HT_.out (by kernel_rfl)) ?_
    clear HT_ HW_ hHeld
    go_wp2_with (go_at_call 76; refine (laminaref16_span.calls 0 0 0 0 _ rfl).mono ?_; rintro e w9 ⟨rfl, hb⟩; replace HY := Aside0.mk (HY.out.trans (hb.mono HY.out.size)); clear hb; have B4 := blk_below BK4.out HY.out; obtain ⟨e0, e1, z0, z1⟩ := bf2 B4)
    refine ret2_ (p := fun W => bodyPost _ _ _ _ _ W) B4 (HBV.out.trans (HY.out.mono (below_size HBV.out))) hg4 (.int .i64 0) (.int .i64 0) (fun W d0 d1 rB => ?_)
    exact bodyPost_ret (v := .agg #[.int .i64 0, .int .i64 0]) (by simp [results, Try.results23, go_sem, d0, d1]) rfl ⟨rfl, rB⟩
  | true =>
  rw [if_pos rfl] at HH5
  obtain ⟨low, hv1, HH6⟩ := Option.bind_eq_some_iff.mp HH5
  obtain ⟨up, hv2, HH7⟩ := Option.bind_eq_some_iff.mp HH6
  obtain ⟨lo, hv3, HH8⟩ := Option.bind_eq_some_iff.mp HH7
  obtain ⟨high, hv4, HH9⟩ := Option.bind_eq_some_iff.mp HH8
  obtain ⟨rfl, rfl⟩ := Prod.mk.inj (Option.some.inj HH9)
  have HLOW : Aside0 (leastR l5 l6 v l5.length 0 0 = some low) := ⟨hv1⟩
  have Hup := Aside0.mk hv2
  have Hlo := Aside0.mk hv3
  have HHI : Aside0 (minsR k v l4 (wrap64 (up - lo)) 0 4 = some high) := ⟨hv4⟩
  have HHB := Aside0.mk hhb
  clear HH5 HH6 HH7 HH8 HH9 hv1 hv2 hv3 hv4 hhb
  go_cut [43] (fun v43 wd => v43 = .bool false ∧ Aside0 (Below V.heap.size V wd))
  case first =>
    cases b3 with
    | true =>
      replace HHB : Aside0 (laminaref16_hashed.f k a0 a1 l2 true l4 l5 l6 v.f0 v.f1 v.f2 = some true) := ⟨by have h_ := HHB.out; rwa [if_pos rfl] at h_⟩
      refine start_ (n := 35) (S := fun W => sk7 g2 a0 a1 A2 c2 l2 true A4 c4 l4 (some ad) c5 l5 A6 c6 l6 W (v3 g3 v W (W.cell? ad = some (.int .i64 x.f0) ∧ W.cell? ⟨ad.block, ad.off + 1, none⟩ = some (.int .i64 x.f1) ∧ W.cell? ⟨ad.block, ad.off + 2, none⟩ = some (.string x.f2) ∧ W.cell? (ad.add ((l5.length - 1) * 3)) = some (.int .i64 y.f0) ∧ W.cell? ⟨(ad.add ((l5.length - 1) * 3)).block, (ad.add ((l5.length - 1) * 3)).off + 1, none⟩ = some (.int .i64 y.f1) ∧ W.cell? ⟨(ad.add ((l5.length - 1) * 3)).block, (ad.add ((l5.length - 1) * 3)).off + 2, none⟩ = some (.string y.f2)))) (ds := []) #[false, false, false, false, false, false, false, false, false, false, false, false, false, false, false, false, false, false, false, false, false, false, false, false, false, false, false, false, false, false, false, false, false, false, false] (by kernel_rfl) rfl rfl (HSX.out _ HY.out) (fun hHeld => ?_)
      refine with_tabW f23_tab1 f23_bits1 (fun HT_ HW_ => ?_)
      generalize V.drew = wd at HY hHeld ⊢
      refine tk_ HT_ HW_ 0 (some 9) hHeld ?_
      refine tk_ HT_ HW_ 1 (some 10) hHeld ?_
      refine cl_ HT_ 2 (some 11) Try.func74 (un8 (laminaref16_foreign.calls a0 a1 _ _ _ _ _ _ _ _ _ _ _ _ _ v.f0 v.f1 v.f2 false _) (HK.out _ HY.out) HFB.out) HY HSX (fun w9 HY hHeld => ?_)
      refine pu_ HT_ 3 (some 12) ?_
      refine tk_ HT_ HW_ 4 (some 13) hHeld ?_
      refine pu_ HT_ 5 (some 14) ?_
      refine tk_ HT_ HW_ 6 (some 15) hHeld ?_
      refine tk_ HT_ HW_ 7 (some 16) hHeld ?_
      refine tk_ HT_ HW_ 8 (some 17) hHeld ?_
      refine cl_ HT_ 9 (some 18) Try.func32 (rcV_calls v x cx HCX.out _) HY HSX (fun w9 HY hHeld => ?_)
      refine pu_ HT_ 10 (some 19) ?_
      refine pu_ HT_ 11 (some 20) ?_
      refine pu_ HT_ 12 (some 21) ?_
      refine tk_ HT_ HW_ 13 (some 22) hHeld ?_
      refine pu_ HT_ 14 (some 23) ?_
      refine tk_ HT_ HW_ 15 (some 24) hHeld ?_
      refine pu_ HT_ 16 (some 25) ?_
      refine tk_ HT_ HW_ 17 (some 26) hHeld ?_
      refine pu_ HT_ 18 (some 27) ?_
      refine pu_ HT_ 19 (some 28) ?_
      refine tk_ HT_ HW_ 20 (some 29) hHeld ?_
      refine tk_ HT_ HW_ 21 (some 30) hHeld ?_
      refine cl_ HT_ 22 (some 31) Try.func32 (rcV_calls v y cy HCY.out _) HY HSX (fun w9 HY hHeld => ?_)
      refine pu_ HT_ 23 (some 32) ?_
      refine pu_ HT_ 24 (some 33) ?_
      refine pu_ HT_ 25 (some 34) ?_
      refine pu_ HT_ 26 (some 35) ?_
      refine tk_ HT_ HW_ 27 (some 36) hHeld ?_
      refine pu_ HT_ 28 (some 37) ?_
      refine tk_ HT_ HW_ 29 (some 38) hHeld ?_
      refine tk_ HT_ HW_ 30 (some 39) hHeld ?_
      refine cl_ HT_ 31 (some 40) Try.func75 (un8 (laminaref16_hashed.calls k a0 a1 _ _ _ _ _ _ _ _ _ _ _ _ _ v.f0 v.f1 v.f2 true _) (HK.out _ HY.out) HHB.out) HY HSX (fun w9 HY hHeld => ?_)
      refine pu_ HT_ 32 (some 41) ?_
      refine pu_ HT_ 33 (some 42) ?_
      refine pu_ HT_ 34 (some 43) ?_
      refine done_ (done_of HT_.out (by kernel_rfl)) ?_
      clear HT_ HW_ hHeld
      (try go_wp2)
      go_meet
      case rel => exact ⟨rfl, HY⟩
    | false =>
      refine start_ (n := 35) (S := fun W => sk7 g2 a0 a1 A2 c2 l2 false A4 c4 l4 (some ad) c5 l5 A6 c6 l6 W (v3 g3 v W (W.cell? ad = some (.int .i64 x.f0) ∧ W.cell? ⟨ad.block, ad.off + 1, none⟩ = some (.int .i64 x.f1) ∧ W.cell? ⟨ad.block, ad.off + 2, none⟩ = some (.string x.f2) ∧ W.cell? (ad.add ((l5.length - 1) * 3)) = some (.int .i64 y.f0) ∧ W.cell? ⟨(ad.add ((l5.length - 1) * 3)).block, (ad.add ((l5.length - 1) * 3)).off + 1, none⟩ = some (.int .i64 y.f1) ∧ W.cell? ⟨(ad.add ((l5.length - 1) * 3)).block, (ad.add ((l5.length - 1) * 3)).off + 2, none⟩ = some (.string y.f2)))) (ds := []) #[false, false, false, false, false, false, false, false, false, false, false, false, false, false, false, false, false, false, false, false, false, false, false, false, false, false, false, false, false, false, false, false, false, false, false] (by kernel_rfl) rfl rfl (HSX.out _ HY.out) (fun hHeld => ?_)
      refine with_tabW f23_tab1 f23_bits1 (fun HT_ HW_ => ?_)
      generalize V.drew = wd at HY hHeld ⊢
      refine tk_ HT_ HW_ 0 (some 9) hHeld ?_
      refine tk_ HT_ HW_ 1 (some 10) hHeld ?_
      refine cl_ HT_ 2 (some 11) Try.func74 (un8 (laminaref16_foreign.calls a0 a1 _ _ _ _ _ _ _ _ _ _ _ _ _ v.f0 v.f1 v.f2 false _) (HK.out _ HY.out) HFB.out) HY HSX (fun w9 HY hHeld => ?_)
      refine pu_ HT_ 3 (some 12) ?_
      refine tk_ HT_ HW_ 4 (some 13) hHeld ?_
      refine pu_ HT_ 5 (some 14) ?_
      refine tk_ HT_ HW_ 6 (some 15) hHeld ?_
      refine tk_ HT_ HW_ 7 (some 16) hHeld ?_
      refine tk_ HT_ HW_ 8 (some 17) hHeld ?_
      refine cl_ HT_ 9 (some 18) Try.func32 (rcV_calls v x cx HCX.out _) HY HSX (fun w9 HY hHeld => ?_)
      refine pu_ HT_ 10 (some 19) ?_
      refine pu_ HT_ 11 (some 20) ?_
      refine pu_ HT_ 12 (some 21) ?_
      refine tk_ HT_ HW_ 13 (some 22) hHeld ?_
      refine pu_ HT_ 14 (some 23) ?_
      refine tk_ HT_ HW_ 15 (some 24) hHeld ?_
      refine pu_ HT_ 16 (some 25) ?_
      refine tk_ HT_ HW_ 17 (some 26) hHeld ?_
      refine pu_ HT_ 18 (some 27) ?_
      refine pu_ HT_ 19 (some 28) ?_
      refine tk_ HT_ HW_ 20 (some 29) hHeld ?_
      refine tk_ HT_ HW_ 21 (some 30) hHeld ?_
      refine cl_ HT_ 22 (some 31) Try.func32 (rcV_calls v y cy HCY.out _) HY HSX (fun w9 HY hHeld => ?_)
      refine pu_ HT_ 23 (some 32) ?_
      refine pu_ HT_ 24 (some 33) ?_
      refine pu_ HT_ 25 (some 34) ?_
      refine pu_ HT_ 26 (some 35) ?_
      refine tk_ HT_ HW_ 27 (some 36) hHeld ?_
      refine pu_ HT_ 28 (some 37) ?_
      refine sk_ HT_ 29 (some 38) ?_
      refine sk_ HT_ 30 (some 39) ?_
      refine sk_ HT_ 31 (some 40) ?_
      refine sk_ HT_ 32 (some 41) ?_
      refine pu_ HT_ 33 (some 42) ?_
      refine pu_ HT_ 34 (some 43) ?_
      refine done_ (done_of HT_.out (by kernel_rfl)) ?_
      clear HT_ HW_ hHeld
      (try go_wp2)
      go_meet
      case rel => exact ⟨rfl, HY⟩
  case rest =>
    obtain ⟨rfl, HYb⟩ := hcut
    clear HHB hd0 hd1 hwn hfn hfn2 hfn3 HCX HCY HSX HY HFB
    have HY := HYb
    clear HYb
    go_upto_block 0 with (fail)
    go_cut [5] (fun v5 wd => v5 = .int .i64 low ∧ Aside0 (Below V.heap.size V wd))
    case first =>
      clear Hup Hlo HHI HR4
      go_wp2
      go_loopg [5, 6] l5.length (fun kq v5 v6 w' => ∃ (i : Nat) (c : Int), v6 = .int .i64 i ∧ v5 = .int .i64 c ∧ i ≤ l5.length ∧ Aside0 (kq + i = l5.length) ∧ Aside0 (leastR l5 l6 v kq i c = some low) ∧ Aside0 (Below V.heap.size V w'))
      case atStart => exact ⟨0, _, rfl, rfl, Nat.zero_le _, ⟨rfl⟩, HLOW, HY⟩
      case round =>
        clear HLOW HY
        obtain ⟨i, c, rfl, rfl, hi, HK2, HLO, HY⟩ := hrel
        obtain ⟨t0, t1, t2, t3, t4, t5, t6, t7, t8, t9, _⟩ := HS.out wr HY.out
        by_cases hr : i < l5.length
        · cases gk with
          | zero => exact absurd HK2.out (by omega)
          | succ k2 =>
            have hld := HLO.out
            unfold leastR at hld
            obtain ⟨be, hbe⟩ : ∃ b, (rcV (rd_T39 l5 (i : Int)) v == 0) = b := ⟨_, rfl⟩
            rw [hbe] at hld
            have HLD := Aside0.mk hld
            clear hld HLO
            obtain ⟨ad1, e1, hy0, hy1, hy2⟩ := at_T39 HR5.out (i : Int) (by omega) (by omega)
            obtain rfl := Option.some.inj e1
            clear e1
            rw [Int.toNat_natCast] at hy0 hy1 hy2
            obtain ⟨y, hyy⟩ : ∃ x, rd_T39 l5 (i : Int) = x := ⟨_, rfl⟩
            rw [hyy] at hy0 hy1 hy2 hbe
            have HBE := Aside0.mk hbe
            have HSY : Aside0 (∀ W, Below V.heap.size V W → sk7 g2 a0 a1 A2 c2 l2 b3 A4 c4 l4 (some ad) c5 l5 A6 c6 l6 W (v3 g3 v W (W.cell? (ad.add (i * 3)) = some (.int .i64 y.f0) ∧ W.cell? ⟨(ad.add (i * 3)).block, (ad.add (i * 3)).off + 1, none⟩ = some (.int .i64 y.f1) ∧ W.cell? ⟨(ad.add (i * 3)).block, (ad.add (i * 3)).off + 2, none⟩ = some (.string y.f2)))) := ⟨fun W hb => by
              obtain ⟨t0, t1, t2, t3, t4, t5, t6, t7, t8, t9, _⟩ := HS.out W hb
              have hbw := HBV.out.trans (hb.mono (below_size HBV.out))
              exact ⟨t0, t1, t2, t3, t4, t5, t6, t7, t8, t9, up_ hbw hy0, up_ hbw hy1, up_ hbw hy2⟩⟩
            have hid : decide ((i : Int) < l5.length) = true := decide_eq_true (by omega)
            have hid2 : decide ((l5.length : Int) ≤ i) = false := decide_eq_false (by omega)
            clear hy0 hy1 hy2 hyy hbe
            go_upto_region 7 with (fail)
            clear t0 t1 t2 t3 t4 t5 t6 t7 t8 t9
            replace HY := Aside0.mk (below_drew1 HY.out)
            refine start_ (n := 7) (S := fun W => sk7 g2 a0 a1 A2 c2 l2 b3 A4 c4 l4 (some ad) c5 l5 A6 c6 l6 W (v3 g3 v W (W.cell? (ad.add (i * 3)) = some (.int .i64 y.f0) ∧ W.cell? ⟨(ad.add (i * 3)).block, (ad.add (i * 3)).off + 1, none⟩ = some (.int .i64 y.f1) ∧ W.cell? ⟨(ad.add (i * 3)).block, (ad.add (i * 3)).off + 2, none⟩ = some (.string y.f2)))) (ds := []) #[false, false, false, false, false, false, false] (by kernel_rfl) rfl rfl (HSY.out _ HY.out) (fun hHeld => ?_)
            refine with_tabW f23_tab7 f23_bits7 (fun HT_ HW_ => ?_)
            generalize wr.drew = wd at HY hHeld ⊢
            refine pu_ HT_ 0 (some 52) ?_
            refine tk_ HT_ HW_ 1 (some 53) hHeld ?_
            refine pu_ HT_ 2 (some 54) ?_
            refine tk_ HT_ HW_ 3 (some 55) hHeld ?_
            refine tk_ HT_ HW_ 4 (some 56) hHeld ?_
            refine tk_ HT_ HW_ 5 (some 57) hHeld ?_
            refine cl_ HT_ 6 (some 58) Try.func65 (eqR_calls y v be HBE.out _) HY HSY (fun w9 HY hHeld => ?_)
            refine done_ (done_of HT_.out (by kernel_rfl)) ?_
            clear HT_ HW_ hHeld
            have hwi : IntKind.i64.wrap ((i : Int) + 1) = ((i + 1 : Nat) : Int) := by rw [i64_w]; unfold wrap64; omega
            cases be with
            | false =>
              go_wp2
              go_roundg k2
              case measure => omega
              case rel => exact ⟨i + 1, c, int_eq (by omega), rfl, by omega, ⟨by have := HK2.out; omega⟩, ⟨by have h_ := HLD.out; rwa [if_neg (by decide)] at h_⟩, HY⟩
            | true =>
              have hlw := HLD.out
              rw [if_pos rfl] at hlw
              by_cases h6 : 2 * i + 1 < l6.length
              · rw [if_pos h6] at hlw
                have HLV := Aside0.mk hlw
                clear hlw HLD HSY hid hid2
                obtain ⟨m0, hm0⟩ : ∃ m : Nat, 2 * i = m := ⟨_, rfl⟩
                obtain ⟨m1, hm1⟩ : ∃ m : Nat, 2 * i + 1 = m := ⟨_, rfl⟩
                rw [hm1, hm0] at HLV
                obtain ⟨ad6, rfl, hx0⟩ := Kd.at_int HR6.out (m1 : Int) (by omega) (by omega)
                obtain ⟨ad7, e7, hy0⟩ := Kd.at_int HR6.out (m0 : Int) (by omega) (by omega)
                obtain rfl := Option.some.inj e7
                clear e7
                rw [Int.toNat_natCast] at hx0 hy0
                obtain ⟨xx, hx⟩ : ∃ x, rd l6 (m1 : Int) = x := ⟨_, rfl⟩
                obtain ⟨yy, hy⟩ : ∃ x, rd l6 (m0 : Int) = x := ⟨_, rfl⟩
                rw [hx] at hx0 HLV
                rw [hy] at hy0 HLV
                clear hx hy
                obtain ⟨dd, hdd⟩ : ∃ z, wrap64 (xx - yy) = z := ⟨_, rfl⟩
                rw [hdd] at HLV
                have hw2a : IntKind.i64.wrap (2 * (i : Int)) = (m0 : Int) := by rw [i64_w]; unfold wrap64; omega
                have hw2b : IntKind.i64.wrap ((m0 : Int) + 1) = (m1 : Int) := by rw [i64_w]; unfold wrap64; omega
                have hw2c : wrap64 (2 * (i : Int)) = (m0 : Int) := by unfold wrap64; omega
                have hw2d : wrap64 ((m0 : Int) + 1) = (m1 : Int) := by unfold wrap64; omega
                have hdA : decide ((m0 : Int) < l6.length) = true := decide_eq_true (by omega)
                have hdB : decide ((m1 : Int) < l6.length) = true := decide_eq_true (by omega)
                have hdC : m0 < l6.length := by omega
                have hdD : m1 < l6.length := by omega
                clear hm0 hm1 h6
                have HSZ : Aside0 (∀ W, Below V.heap.size V W → sk7 g2 a0 a1 A2 c2 l2 b3 A4 c4 l4 (some ad) c5 l5 (some ad6) c6 l6 W (v3 g3 v W (W.cell? (ad6.add m1) = some (.int .i64 xx) ∧ W.cell? (ad6.add m0) = some (.int .i64 yy)))) := ⟨fun W hb => by
                  obtain ⟨t0, t1, t2, t3, t4, t5, t6, t7, t8, t9, _⟩ := HS.out W hb
                  have hbw := HBV.out.trans (hb.mono (below_size HBV.out))
                  exact ⟨t0, t1, t2, t3, t4, t5, t6, t7, t8, t9, up_ hbw hx0, up_ hbw hy0⟩⟩
                clear hx0 hy0
                go_upto_region 8 with (fail)
                replace HY := Aside0.mk (below_drew1 HY.out)
                refine start_ (n := 16) (S := fun W => sk7 g2 a0 a1 A2 c2 l2 b3 A4 c4 l4 (some ad) c5 l5 (some ad6) c6 l6 W (v3 g3 v W (W.cell? (ad6.add m1) = some (.int .i64 xx) ∧ W.cell? (ad6.add m0) = some (.int .i64 yy)))) (ds := []) #[false, false, false, false, false, false, false, false, false, false, false, false, false, false, false, false] (by kernel_rfl) rfl rfl (HSZ.out _ HY.out) (fun hHeld => ?_)
                refine with_tabW f23_tab8 f23_bits8 (fun HT_ HW_ => ?_)
                generalize w9.drew = wd2 at HY hHeld ⊢
                refine pu_ HT_ 0 (some 59) ?_
                refine tk_ HT_ HW_ 1 (some 60) hHeld ?_
                refine pu_ HT_ 2 (some 61) ?_
                refine pu_ HT_ 3 (some 62) ?_
                refine pu_ HT_ 4 (some 63) ?_
                refine tk_ HT_ HW_ 5 (some 64) hHeld ?_
                refine tk_ HT_ HW_ 6 (some 65) hHeld ?_
                refine pu_ HT_ 7 (some 66) ?_
                refine tk_ HT_ HW_ 8 (some 67) hHeld ?_
                refine pu_ HT_ 9 (some 68) ?_
                refine pu_ HT_ 10 (some 69) ?_
                refine tk_ HT_ HW_ 11 (some 70) hHeld ?_
                refine tk_ HT_ HW_ 12 (some 71) hHeld ?_
                refine pu_ HT_ 13 (some 72) ?_
                refine pu_ HT_ 14 (some 73) ?_
                refine pu_ HT_ 15 (some 5) ?_
                refine done_ (done_of HT_.out (by kernel_rfl)) ?_
                clear HT_ HW_ hHeld
                go_wp2
                all_goals (go_roundg k2; (case measure => omega); (case rel => exact ⟨i + 1, mx 0 dd, int_eq (by omega), by unfold mx; split <;> first | rfl | (exfalso; omega), by omega, ⟨by have := HK2.out; omega⟩, HLV, HY⟩))
              · rw [if_neg h6] at hlw
                exact absurd hlw (by simp)
        · obtain rfl : i = l5.length := by omega
          cases gk with
          | succ k2 => exact absurd HK2.out (by omega)
          | zero =>
            obtain rfl : c = low := Option.some.inj HLO.out
            have hid : decide ((l5.length : Int) < l5.length) = false := decide_eq_false (by omega)
            go_wp2
            go_meet
            case rel => exact ⟨rfl, HY⟩
    case rest =>
      clear HY
      obtain ⟨rfl, HY⟩ := hcut
      clear HLOW HR6
      go_upto_region 9 with (fail)
      replace HY := Aside0.mk (below_drew1 HY.out)
      refine start_ (n := 8) (S := fun W => sk7 g2 a0 a1 A2 c2 l2 b3 A4 c4 l4 (some ad) c5 l5 A6 c6 l6 W (v3 g3 v W (True))) (ds := []) #[false, false, false, false, false, false, false, false] (by kernel_rfl) rfl rfl (HS.out _ HY.out) (fun hHeld => ?_)
      refine with_tabW f23_tab9 f23_bits9 (fun HT_ HW_ => ?_)
      generalize wc.drew = wd at HY hHeld ⊢
      refine tk_ HT_ HW_ 0 (some 74) hHeld ?_
      refine tk_ HT_ HW_ 1 (some 75) hHeld ?_
      refine tk_ HT_ HW_ 3 (some 77) hHeld ?_
      refine tk_ HT_ HW_ 4 (some 78) hHeld ?_
      refine cl_ HT_ 2 (some 76) Try.func77 (un8 (laminaref16_LessMax.calls k a0 a1 _ _ _ _ _ _ _ _ _ _ _ _ _ v.f0 v.f1 v.f2 true up _) (HK.out _ HY.out) Hup.out) HY HS (fun w9 HY hHeld => ?_)
      refine cl_ HT_ 5 (some 79) Try.func78 (un8 (laminaref16_LessMin.calls k a0 a1 _ _ _ _ _ _ _ _ _ _ _ _ _ v.f0 v.f1 v.f2 false lo _) (HK.out _ HY.out) Hlo.out) HY HS (fun w9 HY hHeld => ?_)
      refine pu_ HT_ 6 (some 80) ?_
      refine pu_ HT_ 7 (some 7) ?_
      refine done_ (done_of HT_.out (by kernel_rfl)) ?_
      clear HT_ HW_ hHeld
      obtain ⟨hb_, hhb⟩ : ∃ x, wrap64 (up - lo) = x := ⟨_, rfl⟩
      rw [hhb] at HHI ⊢
      clear hhb Hup Hlo
      go_wp2
      go_loopg [7, 8] 4 (fun kq v7 v8 w' => ∃ (r : Nat) (hi : Int), v8 = .int .i64 r ∧ v7 = .int .i64 hi ∧ r ≤ 4 ∧ Aside0 (kq + r = 4) ∧ Aside0 (minsR k v l4 hi r kq = some high) ∧ Aside0 (Below V.heap.size V w'))
      case atStart => exact ⟨0, _, rfl, rfl, by omega, ⟨rfl⟩, HHI, HY⟩
      case round =>
        clear HHI HY
        obtain ⟨r, hi, rfl, rfl, hr4, HK2, HHI, HY⟩ := hrel
        by_cases hr : r < 4
        · cases gk with
          | zero => exact absurd HK2.out (by omega)
          | succ k2 =>
            obtain ⟨cl, hcl, hc0, hcl4, hmn⟩ := minsR_next HHI.out
            obtain ⟨m, rfl⟩ : ∃ m : Nat, cl = (m : Int) := ⟨cl.toNat, by omega⟩
            rw [Int.toNat_natCast] at hcl4
            have HCE := Aside0.mk hcl
            have HMN := Aside0.mk hmn
            clear hcl hmn HHI hc0
            have hrd : decide ((r : Int) < 4) = true := decide_eq_true (by omega)
            have hwr : IntKind.i64.wrap ((r : Int) + 1) = ((r + 1 : Nat) : Int) := by rw [i64_w]; unfold wrap64; omega
            obtain ⟨ad4, rfl, hx0⟩ := Kd.at_int HR4.out (m : Int) (by omega) (by omega)
            rw [Int.toNat_natCast] at hx0
            obtain ⟨xx, hx⟩ : ∃ x, rd l4 (m : Int) = x := ⟨_, rfl⟩
            rw [hx] at hx0 HMN
            have hdA : decide ((m : Int) < l4.length) = true := decide_eq_true (by omega)
            clear hx
            have HSW : Aside0 (∀ W, Below V.heap.size V W → sk7 g2 a0 a1 A2 c2 l2 b3 (some ad4) c4 l4 (some ad) c5 l5 A6 c6 l6 W (v3 g3 v W (W.cell? (ad4.add m) = some (.int .i64 xx)))) := ⟨fun W hb => by
              obtain ⟨t0, t1, t2, t3, t4, t5, t6, t7, t8, t9, _⟩ := HS.out W hb
              exact ⟨t0, t1, t2, t3, t4, t5, t6, t7, t8, t9, up_ (HBV.out.trans (hb.mono (below_size HBV.out))) hx0⟩⟩
            clear hx0
            go_upto_region 13 with (fail)
            replace HY := Aside0.mk (below_drew1 HY.out)
            refine start_ (n := 10) (S := fun W => sk7 g2 a0 a1 A2 c2 l2 b3 (some ad4) c4 l4 (some ad) c5 l5 A6 c6 l6 W (v3 g3 v W (W.cell? (ad4.add m) = some (.int .i64 xx)))) (ds := []) #[false, false, false, false, false, false, false, false, false, false] (by kernel_rfl) rfl rfl (HSW.out _ HY.out) (fun hHeld => ?_)
            refine with_tabW f23_tab13 f23_bits13 (fun HT_ HW_ => ?_)
            generalize wr.drew = wd at HY hHeld ⊢
            refine pu_ HT_ 0 (some 85) ?_
            refine pu_ HT_ 1 (some 86) ?_
            refine tk_ HT_ HW_ 2 (some 87) hHeld ?_
            refine pu_ HT_ 3 (some 88) ?_
            refine tk_ HT_ HW_ 4 (some 89) hHeld ?_
            refine cl_ HT_ 5 (some 90) Try.func63 (laminaref16_Cell.calls k (r : Int) v.f0 v.f1 v.f2 (m : Int) _ HCE.out) HY HSW (fun w9 HY hHeld => ?_)
            refine tk_ HT_ HW_ 6 (some 91) hHeld ?_
            refine tk_ HT_ HW_ 7 (some 92) hHeld ?_
            refine pu_ HT_ 8 (some 93) ?_
            refine pu_ HT_ 9 (some 7) ?_
            refine done_ (done_of HT_.out (by kernel_rfl)) ?_
            clear HT_ HW_ hHeld
            go_wp2
            all_goals (go_roundg k2; (case measure => omega); (case rel => exact ⟨r + 1, mn hi xx, int_eq (by omega), by unfold mn; split <;> first | rfl | (exfalso; omega), by omega, ⟨by have := HK2.out; omega⟩, HMN, HY⟩))
        · obtain rfl : r = 4 := by omega
          cases gk with
          | succ k2 => exact absurd HK2.out (by omega)
          | zero =>
            obtain rfl : hi = high := Option.some.inj HHI.out
            have hrd : decide ((4 : Int) < 4) = false := rfl
            go_wp2_with (go_at_call 76; refine (laminaref16_span.calls low hi low hi _ rfl).mono ?_; rintro e w10 ⟨rfl, hb⟩; replace HY := Aside0.mk (HY.out.trans (hb.mono HY.out.size)); clear hb; have B4 := blk_below BK4.out HY.out; obtain ⟨e0, e1, z0, z1⟩ := bf2 B4)
            refine ret2_ (p := fun W => bodyPost _ _ _ _ _ W) B4 (HBV.out.trans (HY.out.mono (below_size HBV.out))) hg4 (.int .i64 low) (.int .i64 hi) (fun W d0 d1 rB => ?_)
            exact bodyPost_ret (v := .agg #[.int .i64 low, .int .i64 hi]) (by simp [results, Try.results23, go_sem, d0, d1]) rfl ⟨rfl, rB⟩
theorem laminaref16_CountEqual.calls (k : Nat) (a0_0 : Int) (a0_1 : Int) (A0_2 : Option Addr) (c0_2 : Nat) (l0_2 : List Int) (a0_3 : Bool) (A0_4 : Option Addr) (c0_4 : Nat) (l0_4 : List Int) (A0_5 : Option Addr) (c0_5 : Nat) (l0_5 : List (S39)) (A0_6 : Option Addr) (c0_6 : Nat) (l0_6 : List Int) (a1_0 : Int) (a1_1 : Int) (a1_2 : ByteArray) (r1 : Int) (r2 : Int) (w : World) (hr0_2 : Kd.C (Kd.int .u64) w A0_2 l0_2.length l0_2) (hc0_2 : l0_2.length ≤ c0_2) (hr0_4 : Kd.C (Kd.int .i64) w A0_4 l0_4.length l0_4) (hc0_4 : l0_4.length ≤ c0_4) (hr0_5 : Kd.C k39 w A0_5 l0_5.length l0_5) (hc0_5 : l0_5.length ≤ c0_5) (hr0_6 : Kd.C (Kd.int .i64) w A0_6 l0_6.length l0_6) (hc0_6 : l0_6.length ≤ c0_6) (h : laminaref16_CountEqual.f k a0_0 a0_1 l0_2 a0_3 l0_4 l0_5 l0_6 a1_0 a1_1 a1_2 = some (r1, r2)) :
    Calls Try.prog 23 #[.agg #[.int .i64 a0_0, .int .i64 a0_1, .slice A0_2 l0_2.length c0_2, .bool a0_3, .slice A0_4 l0_4.length c0_4, .slice A0_5 l0_5.length c0_5, .slice A0_6 l0_6.length c0_6], .agg #[.int .i64 a1_0, .int .i64 a1_1, .string a1_2]] w fun e w' => e = .returned (.agg #[.int .i64 r1, .int .i64 r2]) ∧ Below w.heap.size w w' :=
  laminaref16_CountEqual.calls0 k a0_0 a0_1 A0_2 c0_2 l0_2 a0_3 A0_4 c0_4 l0_4 A0_5 c0_5 l0_5 A0_6 c0_6 l0_6 ⟨a1_0, a1_1, a1_2⟩ r1 r2 w hr0_2 hc0_2 hr0_4 hc0_4 hr0_5 hc0_5 hr0_6 hc0_6 h
end Go.Proofs.Ytackcingpffidaa.P
namespace Go.Proofs.Ytackcingpffidaa.P
open Go.RowKit Go.Proofs.YtackcingpffidaaW.PrintWords Go.Proofs.YtackcingpffidaaW.PrintLast Go.Proofs.YtackcingpffidaaW.PrintMore
set_option linter.unusedVariables false
set_option linter.unusedSimpArgs false
def f72_T5 : Bool × List (List Nat × List Nat) := (true, [([], []), ([], []), ([], []), ([1, 2], [1, 2]), ([3], [3]), ([], []), ([0, 4, 5], [0, 4, 5]), ([6], [6])])
def f72_B5 : List Nat := [0, 0, 0, 6, 14, 0, 63, 127]
set_option maxRecDepth 100000 in
theorem f72_tab5 : rtab .any (opsOf Try.f72 5) = f72_T5 := by kernel_rfl
theorem f72_bits5 : waitsOk f72_T5.2 f72_B5 = true := by kernel_rfl
def f72_T8 : Bool × List (List Nat × List Nat) := (true, [([], []), ([], []), ([], []), ([1, 2], [1, 2]), ([3], [3]), ([4], [4]), ([4], [4]), ([4], [4]), ([6, 7, 4], [4, 6, 7]), ([8, 4], [4, 8]), ([4], [4]), ([5, 9, 10, 4, 4], [4, 5, 9, 10]), ([11, 4], [4, 11]), ([4, 12], [4, 12]), ([0, 11, 0], [0]), ([13, 14, 0, 1, 2, 3, 4, 5, 6, 7, 8, 9, 10, 11, 12, 13, 14], [13])])
def f72_B8 : List Nat := [0, 0, 0, 6, 14, 30, 30, 30, 222, 478, 30, 2046, 4094, 8190, 4095, 32767]
set_option maxRecDepth 100000 in
theorem f72_tab8 : rtab .any (opsOf Try.f72 8) = f72_T8 := by kernel_rfl
theorem f72_bits8 : waitsOk f72_T8.2 f72_B8 = true := by kernel_rfl
set_option maxHeartbeats 4000000 in
set_option maxRecDepth 100000 in
theorem f72_calls (A : Option Addr) (c : Nat) (l : List S39) (s : S39) (w : World) (hr : Kd.C k39 w A l.length l) (hc : l.length ≤ c) (hlen : l.length ≤ 1000) (p : Nat) (hp : p ≤ l.length) (hlt : ∀ i : Nat, i < l.length → (i < p ↔ cV (rd_T39 l i) s < 0)) :
    Calls Try.prog 72 #[.slice A l.length c, .agg #[.int .i64 s.f0, .int .i64 s.f1, .string s.f2], .func (.func 53) #[] #[]] w fun e w' => e = .returned (.tuple #[.int .i64 p, .bool (decide (p < l.length) && cV (rd_T39 l p) s == 0)]) ∧ Below w.heap.size w w' := by
  have HR := Aside0.mk hr
  have HLT := Aside0.mk hlt
  clear hr hlt
  go_enter Try.func72, Try.ntmps72
  go_wp2_with ((with_reducible refine gate_dst (N := 4) rfl ?_); refine box_ 4 (cs := #[.int .i64 s.f0, .int .i64 s.f1, .string s.f2]) (t := 39) ?_; intro gb hg_ w1 hbox hb; have BK := Aside0.mk hbox; have HB := Aside0.mk hb; have hgb : w.heap.size ≤ gb := Nat.le_of_eq hg_.symm; clear hb hbox hg_)
  go_loopg [9, 10] l.length (fun kq v9 v10 w' => ∃ i j : Nat, v9 = .int .i64 i ∧ v10 = .int .i64 j ∧ i ≤ p ∧ p ≤ j ∧ j ≤ l.length ∧ Aside0 (j ≤ kq + i) ∧ Aside0 (w'.heap[gb]? = some (.cells #[.int .i64 s.f0, .int .i64 s.f1, .string s.f2] 39 (0, 0))) ∧ Aside0 (Below w.heap.size w w'))
  case atStart => exact ⟨0, l.length, rfl, rfl, Nat.zero_le _, hp, Nat.le_refl _, ⟨by omega⟩, BK, HB⟩
  case round =>
    clear BK HB
    obtain ⟨i, j, rfl, rfl, h1, h2, h3, HM, BK, HB⟩ := hrel
    by_cases hij : i < j
    · cases gk with
      | zero => exact absurd HM.out (by omega)
      | succ k1 =>
        have hm0 : (0 : Int) ≤ ((i : Int) + j) / 2 := by omega
        have hm1 : ((i : Int) + j) / 2 < l.length := by omega
        obtain ⟨ad, rfl, hx0, hx1, hx2⟩ := at_T39 HR.out (((i : Int) + j) / 2) hm0 hm1
        obtain ⟨x, hxx⟩ : ∃ x, rd_T39 l (((i : Int) + j) / 2) = x := ⟨_, rfl⟩
        have hz := HLT.out (((i : Int) + j) / 2).toNat (by omega)
        rw [Int.toNat_of_nonneg hm0, hxx] at hz
        rw [hxx] at hx0 hx1 hx2
        obtain ⟨cc, hcc⟩ : ∃ c, cV x s = c := ⟨_, rfl⟩
        rw [hcc] at hz
        have HCC := Aside0.mk hcc
        clear hxx hcc
        by_cases hcm : cc < 0
        · have hd : decide (cc < 0) = true := decide_eq_true hcm
          have hz := hz.2 hcm
          have HS : Aside0 (∀ W, Below w.heap.size w W → W.heap[gb]? = some (.cells #[.int .i64 s.f0, .int .i64 s.f1, .string s.f2] 39 (0, 0)) → (W.cell? (ad.add ((((i : Int) + j) / 2).toNat * 3)) = some (.int .i64 x.f0) ∧ W.cell? ⟨(ad.add ((((i : Int) + j) / 2).toNat * 3)).block, (ad.add ((((i : Int) + j) / 2).toNat * 3)).off + 1, none⟩ = some (.int .i64 x.f1) ∧ W.cell? ⟨(ad.add ((((i : Int) + j) / 2).toNat * 3)).block, (ad.add ((((i : Int) + j) / 2).toNat * 3)).off + 2, none⟩ = some (.string x.f2) ∧ W.cell? ⟨gb, 0, none⟩ = some (.int .i64 s.f0) ∧ W.cell? ⟨gb, 1, none⟩ = some (.int .i64 s.f1) ∧ W.cell? ⟨gb, 2, none⟩ = some (.string s.f2))) := ⟨fun W hB_ hG_ => ⟨(hB_.cell (World.block_lt_of_cell? w _ hx0)).trans hx0, (hB_.cell (World.block_lt_of_cell? w _ hx1)).trans hx1, (hB_.cell (World.block_lt_of_cell? w _ hx2)).trans hx2, (blk_cell hG_ 0).trans rfl, (blk_cell hG_ 1).trans rfl, (blk_cell hG_ 2).trans rfl⟩⟩
          clear hx0 hx1 hx2
          have HBd := Aside0.mk (below_drew1 HB.out)
          have BKd := Aside0.mk (blk_drew BK.out)
          go_upto_region 5 with (fail)
          refine start_ (n := 8) (S := fun w' => w'.cell? (ad.add ((((i : Int) + j) / 2).toNat * 3)) = some (.int .i64 x.f0) ∧ w'.cell? ⟨(ad.add ((((i : Int) + j) / 2).toNat * 3)).block, (ad.add ((((i : Int) + j) / 2).toNat * 3)).off + 1, none⟩ = some (.int .i64 x.f1) ∧ w'.cell? ⟨(ad.add ((((i : Int) + j) / 2).toNat * 3)).block, (ad.add ((((i : Int) + j) / 2).toNat * 3)).off + 2, none⟩ = some (.string x.f2) ∧ w'.cell? ⟨gb, 0, none⟩ = some (.int .i64 s.f0) ∧ w'.cell? ⟨gb, 1, none⟩ = some (.int .i64 s.f1) ∧ w'.cell? ⟨gb, 2, none⟩ = some (.string s.f2)) (ds := []) #[false, false, false, false, false, false, false, false] (by kernel_rfl) rfl rfl (HS.out _ HBd.out BKd.out) (fun hHeld => ?_)
          refine with_tabW f72_tab5 f72_bits5 (fun HT_ HW_ => ?_)
          generalize wr.drew = wd at HBd BKd hHeld ⊢
          refine pu_ HT_ 0 (some 24) ?_
          refine pu_ HT_ 1 (some 25) ?_
          refine pu_ HT_ 2 (some 26) ?_
          refine tk_ HT_ HW_ 3 (some 27) hHeld ?_
          refine tk_ HT_ HW_ 4 (some 28) hHeld ?_
          refine tk_ HT_ HW_ 5 (some 29) hHeld ?_
          refine on_ HT_ 6 (some 30) (fun K hK => ?_)
          refine call_ 53 #[.agg #[.int .i64 x.f0, .int .i64 x.f1, .string x.f2], .agg #[.int .i64 s.f0, .int .i64 s.f1, .string s.f2]] (by kernel_rfl) rfl (by go_simp; first | done | rfl) ?_
          refine (cV_calls x s cc HCC.out _).mono ?_
          rintro e w2 ⟨rfl, hb⟩
          refine ⟨_, rfl, ?_⟩
          have HB2 := Aside0.mk (HBd.out.trans (hb.mono (below_size HBd.out)))
          have BK2 := Aside0.mk (blk_below BKd.out hb)
          clear hb
          refine hK.out _ _ (HS.out _ HB2.out BK2.out) (fun hHeld => ?_)
          clear hK K
          refine nm_ (some 30) ?_
          refine pu_ HT_ 7 (some 31) ?_
          refine done_ (done_of HT_.out (by kernel_rfl)) ?_
          clear HT_ HW_ hHeld
          go_wp2
          go_roundg k1
          case measure => omega
          case rel => exact ⟨(((i : Int) + j) / 2).toNat + 1, j, int_eq (by omega), rfl, by omega, h2, h3, ⟨by have := HM.out; omega⟩, BK2, HB2⟩
        · have hd : decide (cc < 0) = false := decide_eq_false hcm
          have hz : ¬ (((i : Int) + j) / 2).toNat < p := fun h => hcm (hz.1 h)
          have HS : Aside0 (∀ W, Below w.heap.size w W → W.heap[gb]? = some (.cells #[.int .i64 s.f0, .int .i64 s.f1, .string s.f2] 39 (0, 0)) → (W.cell? (ad.add ((((i : Int) + j) / 2).toNat * 3)) = some (.int .i64 x.f0) ∧ W.cell? ⟨(ad.add ((((i : Int) + j) / 2).toNat * 3)).block, (ad.add ((((i : Int) + j) / 2).toNat * 3)).off + 1, none⟩ = some (.int .i64 x.f1) ∧ W.cell? ⟨(ad.add ((((i : Int) + j) / 2).toNat * 3)).block, (ad.add ((((i : Int) + j) / 2).toNat * 3)).off + 2, none⟩ = some (.string x.f2) ∧ W.cell? ⟨gb, 0, none⟩ = some (.int .i64 s.f0) ∧ W.cell? ⟨gb, 1, none⟩ = some (.int .i64 s.f1) ∧ W.cell? ⟨gb, 2, none⟩ = some (.string s.f2))) := ⟨fun W hB_ hG_ => ⟨(hB_.cell (World.block_lt_of_cell? w _ hx0)).trans hx0, (hB_.cell (World.block_lt_of_cell? w _ hx1)).trans hx1, (hB_.cell (World.block_lt_of_cell? w _ hx2)).trans hx2, (blk_cell hG_ 0).trans rfl, (blk_cell hG_ 1).trans rfl, (blk_cell hG_ 2).trans rfl⟩⟩
          clear hx0 hx1 hx2
          have HBd := Aside0.mk (below_drew1 HB.out)
          have BKd := Aside0.mk (blk_drew BK.out)
          go_upto_region 5 with (fail)
          refine start_ (n := 8) (S := fun w' => w'.cell? (ad.add ((((i : Int) + j) / 2).toNat * 3)) = some (.int .i64 x.f0) ∧ w'.cell? ⟨(ad.add ((((i : Int) + j) / 2).toNat * 3)).block, (ad.add ((((i : Int) + j) / 2).toNat * 3)).off + 1, none⟩ = some (.int .i64 x.f1) ∧ w'.cell? ⟨(ad.add ((((i : Int) + j) / 2).toNat * 3)).block, (ad.add ((((i : Int) + j) / 2).toNat * 3)).off + 2, none⟩ = some (.string x.f2) ∧ w'.cell? ⟨gb, 0, none⟩ = some (.int .i64 s.f0) ∧ w'.cell? ⟨gb, 1, none⟩ = some (.int .i64 s.f1) ∧ w'.cell? ⟨gb, 2, none⟩ = some (.string s.f2)) (ds := []) #[false, false, false, false, false, false, false, false] (by kernel_rfl) rfl rfl (HS.out _ HBd.out BKd.out) (fun hHeld => ?_)
          refine with_tabW f72_tab5 f72_bits5 (fun HT_ HW_ => ?_)
          generalize wr.drew = wd at HBd BKd hHeld ⊢
          refine pu_ HT_ 0 (some 24) ?_
          refine pu_ HT_ 1 (some 25) ?_
          refine pu_ HT_ 2 (some 26) ?_
          refine tk_ HT_ HW_ 3 (some 27) hHeld ?_
          refine tk_ HT_ HW_ 4 (some 28) hHeld ?_
          refine tk_ HT_ HW_ 5 (some 29) hHeld ?_
          refine on_ HT_ 6 (some 30) (fun K hK => ?_)
          refine call_ 53 #[.agg #[.int .i64 x.f0, .int .i64 x.f1, .string x.f2], .agg #[.int .i64 s.f0, .int .i64 s.f1, .string s.f2]] (by kernel_rfl) rfl (by go_simp; first | done | rfl) ?_
          refine (cV_calls x s cc HCC.out _).mono ?_
          rintro e w2 ⟨rfl, hb⟩
          refine ⟨_, rfl, ?_⟩
          have HB2 := Aside0.mk (HBd.out.trans (hb.mono (below_size HBd.out)))
          have BK2 := Aside0.mk (blk_below BKd.out hb)
          clear hb
          refine hK.out _ _ (HS.out _ HB2.out BK2.out) (fun hHeld => ?_)
          clear hK K
          refine nm_ (some 30) ?_
          refine pu_ HT_ 7 (some 31) ?_
          refine done_ (done_of HT_.out (by kernel_rfl)) ?_
          clear HT_ HW_ hHeld
          go_wp2
          go_roundg k1
          case measure => omega
          case rel => exact ⟨i, (((i : Int) + j) / 2).toNat, rfl, int_eq (by omega), h1, by omega, by omega, ⟨by have := HM.out; omega⟩, BK2, HB2⟩
    · obtain rfl : i = p := by omega
      by_cases hpl : i < l.length
      · obtain ⟨ad, rfl, hx0, hx1, hx2⟩ := at_T39 HR.out (i : Int) (by omega) (by omega)
        rw [Int.toNat_natCast] at hx0 hx1 hx2
        obtain ⟨x, hxx⟩ : ∃ x, rd_T39 l (i : Int) = x := ⟨_, rfl⟩
        rw [hxx] at hx0 hx1 hx2
        obtain ⟨cc, hcc⟩ : ∃ c, cV x s = c := ⟨_, rfl⟩
        have HXX := Aside0.mk hxx
        have hil : i < l.length := hpl
        have HCC := Aside0.mk hcc
        clear hxx hcc
        have HS : Aside0 (∀ W, Below w.heap.size w W → W.heap[gb]? = some (.cells #[.int .i64 s.f0, .int .i64 s.f1, .string s.f2] 39 (0, 0)) → (W.cell? (ad.add (i * 3)) = some (.int .i64 x.f0) ∧ W.cell? ⟨(ad.add (i * 3)).block, (ad.add (i * 3)).off + 1, none⟩ = some (.int .i64 x.f1) ∧ W.cell? ⟨(ad.add (i * 3)).block, (ad.add (i * 3)).off + 2, none⟩ = some (.string x.f2) ∧ W.cell? ⟨gb, 0, none⟩ = some (.int .i64 s.f0) ∧ W.cell? ⟨gb, 1, none⟩ = some (.int .i64 s.f1) ∧ W.cell? ⟨gb, 2, none⟩ = some (.string s.f2))) := ⟨fun W hB_ hG_ => ⟨(hB_.cell (World.block_lt_of_cell? w _ hx0)).trans hx0, (hB_.cell (World.block_lt_of_cell? w _ hx1)).trans hx1, (hB_.cell (World.block_lt_of_cell? w _ hx2)).trans hx2, (blk_cell hG_ 0).trans rfl, (blk_cell hG_ 1).trans rfl, (blk_cell hG_ 2).trans rfl⟩⟩
        clear hx0 hx1 hx2
        have HBd := Aside0.mk (below_drew1 HB.out)
        have BKd := Aside0.mk (blk_drew BK.out)
        go_upto_region 8 with (fail)
        refine start_ (n := 16) (S := fun w' => w'.cell? (ad.add (i * 3)) = some (.int .i64 x.f0) ∧ w'.cell? ⟨(ad.add (i * 3)).block, (ad.add (i * 3)).off + 1, none⟩ = some (.int .i64 x.f1) ∧ w'.cell? ⟨(ad.add (i * 3)).block, (ad.add (i * 3)).off + 2, none⟩ = some (.string x.f2) ∧ w'.cell? ⟨gb, 0, none⟩ = some (.int .i64 s.f0) ∧ w'.cell? ⟨gb, 1, none⟩ = some (.int .i64 s.f1) ∧ w'.cell? ⟨gb, 2, none⟩ = some (.string s.f2)) (ds := []) #[false, false, false, false, false, false, false, false, false, false, false, false, false, false, false, false] (by kernel_rfl) rfl rfl (HS.out _ HBd.out BKd.out) (fun hHeld => ?_)
        refine with_tabW f72_tab8 f72_bits8 (fun HT_ HW_ => ?_)
        generalize wr.drew = wd at HBd BKd hHeld ⊢
        refine pu_ HT_ 0 (some 35) ?_
        refine pu_ HT_ 1 (some 36) ?_
        refine pu_ HT_ 2 (some 37) ?_
        refine pu_ HT_ 3 (some 38) ?_
        refine pu_ HT_ 4 (some 39) ?_
        refine pu_ HT_ 5 (some 40) ?_
        refine pu_ HT_ 6 (some 41) ?_
        refine pu_ HT_ 7 (some 42) ?_
        refine tk_ HT_ HW_ 8 (some 43) hHeld ?_
        refine tk_ HT_ HW_ 9 (some 44) hHeld ?_
        refine tk_ HT_ HW_ 10 (some 45) hHeld ?_
        refine on_ HT_ 11 (some 46) (fun K hK => ?_)
        refine call_ 53 #[.agg #[.int .i64 x.f0, .int .i64 x.f1, .string x.f2], .agg #[.int .i64 s.f0, .int .i64 s.f1, .string s.f2]] (by kernel_rfl) rfl (by go_simp; first | done | rfl) ?_
        refine (cV_calls x s cc HCC.out _).mono ?_
        rintro e w2 ⟨rfl, hb⟩
        refine ⟨_, rfl, ?_⟩
        have HB2 := Aside0.mk (HBd.out.trans (hb.mono (below_size HBd.out)))
        have BK2 := Aside0.mk (blk_below BKd.out hb)
        clear hb
        refine hK.out _ _ (HS.out _ HB2.out BK2.out) (fun hHeld => ?_)
        clear hK K
        refine nm_ (some 46) ?_
        refine pu_ HT_ 12 (some 47) ?_
        refine pu_ HT_ 13 (some 48) ?_
        refine pu_ HT_ 14 (some 6) ?_
        refine pu_ HT_ 15 (some 7) ?_
        refine done_ (done_of HT_.out (by kernel_rfl)) ?_
        clear HT_ HW_ hHeld
        go_wp2
        go_ret2
        exact ⟨by rw [HXX.out, HCC.out]; simp [hpl], HB2.out⟩
      · have hil : ¬ i < l.length := hpl
        have HBd := Aside0.mk (below_drew1 HB.out)
        go_upto_region 8 with (fail)
        refine start_ (n := 16) (S := fun w' => True) (ds := []) #[false, false, false, false, false, false, false, false, false, false, false, false, false, false, false, false] (by kernel_rfl) rfl rfl trivial (fun hHeld => ?_)
        refine with_tabW f72_tab8 f72_bits8 (fun HT_ HW_ => ?_)
        generalize wr.drew = wd at HBd hHeld ⊢
        refine pu_ HT_ 0 (some 35) ?_
        refine pu_ HT_ 1 (some 36) ?_
        refine pu_ HT_ 2 (some 37) ?_
        refine pu_ HT_ 3 (some 38) ?_
        refine pu_ HT_ 4 (some 39) ?_
        refine sk_ HT_ 5 (some 40) ?_
        refine sk_ HT_ 6 (some 41) ?_
        refine sk_ HT_ 7 (some 42) ?_
        refine sk_ HT_ 8 (some 43) ?_
        refine sk_ HT_ 9 (some 44) ?_
        refine sk_ HT_ 10 (some 45) ?_
        refine sk_ HT_ 11 (some 46) ?_
        refine sk_ HT_ 12 (some 47) ?_
        refine pu_ HT_ 13 (some 48) ?_
        refine pu_ HT_ 14 (some 6) ?_
        refine pu_ HT_ 15 (some 7) ?_
        refine done_ (done_of HT_.out (by kernel_rfl)) ?_
        clear HT_ HW_ hHeld
        go_wp2
        go_ret2
        exact ⟨by simp [hpl], HBd.out⟩
end Go.Proofs.Ytackcingpffidaa.P
