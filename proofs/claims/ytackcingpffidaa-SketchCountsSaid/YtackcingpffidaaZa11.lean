/- What Go functions of the given program return, told as Lean functions, and the walks that show it, with plain facts on them: sketch_Valid, laminalaw16_awake, H6, Kinds, V0, V1, V2, V3. Conditions: the hypotheses that stand at each theorem. -/
import Derived.Test.YtackcingpffidaaReads
import Derived.Laws.Bits64
import Derived.Laws.BitsAllLaws
import Derived.Laws.Closers25b
import Derived.Test.YtackcingpffidaaZa0
import Derived.Test.YtackcingpffidaaZa1
import Derived.Test.YtackcingpffidaaZa2
import Derived.Test.YtackcingpffidaaZa3
import Derived.Test.YtackcingpffidaaZa5
import Derived.Test.YtackcingpffidaaZa10
namespace Go.Proofs.Ytackcingpffidaa.P
open Go.RowKit Go.Proofs.YtackcingpffidaaW.PrintWords Go.Proofs.YtackcingpffidaaW.PrintLast Go.Proofs.YtackcingpffidaaW.PrintMore
attribute [local go_sem] max2_int min2_int max_two min_two max_three min_three max_four min_four Go.Proofs.YtackcingpffidaaQ.str_gtr Go.Proofs.YtackcingpffidaaQ.str_leq Go.Proofs.YtackcingpffidaaQ.str_geq   -- for this text's walks alone
set_option linter.unusedVariables false
set_option linter.unusedSimpArgs false
/-! ### sketch_Valid: function 20 -/
mutual
def sketch_Valid.j0 : Nat → Int → Bool → Int → Int → List Int → Bool → List Int → List (S39) → List Int → Option (Bool)
 | 0, _, _, _, _, _, _, _, _, _ => none
 | k + 1, x3, x45, x285000, x285001, x285002, x285003, x285004, x285005, x285006 => if x45 = true then (some false) else (sketch_Valid.l0 k x3 1 x285000 x285001 x285002 x285003 x285004 x285005 x285006)
def sketch_Valid.l0 : Nat → Int → Int → Int → Int → List Int → Bool → List Int → List (S39) → List Int → Option (Bool)
 | 0, _, _, _, _, _, _, _, _, _ => none
 | k + 1, x3, x4, x285000, x285001, x285002, x285003, x285004, x285005, x285006 => if x4 < (x285002.length : Int) then (if 0 ≤ x4 then (if 0 ≤ (wrap64 (x4 - 1)) then (if (wrap64 (x4 - 1)) < (x285002.length : Int) then (if (rd x285002 x4) ≤ (rd x285002 (wrap64 (x4 - 1))) then (some false) else (sketch_Valid.l0 k x3 (wrap64 (x4 + 1)) x285000 x285001 x285002 x285003 x285004 x285005 x285006)) else (none)) else (none)) else (none)) else ((sketch_validCounters.f x285004 x3).bind fun t288 => (if t288 = true then ((sketch_validFences.f x285000 x285001 x285002 x285003 x285004 x285005 x285006 x3).bind fun t289 => (some t289)) else (some false)))
end
def sketch_Valid.f (k : Nat) (a0_0 : Int) (a0_1 : Int) (l0_2 : List Int) (a0_3 : Bool) (l0_4 : List Int) (l0_5 : List (S39)) (l0_6 : List Int) : Option (Bool) := (sketch_count.f a0_0 a0_1 l0_2 a0_3 l0_4 l0_5 l0_6).bind fun t285 => (if a0_1 < 0 then (sketch_Valid.j0 k t285 true a0_0 a0_1 l0_2 a0_3 l0_4 l0_5 l0_6) else (if a0_1 > a0_0 then (sketch_Valid.j0 k t285 true a0_0 a0_1 l0_2 a0_3 l0_4 l0_5 l0_6) else (if (l0_2.length : Int) > (mn t285 32) then (sketch_Valid.j0 k t285 true a0_0 a0_1 l0_2 a0_3 l0_4 l0_5 l0_6) else (if t285 > 0 then (if (l0_2.length : Int) = 0 then (sketch_Valid.j0 k t285 true a0_0 a0_1 l0_2 a0_3 l0_4 l0_5 l0_6) else (if a0_3 = true then (sketch_Valid.j0 k t285 false a0_0 a0_1 l0_2 a0_3 l0_4 l0_5 l0_6) else (sketch_Valid.j0 k t285 (decide ((l0_2.length : Int) < 32)) a0_0 a0_1 l0_2 a0_3 l0_4 l0_5 l0_6))) else (if a0_3 = true then (sketch_Valid.j0 k t285 false a0_0 a0_1 l0_2 a0_3 l0_4 l0_5 l0_6) else (sketch_Valid.j0 k t285 (decide ((l0_2.length : Int) < 32)) a0_0 a0_1 l0_2 a0_3 l0_4 l0_5 l0_6))))))
theorem sketch_Valid.mono_l : ∀ k, (∀ y0 y1 y2 y3 y4 y5 y6 y7 y8, LeO (sketch_Valid.j0 k y0 y1 y2 y3 y4 y5 y6 y7 y8) (sketch_Valid.j0 (k + 1) y0 y1 y2 y3 y4 y5 y6 y7 y8)) ∧ (∀ y0 y1 y2 y3 y4 y5 y6 y7 y8, LeO (sketch_Valid.l0 k y0 y1 y2 y3 y4 y5 y6 y7 y8) (sketch_Valid.l0 (k + 1) y0 y1 y2 y3 y4 y5 y6 y7 y8))
 | 0 => ⟨fun _ _ _ _ _ _ _ _ _ r h => by simp [sketch_Valid.j0] at h, fun _ _ _ _ _ _ _ _ _ r h => by simp [sketch_Valid.l0] at h⟩
 | k + 1 => by
  obtain ⟨ih0, ih1⟩ := sketch_Valid.mono_l k
  refine ⟨?_, ?_⟩
  ·intro y0 y1 y2 y3 y4 y5 y6 y7 y8
   unfold sketch_Valid.j0
   repeat' first
   | (with_reducible exact ih0 _ _ _ _ _ _ _ _ _)
   | (with_reducible exact ih1 _ _ _ _ _ _ _ _ _)
   | (with_reducible exact LeO.refl _)
   | (with_reducible exact LeO.none _)
   | (with_reducible refine LeO.ite ?_ ?_)
   | (with_reducible refine LeO.bind ?_ (fun _ => ?_))
   | exact ih0 _ _ _ _ _ _ _ _ _
   | exact ih1 _ _ _ _ _ _ _ _ _
   | exact LeO.none _
   | refine LeO.ite ?_ ?_
   | refine LeO.bind ?_ (fun _ => ?_)
  ·intro y0 y1 y2 y3 y4 y5 y6 y7 y8
   unfold sketch_Valid.l0
   repeat' first
   | (with_reducible exact ih0 _ _ _ _ _ _ _ _ _)
   | (with_reducible exact ih1 _ _ _ _ _ _ _ _ _)
   | (with_reducible exact LeO.refl _)
   | (with_reducible exact LeO.none _)
   | (with_reducible refine LeO.ite ?_ ?_)
   | (with_reducible refine LeO.bind ?_ (fun _ => ?_))
   | exact ih0 _ _ _ _ _ _ _ _ _
   | exact ih1 _ _ _ _ _ _ _ _ _
   | exact LeO.none _
   | refine LeO.ite ?_ ?_
   | refine LeO.bind ?_ (fun _ => ?_)
theorem sketch_Valid.mono : ∀ a0 a1 a2 a3 a4 a5 a6 k, LeO (sketch_Valid.f k a0 a1 a2 a3 a4 a5 a6) (sketch_Valid.f (k + 1) a0 a1 a2 a3 a4 a5 a6) := by
 intro a0 a1 a2 a3 a4 a5 a6 k
 obtain ⟨ih0, ih1⟩ := sketch_Valid.mono_l k
 unfold sketch_Valid.f
 repeat' first
   | (with_reducible exact ih0 _ _ _ _ _ _ _ _ _)
   | (with_reducible exact ih1 _ _ _ _ _ _ _ _ _)
   | (with_reducible exact LeO.refl _)
   | (with_reducible exact LeO.none _)
   | (with_reducible refine LeO.ite ?_ ?_)
   | (with_reducible refine LeO.bind ?_ (fun _ => ?_))
   | exact ih0 _ _ _ _ _ _ _ _ _
   | exact ih1 _ _ _ _ _ _ _ _ _
   | exact LeO.none _
   | refine LeO.ite ?_ ?_
   | refine LeO.bind ?_ (fun _ => ?_)
set_option maxHeartbeats 8000000 in
set_option maxRecDepth 100000 in
theorem sketch_Valid.calls (k : Nat) (a0_0 : Int) (a0_1 : Int) (A0_2 : Option Addr) (c0_2 : Nat) (l0_2 : List Int) (a0_3 : Bool) (A0_4 : Option Addr) (c0_4 : Nat) (l0_4 : List Int) (A0_5 : Option Addr) (c0_5 : Nat) (l0_5 : List (S39)) (A0_6 : Option Addr) (c0_6 : Nat) (l0_6 : List Int) (r : Bool) (w : World) (hr0_2 : Kd.C (Kd.int .u64) w A0_2 l0_2.length l0_2) (hc0_2 : l0_2.length ≤ c0_2) (hr0_4 : Kd.C (Kd.int .i64) w A0_4 l0_4.length l0_4) (hc0_4 : l0_4.length ≤ c0_4) (hr0_5 : Kd.C k39 w A0_5 l0_5.length l0_5) (hc0_5 : l0_5.length ≤ c0_5) (hr0_6 : Kd.C (Kd.int .i64) w A0_6 l0_6.length l0_6) (hc0_6 : l0_6.length ≤ c0_6) (h : sketch_Valid.f k a0_0 a0_1 l0_2 a0_3 l0_4 l0_5 l0_6 = some r) :
  Calls Try.prog 20 #[.agg #[.int .i64 a0_0, .int .i64 a0_1, .slice A0_2 l0_2.length c0_2, .bool a0_3, .slice A0_4 l0_4.length c0_4, .slice A0_5 l0_5.length c0_5, .slice A0_6 l0_6.length c0_6]] w fun e w' => e = .returned (.bool r) ∧ Below w.heap.size w w' := by
 have hu26 := Try.underlying26
 have HR0_2 := Aside0.mk hr0_2
 have HC0_2 := Aside0.mk hc0_2
 clear hr0_2 hc0_2
 have HR0_4 := Aside0.mk hr0_4
 have HC0_4 := Aside0.mk hc0_4
 clear hr0_4 hc0_4
 have HR0_5 := Aside0.mk hr0_5
 have HC0_5 := Aside0.mk hc0_5
 clear hr0_5 hc0_5
 have HR0_6 := Aside0.mk hr0_6
 have HC0_6 := Aside0.mk hc0_6
 clear hr0_6 hc0_6
 have HB := Aside0.mk (Below.refl w.heap.size w)
 have H : ((sketch_count.f a0_0 a0_1 l0_2 a0_3 l0_4 l0_5 l0_6).bind fun t285 => (if a0_1 < 0 then (sketch_Valid.j0 k t285 true a0_0 a0_1 l0_2 a0_3 l0_4 l0_5 l0_6) else (if a0_1 > a0_0 then (sketch_Valid.j0 k t285 true a0_0 a0_1 l0_2 a0_3 l0_4 l0_5 l0_6) else (if (l0_2.length : Int) > (mn t285 32) then (sketch_Valid.j0 k t285 true a0_0 a0_1 l0_2 a0_3 l0_4 l0_5 l0_6) else (if t285 > 0 then (if (l0_2.length : Int) = 0 then (sketch_Valid.j0 k t285 true a0_0 a0_1 l0_2 a0_3 l0_4 l0_5 l0_6) else (if a0_3 = true then (sketch_Valid.j0 k t285 false a0_0 a0_1 l0_2 a0_3 l0_4 l0_5 l0_6) else (sketch_Valid.j0 k t285 (decide ((l0_2.length : Int) < 32)) a0_0 a0_1 l0_2 a0_3 l0_4 l0_5 l0_6))) else (if a0_3 = true then (sketch_Valid.j0 k t285 false a0_0 a0_1 l0_2 a0_3 l0_4 l0_5 l0_6) else (sketch_Valid.j0 k t285 (decide ((l0_2.length : Int) < 32)) a0_0 a0_1 l0_2 a0_3 l0_4 l0_5 l0_6))))))) = some r := h
 clear h
 replace H := Option.bind_eq_some_iff.mp H
 obtain ⟨t285, A20, H⟩ := H
 replace H : (if a0_1 < 0 then (sketch_Valid.j0 k t285 true a0_0 a0_1 l0_2 a0_3 l0_4 l0_5 l0_6) else (if a0_1 > a0_0 then (sketch_Valid.j0 k t285 true a0_0 a0_1 l0_2 a0_3 l0_4 l0_5 l0_6) else (if (l0_2.length : Int) > (mn t285 32) then (sketch_Valid.j0 k t285 true a0_0 a0_1 l0_2 a0_3 l0_4 l0_5 l0_6) else (if t285 > 0 then (if (l0_2.length : Int) = 0 then (sketch_Valid.j0 k t285 true a0_0 a0_1 l0_2 a0_3 l0_4 l0_5 l0_6) else (if a0_3 = true then (sketch_Valid.j0 k t285 false a0_0 a0_1 l0_2 a0_3 l0_4 l0_5 l0_6) else (sketch_Valid.j0 k t285 (decide ((l0_2.length : Int) < 32)) a0_0 a0_1 l0_2 a0_3 l0_4 l0_5 l0_6))) else (if a0_3 = true then (sketch_Valid.j0 k t285 false a0_0 a0_1 l0_2 a0_3 l0_4 l0_5 l0_6) else (sketch_Valid.j0 k t285 (decide ((l0_2.length : Int) < 32)) a0_0 a0_1 l0_2 a0_3 l0_4 l0_5 l0_6)))))) = some r := H
 have A2 := Aside0.mk A20
 clear A20
 have HC3 := Aside0.mk H
 clear H
 go_enter Try.func20, Try.ntmps20
 go_upto_region 2 with (first | ((with_reducible refine gate_dst (N := 1) rfl ?_); (try (refine gate_guard (by rfl) ?_; dsimp only)); refine box_ 1 (cs := #[.int .i64 a0_0, .int .i64 a0_1, .slice A0_2 l0_2.length c0_2, .bool a0_3, .slice A0_4 l0_4.length c0_4, .slice A0_5 l0_5.length c0_5, .slice A0_6 l0_6.length c0_6]) (t := 26) ?_; intro gb284 hg w4 hbox hb; have BK284 := Aside0.mk (hbox); have GW284 := Aside0.mk ((by rw [hg]; exact (below_size (hb_ HB.out)) : w.heap.size ≤ gb284)); have GE284 := Aside0.mk ((by rw [hg]; exact (below_size (hb_ HB.out)) : w.heap.size ≤ gb284)); replace HB := Aside0.mk (below_step (hb_ HB.out) hb); clear hb hbox hg; obtain ⟨hcz5_0, hcz5_1, hcz5_2, hcz5_3, hcz5_4, hcz5_5, hcz5_6, hfz5_0, hfz5_1, hfz5_2, hfz5_3, hfz5_4, hfz5_5, hfz5_6⟩ := bf7 BK284.out) | (go_at_call 66; (with_reducible refine (sketch_count.calls a0_0 a0_1 _ _ l0_2 a0_3 _ _ l0_4 _ _ l0_5 _ _ l0_6 t285 _ ?side1 ?side2 ?side3 ?side4 ?side5 ?side6 ?side7 ?side8 A2.out).mono ?_); (case side1 => exact cb_ HR0_2.out HB.out); (case side2 => exact HC0_2.out); (case side3 => exact cb_ HR0_4.out HB.out); (case side4 => exact HC0_4.out); (case side5 => exact cb_ HR0_5.out HB.out); (case side6 => exact HC0_5.out); (case side7 => exact cb_ HR0_6.out HB.out); (case side8 => exact HC0_6.out); rintro e w6 ⟨rfl, hb⟩; replace BK284 := Aside0.mk (blk_below (bk_ BK284.out) hb); replace HB := Aside0.mk (below_step (hb1_ HB.out GE284.out) hb); (try clear hb)))
 repeat (go_quiet (first | ((with_reducible refine gate_dst (N := 1) rfl ?_); (try (refine gate_guard (by rfl) ?_; dsimp only)); refine box_ 1 (cs := #[.int .i64 a0_0, .int .i64 a0_1, .slice A0_2 l0_2.length c0_2, .bool a0_3, .slice A0_4 l0_4.length c0_4, .slice A0_5 l0_5.length c0_5, .slice A0_6 l0_6.length c0_6]) (t := 26) ?_; intro gb284 hg w4 hbox hb; have BK284 := Aside0.mk (hbox); have GW284 := Aside0.mk ((by rw [hg]; exact (below_size (hb_ HB.out)) : w.heap.size ≤ gb284)); have GE284 := Aside0.mk ((by rw [hg]; exact (below_size (hb_ HB.out)) : w.heap.size ≤ gb284)); replace HB := Aside0.mk (below_step (hb_ HB.out) hb); clear hb hbox hg; obtain ⟨hcz5_0, hcz5_1, hcz5_2, hcz5_3, hcz5_4, hcz5_5, hcz5_6, hfz5_0, hfz5_1, hfz5_2, hfz5_3, hfz5_4, hfz5_5, hfz5_6⟩ := bf7 BK284.out) | (go_at_call 66; (with_reducible refine (sketch_count.calls a0_0 a0_1 _ _ l0_2 a0_3 _ _ l0_4 _ _ l0_5 _ _ l0_6 t285 _ ?side1 ?side2 ?side3 ?side4 ?side5 ?side6 ?side7 ?side8 A2.out).mono ?_); (case side1 => exact cb_ HR0_2.out HB.out); (case side2 => exact HC0_2.out); (case side3 => exact cb_ HR0_4.out HB.out); (case side4 => exact HC0_4.out); (case side5 => exact cb_ HR0_5.out HB.out); (case side6 => exact HC0_5.out); (case side7 => exact cb_ HR0_6.out HB.out); (case side8 => exact HC0_6.out); rintro e w6 ⟨rfl, hb⟩; replace BK284 := Aside0.mk (blk_below (bk_ BK284.out) hb); replace HB := Aside0.mk (below_step (hb1_ HB.out GE284.out) hb); (try clear hb))); go_upto_region 2 with (first | ((with_reducible refine gate_dst (N := 1) rfl ?_); (try (refine gate_guard (by rfl) ?_; dsimp only)); refine box_ 1 (cs := #[.int .i64 a0_0, .int .i64 a0_1, .slice A0_2 l0_2.length c0_2, .bool a0_3, .slice A0_4 l0_4.length c0_4, .slice A0_5 l0_5.length c0_5, .slice A0_6 l0_6.length c0_6]) (t := 26) ?_; intro gb284 hg w4 hbox hb; have BK284 := Aside0.mk (hbox); have GW284 := Aside0.mk ((by rw [hg]; exact (below_size (hb_ HB.out)) : w.heap.size ≤ gb284)); have GE284 := Aside0.mk ((by rw [hg]; exact (below_size (hb_ HB.out)) : w.heap.size ≤ gb284)); replace HB := Aside0.mk (below_step (hb_ HB.out) hb); clear hb hbox hg; obtain ⟨hcz5_0, hcz5_1, hcz5_2, hcz5_3, hcz5_4, hcz5_5, hcz5_6, hfz5_0, hfz5_1, hfz5_2, hfz5_3, hfz5_4, hfz5_5, hfz5_6⟩ := bf7 BK284.out) | (go_at_call 66; (with_reducible refine (sketch_count.calls a0_0 a0_1 _ _ l0_2 a0_3 _ _ l0_4 _ _ l0_5 _ _ l0_6 t285 _ ?side1 ?side2 ?side3 ?side4 ?side5 ?side6 ?side7 ?side8 A2.out).mono ?_); (case side1 => exact cb_ HR0_2.out HB.out); (case side2 => exact HC0_2.out); (case side3 => exact cb_ HR0_4.out HB.out); (case side4 => exact HC0_4.out); (case side5 => exact cb_ HR0_5.out HB.out); (case side6 => exact HC0_5.out); (case side7 => exact cb_ HR0_6.out HB.out); (case side8 => exact HC0_6.out); rintro e w6 ⟨rfl, hb⟩; replace BK284 := Aside0.mk (blk_below (bk_ BK284.out) hb); replace HB := Aside0.mk (below_step (hb1_ HB.out GE284.out) hb); (try clear hb))))
 (try simp only [Act.put, List.setIfInBounds_toArray, List.set_cons_zero, List.set_cons_succ])
 go_cut [45] (fun v45 wc => ∃ (kq : Nat) (x45_2 : Bool), v45 = .bool x45_2 ∧ Aside0 (sketch_Valid.j0 kq t285 x45_2 a0_0 a0_1 l0_2 a0_3 l0_4 l0_5 l0_6 = some r) ∧ Aside0 (kq ≤ k) ∧ Aside0 (wc.heap[gb284]? = some (.cells #[.int .i64 a0_0, .int .i64 a0_1, (.slice A0_2 l0_2.length c0_2), .bool a0_3, (.slice A0_4 l0_4.length c0_4), (.slice A0_5 l0_5.length c0_5), (.slice A0_6 l0_6.length c0_6)] 26 (0, 0))) ∧ Aside0 (Below w.heap.size w wc))
 case first =>
  have H := HC3.out
  clear HC3
  by_cases c7 : a0_1 < 0
  ·rw [if_pos c7] at H
   have c7b0 : decide (a0_1 < 0) = true := decide_eq_true c7
   clear c7
   (first | rw [c7b0] | (simp only [i64_w, i32_w]; rw [c7b0]) | skip)
   have H' := Aside0.mk H
   clear H
   obtain ⟨hcz8_0, hcz8_1, hcz8_2, hcz8_3, hcz8_4, hcz8_5, hcz8_6, hfz8_0, hfz8_1, hfz8_2, hfz8_3, hfz8_4, hfz8_5, hfz8_6⟩ := bf7 BK284.out
   go_wp2
   repeat (go_quiet (fail); try go_wp2)
   go_meet
   case rel => exact ⟨_, (true), (by first | rfl | (simp; done) | (simp [*]; done)), H', ⟨by first | omega | exact Nat.le_refl _⟩, ⟨by (with_reducible repeat (first | refine blk_drewN ?_ _ | refine blk_drew ?_ | refine blk_alloc ?_ _)); exact BK284.out⟩, ⟨(hb1_ HB.out GE284.out)⟩⟩
  ·rw [if_neg c7] at H
   have c7b0 : decide (a0_1 < 0) = false := decide_eq_false c7
   clear c7
   (first | rw [c7b0] | (simp only [i64_w, i32_w]; rw [c7b0]) | skip)
   by_cases c9 : a0_1 > a0_0
   ·rw [if_pos c9] at H
    have c9b0 : decide (a0_0 < a0_1) = true := decide_eq_true c9
    clear c9
    have H' := Aside0.mk H
    clear H
    obtain ⟨hcz10_0, hcz10_1, hcz10_2, hcz10_3, hcz10_4, hcz10_5, hcz10_6, hfz10_0, hfz10_1, hfz10_2, hfz10_3, hfz10_4, hfz10_5, hfz10_6⟩ := bf7 BK284.out
    go_wp2
    repeat (go_quiet (fail); try go_wp2)
    go_meet
    case rel => exact ⟨_, (true), (by first | rfl | (simp; done) | (simp [*]; done)), H', ⟨by first | omega | exact Nat.le_refl _⟩, ⟨by (with_reducible repeat (first | refine blk_drewN ?_ _ | refine blk_drew ?_ | refine blk_alloc ?_ _)); exact BK284.out⟩, ⟨(hb1_ HB.out GE284.out)⟩⟩
   ·rw [if_neg c9] at H
    have c9b0 : decide (a0_0 < a0_1) = false := decide_eq_false c9
    clear c9
    obtain ⟨ji11, hji11⟩ : ∃ j_ : Int, (mn t285 32) = j_ := ⟨_, rfl⟩
    replace H : (if (l0_2.length : Int) > (ji11) then (sketch_Valid.j0 k t285 true a0_0 a0_1 l0_2 a0_3 l0_4 l0_5 l0_6) else (if t285 > 0 then (if (l0_2.length : Int) = 0 then (sketch_Valid.j0 k t285 true a0_0 a0_1 l0_2 a0_3 l0_4 l0_5 l0_6) else (if a0_3 = true then (sketch_Valid.j0 k t285 false a0_0 a0_1 l0_2 a0_3 l0_4 l0_5 l0_6) else (sketch_Valid.j0 k t285 (decide ((l0_2.length : Int) < 32)) a0_0 a0_1 l0_2 a0_3 l0_4 l0_5 l0_6))) else (if a0_3 = true then (sketch_Valid.j0 k t285 false a0_0 a0_1 l0_2 a0_3 l0_4 l0_5 l0_6) else (sketch_Valid.j0 k t285 (decide ((l0_2.length : Int) < 32)) a0_0 a0_1 l0_2 a0_3 l0_4 l0_5 l0_6)))) = some r := by first | (rw [hji11] at H; exact H) | (simp only [hji11] at H ⊢; exact H)
    (try (have hji11h : ji11 ≤ 32 := by (rw [← hji11]; unfold mn; (repeat' split) <;> omega)))
    (try (have hji11g : ji11 ≤ 64 := by omega))
    have hji11_ : (if 32 < t285 then 32 else t285) = ji11 := hji11
    by_cases c12 : (l0_2.length : Int) > (ji11)
    ·rw [if_pos c12] at H
     have c12b0 : decide ((ji11) < (l0_2.length : Int)) = true := decide_eq_true c12
     clear c12
     have H' := Aside0.mk H
     clear H
     obtain ⟨hcz13_0, hcz13_1, hcz13_2, hcz13_3, hcz13_4, hcz13_5, hcz13_6, hfz13_0, hfz13_1, hfz13_2, hfz13_3, hfz13_4, hfz13_5, hfz13_6⟩ := bf7 BK284.out
     go_wp2
     repeat (go_quiet (fail); try go_wp2)
     go_meet
     case rel => exact ⟨_, (true), (by first | rfl | (simp; done) | (simp [*]; done)), H', ⟨by first | omega | exact Nat.le_refl _⟩, ⟨by (with_reducible repeat (first | refine blk_drewN ?_ _ | refine blk_drew ?_ | refine blk_alloc ?_ _)); exact BK284.out⟩, ⟨(hb1_ HB.out GE284.out)⟩⟩
    ·rw [if_neg c12] at H
     have c12b0 : decide ((ji11) < (l0_2.length : Int)) = false := decide_eq_false c12
     clear c12
     by_cases c14 : t285 > 0
     ·rw [if_pos c14] at H
      have c14b0 : decide (0 < t285) = true := decide_eq_true c14
      clear c14
      by_cases c15 : (l0_2.length : Int) = 0
      ·rw [if_pos c15] at H
       have c15b0 : ((l0_2.length : Int) == 0) = true := beq_iff_eq.mpr c15
       have c15b1 : ((l0_2.length : Int) != 0) = false := bne_eq_false_iff_eq.mpr c15
       clear c15
       have H' := Aside0.mk H
       clear H
       obtain ⟨hcz16_0, hcz16_1, hcz16_2, hcz16_3, hcz16_4, hcz16_5, hcz16_6, hfz16_0, hfz16_1, hfz16_2, hfz16_3, hfz16_4, hfz16_5, hfz16_6⟩ := bf7 BK284.out
       go_wp2
       repeat (go_quiet (fail); try go_wp2)
       go_meet
       case rel => exact ⟨_, (true), (by first | rfl | (simp; done) | (simp [*]; done)), H', ⟨by first | omega | exact Nat.le_refl _⟩, ⟨by (with_reducible repeat (first | refine blk_drewN ?_ _ | refine blk_drew ?_ | refine blk_alloc ?_ _)); exact BK284.out⟩, ⟨(hb1_ HB.out GE284.out)⟩⟩
      ·rw [if_neg c15] at H
       have c15b0 : ((l0_2.length : Int) == 0) = false := beq_eq_false_iff_ne.mpr c15
       have c15b1 : ((l0_2.length : Int) != 0) = true := bne_iff_ne.mpr c15
       have c15b2 : ¬ (l0_2 = []) := fun h_ => c15 (by rw [h_]; rfl)
       by_cases c17 : a0_3 = true
       ·subst c17
        have H1 : (sketch_Valid.j0 k t285 false a0_0 a0_1 l0_2 true l0_4 l0_5 l0_6) = some r := by rw [if_pos rfl] at H; exact H
        clear H
        have H := H1
        clear H1
        have H' := Aside0.mk H
        clear H
        obtain ⟨hcz18_0, hcz18_1, hcz18_2, hcz18_3, hcz18_4, hcz18_5, hcz18_6, hfz18_0, hfz18_1, hfz18_2, hfz18_3, hfz18_4, hfz18_5, hfz18_6⟩ := bf7 BK284.out
        go_wp2
        repeat (go_quiet (fail); try go_wp2)
        go_meet
        case rel => exact ⟨_, (false), (by first | rfl | (simp; done) | (simp [*]; done)), H', ⟨by first | omega | exact Nat.le_refl _⟩, ⟨by (with_reducible repeat (first | refine blk_drewN ?_ _ | refine blk_drew ?_ | refine blk_alloc ?_ _)); exact BK284.out⟩, ⟨(hb1_ HB.out GE284.out)⟩⟩
       ·replace c17 := Bool.eq_false_iff.mpr c17
        subst c17
        have H1 : (sketch_Valid.j0 k t285 (decide ((l0_2.length : Int) < 32)) a0_0 a0_1 l0_2 false l0_4 l0_5 l0_6) = some r := by rw [if_neg (show ¬ (false = true) by decide)] at H; exact H
        clear H
        have H := H1
        clear H1
        have H' := Aside0.mk H
        clear H
        obtain ⟨hcz19_0, hcz19_1, hcz19_2, hcz19_3, hcz19_4, hcz19_5, hcz19_6, hfz19_0, hfz19_1, hfz19_2, hfz19_3, hfz19_4, hfz19_5, hfz19_6⟩ := bf7 BK284.out
        go_wp2
        repeat (go_quiet (fail); try go_wp2)
        go_meet
        case rel => exact ⟨_, (decide ((l0_2.length : Int) < 32)), (by first | rfl | (simp; done) | (simp [*]; done)), H', ⟨by first | omega | exact Nat.le_refl _⟩, ⟨by (with_reducible repeat (first | refine blk_drewN ?_ _ | refine blk_drew ?_ | refine blk_alloc ?_ _)); exact BK284.out⟩, ⟨(hb1_ HB.out GE284.out)⟩⟩
     ·rw [if_neg c14] at H
      have c14b0 : decide (0 < t285) = false := decide_eq_false c14
      clear c14
      by_cases c20 : a0_3 = true
      ·subst c20
       have H1 : (sketch_Valid.j0 k t285 false a0_0 a0_1 l0_2 true l0_4 l0_5 l0_6) = some r := by rw [if_pos rfl] at H; exact H
       clear H
       have H := H1
       clear H1
       have H' := Aside0.mk H
       clear H
       obtain ⟨hcz21_0, hcz21_1, hcz21_2, hcz21_3, hcz21_4, hcz21_5, hcz21_6, hfz21_0, hfz21_1, hfz21_2, hfz21_3, hfz21_4, hfz21_5, hfz21_6⟩ := bf7 BK284.out
       go_wp2
       repeat (go_quiet (fail); try go_wp2)
       go_meet
       case rel => exact ⟨_, (false), (by first | rfl | (simp; done) | (simp [*]; done)), H', ⟨by first | omega | exact Nat.le_refl _⟩, ⟨by (with_reducible repeat (first | refine blk_drewN ?_ _ | refine blk_drew ?_ | refine blk_alloc ?_ _)); exact BK284.out⟩, ⟨(hb1_ HB.out GE284.out)⟩⟩
      ·replace c20 := Bool.eq_false_iff.mpr c20
       subst c20
       have H1 : (sketch_Valid.j0 k t285 (decide ((l0_2.length : Int) < 32)) a0_0 a0_1 l0_2 false l0_4 l0_5 l0_6) = some r := by rw [if_neg (show ¬ (false = true) by decide)] at H; exact H
       clear H
       have H := H1
       clear H1
       have H' := Aside0.mk H
       clear H
       obtain ⟨hcz22_0, hcz22_1, hcz22_2, hcz22_3, hcz22_4, hcz22_5, hcz22_6, hfz22_0, hfz22_1, hfz22_2, hfz22_3, hfz22_4, hfz22_5, hfz22_6⟩ := bf7 BK284.out
       go_wp2
       repeat (go_quiet (fail); try go_wp2)
       go_meet
       case rel => exact ⟨_, (decide ((l0_2.length : Int) < 32)), (by first | rfl | (simp; done) | (simp [*]; done)), H', ⟨by first | omega | exact Nat.le_refl _⟩, ⟨by (with_reducible repeat (first | refine blk_drewN ?_ _ | refine blk_drew ?_ | refine blk_alloc ?_ _)); exact BK284.out⟩, ⟨(hb1_ HB.out GE284.out)⟩⟩
 case rest =>
  clear HC3
  try clear c1
  try clear c2
  try clear p2
  try clear c7
  try clear c7b0
  try clear c9
  try clear c9b0
  try clear c12
  try clear c12b0
  try clear c14
  try clear c14b0
  try clear c15
  try clear c15b0
  try clear c15b1
  try clear c15b2
  try clear c17
  try clear c20
  try clear hcz10_0 hcz10_1 hcz10_2 hcz10_3 hcz10_4 hcz10_5 hcz10_6 hfz10_0 hfz10_1 hfz10_2 hfz10_3 hfz10_4 hfz10_5 hfz10_6
  try clear hcz13_0 hcz13_1 hcz13_2 hcz13_3 hcz13_4 hcz13_5 hcz13_6 hfz13_0 hfz13_1 hfz13_2 hfz13_3 hfz13_4 hfz13_5 hfz13_6
  try clear hcz16_0 hcz16_1 hcz16_2 hcz16_3 hcz16_4 hcz16_5 hcz16_6 hfz16_0 hfz16_1 hfz16_2 hfz16_3 hfz16_4 hfz16_5 hfz16_6
  try clear hcz18_0 hcz18_1 hcz18_2 hcz18_3 hcz18_4 hcz18_5 hcz18_6 hfz18_0 hfz18_1 hfz18_2 hfz18_3 hfz18_4 hfz18_5 hfz18_6
  try clear hcz19_0 hcz19_1 hcz19_2 hcz19_3 hcz19_4 hcz19_5 hcz19_6 hfz19_0 hfz19_1 hfz19_2 hfz19_3 hfz19_4 hfz19_5 hfz19_6
  try clear hcz21_0 hcz21_1 hcz21_2 hcz21_3 hcz21_4 hcz21_5 hcz21_6 hfz21_0 hfz21_1 hfz21_2 hfz21_3 hfz21_4 hfz21_5 hfz21_6
  try clear hcz22_0 hcz22_1 hcz22_2 hcz22_3 hcz22_4 hcz22_5 hcz22_6 hfz22_0 hfz22_1 hfz22_2 hfz22_3 hfz22_4 hfz22_5 hfz22_6
  try clear hcz5_0 hcz5_1 hcz5_2 hcz5_3 hcz5_4 hcz5_5 hcz5_6 hfz5_0 hfz5_1 hfz5_2 hfz5_3 hfz5_4 hfz5_5 hfz5_6
  try clear hcz8_0 hcz8_1 hcz8_2 hcz8_3 hcz8_4 hcz8_5 hcz8_6 hfz8_0 hfz8_1 hfz8_2 hfz8_3 hfz8_4 hfz8_5 hfz8_6
  obtain ⟨kq, x45_2, rfl, HA, HJ2, BK284, HB⟩ := hcut
  cases kq with
  | zero => exact absurd HA.out (by simp [sketch_Valid.j0])
  | succ kj2 =>
   have H := HA.out
   clear HA
   simp only [sketch_Valid.j0] at H
   by_cases c23 : x45_2 = true
   ·subst c23
    have H1 : (some false) = some r := by rw [if_pos rfl] at H; exact H
    clear H
    have H := H1
    clear H1
    obtain rfl := Option.some.inj H
    go_wp2
    repeat (go_quiet (fail); try go_wp2)
    go_ret
    exact er_ ((hb1_ HB.out GE284.out))
   ·replace c23 := Bool.eq_false_iff.mpr c23
    subst c23
    have H1 : (sketch_Valid.l0 kj2 t285 1 a0_0 a0_1 l0_2 a0_3 l0_4 l0_5 l0_6) = some r := by rw [if_neg (show ¬ (false = true) by decide)] at H; exact H
    clear H
    have H := H1
    clear H1
    have H' := Aside0.mk H
    clear H
    go_wp2
    repeat (go_quiet (fail); try go_wp2)
    go_loopg [4] kj2 (fun kq v4 w' => ∃ (x4_2 : Int), v4 = .int .i64 x4_2 ∧ Aside0 (sketch_Valid.l0 kq t285 x4_2 a0_0 a0_1 l0_2 a0_3 l0_4 l0_5 l0_6 = some r) ∧ Aside0 (kq ≤ kj2) ∧ Aside0 (w'.heap[gb284]? = some (.cells #[.int .i64 a0_0, .int .i64 a0_1, (.slice A0_2 l0_2.length c0_2), .bool a0_3, (.slice A0_4 l0_4.length c0_4), (.slice A0_5 l0_5.length c0_5), (.slice A0_6 l0_6.length c0_6)] 26 (0, 0))) ∧ Aside0 (Below w.heap.size w w'))
    case atStart => exact ⟨(1), (by first | rfl | (simp; done) | (simp [*]; done)), H', ⟨Nat.le_refl _⟩, ⟨by (with_reducible repeat (first | refine blk_drewN ?_ _ | refine blk_drew ?_ | refine blk_alloc ?_ _)); exact BK284.out⟩, ⟨(hb1_ HB.out GE284.out)⟩⟩
    case round =>
     clear H'
     try clear c1
     try clear c2
     try clear p2
     try clear c7
     try clear c7b0
     try clear c9
     try clear c9b0
     try clear c12
     try clear c12b0
     try clear c14
     try clear c14b0
     try clear c15
     try clear c15b0
     try clear c15b1
     try clear c15b2
     try clear c17
     try clear c20
     try clear c23
     try clear hcz10_0 hcz10_1 hcz10_2 hcz10_3 hcz10_4 hcz10_5 hcz10_6 hfz10_0 hfz10_1 hfz10_2 hfz10_3 hfz10_4 hfz10_5 hfz10_6
     try clear hcz13_0 hcz13_1 hcz13_2 hcz13_3 hcz13_4 hcz13_5 hcz13_6 hfz13_0 hfz13_1 hfz13_2 hfz13_3 hfz13_4 hfz13_5 hfz13_6
     try clear hcz16_0 hcz16_1 hcz16_2 hcz16_3 hcz16_4 hcz16_5 hcz16_6 hfz16_0 hfz16_1 hfz16_2 hfz16_3 hfz16_4 hfz16_5 hfz16_6
     try clear hcz18_0 hcz18_1 hcz18_2 hcz18_3 hcz18_4 hcz18_5 hcz18_6 hfz18_0 hfz18_1 hfz18_2 hfz18_3 hfz18_4 hfz18_5 hfz18_6
     try clear hcz19_0 hcz19_1 hcz19_2 hcz19_3 hcz19_4 hcz19_5 hcz19_6 hfz19_0 hfz19_1 hfz19_2 hfz19_3 hfz19_4 hfz19_5 hfz19_6
     try clear hcz21_0 hcz21_1 hcz21_2 hcz21_3 hcz21_4 hcz21_5 hcz21_6 hfz21_0 hfz21_1 hfz21_2 hfz21_3 hfz21_4 hfz21_5 hfz21_6
     try clear hcz22_0 hcz22_1 hcz22_2 hcz22_3 hcz22_4 hcz22_5 hcz22_6 hfz22_0 hfz22_1 hfz22_2 hfz22_3 hfz22_4 hfz22_5 hfz22_6
     try clear hcz5_0 hcz5_1 hcz5_2 hcz5_3 hcz5_4 hcz5_5 hcz5_6 hfz5_0 hfz5_1 hfz5_2 hfz5_3 hfz5_4 hfz5_5 hfz5_6
     try clear hcz8_0 hcz8_1 hcz8_2 hcz8_3 hcz8_4 hcz8_5 hcz8_6 hfz8_0 hfz8_1 hfz8_2 hfz8_3 hfz8_4 hfz8_5 hfz8_6
     try clear p2
     obtain ⟨x4_2, rfl, HA, HK2, BK284, HB⟩ := hrel
     cases gk with
     | zero => exact absurd HA.out (by simp [sketch_Valid.l0])
     | succ k2 =>
      have H := HA.out
      clear HA
      simp only [sketch_Valid.l0] at H
      by_cases c24 : x4_2 < (l0_2.length : Int)
      ·rw [if_pos c24] at H
       have c24b0 : decide (x4_2 < (l0_2.length : Int)) = true := decide_eq_true c24
       clear c24
       by_cases c25 : 0 ≤ x4_2
       ·rw [if_pos c25] at H
        have c25b0 : decide (0 ≤ x4_2) = true := decide_eq_true c25
        clear c25
        obtain ⟨ji26, hji26⟩ : ∃ j_ : Int, (wrap64 (x4_2 - 1)) = j_ := ⟨_, rfl⟩
        replace H : (if 0 ≤ (ji26) then (if (ji26) < (l0_2.length : Int) then (if (rd l0_2 x4_2) ≤ (rd l0_2 (ji26)) then (some false) else (sketch_Valid.l0 k2 t285 (wrap64 (x4_2 + 1)) a0_0 a0_1 l0_2 a0_3 l0_4 l0_5 l0_6)) else (none)) else (none)) = some r := by first | (rw [hji26] at H; exact H) | (simp only [hji26] at H ⊢; exact H)
        have hji26w : (IntKind.i64.wrap (x4_2 - 1)) = ji26 := (i64_w _).trans hji26
        by_cases c27 : 0 ≤ (ji26)
        ·rw [if_pos c27] at H
         have c27b0 : decide (0 ≤ (ji26)) = true := decide_eq_true c27
         clear c27
         by_cases c28 : (ji26) < (l0_2.length : Int)
         ·rw [if_pos c28] at H
          have c28b0 : decide ((ji26) < (l0_2.length : Int)) = true := decide_eq_true c28
          clear c28
          by_cases c29 : (rd l0_2 x4_2) ≤ (rd l0_2 (ji26))
          ·rw [if_pos c29] at H
           have c29b0 : decide ((rd l0_2 x4_2) ≤ (rd l0_2 (ji26))) = true := decide_eq_true c29
           clear c29
           obtain rfl := Option.some.inj H
           obtain ⟨hcz30_0, hcz30_1, hcz30_2, hcz30_3, hcz30_4, hcz30_5, hcz30_6, hfz30_0, hfz30_1, hfz30_2, hfz30_3, hfz30_4, hfz30_5, hfz30_6⟩ := bf7 BK284.out
           have p286 : 0 ≤ (x4_2 : Int) := of_decide_eq_true (by first | (with_reducible assumption) | assumption)
           have q286 : x4_2 < (l0_2.length : Int) := of_decide_eq_true (by first | (with_reducible assumption) | assumption)
           obtain ⟨ad286, e286, hx286_0⟩ := Kd.at_int HR0_2.out x4_2 p286 q286
           cases e286
           replace hx286_0 := up_ HB.out hx286_0
           replace p286 := eq_true p286
           replace q286 := eq_true q286
           have p287 : 0 ≤ ((ji26) : Int) := of_decide_eq_true (by first | (with_reducible assumption) | assumption)
           have q287 : (ji26) < (l0_2.length : Int) := of_decide_eq_true (by first | (with_reducible assumption) | assumption)
           obtain ⟨ad287, e287, hx287_0⟩ := Kd.at_int HR0_2.out (ji26) p287 q287
           obtain rfl : ad286 = ad287 := (by injection e287)
           replace hx287_0 := up_ HB.out hx287_0
           replace p287 := eq_true p287
           replace q287 := eq_true q287
           go_wp2
           repeat (go_quiet (fail); try go_wp2)
           go_ret
           exact ⟨by first | rfl | (simp [errW_none, errW_some] <;> rfl) | (simp only [← hji26]; first | rfl | (simp [errW_none, errW_some] <;> rfl)) | (simp [*, errW_none, errW_some] <;> rfl), (hb1_ HB.out GE284.out)⟩
          ·rw [if_neg c29] at H
           have c29b0 : decide ((rd l0_2 x4_2) ≤ (rd l0_2 (ji26))) = false := decide_eq_false c29
           clear c29
           have H' := Aside0.mk H
           clear H
           obtain ⟨hcz31_0, hcz31_1, hcz31_2, hcz31_3, hcz31_4, hcz31_5, hcz31_6, hfz31_0, hfz31_1, hfz31_2, hfz31_3, hfz31_4, hfz31_5, hfz31_6⟩ := bf7 BK284.out
           have p286 : 0 ≤ (x4_2 : Int) := of_decide_eq_true (by first | (with_reducible assumption) | assumption)
           have q286 : x4_2 < (l0_2.length : Int) := of_decide_eq_true (by first | (with_reducible assumption) | assumption)
           obtain ⟨ad286, e286, hx286_0⟩ := Kd.at_int HR0_2.out x4_2 p286 q286
           cases e286
           replace hx286_0 := up_ HB.out hx286_0
           replace p286 := eq_true p286
           replace q286 := eq_true q286
           have p287 : 0 ≤ ((ji26) : Int) := of_decide_eq_true (by first | (with_reducible assumption) | assumption)
           have q287 : (ji26) < (l0_2.length : Int) := of_decide_eq_true (by first | (with_reducible assumption) | assumption)
           obtain ⟨ad287, e287, hx287_0⟩ := Kd.at_int HR0_2.out (ji26) p287 q287
           obtain rfl : ad286 = ad287 := (by injection e287)
           replace hx287_0 := up_ HB.out hx287_0
           replace p287 := eq_true p287
           replace q287 := eq_true q287
           go_wp2
           repeat (go_quiet (fail); try go_wp2)
           go_roundg k2
           case measure => have := HJ2.out; have := HK2.out; omega
           case rel => exact ⟨(wrap64 (x4_2 + 1)), (by first | rfl | (simp; done) | (simp [*]; done)), H', ⟨by have := HJ2.out; have := HK2.out; omega⟩, ⟨by (with_reducible repeat (first | refine blk_drewN ?_ _ | refine blk_drew ?_ | refine blk_alloc ?_ _)); exact BK284.out⟩, ⟨(hb1_ HB.out GE284.out)⟩⟩
         ·rw [if_neg c28] at H
          exact absurd H (by simp)
        ·rw [if_neg c27] at H
         exact absurd H (by simp)
       ·rw [if_neg c25] at H
        exact absurd H (by simp)
      ·rw [if_neg c24] at H
       have c24b0 : decide (x4_2 < (l0_2.length : Int)) = false := decide_eq_false c24
       clear c24
       replace H := Option.bind_eq_some_iff.mp H
       obtain ⟨t288, A320, H⟩ := H
       replace H : (if t288 = true then ((sketch_validFences.f a0_0 a0_1 l0_2 a0_3 l0_4 l0_5 l0_6 t285).bind fun t289 => (some t289)) else (some false)) = some r := H
       have A32 := Aside0.mk A320
       clear A320
       by_cases c33 : t288 = true
       ·subst c33
        have H1 : ((sketch_validFences.f a0_0 a0_1 l0_2 a0_3 l0_4 l0_5 l0_6 t285).bind fun t289 => (some t289)) = some r := by rw [if_pos rfl] at H; exact H
        clear H
        have H := H1
        clear H1
        replace H := Option.bind_eq_some_iff.mp H
        obtain ⟨t289, A340, H⟩ := H
        replace H : (some t289) = some r := H
        have A34 := Aside0.mk A340
        clear A340
        obtain rfl := Option.some.inj H
        obtain ⟨hcz35_0, hcz35_1, hcz35_2, hcz35_3, hcz35_4, hcz35_5, hcz35_6, hfz35_0, hfz35_1, hfz35_2, hfz35_3, hfz35_4, hfz35_5, hfz35_6⟩ := bf7 BK284.out
        go_wp2_with (first | (go_at_call 67; (with_reducible refine (sketch_validCounters.calls _ _ l0_4 t285 true _ ?side1 ?side2 A32.out).mono ?_); (case side1 => exact cb_ HR0_4.out HB.out); (case side2 => exact HC0_4.out); rintro e w36 ⟨rfl, hb⟩; replace BK284 := Aside0.mk (blk_below (bk_ BK284.out) hb); replace HB := Aside0.mk (below_step (hb1_ HB.out GE284.out) hb); (try clear hb); obtain ⟨hcz37_0, hcz37_1, hcz37_2, hcz37_3, hcz37_4, hcz37_5, hcz37_6, hfz37_0, hfz37_1, hfz37_2, hfz37_3, hfz37_4, hfz37_5, hfz37_6⟩ := bf7 BK284.out) | (go_at_call 68; (with_reducible refine (sketch_validFences.calls a0_0 a0_1 _ _ l0_2 a0_3 _ _ l0_4 _ _ l0_5 _ _ l0_6 t285 t289 _ ?side1 ?side2 ?side3 ?side4 ?side5 ?side6 ?side7 ?side8 A34.out).mono ?_); (case side1 => exact cb_ HR0_2.out HB.out); (case side2 => exact HC0_2.out); (case side3 => exact cb_ HR0_4.out HB.out); (case side4 => exact HC0_4.out); (case side5 => exact cb_ HR0_5.out HB.out); (case side6 => exact HC0_5.out); (case side7 => exact cb_ HR0_6.out HB.out); (case side8 => exact HC0_6.out); rintro e w38 ⟨rfl, hb⟩; replace BK284 := Aside0.mk (blk_below (bk_ BK284.out) hb); replace HB := Aside0.mk (below_step (hb1_ HB.out GE284.out) hb); (try clear hb)))
        repeat (go_quiet (first | (go_at_call 67; (with_reducible refine (sketch_validCounters.calls _ _ l0_4 t285 true _ ?side1 ?side2 A32.out).mono ?_); (case side1 => exact cb_ HR0_4.out HB.out); (case side2 => exact HC0_4.out); rintro e w36 ⟨rfl, hb⟩; replace BK284 := Aside0.mk (blk_below (bk_ BK284.out) hb); replace HB := Aside0.mk (below_step (hb1_ HB.out GE284.out) hb); (try clear hb); obtain ⟨hcz37_0, hcz37_1, hcz37_2, hcz37_3, hcz37_4, hcz37_5, hcz37_6, hfz37_0, hfz37_1, hfz37_2, hfz37_3, hfz37_4, hfz37_5, hfz37_6⟩ := bf7 BK284.out) | (go_at_call 68; (with_reducible refine (sketch_validFences.calls a0_0 a0_1 _ _ l0_2 a0_3 _ _ l0_4 _ _ l0_5 _ _ l0_6 t285 t289 _ ?side1 ?side2 ?side3 ?side4 ?side5 ?side6 ?side7 ?side8 A34.out).mono ?_); (case side1 => exact cb_ HR0_2.out HB.out); (case side2 => exact HC0_2.out); (case side3 => exact cb_ HR0_4.out HB.out); (case side4 => exact HC0_4.out); (case side5 => exact cb_ HR0_5.out HB.out); (case side6 => exact HC0_5.out); (case side7 => exact cb_ HR0_6.out HB.out); (case side8 => exact HC0_6.out); rintro e w38 ⟨rfl, hb⟩; replace BK284 := Aside0.mk (blk_below (bk_ BK284.out) hb); replace HB := Aside0.mk (below_step (hb1_ HB.out GE284.out) hb); (try clear hb))); try go_wp2_with (first | (go_at_call 67; (with_reducible refine (sketch_validCounters.calls _ _ l0_4 t285 true _ ?side1 ?side2 A32.out).mono ?_); (case side1 => exact cb_ HR0_4.out HB.out); (case side2 => exact HC0_4.out); rintro e w36 ⟨rfl, hb⟩; replace BK284 := Aside0.mk (blk_below (bk_ BK284.out) hb); replace HB := Aside0.mk (below_step (hb1_ HB.out GE284.out) hb); (try clear hb); obtain ⟨hcz37_0, hcz37_1, hcz37_2, hcz37_3, hcz37_4, hcz37_5, hcz37_6, hfz37_0, hfz37_1, hfz37_2, hfz37_3, hfz37_4, hfz37_5, hfz37_6⟩ := bf7 BK284.out) | (go_at_call 68; (with_reducible refine (sketch_validFences.calls a0_0 a0_1 _ _ l0_2 a0_3 _ _ l0_4 _ _ l0_5 _ _ l0_6 t285 t289 _ ?side1 ?side2 ?side3 ?side4 ?side5 ?side6 ?side7 ?side8 A34.out).mono ?_); (case side1 => exact cb_ HR0_2.out HB.out); (case side2 => exact HC0_2.out); (case side3 => exact cb_ HR0_4.out HB.out); (case side4 => exact HC0_4.out); (case side5 => exact cb_ HR0_5.out HB.out); (case side6 => exact HC0_5.out); (case side7 => exact cb_ HR0_6.out HB.out); (case side8 => exact HC0_6.out); rintro e w38 ⟨rfl, hb⟩; replace BK284 := Aside0.mk (blk_below (bk_ BK284.out) hb); replace HB := Aside0.mk (below_step (hb1_ HB.out GE284.out) hb); (try clear hb))))
        go_ret
        exact er_ ((hb1_ HB.out GE284.out))
       ·replace c33 := Bool.eq_false_iff.mpr c33
        subst c33
        have H1 : (some false) = some r := by rw [if_neg (show ¬ (false = true) by decide)] at H; exact H
        clear H
        have H := H1
        clear H1
        obtain rfl := Option.some.inj H
        obtain ⟨hcz39_0, hcz39_1, hcz39_2, hcz39_3, hcz39_4, hcz39_5, hcz39_6, hfz39_0, hfz39_1, hfz39_2, hfz39_3, hfz39_4, hfz39_5, hfz39_6⟩ := bf7 BK284.out
        go_wp2_with (first | (go_at_call 67; (with_reducible refine (sketch_validCounters.calls _ _ l0_4 t285 false _ ?side1 ?side2 A32.out).mono ?_); (case side1 => exact cb_ HR0_4.out HB.out); (case side2 => exact HC0_4.out); rintro e w40 ⟨rfl, hb⟩; replace BK284 := Aside0.mk (blk_below (bk_ BK284.out) hb); replace HB := Aside0.mk (below_step (hb1_ HB.out GE284.out) hb); (try clear hb)))
        repeat (go_quiet (first | (go_at_call 67; (with_reducible refine (sketch_validCounters.calls _ _ l0_4 t285 false _ ?side1 ?side2 A32.out).mono ?_); (case side1 => exact cb_ HR0_4.out HB.out); (case side2 => exact HC0_4.out); rintro e w40 ⟨rfl, hb⟩; replace BK284 := Aside0.mk (blk_below (bk_ BK284.out) hb); replace HB := Aside0.mk (below_step (hb1_ HB.out GE284.out) hb); (try clear hb))); try go_wp2_with (first | (go_at_call 67; (with_reducible refine (sketch_validCounters.calls _ _ l0_4 t285 false _ ?side1 ?side2 A32.out).mono ?_); (case side1 => exact cb_ HR0_4.out HB.out); (case side2 => exact HC0_4.out); rintro e w40 ⟨rfl, hb⟩; replace BK284 := Aside0.mk (blk_below (bk_ BK284.out) hb); replace HB := Aside0.mk (below_step (hb1_ HB.out GE284.out) hb); (try clear hb))))
        go_ret
        exact er_ ((hb1_ HB.out GE284.out))
end Go.Proofs.Ytackcingpffidaa.P
namespace Go.Proofs.Ytackcingpffidaa.P
open Go.RowKit Go.Proofs.YtackcingpffidaaW.PrintWords Go.Proofs.YtackcingpffidaaW.PrintLast Go.Proofs.YtackcingpffidaaW.PrintMore
attribute [local go_sem high] eqA44
attribute [local go_sem] max2_int min2_int max_two min_two max_three min_three max_four min_four Go.Proofs.YtackcingpffidaaQ.str_gtr Go.Proofs.YtackcingpffidaaQ.str_leq Go.Proofs.YtackcingpffidaaQ.str_geq   -- for this text's walks alone
set_option linter.unusedVariables false
set_option linter.unusedSimpArgs false
/-! ### laminalaw16_awake: function 12 -/
def laminalaw16_awake.f (k : Nat)  : Option (Bool) := (laminalaw16_integer.f 1).bind fun bt328 => ((laminalaw16_integer.f 2).bind fun bt331 => ((laminalaw16_integer.f 2).bind fun bt334 => ((sketch_Build.f k (([(⟨bt328.1, bt328.2.1, bt328.2.2⟩ : S39), (⟨bt331.1, bt331.2.1, bt331.2.2⟩ : S39), (⟨bt334.1, bt334.2.1, bt334.2.2⟩ : S39), (⟨0, 0, (⟨#[]⟩ : ByteArray)⟩ : S39)] : List (S39)))).bind fun bt340 => (if bt340.1 = 4 then (if bt340.2.1 = 1 then (if (bt340.2.2.2.2.2.1.length : Int) = 2 then (if (bt340.2.2.2.2.2.2.length : Int) = 4 then (if 3 < (bt340.2.2.2.2.2.2.length : Int) then (if (rd bt340.2.2.2.2.2.2 3) = 3 then ((sketch_Valid.f k bt340.1 bt340.2.1 bt340.2.2.1 bt340.2.2.2.1 bt340.2.2.2.2.1 bt340.2.2.2.2.2.1 bt340.2.2.2.2.2.2).bind fun t357 => (if t357 = true then ((laminalaw16_integer.f 2).bind fun bt358 => ((sketch_CountEqual.f k bt340.1 bt340.2.1 bt340.2.2.1 bt340.2.2.2.1 bt340.2.2.2.2.1 bt340.2.2.2.2.2.1 bt340.2.2.2.2.2.2 bt358.1 bt358.2.1 bt358.2.2).bind fun bt361 => (if (bt361.1 == 2 && (bt361.2 == 2)) = true then ((laminalaw16_integer.f 2).bind fun bt363 => ((sketch_CountLess.f k bt340.1 bt340.2.1 bt340.2.2.1 bt340.2.2.2.1 bt340.2.2.2.2.1 bt340.2.2.2.2.2.1 bt340.2.2.2.2.2.2 bt363.1 bt363.2.1 bt363.2.2).bind fun bt366 => (if (bt366.1 == 1 && (bt366.2 == 1)) = true then ((sketch_CountDistinct.f k bt340.1 bt340.2.1 bt340.2.2.1 bt340.2.2.2.1 bt340.2.2.2.2.1 bt340.2.2.2.2.2.1 bt340.2.2.2.2.2.2).bind fun bt368 => (some (bt368.1 == 2 && (bt368.2 == 2)))) else (none)))) else (none)))) else (none))) else (none)) else (none)) else (none)) else (none)) else (none)) else (none)))))
theorem laminalaw16_awake.mono : ∀ k, LeO (laminalaw16_awake.f k ) (laminalaw16_awake.f (k + 1) ) := by
 intro  k
 unfold laminalaw16_awake.f
 repeat' first
   | (with_reducible exact sketch_Build.mono _ _)
   | (with_reducible exact sketch_CountDistinct.mono _ _ _ _ _ _ _ _)
   | (with_reducible exact sketch_CountEqual.mono _ _ _ _ _ _ _ _ _ _ _)
   | (with_reducible exact sketch_CountLess.mono _ _ _ _ _ _ _ _ _ _ _)
   | (with_reducible exact sketch_Valid.mono _ _ _ _ _ _ _ _)
   | (with_reducible exact LeO.refl _)
   | (with_reducible exact LeO.none _)
   | (with_reducible refine LeO.ite ?_ ?_)
   | (with_reducible refine LeO.bind ?_ (fun _ => ?_))
   | exact sketch_Build.mono _ _
   | exact sketch_CountDistinct.mono _ _ _ _ _ _ _ _
   | exact sketch_CountEqual.mono _ _ _ _ _ _ _ _ _ _ _
   | exact sketch_CountLess.mono _ _ _ _ _ _ _ _ _ _ _
   | exact sketch_Valid.mono _ _ _ _ _ _ _ _
   | exact LeO.none _
   | refine LeO.ite ?_ ?_
   | refine LeO.bind ?_ (fun _ => ?_)
def laminalaw16_awake.T2 : Bool × List (List Nat × List Nat) := (true, [([], []), ([0], [0]), ([1], [1]), ([2], [2]), ([3], [3]), ([4, 3], [3, 4]), ([5, 3], [3, 5]), ([3, 6], [3, 6]), ([7, 3], [7]), ([8], [8]), ([9, 8], [8, 9]), ([10, 8], [8, 10]), ([11, 8], [8, 11]), ([8, 12], [8, 12]), ([13, 8], [13]), ([14], [14]), ([15, 14], [14, 15]), ([16, 14], [14, 16]), ([17, 14], [14, 17]), ([14, 18], [14, 18]), ([19, 14], [19]), ([20], [20]), ([21, 20], [20, 21]), ([22, 20], [20, 22]), ([23, 20], [20, 23]), ([24, 20], [20, 24]), ([20, 25], [20, 25]), ([26, 20], [26]), ([27], [27]), ([28, 27, 27], [27, 28]), ([27, 29], [27, 29]), ([30, 29], [30]), ([31], [31]), ([31, 31], [31]), ([32, 33, 33, 31], [31, 32, 33]), ([31], [31]), ([34, 35, 31], [31, 34, 35]), ([31, 36], [31, 36]), ([37, 34], [37]), ([38], [38]), ([38, 38], [38]), ([39, 40, 40, 38], [38, 39, 40]), ([38], [38]), ([41, 42, 38], [38, 41, 42]), ([38, 43], [38, 43]), ([44, 41], [44]), ([45], [45]), ([46, 45, 45], [45, 46]), ([45], [45]), ([47, 48, 45], [45, 47, 48]), ([45, 49], [45, 49]), ([50, 47, 0, 1, 2, 3, 4, 5, 6, 7, 8, 9, 10, 11, 12, 13, 14, 15, 16, 17, 18, 19, 20, 21, 22, 23, 24, 25, 26, 27, 28, 29, 30, 31, 32, 33, 34, 35, 36, 37, 38, 39, 40, 41, 42, 43, 44, 45, 46, 47, 48, 49, 50], [50])])
def laminalaw16_awake.B2 : List Nat := [0, 1, 3, 7, 15, 31, 63, 127, 255, 511, 1023, 2047, 4095, 8191, 16383, 32767, 65535, 131071, 262143, 524287, 1048575, 2097151, 4194303, 8388607, 16777215, 33554431, 67108863, 134217727, 268435455, 536870911, 1073741823, 2147483647, 4294967295, 4294967295, 17179869183, 4294967295, 68719476735, 137438953471, 274877906943, 549755813887, 549755813887, 2199023255551, 549755813887, 8796093022207, 17592186044415, 35184372088831, 70368744177663, 140737488355327, 70368744177663, 562949953421311, 1125899906842623, 2251799813685247]
theorem laminalaw16_awake.tab2 : rtab .any (opsOf Try.f12 2) = laminalaw16_awake.T2 := by kernel_rfl
theorem laminalaw16_awake.bits2 : waitsOk laminalaw16_awake.T2.2 laminalaw16_awake.B2 = true := by kernel_rfl
set_option maxHeartbeats 8000000 in
set_option maxRecDepth 100000 in
theorem laminalaw16_awake.calls (k : Nat)  (r : Bool) (w : World) (h : laminalaw16_awake.f k  = some r) :
  Calls Try.prog 12 #[] w fun e w' => e = .returned (.bool r) ∧ Below w.heap.size w w' := by
 have hu39 := Try.underlying39
 have hu26 := Try.underlying26
 have hu44 := Try.underlying44
 have HB := Aside0.mk (Below.refl w.heap.size w)
 have H : ((laminalaw16_integer.f 1).bind fun bt328 => ((laminalaw16_integer.f 2).bind fun bt331 => ((laminalaw16_integer.f 2).bind fun bt334 => ((sketch_Build.f k (([(⟨bt328.1, bt328.2.1, bt328.2.2⟩ : S39), (⟨bt331.1, bt331.2.1, bt331.2.2⟩ : S39), (⟨bt334.1, bt334.2.1, bt334.2.2⟩ : S39), (⟨0, 0, (⟨#[]⟩ : ByteArray)⟩ : S39)] : List (S39)))).bind fun bt340 => (if bt340.1 = 4 then (if bt340.2.1 = 1 then (if (bt340.2.2.2.2.2.1.length : Int) = 2 then (if (bt340.2.2.2.2.2.2.length : Int) = 4 then (if 3 < (bt340.2.2.2.2.2.2.length : Int) then (if (rd bt340.2.2.2.2.2.2 3) = 3 then ((sketch_Valid.f k bt340.1 bt340.2.1 bt340.2.2.1 bt340.2.2.2.1 bt340.2.2.2.2.1 bt340.2.2.2.2.2.1 bt340.2.2.2.2.2.2).bind fun t357 => (if t357 = true then ((laminalaw16_integer.f 2).bind fun bt358 => ((sketch_CountEqual.f k bt340.1 bt340.2.1 bt340.2.2.1 bt340.2.2.2.1 bt340.2.2.2.2.1 bt340.2.2.2.2.2.1 bt340.2.2.2.2.2.2 bt358.1 bt358.2.1 bt358.2.2).bind fun bt361 => (if (bt361.1 == 2 && (bt361.2 == 2)) = true then ((laminalaw16_integer.f 2).bind fun bt363 => ((sketch_CountLess.f k bt340.1 bt340.2.1 bt340.2.2.1 bt340.2.2.2.1 bt340.2.2.2.2.1 bt340.2.2.2.2.2.1 bt340.2.2.2.2.2.2 bt363.1 bt363.2.1 bt363.2.2).bind fun bt366 => (if (bt366.1 == 1 && (bt366.2 == 1)) = true then ((sketch_CountDistinct.f k bt340.1 bt340.2.1 bt340.2.2.1 bt340.2.2.2.1 bt340.2.2.2.2.1 bt340.2.2.2.2.2.1 bt340.2.2.2.2.2.2).bind fun bt368 => (some (bt368.1 == 2 && (bt368.2 == 2)))) else (none)))) else (none)))) else (none))) else (none)) else (none)) else (none)) else (none)) else (none)) else (none)))))) = some r := h
 clear h
 replace H := Option.bind_eq_some_iff.mp H
 obtain ⟨⟨t328, t329, t330⟩, A10, H⟩ := H
 replace H : ((laminalaw16_integer.f 2).bind fun bt331 => ((laminalaw16_integer.f 2).bind fun bt334 => ((sketch_Build.f k (([(⟨t328, t329, t330⟩ : S39), (⟨bt331.1, bt331.2.1, bt331.2.2⟩ : S39), (⟨bt334.1, bt334.2.1, bt334.2.2⟩ : S39), (⟨0, 0, (⟨#[]⟩ : ByteArray)⟩ : S39)] : List (S39)))).bind fun bt340 => (if bt340.1 = 4 then (if bt340.2.1 = 1 then (if (bt340.2.2.2.2.2.1.length : Int) = 2 then (if (bt340.2.2.2.2.2.2.length : Int) = 4 then (if 3 < (bt340.2.2.2.2.2.2.length : Int) then (if (rd bt340.2.2.2.2.2.2 3) = 3 then ((sketch_Valid.f k bt340.1 bt340.2.1 bt340.2.2.1 bt340.2.2.2.1 bt340.2.2.2.2.1 bt340.2.2.2.2.2.1 bt340.2.2.2.2.2.2).bind fun t357 => (if t357 = true then ((laminalaw16_integer.f 2).bind fun bt358 => ((sketch_CountEqual.f k bt340.1 bt340.2.1 bt340.2.2.1 bt340.2.2.2.1 bt340.2.2.2.2.1 bt340.2.2.2.2.2.1 bt340.2.2.2.2.2.2 bt358.1 bt358.2.1 bt358.2.2).bind fun bt361 => (if (bt361.1 == 2 && (bt361.2 == 2)) = true then ((laminalaw16_integer.f 2).bind fun bt363 => ((sketch_CountLess.f k bt340.1 bt340.2.1 bt340.2.2.1 bt340.2.2.2.1 bt340.2.2.2.2.1 bt340.2.2.2.2.2.1 bt340.2.2.2.2.2.2 bt363.1 bt363.2.1 bt363.2.2).bind fun bt366 => (if (bt366.1 == 1 && (bt366.2 == 1)) = true then ((sketch_CountDistinct.f k bt340.1 bt340.2.1 bt340.2.2.1 bt340.2.2.2.1 bt340.2.2.2.2.1 bt340.2.2.2.2.2.1 bt340.2.2.2.2.2.2).bind fun bt368 => (some (bt368.1 == 2 && (bt368.2 == 2)))) else (none)))) else (none)))) else (none))) else (none)) else (none)) else (none)) else (none)) else (none)) else (none))))) = some r := H
 have A1 := Aside0.mk A10
 clear A10
 replace H := Option.bind_eq_some_iff.mp H
 obtain ⟨⟨t331, t332, t333⟩, A20, H⟩ := H
 replace H : ((laminalaw16_integer.f 2).bind fun bt334 => ((sketch_Build.f k (([(⟨t328, t329, t330⟩ : S39), (⟨t331, t332, t333⟩ : S39), (⟨bt334.1, bt334.2.1, bt334.2.2⟩ : S39), (⟨0, 0, (⟨#[]⟩ : ByteArray)⟩ : S39)] : List (S39)))).bind fun bt340 => (if bt340.1 = 4 then (if bt340.2.1 = 1 then (if (bt340.2.2.2.2.2.1.length : Int) = 2 then (if (bt340.2.2.2.2.2.2.length : Int) = 4 then (if 3 < (bt340.2.2.2.2.2.2.length : Int) then (if (rd bt340.2.2.2.2.2.2 3) = 3 then ((sketch_Valid.f k bt340.1 bt340.2.1 bt340.2.2.1 bt340.2.2.2.1 bt340.2.2.2.2.1 bt340.2.2.2.2.2.1 bt340.2.2.2.2.2.2).bind fun t357 => (if t357 = true then ((laminalaw16_integer.f 2).bind fun bt358 => ((sketch_CountEqual.f k bt340.1 bt340.2.1 bt340.2.2.1 bt340.2.2.2.1 bt340.2.2.2.2.1 bt340.2.2.2.2.2.1 bt340.2.2.2.2.2.2 bt358.1 bt358.2.1 bt358.2.2).bind fun bt361 => (if (bt361.1 == 2 && (bt361.2 == 2)) = true then ((laminalaw16_integer.f 2).bind fun bt363 => ((sketch_CountLess.f k bt340.1 bt340.2.1 bt340.2.2.1 bt340.2.2.2.1 bt340.2.2.2.2.1 bt340.2.2.2.2.2.1 bt340.2.2.2.2.2.2 bt363.1 bt363.2.1 bt363.2.2).bind fun bt366 => (if (bt366.1 == 1 && (bt366.2 == 1)) = true then ((sketch_CountDistinct.f k bt340.1 bt340.2.1 bt340.2.2.1 bt340.2.2.2.1 bt340.2.2.2.2.1 bt340.2.2.2.2.2.1 bt340.2.2.2.2.2.2).bind fun bt368 => (some (bt368.1 == 2 && (bt368.2 == 2)))) else (none)))) else (none)))) else (none))) else (none)) else (none)) else (none)) else (none)) else (none)) else (none)))) = some r := H
 have A2 := Aside0.mk A20
 clear A20
 replace H := Option.bind_eq_some_iff.mp H
 obtain ⟨⟨t334, t335, t336⟩, A30, H⟩ := H
 replace H : ((sketch_Build.f k (([(⟨t328, t329, t330⟩ : S39), (⟨t331, t332, t333⟩ : S39), (⟨t334, t335, t336⟩ : S39), (⟨0, 0, (⟨#[]⟩ : ByteArray)⟩ : S39)] : List (S39)))).bind fun bt340 => (if bt340.1 = 4 then (if bt340.2.1 = 1 then (if (bt340.2.2.2.2.2.1.length : Int) = 2 then (if (bt340.2.2.2.2.2.2.length : Int) = 4 then (if 3 < (bt340.2.2.2.2.2.2.length : Int) then (if (rd bt340.2.2.2.2.2.2 3) = 3 then ((sketch_Valid.f k bt340.1 bt340.2.1 bt340.2.2.1 bt340.2.2.2.1 bt340.2.2.2.2.1 bt340.2.2.2.2.2.1 bt340.2.2.2.2.2.2).bind fun t357 => (if t357 = true then ((laminalaw16_integer.f 2).bind fun bt358 => ((sketch_CountEqual.f k bt340.1 bt340.2.1 bt340.2.2.1 bt340.2.2.2.1 bt340.2.2.2.2.1 bt340.2.2.2.2.2.1 bt340.2.2.2.2.2.2 bt358.1 bt358.2.1 bt358.2.2).bind fun bt361 => (if (bt361.1 == 2 && (bt361.2 == 2)) = true then ((laminalaw16_integer.f 2).bind fun bt363 => ((sketch_CountLess.f k bt340.1 bt340.2.1 bt340.2.2.1 bt340.2.2.2.1 bt340.2.2.2.2.1 bt340.2.2.2.2.2.1 bt340.2.2.2.2.2.2 bt363.1 bt363.2.1 bt363.2.2).bind fun bt366 => (if (bt366.1 == 1 && (bt366.2 == 1)) = true then ((sketch_CountDistinct.f k bt340.1 bt340.2.1 bt340.2.2.1 bt340.2.2.2.1 bt340.2.2.2.2.1 bt340.2.2.2.2.2.1 bt340.2.2.2.2.2.2).bind fun bt368 => (some (bt368.1 == 2 && (bt368.2 == 2)))) else (none)))) else (none)))) else (none))) else (none)) else (none)) else (none)) else (none)) else (none)) else (none))) = some r := H
 have A3 := Aside0.mk A30
 clear A30
 obtain ⟨y337, hy337⟩ : ∃ y_ : List (S39), y_ = (([(⟨t328, t329, t330⟩ : S39), (⟨t331, t332, t333⟩ : S39), (⟨t334, t335, t336⟩ : S39), (⟨0, 0, (⟨#[]⟩ : ByteArray)⟩ : S39)] : List (S39))) := ⟨_, rfl⟩
 replace H : ((sketch_Build.f k y337).bind fun bt340 => (if bt340.1 = 4 then (if bt340.2.1 = 1 then (if (bt340.2.2.2.2.2.1.length : Int) = 2 then (if (bt340.2.2.2.2.2.2.length : Int) = 4 then (if 3 < (bt340.2.2.2.2.2.2.length : Int) then (if (rd bt340.2.2.2.2.2.2 3) = 3 then ((sketch_Valid.f k bt340.1 bt340.2.1 bt340.2.2.1 bt340.2.2.2.1 bt340.2.2.2.2.1 bt340.2.2.2.2.2.1 bt340.2.2.2.2.2.2).bind fun t357 => (if t357 = true then ((laminalaw16_integer.f 2).bind fun bt358 => ((sketch_CountEqual.f k bt340.1 bt340.2.1 bt340.2.2.1 bt340.2.2.2.1 bt340.2.2.2.2.1 bt340.2.2.2.2.2.1 bt340.2.2.2.2.2.2 bt358.1 bt358.2.1 bt358.2.2).bind fun bt361 => (if (bt361.1 == 2 && (bt361.2 == 2)) = true then ((laminalaw16_integer.f 2).bind fun bt363 => ((sketch_CountLess.f k bt340.1 bt340.2.1 bt340.2.2.1 bt340.2.2.2.1 bt340.2.2.2.2.1 bt340.2.2.2.2.2.1 bt340.2.2.2.2.2.2 bt363.1 bt363.2.1 bt363.2.2).bind fun bt366 => (if (bt366.1 == 1 && (bt366.2 == 1)) = true then ((sketch_CountDistinct.f k bt340.1 bt340.2.1 bt340.2.2.1 bt340.2.2.2.1 bt340.2.2.2.2.1 bt340.2.2.2.2.2.1 bt340.2.2.2.2.2.2).bind fun bt368 => (some (bt368.1 == 2 && (bt368.2 == 2)))) else (none)))) else (none)))) else (none))) else (none)) else (none)) else (none)) else (none)) else (none)) else (none))) = some r := by first | (rw [hy337]; with_reducible exact H) | (have H2_ := (Option.bind_some _ _).symm.trans H; rw [hy337]; with_reducible exact H2_) | (have H2_ := (Option.bind_some _ _).symm.trans H; with_reducible exact H2_) | with_reducible exact H | (rw [hy337]; exact H) | exact H
 have Ny337 := Aside0.mk hy337
 clear hy337
 replace H := Option.bind_eq_some_iff.mp H
 obtain ⟨⟨t340, t341, t342, t345, t346, t349, t352⟩, A40, H⟩ := H
 replace H : (if t340 = 4 then (if t341 = 1 then (if (t349.length : Int) = 2 then (if (t352.length : Int) = 4 then (if 3 < (t352.length : Int) then (if (rd t352 3) = 3 then ((sketch_Valid.f k t340 t341 t342 t345 t346 t349 t352).bind fun t357 => (if t357 = true then ((laminalaw16_integer.f 2).bind fun bt358 => ((sketch_CountEqual.f k t340 t341 t342 t345 t346 t349 t352 bt358.1 bt358.2.1 bt358.2.2).bind fun bt361 => (if (bt361.1 == 2 && (bt361.2 == 2)) = true then ((laminalaw16_integer.f 2).bind fun bt363 => ((sketch_CountLess.f k t340 t341 t342 t345 t346 t349 t352 bt363.1 bt363.2.1 bt363.2.2).bind fun bt366 => (if (bt366.1 == 1 && (bt366.2 == 1)) = true then ((sketch_CountDistinct.f k t340 t341 t342 t345 t346 t349 t352).bind fun bt368 => (some (bt368.1 == 2 && (bt368.2 == 2)))) else (none)))) else (none)))) else (none))) else (none)) else (none)) else (none)) else (none)) else (none)) else (none)) = some r := H
 have A4 := Aside0.mk A40
 clear A40
 by_cases c5 : t340 = 4
 ·rw [if_pos c5] at H
  have c5b0 : (t340 == 4) = true := beq_iff_eq.mpr c5
  have c5b1 : (t340 != 4) = false := bne_eq_false_iff_eq.mpr c5
  clear c5
  by_cases c6 : t341 = 1
  ·rw [if_pos c6] at H
   have c6b0 : (t341 == 1) = true := beq_iff_eq.mpr c6
   have c6b1 : (t341 != 1) = false := bne_eq_false_iff_eq.mpr c6
   clear c6
   by_cases c7 : (t349.length : Int) = 2
   ·rw [if_pos c7] at H
    have c7b0 : ((t349.length : Int) == 2) = true := beq_iff_eq.mpr c7
    have c7b1 : ((t349.length : Int) != 2) = false := bne_eq_false_iff_eq.mpr c7
    clear c7
    by_cases c8 : (t352.length : Int) = 4
    ·rw [if_pos c8] at H
     have c8b0 : ((t352.length : Int) == 4) = true := beq_iff_eq.mpr c8
     have c8b1 : ((t352.length : Int) != 4) = false := bne_eq_false_iff_eq.mpr c8
     clear c8
     by_cases c9 : 3 < (t352.length : Int)
     ·rw [if_pos c9] at H
      have c9b0 : decide (3 < (t352.length : Int)) = true := decide_eq_true c9
      have c9b1 : decide (3 < t352.length) = true := decide_eq_true (by omega)
      clear c9
      by_cases c10 : (rd t352 3) = 3
      ·rw [if_pos c10] at H
       have c10b0 : ((rd t352 3) == 3) = true := beq_iff_eq.mpr c10
       have c10b1 : ((rd t352 3) != 3) = false := bne_eq_false_iff_eq.mpr c10
       clear c10
       replace H := Option.bind_eq_some_iff.mp H
       obtain ⟨t357, A110, H⟩ := H
       replace H : (if t357 = true then ((laminalaw16_integer.f 2).bind fun bt358 => ((sketch_CountEqual.f k t340 t341 t342 t345 t346 t349 t352 bt358.1 bt358.2.1 bt358.2.2).bind fun bt361 => (if (bt361.1 == 2 && (bt361.2 == 2)) = true then ((laminalaw16_integer.f 2).bind fun bt363 => ((sketch_CountLess.f k t340 t341 t342 t345 t346 t349 t352 bt363.1 bt363.2.1 bt363.2.2).bind fun bt366 => (if (bt366.1 == 1 && (bt366.2 == 1)) = true then ((sketch_CountDistinct.f k t340 t341 t342 t345 t346 t349 t352).bind fun bt368 => (some (bt368.1 == 2 && (bt368.2 == 2)))) else (none)))) else (none)))) else (none)) = some r := H
       have A11 := Aside0.mk A110
       clear A110
       by_cases c12 : t357 = true
       ·subst c12
        have H1 : ((laminalaw16_integer.f 2).bind fun bt358 => ((sketch_CountEqual.f k t340 t341 t342 t345 t346 t349 t352 bt358.1 bt358.2.1 bt358.2.2).bind fun bt361 => (if (bt361.1 == 2 && (bt361.2 == 2)) = true then ((laminalaw16_integer.f 2).bind fun bt363 => ((sketch_CountLess.f k t340 t341 t342 t345 t346 t349 t352 bt363.1 bt363.2.1 bt363.2.2).bind fun bt366 => (if (bt366.1 == 1 && (bt366.2 == 1)) = true then ((sketch_CountDistinct.f k t340 t341 t342 t345 t346 t349 t352).bind fun bt368 => (some (bt368.1 == 2 && (bt368.2 == 2)))) else (none)))) else (none)))) = some r := by rw [if_pos rfl] at H; exact H
        clear H
        have H := H1
        clear H1
        replace H := Option.bind_eq_some_iff.mp H
        obtain ⟨⟨t358, t359, t360⟩, A130, H⟩ := H
        replace H : ((sketch_CountEqual.f k t340 t341 t342 t345 t346 t349 t352 t358 t359 t360).bind fun bt361 => (if (bt361.1 == 2 && (bt361.2 == 2)) = true then ((laminalaw16_integer.f 2).bind fun bt363 => ((sketch_CountLess.f k t340 t341 t342 t345 t346 t349 t352 bt363.1 bt363.2.1 bt363.2.2).bind fun bt366 => (if (bt366.1 == 1 && (bt366.2 == 1)) = true then ((sketch_CountDistinct.f k t340 t341 t342 t345 t346 t349 t352).bind fun bt368 => (some (bt368.1 == 2 && (bt368.2 == 2)))) else (none)))) else (none))) = some r := H
        have A13 := Aside0.mk A130
        clear A130
        replace H := Option.bind_eq_some_iff.mp H
        obtain ⟨⟨t361, t362⟩, A140, H⟩ := H
        replace H : (if (t361 == 2 && (t362 == 2)) = true then ((laminalaw16_integer.f 2).bind fun bt363 => ((sketch_CountLess.f k t340 t341 t342 t345 t346 t349 t352 bt363.1 bt363.2.1 bt363.2.2).bind fun bt366 => (if (bt366.1 == 1 && (bt366.2 == 1)) = true then ((sketch_CountDistinct.f k t340 t341 t342 t345 t346 t349 t352).bind fun bt368 => (some (bt368.1 == 2 && (bt368.2 == 2)))) else (none)))) else (none)) = some r := H
        have A14 := Aside0.mk A140
        clear A140
        by_cases c15 : (t361 == 2 && (t362 == 2)) = true
        ·rw [if_pos c15] at H
         have c15b0 : (t361 == 2 && (t362 == 2)) = true := c15
         (try (have c15b1 : decide (t361 = 2 && (t362 == 2)) = true := by simpa using c15))
         (try (have c15b2 : (t361 == 2 && (t362 == 2)) = true := by simpa using c15))
         clear c15
         replace H := Option.bind_eq_some_iff.mp H
         obtain ⟨⟨t363, t364, t365⟩, A160, H⟩ := H
         replace H : ((sketch_CountLess.f k t340 t341 t342 t345 t346 t349 t352 t363 t364 t365).bind fun bt366 => (if (bt366.1 == 1 && (bt366.2 == 1)) = true then ((sketch_CountDistinct.f k t340 t341 t342 t345 t346 t349 t352).bind fun bt368 => (some (bt368.1 == 2 && (bt368.2 == 2)))) else (none))) = some r := H
         have A16 := Aside0.mk A160
         clear A160
         replace H := Option.bind_eq_some_iff.mp H
         obtain ⟨⟨t366, t367⟩, A170, H⟩ := H
         replace H : (if (t366 == 1 && (t367 == 1)) = true then ((sketch_CountDistinct.f k t340 t341 t342 t345 t346 t349 t352).bind fun bt368 => (some (bt368.1 == 2 && (bt368.2 == 2)))) else (none)) = some r := H
         have A17 := Aside0.mk A170
         clear A170
         by_cases c18 : (t366 == 1 && (t367 == 1)) = true
         ·rw [if_pos c18] at H
          have c18b0 : (t366 == 1 && (t367 == 1)) = true := c18
          (try (have c18b1 : decide (t366 = 1 && (t367 == 1)) = true := by simpa using c18))
          (try (have c18b2 : (t366 == 1 && (t367 == 1)) = true := by simpa using c18))
          clear c18
          replace H := Option.bind_eq_some_iff.mp H
          obtain ⟨⟨t368, t369⟩, A190, H⟩ := H
          replace H : (some (t368 == 2 && (t369 == 2))) = some r := H
          have A19 := Aside0.mk A190
          clear A190
          obtain rfl := Option.some.inj H
          go_enter Try.func12, Try.ntmps12
          try go_wp2_with (first | ((with_reducible refine gate_callee (f := 40) rfl ?_); refine goesL_ (some 2) rfl rfl Try.func40 (by kernel_rfl) rfl #[.int .i64 1] rfl (by (try simp only [List.map_toArray, List.map_cons, List.map_nil]); first | done | rfl | (simp only [List.length_drop, List.length_take]; rfl) | (simp only [Int.ofNat_lt, Int.ofNat_le, gt_iff_lt, ge_iff_le]; rfl)) ?_; (with_reducible refine (laminalaw16_integer.calls 1 t328 t329 t330 _ A1.out).mono ?_); rintro e w20 ⟨rfl, hb⟩; refine ⟨_, rfl, ?_⟩; replace HB := Aside0.mk (below_step (hb_ HB.out) hb); (try clear hb)) | ((with_reducible refine gate_callee (f := 40) rfl ?_); refine goesL_ (some 3) rfl rfl Try.func40 (by kernel_rfl) rfl #[.int .i64 2] rfl (by (try simp only [List.map_toArray, List.map_cons, List.map_nil]); first | done | rfl | (simp only [List.length_drop, List.length_take]; rfl) | (simp only [Int.ofNat_lt, Int.ofNat_le, gt_iff_lt, ge_iff_le]; rfl)) ?_; (with_reducible refine (laminalaw16_integer.calls 2 t331 t332 t333 _ A2.out).mono ?_); rintro e w21 ⟨rfl, hb⟩; refine ⟨_, rfl, ?_⟩; replace HB := Aside0.mk (below_step (hb_ HB.out) hb); (try clear hb)) | ((with_reducible refine gate_callee (f := 40) rfl ?_); refine goesL_ (some 4) rfl rfl Try.func40 (by kernel_rfl) rfl #[.int .i64 2] rfl (by (try simp only [List.map_toArray, List.map_cons, List.map_nil]); first | done | rfl | (simp only [List.length_drop, List.length_take]; rfl) | (simp only [Int.ofNat_lt, Int.ofNat_le, gt_iff_lt, ge_iff_le]; rfl)) ?_; (with_reducible refine (laminalaw16_integer.calls 2 t334 t335 t336 _ A3.out).mono ?_); rintro e w22 ⟨rfl, hb⟩; refine ⟨_, rfl, ?_⟩; replace HB := Aside0.mk (below_step (hb_ HB.out) hb); (try clear hb)) | ((with_reducible refine gate_dst (N := 6) rfl ?_); (try (refine gate_guard (by rfl) ?_; dsimp only)); refine Kd.R_lit k39 _ 39 ?hg (N := 6) ?hd (xs := ([(⟨t328, t329, t330⟩ : S39), (⟨t331, t332, t333⟩ : S39), (⟨t334, t335, t336⟩ : S39), (⟨0, 0, (⟨#[]⟩ : ByteArray)⟩ : S39)] : List (S39))) (inner := [.int .i64 t328, .int .i64 t329, .string t330, .int .i64 t331, .int .i64 t332, .string t333, .int .i64 t334, .int .i64 t335, .string t336, .int .i64 0, .int .i64 0, .string (⟨#[]⟩ : ByteArray)]) (ok := fun _ => True) (okp := fun _ => True) ?hr ?hp (fun _ hk => hk) trivial (Below.refl _ _) (Nat.le_refl _) (by simp) ?_; (case hd => rfl); (case hg => rfl); (case hr => first | (go_simp; done) | (go_simp; rfl)); (case hp => exact (Reps.c3 (show Kd.M k39 _ _ _ (⟨t328, t329, t330⟩ : S39) [.int .i64 t328, .int .i64 t329, .string t330] from (k39_mkM _ _ _ (⟨t328, t329, t330⟩ : S39) )) (Reps.c3 (show Kd.M k39 _ _ _ (⟨t331, t332, t333⟩ : S39) [.int .i64 t331, .int .i64 t332, .string t333] from (k39_mkM _ _ _ (⟨t331, t332, t333⟩ : S39) )) (Reps.c3 (show Kd.M k39 _ _ _ (⟨t334, t335, t336⟩ : S39) [.int .i64 t334, .int .i64 t335, .string t336] from (k39_mkM _ _ _ (⟨t334, t335, t336⟩ : S39) )) (Reps.c3 (show Kd.M k39 _ _ _ (⟨0, 0, (⟨#[]⟩ : ByteArray)⟩ : S39) [.int .i64 0, .int .i64 0, .string (⟨#[]⟩ : ByteArray)] from (k39_mkM _ _ _ (⟨0, 0, (⟨#[]⟩ : ByteArray)⟩ : S39) )) (Reps.none _ _)))))); intro v338 w23 ho24 hb hg_ hnew_; clear hg_ hnew_; (first | rw [← Ny337.out] at ho24 | (simp only [Int.reduceToNat] at ho24; rw [← Ny337.out] at ho24)); have HO339 := Aside0.mk (Kd.R_lower ho24 (below_size (hb_ HB.out))); replace HB := Aside0.mk (below_step (hb_ HB.out) hb); clear hb ho24; obtain ⟨Ao25, co25, eo25⟩ := Kd.R_slice HO339.out; subst eo25) | ((with_reducible refine gate_callee (f := 18) rfl ?_); refine goesL_ (some 7) rfl rfl Try.func18 (by kernel_rfl) rfl #[.slice Ao25 y337.length co25] rfl (by (try simp only [List.map_toArray, List.map_cons, List.map_nil]); first | done | rfl | (simp only [List.length_drop, List.length_take]; rfl) | (simp only [Int.ofNat_lt, Int.ofNat_le, gt_iff_lt, ge_iff_le]; rfl)) ?_; (with_reducible refine (sketch_Build.calls k _ _ y337 t340 t341 t342 t345 t346 t349 t352 _ ?side1 ?side2 A4.out).mono ?_); (case side1 => repeat (first | exact (Kd.R_reads' HO339.out).2.2 | (with_reducible refine Kd.C_alloc ?_ _) | (with_reducible refine Kd.C_drewN ?_ _) | (with_reducible refine Kd.C_drew ?_))); (case side2 => exact (Kd.R_reads' HO339.out).2.1); rintro e w26 ⟨v343, v347, v350, v353, rfl, ho0, ho1, ho2, ho3, hb⟩; refine ⟨_, rfl, ?_⟩; have HO344 := Aside0.mk (Kd.R_lower ho0 (below_size (hb_ HB.out))); have HO348 := Aside0.mk (Kd.R_lower ho1 (below_size (hb_ HB.out))); have HO351 := Aside0.mk (Kd.R_lower (Kd.R_new' ho2 (Kd.R_lt (ra_ HO339.out))) (below_size (hb_ HB.out))); have HO354 := Aside0.mk (Kd.R_lower ho3 (below_size (hb_ HB.out))); replace HO339 := Aside0.mk (Kd.R_elder' (ra_ HO339.out) (Kd.R_base ho2) hb); replace HB := Aside0.mk (below_step (hb_ HB.out) hb); (try clear hb); (try clear ho0); (try clear ho1); (try clear ho2); (try clear ho3)) | ((with_reducible refine gate_dst (N := 1) rfl ?_); (try (refine gate_guard (by rfl) ?_; dsimp only)); refine box_ 1 (cs := #[.int .i64 0, .int .i64 0, .slice none 0 0, .bool false, .slice none 0 0, .slice none 0 0, .slice none 0 0]) (t := 26) ?_; intro gb355 hg w27 hbox hb; have BK355 := Aside0.mk (hbox); have GW355 := Aside0.mk ((by rw [hg]; exact (below_size (hb_ HB.out)) : w.heap.size ≤ gb355)); have GE355 := Aside0.mk ((by rw [hg]; exact (below_size (hb_ HB.out)) : w.heap.size ≤ gb355)); replace HO339 := Aside0.mk (Kd.R_below (ra_ HO339.out) hb); replace HO344 := Aside0.mk (Kd.R_below (ra_ HO344.out) hb); replace HO348 := Aside0.mk (Kd.R_below (ra_ HO348.out) hb); replace HO351 := Aside0.mk (Kd.R_below (ra_ HO351.out) hb); replace HO354 := Aside0.mk (Kd.R_below (ra_ HO354.out) hb); replace HB := Aside0.mk (below_step (hb_ HB.out) hb); clear hb hbox hg; obtain ⟨hcz28_0, hcz28_1, hcz28_2, hcz28_3, hcz28_4, hcz28_5, hcz28_6, hfz28_0, hfz28_1, hfz28_2, hfz28_3, hfz28_4, hfz28_5, hfz28_6⟩ := bf7 BK355.out; obtain ⟨Ao29, co29, eo29⟩ := Kd.R_slice HO344.out; subst eo29; obtain ⟨Ao30, co30, eo30⟩ := Kd.R_slice HO348.out; subst eo30; obtain ⟨Ao31, co31, eo31⟩ := Kd.R_slice HO351.out; subst eo31; obtain ⟨Ao32, co32, eo32⟩ := Kd.R_slice HO354.out; subst eo32))
          have n0_ : Aside0 (Kd.R k39 39 (((((((w27.setCell ⟨gb355, 0, none⟩ (.int .i64 t340)).setCell ⟨gb355, 1, none⟩ (.int .i64 t341)).setCell ⟨gb355, 2, none⟩ (.slice Ao29 t342.length co29)).setCell ⟨gb355, 3, none⟩ (.bool t345)).setCell ⟨gb355, 4, none⟩ (.slice Ao30 t346.length co30)).setCell ⟨gb355, 5, none⟩ (.slice Ao31 t349.length co31)).setCell ⟨gb355, 6, none⟩ (.slice Ao32 t352.length co32)) w.heap.size (fun k_ => some k_ ≠ (.slice Ao31 t349.length co31 : Value).ownBlock) (.slice Ao25 y337.length co25) y337) := ⟨by (with_reducible repeat (first | apply Kd.R_alloc | apply Kd.R_drewN | apply Kd.R_drew)); exact Kd.R_mono (Kd.R_far (p := ⟨gb355, 6, none⟩) (Kd.R_far (p := ⟨gb355, 5, none⟩) (Kd.R_far (p := ⟨gb355, 4, none⟩) (Kd.R_far (p := ⟨gb355, 3, none⟩) (Kd.R_far (p := ⟨gb355, 2, none⟩) (Kd.R_far (p := ⟨gb355, 1, none⟩) (Kd.R_far (p := ⟨gb355, 0, none⟩) (Kd.R_types HO339.out BK355.out (by decide)) (fun _ hk => hk.2) (.int .i64 t340)) (fun _ hk => hk.2) (.int .i64 t341)) (fun _ hk => hk.2) (.slice Ao29 t342.length co29)) (fun _ hk => hk.2) (.bool t345)) (fun _ hk => hk.2) (.slice Ao30 t346.length co30)) (fun _ hk => hk.2) (.slice Ao31 t349.length co31)) (fun _ hk => hk.2) (.slice Ao32 t352.length co32)) (fun _ hk => hk.1.2)⟩
          have n1_ : Aside0 (Kd.R (Kd.int .u64) 53 (((((((w27.setCell ⟨gb355, 0, none⟩ (.int .i64 t340)).setCell ⟨gb355, 1, none⟩ (.int .i64 t341)).setCell ⟨gb355, 2, none⟩ (.slice Ao29 t342.length co29)).setCell ⟨gb355, 3, none⟩ (.bool t345)).setCell ⟨gb355, 4, none⟩ (.slice Ao30 t346.length co30)).setCell ⟨gb355, 5, none⟩ (.slice Ao31 t349.length co31)).setCell ⟨gb355, 6, none⟩ (.slice Ao32 t352.length co32)) w.heap.size (fun _ => True) (.slice Ao29 t342.length co29) t342) := ⟨by (with_reducible repeat (first | apply Kd.R_alloc | apply Kd.R_drewN | apply Kd.R_drew)); exact Kd.R_mono (Kd.R_far (p := ⟨gb355, 6, none⟩) (Kd.R_far (p := ⟨gb355, 5, none⟩) (Kd.R_far (p := ⟨gb355, 4, none⟩) (Kd.R_far (p := ⟨gb355, 3, none⟩) (Kd.R_far (p := ⟨gb355, 2, none⟩) (Kd.R_far (p := ⟨gb355, 1, none⟩) (Kd.R_far (p := ⟨gb355, 0, none⟩) (Kd.R_types HO344.out BK355.out (by decide)) (fun _ hk => hk.2) (.int .i64 t340)) (fun _ hk => hk.2) (.int .i64 t341)) (fun _ hk => hk.2) (.slice Ao29 t342.length co29)) (fun _ hk => hk.2) (.bool t345)) (fun _ hk => hk.2) (.slice Ao30 t346.length co30)) (fun _ hk => hk.2) (.slice Ao31 t349.length co31)) (fun _ hk => hk.2) (.slice Ao32 t352.length co32)) (fun _ hk => trivial)⟩
          have n2_ : Aside0 (Kd.R (Kd.int .i64) 3 (((((((w27.setCell ⟨gb355, 0, none⟩ (.int .i64 t340)).setCell ⟨gb355, 1, none⟩ (.int .i64 t341)).setCell ⟨gb355, 2, none⟩ (.slice Ao29 t342.length co29)).setCell ⟨gb355, 3, none⟩ (.bool t345)).setCell ⟨gb355, 4, none⟩ (.slice Ao30 t346.length co30)).setCell ⟨gb355, 5, none⟩ (.slice Ao31 t349.length co31)).setCell ⟨gb355, 6, none⟩ (.slice Ao32 t352.length co32)) w.heap.size (fun k_ => some k_ ≠ (.slice Ao32 t352.length co32 : Value).ownBlock) (.slice Ao30 t346.length co30) t346) := ⟨by (with_reducible repeat (first | apply Kd.R_alloc | apply Kd.R_drewN | apply Kd.R_drew)); exact Kd.R_mono (Kd.R_far (p := ⟨gb355, 6, none⟩) (Kd.R_far (p := ⟨gb355, 5, none⟩) (Kd.R_far (p := ⟨gb355, 4, none⟩) (Kd.R_far (p := ⟨gb355, 3, none⟩) (Kd.R_far (p := ⟨gb355, 2, none⟩) (Kd.R_far (p := ⟨gb355, 1, none⟩) (Kd.R_far (p := ⟨gb355, 0, none⟩) (Kd.R_types HO348.out BK355.out (by decide)) (fun _ hk => hk.2) (.int .i64 t340)) (fun _ hk => hk.2) (.int .i64 t341)) (fun _ hk => hk.2) (.slice Ao29 t342.length co29)) (fun _ hk => hk.2) (.bool t345)) (fun _ hk => hk.2) (.slice Ao30 t346.length co30)) (fun _ hk => hk.2) (.slice Ao31 t349.length co31)) (fun _ hk => hk.2) (.slice Ao32 t352.length co32)) (fun _ hk => hk.1)⟩
          have n3_ : Aside0 (Kd.R k39 39 (((((((w27.setCell ⟨gb355, 0, none⟩ (.int .i64 t340)).setCell ⟨gb355, 1, none⟩ (.int .i64 t341)).setCell ⟨gb355, 2, none⟩ (.slice Ao29 t342.length co29)).setCell ⟨gb355, 3, none⟩ (.bool t345)).setCell ⟨gb355, 4, none⟩ (.slice Ao30 t346.length co30)).setCell ⟨gb355, 5, none⟩ (.slice Ao31 t349.length co31)).setCell ⟨gb355, 6, none⟩ (.slice Ao32 t352.length co32)) w.heap.size (fun k_ => some k_ ≠ (.slice Ao25 y337.length co25 : Value).ownBlock) (.slice Ao31 t349.length co31) t349) := ⟨by (with_reducible repeat (first | apply Kd.R_alloc | apply Kd.R_drewN | apply Kd.R_drew)); exact Kd.R_mono (Kd.R_far (p := ⟨gb355, 6, none⟩) (Kd.R_far (p := ⟨gb355, 5, none⟩) (Kd.R_far (p := ⟨gb355, 4, none⟩) (Kd.R_far (p := ⟨gb355, 3, none⟩) (Kd.R_far (p := ⟨gb355, 2, none⟩) (Kd.R_far (p := ⟨gb355, 1, none⟩) (Kd.R_far (p := ⟨gb355, 0, none⟩) (Kd.R_types HO351.out BK355.out (by decide)) (fun _ hk => hk.2) (.int .i64 t340)) (fun _ hk => hk.2) (.int .i64 t341)) (fun _ hk => hk.2) (.slice Ao29 t342.length co29)) (fun _ hk => hk.2) (.bool t345)) (fun _ hk => hk.2) (.slice Ao30 t346.length co30)) (fun _ hk => hk.2) (.slice Ao31 t349.length co31)) (fun _ hk => hk.2) (.slice Ao32 t352.length co32)) (fun _ hk => hk.1.2)⟩
          have n4_ : Aside0 (Kd.R (Kd.int .i64) 3 (((((((w27.setCell ⟨gb355, 0, none⟩ (.int .i64 t340)).setCell ⟨gb355, 1, none⟩ (.int .i64 t341)).setCell ⟨gb355, 2, none⟩ (.slice Ao29 t342.length co29)).setCell ⟨gb355, 3, none⟩ (.bool t345)).setCell ⟨gb355, 4, none⟩ (.slice Ao30 t346.length co30)).setCell ⟨gb355, 5, none⟩ (.slice Ao31 t349.length co31)).setCell ⟨gb355, 6, none⟩ (.slice Ao32 t352.length co32)) w.heap.size (fun k_ => some k_ ≠ (.slice Ao30 t346.length co30 : Value).ownBlock) (.slice Ao32 t352.length co32) t352) := ⟨by (with_reducible repeat (first | apply Kd.R_alloc | apply Kd.R_drewN | apply Kd.R_drew)); exact Kd.R_mono (Kd.R_far (p := ⟨gb355, 6, none⟩) (Kd.R_far (p := ⟨gb355, 5, none⟩) (Kd.R_far (p := ⟨gb355, 4, none⟩) (Kd.R_far (p := ⟨gb355, 3, none⟩) (Kd.R_far (p := ⟨gb355, 2, none⟩) (Kd.R_far (p := ⟨gb355, 1, none⟩) (Kd.R_far (p := ⟨gb355, 0, none⟩) (Kd.R_types HO354.out BK355.out (by decide)) (fun _ hk => hk.2) (.int .i64 t340)) (fun _ hk => hk.2) (.int .i64 t341)) (fun _ hk => hk.2) (.slice Ao29 t342.length co29)) (fun _ hk => hk.2) (.bool t345)) (fun _ hk => hk.2) (.slice Ao30 t346.length co30)) (fun _ hk => hk.2) (.slice Ao31 t349.length co31)) (fun _ hk => hk.2) (.slice Ao32 t352.length co32)) (fun _ hk => hk.1)⟩
          have n5_ : Aside0 ((((((((w27.setCell ⟨gb355, 0, none⟩ (.int .i64 t340)).setCell ⟨gb355, 1, none⟩ (.int .i64 t341)).setCell ⟨gb355, 2, none⟩ (.slice Ao29 t342.length co29)).setCell ⟨gb355, 3, none⟩ (.bool t345)).setCell ⟨gb355, 4, none⟩ (.slice Ao30 t346.length co30)).setCell ⟨gb355, 5, none⟩ (.slice Ao31 t349.length co31)).setCell ⟨gb355, 6, none⟩ (.slice Ao32 t352.length co32)).heap[gb355]? = some (.cells #[.int .i64 t340, .int .i64 t341, .slice Ao29 t342.length co29, .bool t345, .slice Ao30 t346.length co30, .slice Ao31 t349.length co31, .slice Ao32 t352.length co32] 26 (0, 0))) := ⟨by (with_reducible repeat (first | refine blk_drewN ?_ _ | refine blk_drew ?_ | refine blk_alloc ?_ _)); refine blk_put (cs := #[.int .i64 t340, .int .i64 t341, .slice Ao29 t342.length co29, .bool t345, .slice Ao30 t346.length co30, .slice Ao31 t349.length co31, .slice none 0 0]) ?_ 6 _ rfl; (with_reducible repeat (first | refine blk_drewN ?_ _ | refine blk_drew ?_ | refine blk_alloc ?_ _)); refine blk_put (cs := #[.int .i64 t340, .int .i64 t341, .slice Ao29 t342.length co29, .bool t345, .slice Ao30 t346.length co30, .slice none 0 0, .slice none 0 0]) ?_ 5 _ rfl; (with_reducible repeat (first | refine blk_drewN ?_ _ | refine blk_drew ?_ | refine blk_alloc ?_ _)); refine blk_put (cs := #[.int .i64 t340, .int .i64 t341, .slice Ao29 t342.length co29, .bool t345, .slice none 0 0, .slice none 0 0, .slice none 0 0]) ?_ 4 _ rfl; (with_reducible repeat (first | refine blk_drewN ?_ _ | refine blk_drew ?_ | refine blk_alloc ?_ _)); refine blk_put (cs := #[.int .i64 t340, .int .i64 t341, .slice Ao29 t342.length co29, .bool false, .slice none 0 0, .slice none 0 0, .slice none 0 0]) ?_ 3 _ rfl; (with_reducible repeat (first | refine blk_drewN ?_ _ | refine blk_drew ?_ | refine blk_alloc ?_ _)); refine blk_put (cs := #[.int .i64 t340, .int .i64 t341, .slice none 0 0, .bool false, .slice none 0 0, .slice none 0 0, .slice none 0 0]) ?_ 2 _ rfl; (with_reducible repeat (first | refine blk_drewN ?_ _ | refine blk_drew ?_ | refine blk_alloc ?_ _)); refine blk_put (cs := #[.int .i64 t340, .int .i64 0, .slice none 0 0, .bool false, .slice none 0 0, .slice none 0 0, .slice none 0 0]) ?_ 1 _ rfl; (with_reducible repeat (first | refine blk_drewN ?_ _ | refine blk_drew ?_ | refine blk_alloc ?_ _)); refine blk_put (cs := #[.int .i64 0, .int .i64 0, .slice none 0 0, .bool false, .slice none 0 0, .slice none 0 0, .slice none 0 0]) ?_ 0 _ rfl; (with_reducible repeat (first | refine blk_drewN ?_ _ | refine blk_drew ?_ | refine blk_alloc ?_ _)); exact BK355.out⟩
          have n6_ : Aside0 (Below w.heap.size w (((((((w27.setCell ⟨gb355, 0, none⟩ (.int .i64 t340)).setCell ⟨gb355, 1, none⟩ (.int .i64 t341)).setCell ⟨gb355, 2, none⟩ (.slice Ao29 t342.length co29)).setCell ⟨gb355, 3, none⟩ (.bool t345)).setCell ⟨gb355, 4, none⟩ (.slice Ao30 t346.length co30)).setCell ⟨gb355, 5, none⟩ (.slice Ao31 t349.length co31)).setCell ⟨gb355, 6, none⟩ (.slice Ao32 t352.length co32))) := ⟨(hb1_ HB.out GE355.out)⟩
          (try clear HO339)
          (try clear HO344)
          (try clear HO348)
          (try clear HO351)
          (try clear HO354)
          (try clear BK355)
          (try clear HB)
          generalize (((((((w27.setCell ⟨gb355, 0, none⟩ (.int .i64 t340)).setCell ⟨gb355, 1, none⟩ (.int .i64 t341)).setCell ⟨gb355, 2, none⟩ (.slice Ao29 t342.length co29)).setCell ⟨gb355, 3, none⟩ (.bool t345)).setCell ⟨gb355, 4, none⟩ (.slice Ao30 t346.length co30)).setCell ⟨gb355, 5, none⟩ (.slice Ao31 t349.length co31)).setCell ⟨gb355, 6, none⟩ (.slice Ao32 t352.length co32)) = w33 at n0_ n1_ n2_ n3_ n4_ n5_ n6_ ⊢
          have HO339 := n0_
          have HO344 := n1_
          have HO348 := n2_
          have HO351 := n3_
          have HO354 := n4_
          have BK355 := n5_
          have HB := n6_
          clear n0_ n1_ n2_ n3_ n4_ n5_ n6_
          replace HO339 := Aside0.mk (Kd.R_drew HO339.out)
          replace HO344 := Aside0.mk (Kd.R_drew HO344.out)
          replace HO348 := Aside0.mk (Kd.R_drew HO348.out)
          replace HO351 := Aside0.mk (Kd.R_drew HO351.out)
          replace HO354 := Aside0.mk (Kd.R_drew HO354.out)
          replace BK355 := Aside0.mk (blk_drew BK355.out)
          replace HB := Aside0.mk (below_drew1 HB.out)
          have p356 : 0 ≤ (3 : Int) := (by omega)
          have q356 : 3 < (t352.length : Int) := of_decide_eq_true (by first | (with_reducible assumption) | assumption)
          obtain ⟨ad356, e356, hx356_0⟩ := Kd.at_int (Kd.R_reads' HO354.out).2.2 3 p356 q356
          cases e356
          (try simp only [show (3 : Int).toNat = 3 from rfl, Nat.reduceMul, Nat.reduceEqDiff, Go.Addr.add, ↓reduceIte] at hx356_0)
          have qi356 : (3 < t352.length) = True := eq_true (by omega)
          (try rw [show ((3 : Int)).toNat = 3 from rfl] at hx356_0)
          replace p356 := eq_true p356
          replace q356 := eq_true q356
          refine start_ (n := 52) (S := fun w' => w'.cell? ⟨gb355, 0, none⟩ = some (.int .i64 t340) ∧ w'.cell? ⟨gb355, 1, none⟩ = some (.int .i64 t341) ∧ w'.cell? ⟨gb355, 2, none⟩ = some (.slice Ao29 t342.length co29) ∧ w'.cell? ⟨gb355, 3, none⟩ = some (.bool t345) ∧ w'.cell? ⟨gb355, 4, none⟩ = some (.slice Ao30 t346.length co30) ∧ w'.cell? ⟨gb355, 5, none⟩ = some (.slice Ao31 t349.length co31) ∧ w'.cell? ⟨gb355, 6, none⟩ = some (.slice (some ad356) t352.length co32) ∧ w'.cell? ⟨ad356.block, ad356.off + 3, none⟩ = some (.int .i64 (rd t352 3))) (ds := []) #[false, false, false, false, false, false, false, false, false, false, false, false, false, false, false, false, false, false, false, false, false, false, false, false, false, false, false, false, false, false, false, false, false, false, false, false, false, false, false, false, false, false, false, false, false, false, false, false, false, false, false, false] (by kernel_rfl) rfl rfl (ap7 (bc7 BK355.out) hx356_0) (fun hHeld => ?_); refine with_tabW laminalaw16_awake.tab2 laminalaw16_awake.bits2 (fun HT_ HW_ => ?_)
          generalize w33.drew = w34 at HO339 HO344 HO348 HO351 HO354 BK355 HB hx356_0 hHeld ⊢
          refine pu_ HT_ 0 (some 8) ?_
          refine tk_ HT_ HW_ 1 (some 9) hHeld ?_
          refine pu_ HT_ 2 (some 10) ?_
          refine pu_ HT_ 3 (some 11) ?_
          refine pu_ HT_ 4 (some 12) ?_
          refine tk_ HT_ HW_ 5 (some 13) hHeld ?_
          refine pu_ HT_ 6 (some 14) ?_
          refine pu_ HT_ 7 (some 15) ?_
          refine pu_ HT_ 8 (some 16) ?_
          refine pu_ HT_ 9 (some 17) ?_
          refine tk_ HT_ HW_ 10 (some 18) hHeld ?_
          refine pu_ HT_ 11 (some 19) ?_
          refine pu_ HT_ 12 (some 20) ?_
          refine pu_ HT_ 13 (some 21) ?_
          refine pu_ HT_ 14 (some 22) ?_
          refine pu_ HT_ 15 (some 23) ?_
          refine tk_ HT_ HW_ 16 (some 24) hHeld ?_
          refine pu_ HT_ 17 (some 25) ?_
          refine pu_ HT_ 18 (some 26) ?_
          refine pu_ HT_ 19 (some 27) ?_
          refine pu_ HT_ 20 (some 28) ?_
          refine pu_ HT_ 21 (some 29) ?_
          refine tk_ HT_ HW_ 22 (some 30) hHeld ?_
          refine pu_ HT_ 23 (some 31) ?_
          refine tk_ HT_ HW_ 24 (some 32) hHeld ?_
          refine pu_ HT_ 25 (some 33) ?_
          refine pu_ HT_ 26 (some 34) ?_
          refine pu_ HT_ 27 (some 35) ?_
          refine tk_ HT_ HW_ 28 (some 36) hHeld ?_
          refine on_ HT_ 29 (some 37) (fun K hK => ?_)
          refine gos_ Try.func20 #[.agg #[.int .i64 t340, .int .i64 t341, .slice Ao29 t342.length co29, .bool t345, .slice Ao30 t346.length co30, .slice Ao31 t349.length co31, .slice (some ad356) t352.length co32]] ?_
          with_reducible refine (sketch_Valid.calls k t340 t341 _ _ t342 t345 _ _ t346 _ _ t349 _ _ t352 true _ ?side1 ?side2 ?side3 ?side4 ?side5 ?side6 ?side7 ?side8 A11.out).mono ?_
          (case side1 => repeat (first | exact (Kd.R_reads' HO344.out).2.2 | (with_reducible refine Kd.C_alloc ?_ _) | (with_reducible refine Kd.C_drewN ?_ _) | (with_reducible refine Kd.C_drew ?_)))
          (case side2 => exact (Kd.R_reads' HO344.out).2.1)
          (case side3 => repeat (first | exact (Kd.R_reads' HO348.out).2.2 | (with_reducible refine Kd.C_alloc ?_ _) | (with_reducible refine Kd.C_drewN ?_ _) | (with_reducible refine Kd.C_drew ?_)))
          (case side4 => exact (Kd.R_reads' HO348.out).2.1)
          (case side5 => repeat (first | exact (Kd.R_reads' HO351.out).2.2 | (with_reducible refine Kd.C_alloc ?_ _) | (with_reducible refine Kd.C_drewN ?_ _) | (with_reducible refine Kd.C_drew ?_)))
          (case side6 => exact (Kd.R_reads' HO351.out).2.1)
          (case side7 => repeat (first | exact (Kd.R_reads' HO354.out).2.2 | (with_reducible refine Kd.C_alloc ?_ _) | (with_reducible refine Kd.C_drewN ?_ _) | (with_reducible refine Kd.C_drew ?_)))
          (case side8 => exact (Kd.R_reads' HO354.out).2.1)
          rintro e w35 ⟨rfl, hb⟩
          have HS7_ := (hb.cell (World.block_lt_of_cell? _ _ (hHeld.2.2.2.2.2.2.2))).trans (hHeld.2.2.2.2.2.2.2)
          refine ⟨_, rfl, ?_⟩
          replace HO339 := Aside0.mk (Kd.R_below (ra_ HO339.out) hb)
          replace HO344 := Aside0.mk (Kd.R_below (ra_ HO344.out) hb)
          replace HO348 := Aside0.mk (Kd.R_below (ra_ HO348.out) hb)
          replace HO351 := Aside0.mk (Kd.R_below (ra_ HO351.out) hb)
          replace HO354 := Aside0.mk (Kd.R_below (ra_ HO354.out) hb)
          replace BK355 := Aside0.mk (blk_below (bk_ BK355.out) hb)
          replace HB := Aside0.mk (below_step (hb1_ HB.out GE355.out) hb)
          (try clear hb)
          refine hK.out _ _ (ap7 (bc7 BK355.out) HS7_) (fun hHeld => ?_)
          clear hK K
          refine nm_ (some 37) ?_
          refine pu_ HT_ 30 (some 38) ?_
          refine pu_ HT_ 31 (some 39) ?_
          refine pu_ HT_ 35 (some 43) ?_
          refine tk_ HT_ HW_ 32 (some 40) hHeld ?_
          refine on_ HT_ 33 (some 41) (fun K hK => ?_)
          refine gos_ Try.func40 #[.int .i64 2] ?_
          with_reducible refine (laminalaw16_integer.calls 2 t358 t359 t360 _ A13.out).mono ?_
          rintro e w36 ⟨rfl, hb⟩
          have HS7_ := (hb.cell (World.block_lt_of_cell? _ _ (hHeld.2.2.2.2.2.2.2))).trans (hHeld.2.2.2.2.2.2.2)
          refine ⟨_, rfl, ?_⟩
          replace HO339 := Aside0.mk (Kd.R_below (ra_ HO339.out) hb)
          replace HO344 := Aside0.mk (Kd.R_below (ra_ HO344.out) hb)
          replace HO348 := Aside0.mk (Kd.R_below (ra_ HO348.out) hb)
          replace HO351 := Aside0.mk (Kd.R_below (ra_ HO351.out) hb)
          replace HO354 := Aside0.mk (Kd.R_below (ra_ HO354.out) hb)
          replace BK355 := Aside0.mk (blk_below (bk_ BK355.out) hb)
          replace HB := Aside0.mk (below_step (hb1_ HB.out GE355.out) hb)
          (try clear hb)
          refine hK.out _ _ (ap7 (bc7 BK355.out) HS7_) (fun hHeld => ?_)
          clear hK K
          refine nm_ (some 41) ?_
          refine on_ HT_ 34 (some 42) (fun K hK => ?_)
          refine gos_ Try.func22 #[.agg #[.int .i64 t340, .int .i64 t341, .slice Ao29 t342.length co29, .bool t345, .slice Ao30 t346.length co30, .slice Ao31 t349.length co31, .slice (some ad356) t352.length co32], .agg #[.int .i64 t358, .int .i64 t359, .string t360]] ?_
          with_reducible refine (sketch_CountEqual.calls k t340 t341 _ _ t342 t345 _ _ t346 _ _ t349 _ _ t352 t358 t359 t360 t361 t362 _ ?side1 ?side2 ?side3 ?side4 ?side5 ?side6 ?side7 ?side8 A14.out).mono ?_
          (case side1 => repeat (first | exact (Kd.R_reads' HO344.out).2.2 | (with_reducible refine Kd.C_alloc ?_ _) | (with_reducible refine Kd.C_drewN ?_ _) | (with_reducible refine Kd.C_drew ?_)))
          (case side2 => exact (Kd.R_reads' HO344.out).2.1)
          (case side3 => repeat (first | exact (Kd.R_reads' HO348.out).2.2 | (with_reducible refine Kd.C_alloc ?_ _) | (with_reducible refine Kd.C_drewN ?_ _) | (with_reducible refine Kd.C_drew ?_)))
          (case side4 => exact (Kd.R_reads' HO348.out).2.1)
          (case side5 => repeat (first | exact (Kd.R_reads' HO351.out).2.2 | (with_reducible refine Kd.C_alloc ?_ _) | (with_reducible refine Kd.C_drewN ?_ _) | (with_reducible refine Kd.C_drew ?_)))
          (case side6 => exact (Kd.R_reads' HO351.out).2.1)
          (case side7 => repeat (first | exact (Kd.R_reads' HO354.out).2.2 | (with_reducible refine Kd.C_alloc ?_ _) | (with_reducible refine Kd.C_drewN ?_ _) | (with_reducible refine Kd.C_drew ?_)))
          (case side8 => exact (Kd.R_reads' HO354.out).2.1)
          rintro e w37 ⟨rfl, hb⟩
          have HS7_ := (hb.cell (World.block_lt_of_cell? _ _ (hHeld.2.2.2.2.2.2.2))).trans (hHeld.2.2.2.2.2.2.2)
          refine ⟨_, rfl, ?_⟩
          replace HO339 := Aside0.mk (Kd.R_below (ra_ HO339.out) hb)
          replace HO344 := Aside0.mk (Kd.R_below (ra_ HO344.out) hb)
          replace HO348 := Aside0.mk (Kd.R_below (ra_ HO348.out) hb)
          replace HO351 := Aside0.mk (Kd.R_below (ra_ HO351.out) hb)
          replace HO354 := Aside0.mk (Kd.R_below (ra_ HO354.out) hb)
          replace BK355 := Aside0.mk (blk_below (bk_ BK355.out) hb)
          replace HB := Aside0.mk (below_step (hb1_ HB.out GE355.out) hb)
          (try clear hb)
          refine hK.out _ _ (ap7 (bc7 BK355.out) HS7_) (fun hHeld => ?_)
          clear hK K
          refine nm_ (some 42) ?_
          refine pu_ HT_ 36 (some 44) ?_
          refine pu_ HT_ 37 (some 45) ?_
          refine pu_ HT_ 38 (some 46) ?_
          refine pu_ HT_ 42 (some 50) ?_
          refine tk_ HT_ HW_ 39 (some 47) hHeld ?_
          refine on_ HT_ 40 (some 48) (fun K hK => ?_)
          refine gos_ Try.func40 #[.int .i64 2] ?_
          with_reducible refine (laminalaw16_integer.calls 2 t363 t364 t365 _ A16.out).mono ?_
          rintro e w38 ⟨rfl, hb⟩
          have HS7_ := (hb.cell (World.block_lt_of_cell? _ _ (hHeld.2.2.2.2.2.2.2))).trans (hHeld.2.2.2.2.2.2.2)
          refine ⟨_, rfl, ?_⟩
          replace HO339 := Aside0.mk (Kd.R_below (ra_ HO339.out) hb)
          replace HO344 := Aside0.mk (Kd.R_below (ra_ HO344.out) hb)
          replace HO348 := Aside0.mk (Kd.R_below (ra_ HO348.out) hb)
          replace HO351 := Aside0.mk (Kd.R_below (ra_ HO351.out) hb)
          replace HO354 := Aside0.mk (Kd.R_below (ra_ HO354.out) hb)
          replace BK355 := Aside0.mk (blk_below (bk_ BK355.out) hb)
          replace HB := Aside0.mk (below_step (hb1_ HB.out GE355.out) hb)
          (try clear hb)
          refine hK.out _ _ (ap7 (bc7 BK355.out) HS7_) (fun hHeld => ?_)
          clear hK K
          refine nm_ (some 48) ?_
          refine on_ HT_ 41 (some 49) (fun K hK => ?_)
          refine gos_ Try.func24 #[.agg #[.int .i64 t340, .int .i64 t341, .slice Ao29 t342.length co29, .bool t345, .slice Ao30 t346.length co30, .slice Ao31 t349.length co31, .slice (some ad356) t352.length co32], .agg #[.int .i64 t363, .int .i64 t364, .string t365]] ?_
          with_reducible refine (sketch_CountLess.calls k t340 t341 _ _ t342 t345 _ _ t346 _ _ t349 _ _ t352 t363 t364 t365 t366 t367 _ ?side1 ?side2 ?side3 ?side4 ?side5 ?side6 ?side7 ?side8 A17.out).mono ?_
          (case side1 => repeat (first | exact (Kd.R_reads' HO344.out).2.2 | (with_reducible refine Kd.C_alloc ?_ _) | (with_reducible refine Kd.C_drewN ?_ _) | (with_reducible refine Kd.C_drew ?_)))
          (case side2 => exact (Kd.R_reads' HO344.out).2.1)
          (case side3 => repeat (first | exact (Kd.R_reads' HO348.out).2.2 | (with_reducible refine Kd.C_alloc ?_ _) | (with_reducible refine Kd.C_drewN ?_ _) | (with_reducible refine Kd.C_drew ?_)))
          (case side4 => exact (Kd.R_reads' HO348.out).2.1)
          (case side5 => repeat (first | exact (Kd.R_reads' HO351.out).2.2 | (with_reducible refine Kd.C_alloc ?_ _) | (with_reducible refine Kd.C_drewN ?_ _) | (with_reducible refine Kd.C_drew ?_)))
          (case side6 => exact (Kd.R_reads' HO351.out).2.1)
          (case side7 => repeat (first | exact (Kd.R_reads' HO354.out).2.2 | (with_reducible refine Kd.C_alloc ?_ _) | (with_reducible refine Kd.C_drewN ?_ _) | (with_reducible refine Kd.C_drew ?_)))
          (case side8 => exact (Kd.R_reads' HO354.out).2.1)
          rintro e w39 ⟨rfl, hb⟩
          have HS7_ := (hb.cell (World.block_lt_of_cell? _ _ (hHeld.2.2.2.2.2.2.2))).trans (hHeld.2.2.2.2.2.2.2)
          refine ⟨_, rfl, ?_⟩
          replace HO339 := Aside0.mk (Kd.R_below (ra_ HO339.out) hb)
          replace HO344 := Aside0.mk (Kd.R_below (ra_ HO344.out) hb)
          replace HO348 := Aside0.mk (Kd.R_below (ra_ HO348.out) hb)
          replace HO351 := Aside0.mk (Kd.R_below (ra_ HO351.out) hb)
          replace HO354 := Aside0.mk (Kd.R_below (ra_ HO354.out) hb)
          replace BK355 := Aside0.mk (blk_below (bk_ BK355.out) hb)
          replace HB := Aside0.mk (below_step (hb1_ HB.out GE355.out) hb)
          (try clear hb)
          refine hK.out _ _ (ap7 (bc7 BK355.out) HS7_) (fun hHeld => ?_)
          clear hK K
          refine nm_ (some 49) ?_
          refine pu_ HT_ 43 (some 51) ?_
          refine pu_ HT_ 44 (some 52) ?_
          refine pu_ HT_ 45 (some 53) ?_
          refine pu_ HT_ 48 (some 56) ?_
          refine tk_ HT_ HW_ 46 (some 54) hHeld ?_
          refine on_ HT_ 47 (some 55) (fun K hK => ?_)
          refine gos_ Try.func28 #[.agg #[.int .i64 t340, .int .i64 t341, .slice Ao29 t342.length co29, .bool t345, .slice Ao30 t346.length co30, .slice Ao31 t349.length co31, .slice (some ad356) t352.length co32]] ?_
          with_reducible refine (sketch_CountDistinct.calls k t340 t341 _ _ t342 t345 _ _ t346 _ _ t349 _ _ t352 t368 t369 _ ?side1 ?side2 ?side3 ?side4 ?side5 ?side6 ?side7 ?side8 A19.out).mono ?_
          (case side1 => repeat (first | exact (Kd.R_reads' HO344.out).2.2 | (with_reducible refine Kd.C_alloc ?_ _) | (with_reducible refine Kd.C_drewN ?_ _) | (with_reducible refine Kd.C_drew ?_)))
          (case side2 => exact (Kd.R_reads' HO344.out).2.1)
          (case side3 => repeat (first | exact (Kd.R_reads' HO348.out).2.2 | (with_reducible refine Kd.C_alloc ?_ _) | (with_reducible refine Kd.C_drewN ?_ _) | (with_reducible refine Kd.C_drew ?_)))
          (case side4 => exact (Kd.R_reads' HO348.out).2.1)
          (case side5 => repeat (first | exact (Kd.R_reads' HO351.out).2.2 | (with_reducible refine Kd.C_alloc ?_ _) | (with_reducible refine Kd.C_drewN ?_ _) | (with_reducible refine Kd.C_drew ?_)))
          (case side6 => exact (Kd.R_reads' HO351.out).2.1)
          (case side7 => repeat (first | exact (Kd.R_reads' HO354.out).2.2 | (with_reducible refine Kd.C_alloc ?_ _) | (with_reducible refine Kd.C_drewN ?_ _) | (with_reducible refine Kd.C_drew ?_)))
          (case side8 => exact (Kd.R_reads' HO354.out).2.1)
          rintro e w40 ⟨rfl, hb⟩
          have HS7_ := (hb.cell (World.block_lt_of_cell? _ _ (hHeld.2.2.2.2.2.2.2))).trans (hHeld.2.2.2.2.2.2.2)
          refine ⟨_, rfl, ?_⟩
          replace HO339 := Aside0.mk (Kd.R_below (ra_ HO339.out) hb)
          replace HO344 := Aside0.mk (Kd.R_below (ra_ HO344.out) hb)
          replace HO348 := Aside0.mk (Kd.R_below (ra_ HO348.out) hb)
          replace HO351 := Aside0.mk (Kd.R_below (ra_ HO351.out) hb)
          replace HO354 := Aside0.mk (Kd.R_below (ra_ HO354.out) hb)
          replace BK355 := Aside0.mk (blk_below (bk_ BK355.out) hb)
          replace HB := Aside0.mk (below_step (hb1_ HB.out GE355.out) hb)
          (try clear hb)
          refine hK.out _ _ (ap7 (bc7 BK355.out) HS7_) (fun hHeld => ?_)
          clear hK K
          refine nm_ (some 55) ?_
          refine pu_ HT_ 49 (some 57) ?_
          refine pu_ HT_ 50 (some 58) ?_
          refine pu_ HT_ 51 (some 0) ?_
          refine done_ (done_of HT_.out (by kernel_rfl)) ?_
          try go_wp2
          go_ret
          exact er_ ((hb1_ HB.out GE355.out))
         ·rw [if_neg c18] at H
          exact absurd H (by simp)
        ·rw [if_neg c15] at H
         exact absurd H (by simp)
       ·replace c12 := Bool.eq_false_iff.mpr c12
        subst c12
        have H1 : (none) = some r := by rw [if_neg (show ¬ (false = true) by decide)] at H; exact H
        clear H
        have H := H1
        clear H1
        exact absurd H (by simp)
      ·rw [if_neg c10] at H
       exact absurd H (by simp)
     ·rw [if_neg c9] at H
      exact absurd H (by simp)
    ·rw [if_neg c8] at H
     exact absurd H (by simp)
   ·rw [if_neg c7] at H
    exact absurd H (by simp)
  ·rw [if_neg c6] at H
   exact absurd H (by simp)
 ·rw [if_neg c5] at H
  exact absurd H (by simp)
end Go.Proofs.Ytackcingpffidaa.P
namespace Go.Proofs.Ytackcingpffidaa.P
open Go.RowKit Go.Proofs.YtackcingpffidaaW.PrintWords Go.Proofs.YtackcingpffidaaW.PrintLast Go.Proofs.YtackcingpffidaaW.PrintMore
attribute [local go_sem high] eqA44
set_option linter.unusedVariables false
set_option linter.unusedSimpArgs false
/-- Both are the same (told by 'none' elsewhere). -/
def sameO (x y : Option (Int × Int)) : Option Unit := x.bind fun a => y.bind fun b => if a = b then some () else none
theorem sameO_mono {x x' y y' : Option (Int × Int)} (hx : LeO x x') (hy : LeO y y') : LeO (sameO x y) (sameO x' y') := LeO.bind hx fun _ => LeO.bind hy fun _ => LeO.refl _
theorem sameO_of {x y : Option (Int × Int)} {u : Unit} (h : sameO x y = some u) : ∃ a b, x = some (a, b) ∧ y = some (a, b) := by
  obtain ⟨⟨a, b⟩, h1, h2⟩ := Option.bind_eq_some_iff.mp h
  obtain ⟨c, h3, h4⟩ := Option.bind_eq_some_iff.mp h2
  by_cases e : (a, b) = c
  · exact ⟨a, b, h1, by rw [h3, e]⟩
  · rw [if_neg e] at h4
    exact absurd h4 (by simp)
def laminalaw16_SketchCounts.f (k : Nat) (a0_0 : Int) (a0_1 : Int) (l0_2 : List Int) (a0_3 : Bool) (l0_4 : List Int) (l0_5 : List (S39)) (l0_6 : List Int) (a1_0 : Int) (a1_1 : Int) (a1_2 : Int) (a1_3 : Int) (a1_4 : ByteArray) : Option Bool :=
  (laminaref16_Valid.f k a0_0 a0_1 l0_2 a0_3 l0_4 l0_5 l0_6).bind fun b => if b = false then laminalaw16_awake.f k else if rvV ⟨a1_2, a1_3, a1_4⟩ = false then laminalaw16_awake.f k else
  (sameO (sketch_CountEqual.f k a0_0 a0_1 l0_2 a0_3 l0_4 l0_5 l0_6 a1_2 a1_3 a1_4) (laminaref16_CountEqual.f k a0_0 a0_1 l0_2 a0_3 l0_4 l0_5 l0_6 a1_2 a1_3 a1_4)).bind fun _ =>
  (sameO (sketch_CountLess.f k a0_0 a0_1 l0_2 a0_3 l0_4 l0_5 l0_6 a1_2 a1_3 a1_4) (laminaref16_CountLess.f k a0_0 a0_1 l0_2 a0_3 l0_4 l0_5 l0_6 a1_2 a1_3 a1_4)).bind fun _ =>
  (sameO (sketch_CountMatching.f k a0_0 a0_1 l0_2 a0_3 l0_4 l0_5 l0_6 a1_0 a1_1 a1_2 a1_3 a1_4) (laminaref16_CountMatching.f k a0_0 a0_1 l0_2 a0_3 l0_4 l0_5 l0_6 a1_0 a1_1 a1_2 a1_3 a1_4)).bind fun _ =>
  (sameO (sketch_CountDistinct.f k a0_0 a0_1 l0_2 a0_3 l0_4 l0_5 l0_6) (laminaref16_CountDistinct.f k a0_0 a0_1 l0_2 a0_3 l0_4 l0_5 l0_6)).bind fun _ => laminalaw16_awake.f k
theorem laminalaw16_SketchCounts.mono : ∀ a0 a1 a2 a3 a4 a5 a6 a7 a8 a9 a10 a11 k, LeO (laminalaw16_SketchCounts.f k a0 a1 a2 a3 a4 a5 a6 a7 a8 a9 a10 a11) (laminalaw16_SketchCounts.f (k + 1) a0 a1 a2 a3 a4 a5 a6 a7 a8 a9 a10 a11) := by
  intro a0 a1 a2 a3 a4 a5 a6 a7 a8 a9 a10 a11 k
  unfold laminalaw16_SketchCounts.f
  exact LeO.bind (laminaref16_Valid.mono _ _ _ _ _ _ _ _) fun _ => LeO.ite (laminalaw16_awake.mono _) (LeO.ite (laminalaw16_awake.mono _) (LeO.bind (sameO_mono (sketch_CountEqual.mono _ _ _ _ _ _ _ _ _ _ _) (laminaref16_CountEqual.mono _ _ _ _ _ _ _ _ _ _ _)) fun _ => LeO.bind (sameO_mono (sketch_CountLess.mono _ _ _ _ _ _ _ _ _ _ _) (laminaref16_CountLess.mono _ _ _ _ _ _ _ _ _ _ _)) fun _ =>
    LeO.bind (sameO_mono (sketch_CountMatching.mono _ _ _ _ _ _ _ _ _ _ _ _ _) (laminaref16_CountMatching.mono _ _ _ _ _ _ _ _ _ _ _ _ _)) fun _ => LeO.bind (sameO_mono (sketch_CountDistinct.mono _ _ _ _ _ _ _ _) (laminaref16_CountDistinct.mono _ _ _ _ _ _ _ _)) fun _ => laminalaw16_awake.mono _))
def f6_T4 : Bool × List (List Nat × List Nat) := (true, [([], []), ([], []), ([0, 1], [0, 1]), ([], []), ([], []), ([3, 4, 2], [3, 4]), ([2, 5], [2, 5]), ([6, 5], [6]), ([7], [7]), ([7], [7]), ([8, 9, 7, 7], [7, 8, 9]), ([7], [7]), ([7], [7]), ([11, 12, 10, 7], [7, 11, 12]), ([10, 13, 7], [7, 10, 13]), ([7, 14], [7, 14]), ([15, 13], [15]), ([16], [16]), ([16], [16]), ([17, 18, 16, 16], [16, 17, 18]), ([16], [16]), ([16], [16]), ([20, 21, 19, 16], [16, 20, 21]), ([19, 22, 16], [16, 19, 22]), ([16, 23], [16, 23]), ([24, 22], [24]), ([25], [25]), ([26, 25, 25], [25, 26]), ([25], [25]), ([28, 27, 25], [25, 28]), ([27, 29, 25], [25, 27, 29]), ([25, 30], [25, 30]), ([31, 29], [31]), ([32, 32], [32]), ([32, 33], [32, 33]), ([34, 33, 0, 1, 2, 3, 4, 5, 6, 7, 8, 9, 10, 11, 12, 13, 14, 15, 16, 17, 18, 19, 20, 21, 22, 23, 24, 25, 26, 27, 28, 29, 30, 31, 32, 33, 34], [34])])
def f6_B4 : List Nat := [0, 0, 3, 0, 0, 31, 63, 127, 255, 255, 1023, 255, 255, 8191, 16383, 32767, 65535, 131071, 131071, 524287, 131071, 131071, 4194303, 8388607, 16777215, 33554431, 67108863, 134217727, 67108863, 536870911, 1073741823, 2147483647, 4294967295, 8589934591, 17179869183, 34359738367]
set_option maxRecDepth 100000 in
theorem f6_tab4 : rtab .any (opsOf Try.f6 4) = f6_T4 := by kernel_rfl
theorem f6_bits4 : waitsOk f6_T4.2 f6_B4 = true := by kernel_rfl
set_option maxHeartbeats 8000000 in
set_option maxRecDepth 100000 in
theorem laminalaw16_SketchCounts.calls0 (k : Nat) (a0 a1 : Int) (A2 : Option Addr) (c2 : Nat) (l2 : List Int) (b3 : Bool) (A4 : Option Addr) (c4 : Nat) (l4 : List Int) (A5 : Option Addr) (c5 : Nat) (l5 : List S39) (A6 : Option Addr) (c6 : Nat) (l6 : List Int) (p0 op : Int) (v : S39) (r : Bool) (w : World) (hr2 : Kd.C (Kd.int .u64) w A2 l2.length l2) (hc2 : l2.length ≤ c2) (hr4 : Kd.C (Kd.int .i64) w A4 l4.length l4) (hc4 : l4.length ≤ c4) (hr5 : Kd.C k39 w A5 l5.length l5) (hc5 : l5.length ≤ c5) (hr6 : Kd.C (Kd.int .i64) w A6 l6.length l6) (hc6 : l6.length ≤ c6) (h : laminalaw16_SketchCounts.f k a0 a1 l2 b3 l4 l5 l6 p0 op v.f0 v.f1 v.f2 = some r) :
    Calls Try.prog 6 #[.agg #[.int .i64 a0, .int .i64 a1, .slice A2 l2.length c2, .bool b3, .slice A4 l4.length c4, .slice A5 l5.length c5, .slice A6 l6.length c6], .agg #[.int .i64 p0, .int .i64 op, .int .i64 v.f0, .int .i64 v.f1, .string v.f2]] w fun e w' => e = .returned (.bool r) ∧ Below w.heap.size w w' := by
  unfold laminalaw16_SketchCounts.f at h
  obtain ⟨b, hv, h⟩ := Option.bind_eq_some_iff.mp h
  have HV := Aside0.mk hv
  have HH := Aside0.mk h
  have HKw : SK w A2 c2 l2 A4 c4 l4 A5 c5 l5 A6 c6 l6 := ⟨hr2, hc2, hr4, hc4, hr5, hc5, hr6, hc6⟩
  replace HKw := Aside0.mk HKw
  clear hr2 hr4 hr5 hr6 h hv
  go_enter Try.func6, Try.ntmps6
  go_upto_region 1 with (first | (refine box_ 2 (cs := #[.int .i64 a0, .int .i64 a1, .slice A2 l2.length c2, .bool b3, .slice A4 l4.length c4, .slice A5 l5.length c5, .slice A6 l6.length c6]) (t := 26) (fun g2 hg_ w1 BK2 HB => ?_); clear hg_; replace BK2 := Aside0.mk BK2; replace HB := Aside0.mk HB) | (refine box_ 3 (cs := #[.int .i64 p0, .int .i64 op, .int .i64 v.f0, .int .i64 v.f1, .string v.f2]) (t := 41) (fun g3 hg_ V BK3 hb => ?_); clear hg_; replace BK2 := Aside0.mk (blk_below BK2.out hb); replace BK3 := Aside0.mk BK3; replace HB := Aside0.mk (HB.out.trans (hb.mono (below_size HB.out))); clear hb))
  have HS : Aside0 (∀ W, Below V.heap.size V W → sk7 g2 a0 a1 A2 c2 l2 b3 A4 c4 l4 A5 c5 l5 A6 c6 l6 W (p5 g3 p0 op v W (True))) := ⟨fun W hb => sk7_of (blk_below BK2.out hb) (p5_of (blk_below BK3.out hb) trivial)⟩
  have HK : Aside0 (∀ W, Below V.heap.size V W → SK W A2 c2 l2 A4 c4 l4 A5 c5 l5 A6 c6 l6) := ⟨fun W hb => HKw.out.below (HB.out.trans (hb.mono (below_size HB.out)))⟩
  have HBV := HB
  clear BK2 BK3 HKw HB
  have HY := Aside0.mk (Below.refl V.heap.size V)
  obtain ⟨t0, t1, t2, t3, t4, t5, t6, t7, t8, t9, t10, t11, _⟩ := HS.out V HY.out
  cases b with
  | false =>
    have HA : Aside0 (laminalaw16_awake.f k = some r) := ⟨by have h_ := HH.out; rwa [if_pos rfl] at h_⟩
    clear HH
    go_wp2_with (first | (go_at_call 11; refine (un8 (laminaref16_Valid.calls k a0 a1 _ _ _ _ _ _ _ _ _ _ _ _ _ false _) (HK.out _ HY.out) HV.out).mono ?_; rintro e w5 ⟨rfl, hb⟩; replace HY := Aside0.mk (HY.out.trans (hb.mono HY.out.size)); clear hb; clear t0 t1 t2 t3 t4 t5 t6 t7 t8 t9 t10 t11; obtain ⟨t0, t1, t2, t3, t4, t5, t6, t7, t8, t9, t10, t11, _⟩ := HS.out w5 HY.out) | (go_at_call 12; refine (laminalaw16_awake.calls k r _ HA.out).mono ?_; rintro e w8 ⟨rfl, hb⟩; replace HY := Aside0.mk (HY.out.trans (hb.mono HY.out.size)); clear hb))
    go_ret
    exact ⟨rfl, HBV.out.trans (HY.out.mono (below_size HBV.out))⟩
  | true =>
  have HH2 := HH.out
  rw [if_neg (by decide)] at HH2
  obtain ⟨bv, hbv⟩ : ∃ b, rvV v = b := ⟨_, rfl⟩
  have HBW := Aside0.mk hbv
  rw [show (⟨v.f0, v.f1, v.f2⟩ : S39) = v from rfl, hbv] at HH2
  clear HH hbv
  cases bv with
  | false =>
    have HA : Aside0 (laminalaw16_awake.f k = some r) := ⟨by rwa [if_pos rfl] at HH2⟩
    clear HH2
    go_wp2_with (first | (go_at_call 11; refine (un8 (laminaref16_Valid.calls k a0 a1 _ _ _ _ _ _ _ _ _ _ _ _ _ true _) (HK.out _ HY.out) HV.out).mono ?_; rintro e w5 ⟨rfl, hb⟩; replace HY := Aside0.mk (HY.out.trans (hb.mono HY.out.size)); clear hb; clear t0 t1 t2 t3 t4 t5 t6 t7 t8 t9 t10 t11; obtain ⟨t0, t1, t2, t3, t4, t5, t6, t7, t8, t9, t10, t11, _⟩ := HS.out w5 HY.out) | (go_at_call 21; refine (rvV_calls v _ HBW.out _).mono ?_; rintro e w6 ⟨rfl, hb⟩; replace HY := Aside0.mk (HY.out.trans (hb.mono HY.out.size)); clear hb) | (go_at_call 12; refine (laminalaw16_awake.calls k r _ HA.out).mono ?_; rintro e w8 ⟨rfl, hb⟩; replace HY := Aside0.mk (HY.out.trans (hb.mono HY.out.size)); clear hb))
    go_ret
    exact ⟨rfl, HBV.out.trans (HY.out.mono (below_size HBV.out))⟩
  | true =>
  rw [if_neg (by decide)] at HH2
  obtain ⟨_, h1, HH3⟩ := Option.bind_eq_some_iff.mp HH2
  obtain ⟨_, h2, HH4⟩ := Option.bind_eq_some_iff.mp HH3
  obtain ⟨_, h3, HH5⟩ := Option.bind_eq_some_iff.mp HH4
  obtain ⟨_, h4, HH6⟩ := Option.bind_eq_some_iff.mp HH5
  obtain ⟨x1, y1, hl, hr⟩ := sameO_of h1
  have HL1 := Aside0.mk hl
  have HR1 := Aside0.mk hr
  obtain ⟨x2, y2, hl, hr⟩ := sameO_of h2
  have HL2 := Aside0.mk hl
  have HR2 := Aside0.mk hr
  obtain ⟨x3, y3, hl, hr⟩ := sameO_of h3
  have HL3 := Aside0.mk hl
  have HR3 := Aside0.mk hr
  obtain ⟨x4, y4, hl, hr⟩ := sameO_of h4
  have HL4 := Aside0.mk hl
  have HR4 := Aside0.mk hr
  have HA := Aside0.mk HH6
  clear HH2 HH3 HH4 HH5 HH6 h1 h2 h3 h4 hl hr
  go_upto_region 3 with (first | (go_at_call 11; refine (un8 (laminaref16_Valid.calls k a0 a1 _ _ _ _ _ _ _ _ _ _ _ _ _ true _) (HK.out _ HY.out) HV.out).mono ?_; rintro e w5 ⟨rfl, hb⟩; replace HY := Aside0.mk (HY.out.trans (hb.mono HY.out.size)); clear hb; clear t0 t1 t2 t3 t4 t5 t6 t7 t8 t9 t10 t11; obtain ⟨t0, t1, t2, t3, t4, t5, t6, t7, t8, t9, t10, t11, _⟩ := HS.out w5 HY.out) | (go_at_call 21; refine (rvV_calls v _ HBW.out _).mono ?_; rintro e w6 ⟨rfl, hb⟩; replace HY := Aside0.mk (HY.out.trans (hb.mono HY.out.size)); clear hb))
  clear t0 t1 t2 t3 t4 t5 t6 t7 t8 t9 t10 t11
  obtain ⟨t0, t1, t2, t3, t4, t5, t6, t7, t8, t9, t10, t11, _⟩ := HS.out w6 HY.out
  go_upto_region 4 with (refine box_ 5 (cs := #[.int .i64 0, .int .i64 0, .string ⟨#[]⟩]) (t := 39) (fun g6 hg_ w7 BB hb => ?_); have hg6 : V.heap.size ≤ g6 := (by rw [hg_]; exact below_size HY.out); replace HY := Aside0.mk (HY.out.trans (hb.mono HY.out.size)); replace BB := Aside0.mk BB; clear hb hg_; obtain ⟨e0, e1, e2, z0, z1, z2⟩ := bf3 BB.out)
  have P3 := put3_blk BB.out (.int .i64 v.f0) (.int .i64 v.f1) (.string v.f2)
  have PB := put3_below HY.out hg6 (.int .i64 v.f0) (.int .i64 v.f1) (.string v.f2)
  unfold put3 at P3 PB
  clear t0 t1 t2 t3 t4 t5 t6 t7 t8 t9 t10 t11 e0 e1 e2 z0 z1 z2 HY
  generalize ((w7.setCell ⟨g6, 0, none⟩ (.int .i64 v.f0)).setCell ⟨g6, 1, none⟩ (.int .i64 v.f1)).setCell ⟨g6, 2, none⟩ (.string v.f2) = U at P3 PB ⊢
  have HSU : Aside0 (∀ W, Below U.heap.size U W → sk7 g2 a0 a1 A2 c2 l2 b3 A4 c4 l4 A5 c5 l5 A6 c6 l6 W (p5 g3 p0 op v W (v3 g6 v W (True)))) := ⟨fun W hb => by
    obtain ⟨t0, t1, t2, t3, t4, t5, t6, t7, t8, t9, t10, t11, _⟩ := HS.out W (PB.trans (hb.mono (below_size PB)))
    exact ⟨t0, t1, t2, t3, t4, t5, t6, t7, t8, t9, t10, t11, v3_of (blk_below P3 hb) trivial⟩⟩
  have HKU : Aside0 (∀ W, Below U.heap.size U W → SK W A2 c2 l2 A4 c4 l4 A5 c5 l5 A6 c6 l6) := ⟨fun W hb => HK.out W (PB.trans (hb.mono (below_size PB)))⟩
  have HBU := Aside0.mk (HBV.out.trans (PB.mono (below_size HBV.out)))
  clear P3 PB HS HK HBV BB hg6 HV HBW
  have HY := Aside0.mk (below_drew1 (Below.refl U.heap.size U))
  have q1 : (x1 == x1) = true := by simp
  have q2 : (y1 == y1) = true := by simp
  have q3 : (x2 == x2) = true := by simp
  have q4 : (y2 == y2) = true := by simp
  have q5 : (x3 == x3) = true := by simp
  have q6 : (y3 == y3) = true := by simp
  have q7 : (x4 == x4) = true := by simp
  have q8 : (y4 == y4) = true := by simp
  refine start_ (n := 36) (S := fun W => sk7 g2 a0 a1 A2 c2 l2 b3 A4 c4 l4 A5 c5 l5 A6 c6 l6 W (p5 g3 p0 op v W (v3 g6 v W (True)))) (ds := []) #[false, false, false, false, false, false, false, false, false, false, false, false, false, false, false, false, false, false, false, false, false, false, false, false, false, false, false, false, false, false, false, false, false, false, false, false] (by kernel_rfl) rfl rfl (HSU.out _ HY.out) (fun hHeld => ?_)
  refine with_tabW f6_tab4 f6_bits4 (fun HT_ HW_ => ?_)
  generalize U.drew = wd at HY hHeld ⊢
  refine tk_ HT_ HW_ 0 (some 18) hHeld ?_
  refine tk_ HT_ HW_ 1 (some 19) hHeld ?_
  refine tk_ HT_ HW_ 3 (some 21) hHeld ?_
  refine tk_ HT_ HW_ 4 (some 22) hHeld ?_
  refine cl_ HT_ 2 (some 20) Try.func22 (un8 (sketch_CountEqual.calls k a0 a1 _ _ _ _ _ _ _ _ _ _ _ _ _ v.f0 v.f1 v.f2 x1 y1 _) (HKU.out _ HY.out) HL1.out) HY HSU (fun w9 HY hHeld => ?_)
  refine cl_ HT_ 5 (some 23) Try.func23 (un8 (laminaref16_CountEqual.calls k a0 a1 _ _ _ _ _ _ _ _ _ _ _ _ _ v.f0 v.f1 v.f2 x1 y1 _) (HKU.out _ HY.out) HR1.out) HY HSU (fun w9 HY hHeld => ?_)
  refine pu_ HT_ 6 (some 24) ?_
  refine pu_ HT_ 7 (some 25) ?_
  refine tk_ HT_ HW_ 8 (some 26) hHeld ?_
  refine tk_ HT_ HW_ 9 (some 27) hHeld ?_
  refine tk_ HT_ HW_ 11 (some 29) hHeld ?_
  refine tk_ HT_ HW_ 12 (some 30) hHeld ?_
  refine cl_ HT_ 10 (some 28) Try.func24 (un8 (sketch_CountLess.calls k a0 a1 _ _ _ _ _ _ _ _ _ _ _ _ _ v.f0 v.f1 v.f2 x2 y2 _) (HKU.out _ HY.out) HL2.out) HY HSU (fun w9 HY hHeld => ?_)
  refine cl_ HT_ 13 (some 31) Try.func25 (un8 (laminaref16_CountLess.calls k a0 a1 _ _ _ _ _ _ _ _ _ _ _ _ _ v.f0 v.f1 v.f2 x2 y2 _) (HKU.out _ HY.out) HR2.out) HY HSU (fun w9 HY hHeld => ?_)
  refine pu_ HT_ 14 (some 32) ?_
  refine pu_ HT_ 15 (some 33) ?_
  refine pu_ HT_ 16 (some 34) ?_
  refine tk_ HT_ HW_ 17 (some 35) hHeld ?_
  refine tk_ HT_ HW_ 18 (some 36) hHeld ?_
  refine tk_ HT_ HW_ 20 (some 38) hHeld ?_
  refine tk_ HT_ HW_ 21 (some 39) hHeld ?_
  refine cl_ HT_ 19 (some 37) Try.func26 (un8 (sketch_CountMatching.calls k a0 a1 _ _ _ _ _ _ _ _ _ _ _ _ _ p0 op v.f0 v.f1 v.f2 x3 y3 _) (HKU.out _ HY.out) HL3.out) HY HSU (fun w9 HY hHeld => ?_)
  refine cl_ HT_ 22 (some 40) Try.func27 (un8 (laminaref16_CountMatching.calls k a0 a1 _ _ _ _ _ _ _ _ _ _ _ _ _ p0 op v.f0 v.f1 v.f2 x3 y3 _) (HKU.out _ HY.out) HR3.out) HY HSU (fun w9 HY hHeld => ?_)
  refine pu_ HT_ 23 (some 41) ?_
  refine pu_ HT_ 24 (some 42) ?_
  refine pu_ HT_ 25 (some 43) ?_
  refine tk_ HT_ HW_ 26 (some 44) hHeld ?_
  refine tk_ HT_ HW_ 28 (some 46) hHeld ?_
  refine cl_ HT_ 27 (some 45) Try.func28 (un8 (sketch_CountDistinct.calls k a0 a1 _ _ _ _ _ _ _ _ _ _ _ _ _ x4 y4 _) (HKU.out _ HY.out) HL4.out) HY HSU (fun w9 HY hHeld => ?_)
  refine cl_ HT_ 29 (some 47) Try.func29 (un8 (laminaref16_CountDistinct.calls k a0 a1 _ _ _ _ _ _ _ _ _ _ _ _ _ x4 y4 _) (HKU.out _ HY.out) HR4.out) HY HSU (fun w9 HY hHeld => ?_)
  refine pu_ HT_ 30 (some 48) ?_
  refine pu_ HT_ 31 (some 49) ?_
  refine pu_ HT_ 32 (some 50) ?_
  refine cl_ HT_ 33 (some 51) Try.func12 (laminalaw16_awake.calls k r _ HA.out) HY HSU (fun w9 HY hHeld => ?_)
  refine pu_ HT_ 34 (some 52) ?_
  refine pu_ HT_ 35 (some 4) ?_
  refine done_ (done_of HT_.out (by kernel_rfl)) ?_
  clear HT_ HW_ hHeld
  go_wp2
  go_ret
  exact ⟨rfl, HBU.out.trans (HY.out.mono (below_size HBU.out))⟩
theorem laminalaw16_SketchCounts.calls (k : Nat) (a0_0 : Int) (a0_1 : Int) (A0_2 : Option Addr) (c0_2 : Nat) (l0_2 : List Int) (a0_3 : Bool) (A0_4 : Option Addr) (c0_4 : Nat) (l0_4 : List Int) (A0_5 : Option Addr) (c0_5 : Nat) (l0_5 : List (S39)) (A0_6 : Option Addr) (c0_6 : Nat) (l0_6 : List Int) (a1_0 : Int) (a1_1 : Int) (a1_2 : Int) (a1_3 : Int) (a1_4 : ByteArray) (r : Bool) (w : World) (hr0_2 : Kd.C (Kd.int .u64) w A0_2 l0_2.length l0_2) (hc0_2 : l0_2.length ≤ c0_2) (hr0_4 : Kd.C (Kd.int .i64) w A0_4 l0_4.length l0_4) (hc0_4 : l0_4.length ≤ c0_4) (hr0_5 : Kd.C k39 w A0_5 l0_5.length l0_5) (hc0_5 : l0_5.length ≤ c0_5) (hr0_6 : Kd.C (Kd.int .i64) w A0_6 l0_6.length l0_6) (hc0_6 : l0_6.length ≤ c0_6) (h : laminalaw16_SketchCounts.f k a0_0 a0_1 l0_2 a0_3 l0_4 l0_5 l0_6 a1_0 a1_1 a1_2 a1_3 a1_4 = some r) :
    Calls Try.prog 6 #[.agg #[.int .i64 a0_0, .int .i64 a0_1, .slice A0_2 l0_2.length c0_2, .bool a0_3, .slice A0_4 l0_4.length c0_4, .slice A0_5 l0_5.length c0_5, .slice A0_6 l0_6.length c0_6], .agg #[.int .i64 a1_0, .int .i64 a1_1, .int .i64 a1_2, .int .i64 a1_3, .string a1_4]] w fun e w' => e = .returned (.bool r) ∧ Below w.heap.size w w' :=
  laminalaw16_SketchCounts.calls0 k a0_0 a0_1 A0_2 c0_2 l0_2 a0_3 A0_4 c0_4 l0_4 A0_5 c0_5 l0_5 A0_6 c0_6 l0_6 a1_0 a1_1 ⟨a1_2, a1_3, a1_4⟩ r w hr0_2 hc0_2 hr0_4 hc0_4 hr0_5 hc0_5 hr0_6 hc0_6 h
end Go.Proofs.Ytackcingpffidaa.P
namespace Go.Proofs.Ytackcingpffidaa.P
open Go.RowKit Go.Proofs.YtackcingpffidaaW.PrintWords Go.Proofs.Ytackcingpffidaa.Reads
/-- A value of type 39 whose numbers fit and whose texts are no longer than the reach. -/
def G39 (x : S39) : Prop := (Lit.int .i64 x.f0).wf = true ∧ (Lit.int .i64 x.f1).wf = true ∧ x.f2.size ≤ 140737488351232
set_option maxRecDepth 100000 in
theorem rd39 : Rd k39 Try.prog 39 G39 :=
  (Rd.struct (fun a => (⟨a.1, a.2.1, a.2.2⟩ : S39)) (fun _ => rfl) Try.underlying39 (by kernel_rfl) (RdF.cons (Rd.int Try.underlying3 (by kernel_rfl)) rfl (RdF.cons (Rd.int Try.underlying2 (by kernel_rfl)) rfl (RdF.one (Rd.string Try.underlying9 (by kernel_rfl)) rfl)))).imp fun _ h => h
/-- A value of type 26 whose numbers fit and whose texts are no longer than the reach. -/
def G26 (x : S26) : Prop := (Lit.int .i64 x.f0).wf = true ∧ (Lit.int .i64 x.f1).wf = true ∧ (x.f2.length * 8 ≤ 140737488351232 ∧ ∀ y ∈ x.f2, (Lit.int .u64 y).wf = true) ∧ True ∧ (x.f4.length * 8 ≤ 140737488351232 ∧ ∀ y ∈ x.f4, (Lit.int .i64 y).wf = true) ∧ (x.f5.length * 32 ≤ 140737488351232 ∧ ∀ y ∈ x.f5, G39 y) ∧ (x.f6.length * 8 ≤ 140737488351232 ∧ ∀ y ∈ x.f6, (Lit.int .i64 y).wf = true)
set_option maxRecDepth 100000 in
theorem rd26 : Rd k26 Try.prog 26 G26 :=
  (Rd.struct (fun a => (⟨a.1, a.2.1, a.2.2.1, a.2.2.2.1, a.2.2.2.2.1, a.2.2.2.2.2.1, a.2.2.2.2.2.2⟩ : S26)) (fun _ => rfl) Try.underlying26 (by kernel_rfl) (RdF.cons (Rd.int Try.underlying3 (by kernel_rfl)) rfl (RdF.cons (Rd.int Try.underlying3 (by kernel_rfl)) rfl (RdF.cons (Rd.slice (Rd.int Try.underlying53 (by kernel_rfl)) Try.underlying22 (by kernel_rfl) (B := 8) (by kernel_rfl)) rfl (RdF.cons (Rd.bool Try.underlying4 (by kernel_rfl)) rfl (RdF.cons (Rd.slice (Rd.int Try.underlying3 (by kernel_rfl)) Try.underlying23 (by kernel_rfl) (B := 8) (by kernel_rfl)) rfl (RdF.cons (Rd.slice rd39 Try.underlying24 (by kernel_rfl) (B := 32) (by kernel_rfl)) rfl (RdF.one (Rd.slice (Rd.int Try.underlying3 (by kernel_rfl)) Try.underlying23 (by kernel_rfl) (B := 8) (by kernel_rfl)) rfl)))))))).imp fun _ h => h
/-- A value of type 41 whose numbers fit and whose texts are no longer than the reach. -/
def G41 (x : S41) : Prop := (Lit.int .i64 x.f0).wf = true ∧ (Lit.int .i64 x.f1).wf = true ∧ G39 x.f2
set_option maxRecDepth 100000 in
theorem rd41 : Rd k41 Try.prog 41 G41 :=
  (Rd.struct (fun a => (⟨a.1, a.2.1, a.2.2⟩ : S41)) (fun _ => rfl) Try.underlying41 (by kernel_rfl) (RdF.cons (Rd.int Try.underlying3 (by kernel_rfl)) rfl (RdF.cons (Rd.int Try.underlying3 (by kernel_rfl)) rfl (RdF.one rd39 rfl)))).imp fun _ h => h
end Go.Proofs.Ytackcingpffidaa.P
namespace Go.Proofs.Ytackcingpffidaa.P
open Go.RowKit Go.Proofs.YtackcingpffidaaW.PrintWords Go.Proofs.YtackcingpffidaaW.PrintLast
/-- What runs without rounds. -/
theorem Ev.const {α : Type} {g : Option α} {r : α} (h : g = some r) : Ev (fun _ => g) r := ⟨0, fun _ _ => h⟩
/-- A function that counts its rounds down first. -/
theorem Ev.succ {α : Type} {g : Nat → Option α} {r : α} (h : Ev (fun k => g (k + 1)) r) : Ev g r := by
  obtain ⟨K, h⟩ := h
  refine ⟨K + 1, fun k hk => ?_⟩
  obtain ⟨m, rfl⟩ : ∃ m, k = m + 1 := ⟨k - 1, by omega⟩
  exact h m (by omega)
theorem Ev.all {α : Type} {g : Nat → Option α} {r : α} (h : ∀ k, g k = some r) : Ev g r := ⟨0, fun k _ => h k⟩
/-- What is told behind one round. -/
theorem Ev.fin {α : Type} {g : Nat → Option α} {r : α} (h : ∀ k, g (k + 1) = some r) : Ev g r := by
  refine ⟨1, fun k hk => ?_⟩
  obtain ⟨m, rfl⟩ : ∃ m, k = m + 1 := ⟨k - 1, by omega⟩
  exact h m

theorem bytes_nil {s : ByteArray} (h : s.toList = ([] : List UInt8)) : s = ⟨#[]⟩ := by
  rw [Lib.toList_data] at h
  have h2 : s.data = #[] := by simpa using h
  cases s
  simp only at h2
  rw [h2]

def V (a b : Int) (s : ByteArray) : Prop := (a = 0 ∧ b = 0 ∧ s = ⟨#[]⟩) ∨ (a = 1 ∧ (b = 0 ∨ b = 1) ∧ s = ⟨#[]⟩) ∨ (a = 2 ∧ s = ⟨#[]⟩) ∨ (a = 3 ∧ b = 0 ∧ s.size ≤ 4096)
theorem ref_valid_dec (a b : Int) (s : ByteArray) : ∃ t, laminaref04_Valid.f a b s = some t ∧ (t = true ↔ V a b s) := by
  have hs : (s.toList == ([] : List UInt8)) = true ↔ s = ⟨#[]⟩ := by
    constructor
    · intro h
      exact bytes_nil (by simpa using h)
    · rintro rfl
      rw [Lib.toList_data]
      rfl
  unfold laminaref04_Valid.f V
  by_cases h0 : a = 0
  · subst h0
    by_cases h1 : b = 0
    · subst h1
      refine ⟨(s.toList == ([] : List UInt8)), rfl, hs.trans ?_⟩
      simp
    · exact ⟨false, by simp [h1], by simp [h1]⟩
  by_cases h1 : a = 1
  · subst h1
    by_cases h2 : b = 0
    · subst h2
      refine ⟨(s.toList == ([] : List UInt8)), rfl, hs.trans ?_⟩
      simp
    · by_cases h3 : b = 1
      · subst h3
        refine ⟨(s.toList == ([] : List UInt8)), rfl, hs.trans ?_⟩
        simp
      · exact ⟨false, by simp [h2, h3], by simp [h2, h3]⟩
  by_cases h2 : a = 2
  · subst h2
    refine ⟨(s.toList == ([] : List UInt8)), rfl, hs.trans ?_⟩
    simp
  by_cases h3 : a = 3
  · subst h3
    by_cases h4 : b = 0
    · subst h4
      refine ⟨decide ((s.size : Int) ≤ 4096), rfl, ?_⟩
      simp
      omega
    · exact ⟨false, by simp [h4], by simp [h4]⟩
  · exact ⟨false, by simp [h0, h1, h2, h3], by simp [h0, h1, h2, h3]⟩

def sgn (a b : Int) : Int := if a < b then -1 else if b < a then 1 else 0
/-- The order of two values. -/
def vc (a0 a1 : Int) (a2 : ByteArray) (b0 b1 : Int) (b2 : ByteArray) : Int :=
  if a0 = b0 then (if a0 = 3 then Lib.compareBytes a2.data.toList b2.data.toList else if a0 = 1 ∨ a0 = 2 then sgn a1 b1 else 0) else if a0 < b0 then -1 else 1
theorem sign_sgn (a b : Int) : value_sign.f (decide (a < b)) (decide (a > b)) = some (sgn a b) := by
  unfold value_sign.f sgn
  by_cases h : a < b <;> by_cases h2 : b < a <;> simp [h, h2]
theorem ref_sign_sgn (a b : Int) : laminaref04_sign.f (decide (a < b)) (decide (a > b)) = some (sgn a b) := by
  unfold laminaref04_sign.f sgn
  by_cases h : a < b <;> by_cases h2 : b < a <;> simp [h, h2]
theorem compare_vc (a0 a1 : Int) (a2 : ByteArray) (b0 b1 : Int) (b2 : ByteArray) : value_Compare.f a0 a1 a2 b0 b1 b2 = some (vc a0 a1 a2 b0 b1 b2) := by
  unfold value_Compare.f vc
  rw [sign_sgn]
  by_cases h : a0 = b0
  · subst h
    by_cases h3 : a0 = 3
    · subst h3; simp [strings_Compare.f]
    · by_cases h1 : a0 = 1
      · subst h1; simp
      · by_cases h2 : a0 = 2
        · subst h2; simp
        · simp [h1, h2, h3]
  · by_cases h2 : a0 < b0 <;> simp [h, h2, value_sign.f]
theorem compareBytes_less : ∀ (x y : List UInt8), Lib.compareBytes x y = if Op.bytesLess x y = true then -1 else if Op.bytesLess y x = true then 1 else 0
  | [], [] => by simp [Lib.compareBytes, Op.bytesLess]
  | [], _ :: _ => by simp [Lib.compareBytes, Op.bytesLess]
  | _ :: _, [] => by simp [Lib.compareBytes, Op.bytesLess]
  | a :: x, b :: y => by
    have ih := compareBytes_less x y
    simp only [Lib.compareBytes, Op.bytesLess]
    rcases Nat.lt_trichotomy a.toNat b.toNat with h | h | h
    · have h1 : a < b := UInt8.lt_iff_toNat_lt.2 h
      simp [h1]
    · obtain rfl : a = b := UInt8.toNat_inj.1 h
      have h2 : ¬ a < a := fun e => by have := UInt8.lt_iff_toNat_lt.1 e; omega
      simp [h2, ih]
    · have h1 : b < a := UInt8.lt_iff_toNat_lt.2 h
      have h2 : ¬ a < b := fun e => by have := UInt8.lt_iff_toNat_lt.1 e; omega
      have h3 : ¬ a = b := fun e => by subst e; omega
      simp [h1, h2, h3]
theorem ref_compare_vc (a0 a1 : Int) (a2 : ByteArray) (b0 b1 : Int) (b2 : ByteArray) (ha : V a0 a1 a2) (hb : V b0 b1 b2) : laminaref04_Compare.f a0 a1 a2 b0 b1 b2 = some (vc a0 a1 a2 b0 b1 b2) := by
  unfold laminaref04_Compare.f vc
  rw [ref_sign_sgn]
  by_cases h : a0 = b0
  · subst h
    by_cases h3 : a0 = 3
    · subst h3
      simp only [if_true, compareBytes_less, Lib.toList_data]
      unfold laminaref04_sign.f
      by_cases l : Op.bytesLess a2.data.toList b2.data.toList = true
      · simp [l]
      · by_cases l2 : Op.bytesLess b2.data.toList a2.data.toList = true <;> simp [l, l2]
    · by_cases h1 : a0 = 1
      · subst h1; simp
      · by_cases h2 : a0 = 2
        · subst h2; simp
        · have ea : a1 = 0 := by unfold V at ha; omega
          have eb : b1 = 0 := by unfold V at hb; omega
          subst ea; subst eb
          simp [h1, h2, h3, sgn]
  · by_cases h2 : a0 < b0 <;> simp [h, h2, laminaref04_sign.f]
theorem valid_same (a b : Int) (s : ByteArray) : value_Valid.f a b s = laminaref04_Valid.f a b s := by
  unfold value_Valid.f laminaref04_Valid.f
  by_cases h : s.toList = ([] : List UInt8)
  · have hb : (s.toList == ([] : List UInt8)) = true := by simpa using h
    rw [if_pos h, hb]
    by_cases h1 : b = 1
    · simp [h1]
    · have h2 : (b == 1) = false := by simpa using h1
      simp [h1, h2]
  · have hb : (s.toList == ([] : List UInt8)) = false := by simpa using h
    rw [if_neg h, hb]
    by_cases h1 : b = 1 <;> simp [h1]
theorem rvV_same (x : S39) : rvV x = vV x := by
  unfold rvV vV
  rw [valid_same]
theorem V_of (x : S39) (h : vV x = true) : V x.f0 x.f1 x.f2 := by
  obtain ⟨t, ht, hv⟩ := ref_valid_dec x.f0 x.f1 x.f2
  have h2 := rvV_is x
  rw [ht] at h2
  rw [rvV_same, h] at h2
  exact hv.1 (Option.some.inj h2)
theorem rcV_same (x y : S39) (hx : vV x = true) (hy : vV y = true) : rcV x y = cV x y := by
  unfold rcV cV
  rw [ref_compare_vc _ _ _ _ _ _ (V_of x hx) (V_of y hy), compare_vc]
end Go.Proofs.Ytackcingpffidaa.P
namespace Go.Proofs.Ytackcingpffidaa.P
open Go.RowKit Go.Proofs.YtackcingpffidaaW.PrintWords Go.Proofs.YtackcingpffidaaW.PrintLast Go.Proofs.YtackcingpffidaaW.PrintMore
set_option linter.unusedVariables false
set_option maxRecDepth 1000000 in
theorem awake_true : laminalaw16_awake.f 40 = some true := by kernel_rfl
theorem awake_ev : Ev (fun k => laminalaw16_awake.f k) true := Ev.of laminalaw16_awake.mono awake_true
theorem awake_bind : Ev (fun k => (laminalaw16_awake.f k).bind fun t => some t) true := awake_ev.bind (Ev.now true)
/-! ### the fences -/
theorem allN_iff (p : Nat → Bool) : ∀ m i, allN p i m = true ↔ ∀ j, i ≤ j → j < i + m → p j = true
  | 0, _ => by simp [allN]; intro j h1 h2; omega
  | m + 1, i => by
    simp only [allN, Bool.and_eq_true, allN_iff p m (i + 1)]
    constructor
    · rintro ⟨h0, h⟩ j h1 h2
      by_cases e : j = i
      · subst e; exact h0
      · exact h j (by omega) (by omega)
    · intro h
      exact ⟨h i (Nat.le_refl _) (by omega), fun j h1 h2 => h j (by omega) (by omega)⟩
theorem rF_fOk (l : List S39) (h : ∀ j, j < l.length → vV (rd_T39 l (j : Nat)) = true) (i : Nat) (hi : i < l.length) : rF l i = fOk l i := by
  unfold rF fOk
  rw [rvV_same]
  by_cases h0 : 0 < i
  · have h1 := h (i - 1) (by omega)
    rw [show ((i - 1 : Nat) : Int) = (i : Int) - 1 from by omega] at h1
    rw [rcV_same _ _ h1 (h i hi)]
  · simp [h0]
theorem fences_same (l : List S39) (r : List Int) (n : Int) : rfencesB l r n = fencesB l r n := by
  unfold rfencesB fencesB
  by_cases h17 : 17 < l.length
  · rw [if_pos h17, if_pos h17]
  rw [if_neg h17, if_neg h17]
  by_cases hk : (l.length = 0) = (n = 0)
  · rw [if_pos hk, if_pos hk]
    by_cases hr : r.length = 2 * l.length
    · rw [if_pos hr, if_pos hr]
      rw [Bool.eq_iff_iff]
      simp only [Bool.and_eq_true, allN_iff]
      have hR : ∀ i : Nat, rR r n l.length i = true ↔ (0 ≤ rd r (2 * (i : Int)) ∧ rd r (2 * (i : Int)) ≤ n ∧ 0 ≤ rd r (2 * (i : Int) + 1) ∧ rd r (2 * (i : Int) + 1) ≤ n ∧ (i = 0 → rd r (2 * (i : Int)) = 0) ∧ (i + 1 = l.length → rd r (2 * (i : Int) + 1) = n) ∧ (0 < i → rd r (2 * (i : Int) - 2) ≤ rd r (2 * (i : Int)) ∧ rd r (2 * (i : Int) - 1) ≤ rd r (2 * (i : Int) + 1) ∧ rd r (2 * (i : Int) - 1) ≤ rd r (2 * (i : Int)))) := by
        intro i
        unfold rR
        simp only [Bool.and_eq_true, Bool.not_eq_true', decide_eq_false_iff_not, Bool.and_eq_false_iff, Bool.or_eq_false_iff, beq_eq_false_iff_ne, bne_eq_false_iff_eq, Int.not_lt, ne_eq]
        constructor
        · rintro ⟨⟨⟨⟨⟨⟨h1, h2⟩, h3⟩, h4⟩, h5⟩, h6⟩, h7⟩
          refine ⟨h1, h2, h3, h4, fun e => ?_, fun e => ?_, fun e => ?_⟩
          · rcases h5 with h5 | h5
            · exact absurd e h5
            · exact h5
          · rcases h6 with h6 | h6
            · exact absurd e h6
            · exact h6
          · rcases h7 with h7 | h7
            · exact absurd e h7
            · exact ⟨h7.1.1, h7.1.2, h7.2⟩
        · rintro ⟨h1, h2, h3, h4, h5, h6, h7⟩
          refine ⟨⟨⟨⟨⟨⟨h1, h2⟩, h3⟩, h4⟩, ?_⟩, ?_⟩, ?_⟩
          · by_cases e : i = 0
            · exact .inr (h5 e)
            · exact .inl e
          · by_cases e : i + 1 = l.length
            · exact .inr (h6 e)
            · exact .inl e
          · by_cases e : 0 < i
            · exact .inr ⟨⟨(h7 e).1, (h7 e).2.1⟩, (h7 e).2.2⟩
            · exact .inl e
      have hr2 : ∀ i : Nat, rOk r n i = true ↔ (0 ≤ rd r (i : Int) ∧ rd r (i : Int) ≤ n ∧ (2 ≤ i → rd r ((i : Int) - 2) ≤ rd r (i : Int))) := by
        intro i
        unfold rOk
        simp only [Bool.and_eq_true, Bool.not_eq_true', decide_eq_false_iff_not, Bool.and_eq_false_iff, Int.not_lt]
        constructor
        · rintro ⟨⟨h1, h2⟩, h3⟩
          exact ⟨h1, h2, fun e => h3.resolve_left (fun h => h e)⟩
        · rintro ⟨h1, h2, h3⟩
          refine ⟨⟨h1, h2⟩, ?_⟩
          by_cases e : 2 ≤ i
          · exact .inr (h3 e)
          · exact .inl e
      have ht : ∀ i : Nat, tOk r i = true ↔ rd r (2 * (i : Int) - 1) ≤ rd r (2 * (i : Int)) := by
        intro i
        unfold tOk
        simp
      constructor
      · intro h
        have hF : ∀ j, j < l.length → rF l j = true ∧ rR r n l.length j = true := fun j hj => by
          have := h j (Nat.zero_le _) (by omega)
          exact this
        have hv : ∀ j, j < l.length → vV (rd_T39 l (j : Nat)) = true := fun j hj => by
          have h1 := (hF j hj).1
          unfold rF at h1
          simp only [Bool.and_eq_true] at h1
          rw [← rvV_same]
          exact h1.1.1.1
        refine ⟨⟨⟨fun j _ hj => ?_, fun j _ hj => ?_⟩, fun j h1 hj => ?_⟩, ?_⟩
        · rw [← rF_fOk l hv j (by omega)]; exact (hF j (by omega)).1
        · rw [hr2]
          have h2 := (hR (j / 2)).1 (hF (j / 2) (by omega)).2
          rcases Nat.mod_two_eq_zero_or_one j with e | e
          · rw [show (j : Int) = 2 * ((j / 2 : Nat) : Int) from by omega]
            exact ⟨h2.1, h2.2.1, fun hj2 => (h2.2.2.2.2.2.2 (by omega)).1⟩
          · rw [show (j : Int) = 2 * ((j / 2 : Nat) : Int) + 1 from by omega]
            refine ⟨h2.2.2.1, h2.2.2.2.1, fun hj2 => ?_⟩
            rw [show 2 * ((j / 2 : Nat) : Int) + 1 - 2 = 2 * ((j / 2 : Nat) : Int) - 1 from by omega]
            exact (h2.2.2.2.2.2.2 (by omega)).2.1
        · rw [ht]
          exact (((hR j).1 (hF j (by omega)).2).2.2.2.2.2.2 (by omega)).2.2
        · by_cases h0 : l.length = 0
          · simp [h0]
          · have ha := (hR 0).1 (hF 0 (by omega)).2
            have hb := (hR (l.length - 1)).1 (hF (l.length - 1) (by omega)).2
            have h1 := ha.2.2.2.2.1 rfl
            have h2 := hb.2.2.2.2.2.1 (by omega)
            rw [show 2 * ((l.length - 1 : Nat) : Int) + 1 = 2 * (l.length : Int) - 1 from by omega] at h2
            have h1' : rd r 0 = 0 := by simpa using h1
            simp [h1', h2]
      · rintro ⟨⟨⟨hF, hr_⟩, ht_⟩, he⟩ j _ hj
        have hv : ∀ j, j < l.length → vV (rd_T39 l (j : Nat)) = true := fun j hj => by
          have h1 := hF j (Nat.zero_le _) (by omega)
          unfold fOk at h1
          simp only [Bool.and_eq_true] at h1
          exact h1.1.1.1
        refine ⟨by rw [rF_fOk l hv j (by omega)]; exact hF j (Nat.zero_le _) hj, ?_⟩
        rw [hR]
        have h0 := (hr2 (2 * j)).1 (hr_ (2 * j) (Nat.zero_le _) (by omega))
        have h1 := (hr2 (2 * j + 1)).1 (hr_ (2 * j + 1) (Nat.zero_le _) (by omega))
        rw [show ((2 * j : Nat) : Int) = 2 * (j : Int) from by omega] at h0
        rw [show ((2 * j + 1 : Nat) : Int) = 2 * (j : Int) + 1 from by omega] at h1
        have he' : rd r 0 = 0 ∧ rd r (2 * (l.length : Int) - 1) = n := by
          simp only [Bool.or_eq_true, beq_iff_eq, Bool.and_eq_true] at he
          rcases he with he | he
          · omega
          · exact he
        refine ⟨h0.1, h0.2.1, h1.1, h1.2.1, fun e => ?_, fun e => ?_, fun e => ⟨h0.2.2 (by omega), ?_, ?_⟩⟩
        · subst e; simpa using he'.1
        · rw [show 2 * (j : Int) + 1 = 2 * (l.length : Int) - 1 from by omega]; exact he'.2
        · have := h1.2.2 (by omega)
          rwa [show 2 * (j : Int) + 1 - 2 = 2 * (j : Int) - 1 from by omega] at this
        · have := (ht j).1 (ht_ j (by omega) (by omega))
          exact this
    · rw [if_neg hr, if_neg hr]
  · rw [if_neg hk, if_neg hk]
end Go.Proofs.Ytackcingpffidaa.P
namespace Go.Proofs.Ytackcingpffidaa.P
open Go.RowKit Go.Proofs.YtackcingpffidaaW.PrintWords Go.Proofs.YtackcingpffidaaW.PrintLast Go.Proofs.YtackcingpffidaaW.PrintMore
set_option linter.unusedVariables false
set_option linter.unusedSimpArgs false
theorem Ev_pos {α : Type} {p : Prop} [Decidable p] {a b : Nat → Option α} {r : α} (h : p) (e : Ev a r) : Ev (fun k => if p then a k else b k) r := Ev.congr (fun _ => if_pos h) e
theorem Ev_neg {α : Type} {p : Prop} [Decidable p] {a b : Nat → Option α} {r : α} (h : ¬ p) (e : Ev b r) : Ev (fun k => if p then a k else b k) r := Ev.congr (fun _ => if_neg h) e
theorem wrap64_small {x : Int} (h0 : 0 ≤ x) (h1 : x < 9223372036854775808) : wrap64 x = x := by unfold wrap64; omega
/-! ### counters -/
section
variable (a0 a1 : Int) (M : List Int) (c : Bool) (C : List Int) (F : List S39) (R : List Int)
theorem ref_row (hC : C.length = 256) (r : Nat) (hr : r < 4) (B : Bool) (hB : Ev (fun k => laminaref16_validCounters.l0 k ((r + 1 : Nat) : Int) a0 a1 M c C F R) B) : ∀ (m x : Nat) (left : Int), x + m = 64 →
    Ev (fun k => laminaref16_validCounters.l1 k (r : Int) left (x : Int) a0 a1 M c C F R) (rowB (((C.take ((r + 1) * 64)).drop (r * 64)).drop x) left && B)
  | 0, x, left, h => by
    obtain rfl : x = 64 := by omega
    rw [List.drop_of_length_le (by rw [List.length_drop, List.length_take]; omega)]
    refine Ev.succ ?_
    simp only [laminaref16_validCounters.l1]
    refine Ev_neg (by omega) ?_
    by_cases h0 : left = 0
    · refine Ev_pos h0 ?_
      subst h0
      rw [wrap64_small (by omega) (by omega)]
      simpa [rowB] using hB
    · refine Ev_neg h0 ?_
      have : rowB [] left = false := by simp [rowB, h0]
      rw [this]
      exact Ev.now _
  | m + 1, x, left, h => by
    have hd : ((C.take ((r + 1) * 64)).drop (r * 64)).drop x = rd C ((r * 64 + x : Nat) : Int) :: ((C.take ((r + 1) * 64)).drop (r * 64)).drop (x + 1) := by
      rw [List.drop_eq_getElem_cons (by rw [List.length_drop, List.length_take]; omega)]
      congr 1
      unfold rd
      rw [Int.toNat_natCast, List.getD_eq_getElem?_getD, List.getElem?_eq_getElem (by omega), List.getElem_drop, List.getElem_take]
      rfl
    rw [hd]
    have hi : wrap64 (wrap64 ((r : Int) * 64) + (x : Int)) = ((r * 64 + x : Nat) : Int) := by rw [wrap64_small (x := (r : Int) * 64) (by omega) (by omega), wrap64_small (by omega) (by omega)]; omega
    refine Ev.succ ?_
    simp only [laminaref16_validCounters.l1]
    rw [hi]
    refine Ev_pos (by omega) (Ev_pos (by omega) (Ev_pos (by omega) ?_))
    generalize rd C ((r * 64 + x : Nat) : Int) = v
    by_cases h1 : v < 0
    · refine Ev_pos h1 ?_
      simp only [rowB, if_pos h1, Bool.false_and]
      exact Ev.now _
    · by_cases h2 : v > left
      · refine Ev_neg h1 (Ev_pos h2 ?_)
        simp only [rowB, if_neg h1, if_pos (show left < v from h2), Bool.false_and]
        exact Ev.now _
      · refine Ev_neg h1 (Ev_neg h2 ?_)
        simp only [rowB, if_neg h1, if_neg (show ¬ left < v from h2)]
        rw [wrap64_small (x := (x : Int) + 1) (by omega) (by omega)]
        have := ref_row hC r hr B hB m (x + 1) (wrap64 (left - v)) (by omega)
        simpa using this
theorem ref_cnt (hC : C.length = 256) : ∀ (m r : Nat), r + m = 4 → Ev (fun k => laminaref16_validCounters.l0 k (r : Int) a0 a1 M c C F R) (cntF C (wrap64 (a0 - a1)) m)
  | 0, r, h => by
    obtain rfl : r = 4 := by omega
    refine Ev.succ ?_
    simp only [laminaref16_validCounters.l0]
    exact Ev_neg (by omega) (Ev.now _)
  | m + 1, r, h => by
    refine Ev.succ ?_
    simp only [laminaref16_validCounters.l0, laminaref16_values.f, Option.bind_some]
    refine Ev_pos (by omega) ?_
    have := ref_row a0 a1 M c C F R hC r (by omega) _ (ref_cnt hC m (r + 1) (by omega)) 64 0 (wrap64 (a0 - a1)) rfl
    rw [List.drop_zero] at this
    simp only [cntF]
    rw [show 3 - m = r from by omega]
    exact this
theorem ref_counters : Ev (fun k => laminaref16_validCounters.f k a0 a1 M c C F R) (cntB C (wrap64 (a0 - a1))) := by
  unfold laminaref16_validCounters.f cntB
  by_cases h : C.length = 256
  · refine Ev.congr (fun k => if_pos (by omega)) ?_
    rw [show (C.length == 256) = true from by simp [h], Bool.true_and]
    exact ref_cnt a0 a1 M c C F R h 4 0 rfl
  · refine Ev.congr (fun k => if_neg (by omega)) ?_
    rw [show (C.length == 256) = false from by simp [h], Bool.false_and]
    exact Ev.now _
/-! ### hashes -/
def upB (M : List Int) (j : Nat) : Bool := !(decide (rd M (j : Int) ≤ rd M ((j : Int) - 1)))
theorem ref_up (hM : M.length ≤ 4611686018427387904) : ∀ (m i : Nat), 1 ≤ i → M.length - i = m → Ev (fun k => laminaref16_validHashes.l0 k (i : Int) a0 a1 M c C F R) (allN (upB M) i m)
  | 0, i, h1, h => by
    refine Ev.succ ?_
    simp only [laminaref16_validHashes.l0]
    exact Ev_neg (by omega) (Ev.now _)
  | m + 1, i, h1, h => by
    refine Ev.succ ?_
    simp only [laminaref16_validHashes.l0]
    rw [wrap64_small (x := (i : Int) - 1) (by omega) (by omega)]
    refine Ev_pos (by omega) (Ev_pos (by omega) (Ev_pos (by omega) (Ev_pos (by omega) ?_)))
    by_cases h2 : rd M (i : Int) ≤ rd M ((i : Int) - 1)
    · refine Ev_pos h2 ?_
      rw [allN_bad _ _ _ (by simp [upB, h2])]
      exact Ev.now _
    · refine Ev_neg h2 ?_
      rw [allN_next _ _ _ (by simp [upB, h2]), wrap64_small (x := (i : Int) + 1) (by omega) (by omega)]
      have := ref_up hM m (i + 1) (by omega) (by omega)
      simpa using this
theorem lib_up (n : Int) (hM : M.length ≤ 4611686018427387904) : ∀ (m i : Nat), 1 ≤ i → M.length - i = m → Ev (fun k => sketch_Valid.l0 k n (i : Int) a0 a1 M c C F R) (allN (upB M) i m && (cntB C n && fencesB F R n))
  | 0, i, h1, h => by
    refine Ev.succ ?_
    simp only [sketch_Valid.l0, sketch_validCounters.f, sketch_validFences.f, Option.bind_some]
    refine Ev_neg (by omega) ?_
    simp only [allN, Bool.true_and]
    cases cntB C n with
    | true => exact Ev.now _
    | false => exact Ev.now _
  | m + 1, i, h1, h => by
    refine Ev.succ ?_
    simp only [sketch_Valid.l0]
    rw [wrap64_small (x := (i : Int) - 1) (by omega) (by omega)]
    refine Ev_pos (by omega) (Ev_pos (by omega) (Ev_pos (by omega) (Ev_pos (by omega) ?_)))
    by_cases h2 : rd M (i : Int) ≤ rd M ((i : Int) - 1)
    · refine Ev_pos h2 ?_
      rw [allN_bad _ _ _ (by simp [upB, h2])]
      exact Ev.now _
    · refine Ev_neg h2 ?_
      rw [allN_next _ _ _ (by simp [upB, h2]), wrap64_small (x := (i : Int) + 1) (by omega) (by omega)]
      have := lib_up n hM m (i + 1) (by omega) (by omega)
      simpa using this
/-- The checks of numbers, hashes and completeness that need no loop fail. -/
def badB (a0 a1 n : Int) (len : Nat) (c : Bool) : Bool := decide (a1 < 0) || decide (a0 < a1) || decide (32 < len) || decide (n < (len : Int)) || (decide (0 < n) && decide (len = 0)) || (!c && decide (len < 32))
def validB (a0 a1 : Int) (M : List Int) (c : Bool) (C : List Int) (F : List S39) (R : List Int) : Bool :=
  !badB a0 a1 (wrap64 (a0 - a1)) M.length c && (allN (upB M) 1 (M.length - 1) && (cntB C (wrap64 (a0 - a1)) && fencesB F R (wrap64 (a0 - a1))))
theorem lib_valid (hM : M.length ≤ 4611686018427387904) : Ev (fun k => sketch_Valid.f k a0 a1 M c C F R) (validB a0 a1 M c C F R) := by
  unfold sketch_Valid.f
  simp only [sketch_count.f, Option.bind_some]
  have hj : ∀ b, Ev (fun k => sketch_Valid.j0 k (wrap64 (a0 - a1)) b a0 a1 M c C F R) (!b && (allN (upB M) 1 (M.length - 1) && (cntB C (wrap64 (a0 - a1)) && fencesB F R (wrap64 (a0 - a1))))) := by
    intro b
    refine Ev.succ ?_
    simp only [sketch_Valid.j0]
    cases b with
    | true => exact Ev.now _
    | false => exact lib_up a0 a1 M c C F R _ hM (M.length - 1) 1 (Nat.le_refl _) rfl
  unfold validB
  generalize wrap64 (a0 - a1) = n at *
  generalize hV : (allN (upB M) 1 (M.length - 1) && (cntB C n && fencesB F R n)) = V at *
  have key : ∀ b, badB a0 a1 n M.length c = b → Ev (fun k => sketch_Valid.j0 k n b a0 a1 M c C F R) (!badB a0 a1 n M.length c && V) := fun b h => by rw [h]; exact hj b
  unfold badB at key ⊢
  by_cases h1 : a1 < 0
  · exact Ev_pos h1 (key true (by simp [h1]))
  by_cases h2 : a1 > a0
  · exact (Ev_neg h1 (Ev_pos h2 (key true (by simp [show a0 < a1 from h2]))))
  by_cases h3 : (M.length : Int) > mn n 32
  · refine Ev_neg h1 (Ev_neg h2 (Ev_pos h3 (key true ?_)))
    have : 32 < M.length ∨ n < (M.length : Int) := by unfold mn at h3; split at h3 <;> omega
    rcases this with h | h <;> simp [h]
  have h3a : ¬ 32 < M.length := by unfold mn at h3; split at h3 <;> omega
  have h3b : ¬ n < (M.length : Int) := by unfold mn at h3; split at h3 <;> omega
  by_cases h4 : n > 0
  · by_cases h5 : (M.length : Int) = 0
    · have h5' : M.length = 0 := by omega
      exact (Ev_neg h1 (Ev_neg h2 (Ev_neg h3 (Ev_pos h4 (Ev_pos h5 (key true (by simp [show 0 < n from h4, h5'])))))))
    · have h5' : ¬ M.length = 0 := by omega
      cases c with
      | true => exact (Ev_neg h1 (Ev_neg h2 (Ev_neg h3 (Ev_pos h4 (Ev_neg h5 (Ev_pos rfl (key false (by simp [h1, show ¬ a0 < a1 from h2, h3a, h3b, h5', show ¬ M = [] from fun e => h5' (by simp [e])]))))))))
      | false => exact (Ev_neg h1 (Ev_neg h2 (Ev_neg h3 (Ev_pos h4 (Ev_neg h5 (Ev_neg (by simp) (key _ (by rw [Bool.eq_iff_iff]; simp [h1, show ¬ a0 < a1 from h2, h3a, h3b, h5', show ¬ M = [] from fun e => h5' (by simp [e])] <;> omega))))))))
  · cases c with
    | true => exact (Ev_neg h1 (Ev_neg h2 (Ev_neg h3 (Ev_neg h4 (Ev_pos rfl (key false (by simp [h1, show ¬ a0 < a1 from h2, h3a, h3b, show ¬ 0 < n from h4])))))))
    | false => exact (Ev_neg h1 (Ev_neg h2 (Ev_neg h3 (Ev_neg h4 (Ev_neg (by simp) (key _ (by rw [Bool.eq_iff_iff]; simp [h1, show ¬ a0 < a1 from h2, h3a, h3b, show ¬ 0 < n from h4] <;> omega)))))))
theorem ref_hashes (hM : M.length ≤ 4611686018427387904) : Ev (fun k => laminaref16_validHashes.f k a0 a1 M c C F R) (!(decide (32 < M.length) || decide (wrap64 (a0 - a1) < (M.length : Int)) || (decide (0 < wrap64 (a0 - a1)) && decide (M.length = 0)) || (!c && decide (M.length < 32))) && allN (upB M) 1 (M.length - 1)) := by
  unfold laminaref16_validHashes.f
  simp only [laminaref16_values.f, Option.bind_some]
  have hj : ∀ b, Ev (fun k => laminaref16_validHashes.j0 k b a0 a1 M c C F R) (!b && allN (upB M) 1 (M.length - 1)) := by
    intro b
    refine Ev.succ ?_
    simp only [laminaref16_validHashes.j0]
    cases b with
    | true => exact Ev.now _
    | false => exact ref_up a0 a1 M c C F R hM (M.length - 1) 1 (Nat.le_refl _) rfl
  generalize wrap64 (a0 - a1) = n at *
  generalize hV : allN (upB M) 1 (M.length - 1) = V at *
  have key : ∀ b, (decide (32 < M.length) || decide (n < (M.length : Int)) || (decide (0 < n) && decide (M.length = 0)) || (!c && decide (M.length < 32))) = b → Ev (fun k => laminaref16_validHashes.j0 k b a0 a1 M c C F R) (!(decide (32 < M.length) || decide (n < (M.length : Int)) || (decide (0 < n) && decide (M.length = 0)) || (!c && decide (M.length < 32))) && V) := fun b h => by rw [h]; exact hj b
  by_cases h3a : (M.length : Int) > 32
  · have h32 : 32 < M.length := by omega
    exact (Ev_pos h3a (key true (by simp [h32])))
  by_cases h3b : (M.length : Int) > n
  · exact (Ev_neg h3a (Ev_pos h3b (key true (by simp [show n < (M.length : Int) from h3b]))))
  have h3a' : ¬ 32 < M.length := by omega
  have h3b' : ¬ n < (M.length : Int) := h3b
  by_cases h4 : n > 0
  · by_cases h5 : (M.length : Int) = 0
    · have h5' : M.length = 0 := by omega
      exact (Ev_neg h3a (Ev_neg h3b (Ev_pos h4 (Ev_pos h5 (key true (by simp [show 0 < n from h4, h5']))))))
    · have h5' : ¬ M.length = 0 := by omega
      cases c with
      | true => exact (Ev_neg h3a (Ev_neg h3b (Ev_pos h4 (Ev_neg h5 (Ev_pos rfl (key false (by simp [h3a', h3b', h5', show ¬ M = [] from fun e => h5' (by simp [e])])))))))
      | false => exact (Ev_neg h3a (Ev_neg h3b (Ev_pos h4 (Ev_neg h5 (Ev_neg (by simp) (key _ (by rw [Bool.eq_iff_iff]; simp [h3a', h3b', h5', show ¬ M = [] from fun e => h5' (by simp [e])] <;> omega)))))))
  · cases c with
    | true => exact (Ev_neg h3a (Ev_neg h3b (Ev_neg h4 (Ev_pos rfl (key false (by simp [h3a', h3b', show ¬ 0 < n from h4]))))))
    | false => exact (Ev_neg h3a (Ev_neg h3b (Ev_neg h4 (Ev_neg (by simp) (key _ (by rw [Bool.eq_iff_iff]; simp [h3a', h3b', show ¬ 0 < n from h4] <;> omega))))))
theorem ref_valid (hM : M.length ≤ 4611686018427387904) : Ev (fun k => laminaref16_Valid.f k a0 a1 M c C F R) (validB a0 a1 M c C F R) := by
  unfold laminaref16_Valid.f validB badB
  have hH := ref_hashes a0 a1 M c C F R hM
  have hC := ref_counters a0 a1 M c C F R
  by_cases h1 : a1 ≥ 0
  · by_cases h2 : a1 ≤ a0
    · refine Ev_pos h1 (Ev_pos h2 ?_)
      simp only [laminaref16_validFences.f, Option.bind_some, fences_same]
      have e1 : decide (a1 < 0) = false := decide_eq_false (by omega)
      have e2 : decide (a0 < a1) = false := decide_eq_false (by omega)
      rw [e1, e2, Bool.false_or, Bool.false_or]
      refine Ev.bind (a := _) hH ?_
      generalize (decide (32 < M.length) || decide (wrap64 (a0 - a1) < (M.length : Int)) || (decide (0 < wrap64 (a0 - a1)) && decide (M.length = 0)) || (!c && decide (M.length < 32))) = b
      cases b with
      | true => exact Ev.now _
      | false =>
        cases allN (upB M) 1 (M.length - 1) with
        | false => exact Ev.now _
        | true =>
          refine Ev_pos rfl ?_
          refine Ev.bind (a := _) hC ?_
          cases cntB C (wrap64 (a0 - a1)) with
          | false => exact Ev.now _
          | true => exact Ev.now _
    · refine Ev_pos h1 (Ev_neg h2 ?_)
      rw [show decide (a0 < a1) = true from decide_eq_true (by omega)]
      simp only [Bool.or_true, Bool.true_or, Bool.not_true, Bool.false_and]
      exact Ev.now _
  · refine Ev_neg h1 ?_
    rw [show decide (a1 < 0) = true from decide_eq_true (by omega)]
    simp only [Bool.true_or, Bool.not_true, Bool.false_and]
    exact Ev.now _
end
end Go.Proofs.Ytackcingpffidaa.P
namespace Go.Proofs.Ytackcingpffidaa.P
open Go.RowKit Go.Proofs.YtackcingpffidaaW.PrintWords Go.Proofs.YtackcingpffidaaW.PrintLast Go.Proofs.YtackcingpffidaaW.PrintMore
theorem wrap_small {i : Nat} (h : i < 9223372036854775807) : wrap64 ((i : Int) + 1) = ((i + 1 : Nat) : Int) := by unfold wrap64; omega
theorem rd_at (xs : List S39) (i : Nat) (h : i < xs.length) : rd_T39 xs (i : Int) = xs[i] := by
  unfold rd_T39
  rw [Int.toNat_natCast, List.getD_eq_getElem?_getD, List.getElem?_eq_getElem h]
  rfl
def VS (x : S39) : Prop := V x.f0 x.f1 x.f2
def Bytes (l : List Int) : Prop := ∀ c ∈ l, 0 ≤ c ∧ c ≤ 255
/-- Eight digits, least first. -/
def vw (g : Nat → Nat) : Nat → Nat
  | 0 => 0
  | i + 1 => vw g i + g i * 256 ^ i
/-- Eight digits, from the greatest on. -/
def tw (g : Nat → Nat) : Nat → Nat
  | 0 => 0
  | c + 1 => tw g c * 256 + g (7 - c)
theorem vw_lt (g : Nat → Nat) (hg : ∀ i, g i ≤ 255) : ∀ i, vw g i < 256 ^ i
  | 0 => by simp [vw]
  | i + 1 => by
    have ih := vw_lt g hg i
    have h := Nat.mul_le_mul_right (256 ^ i) (hg i)
    simp only [vw]
    rw [Nat.pow_succ]
    omega
theorem tw_lt (g : Nat → Nat) (hg : ∀ i, g i ≤ 255) : ∀ c, tw g c < 256 ^ c
  | 0 => by simp [tw]
  | c + 1 => by
    have ih := tw_lt g hg c
    have h := hg (7 - c)
    simp only [tw]
    rw [Nat.pow_succ]
    omega
theorem vw_tw (g : Nat → Nat) : vw g 8 = tw g 8 := by
  simp only [vw, tw, Nat.reduceSub]
  omega
theorem or_add2 (a b k : Nat) (ha : a < 2 ^ k) (h : a + b * 2 ^ k < 18446744073709551616) : Go.bits .or .u64 (a : Int) ((b * 2 ^ k : Nat) : Int) = ((a + b * 2 ^ k : Nat) : Int) := by
  rw [bits_or_u64_nat a (b * 2 ^ k) (by omega) (by omega)]
  congr 1
  rw [Nat.or_comm, Nat.mul_comm b, ← Nat.two_pow_add_eq_or_of_lt ha b]
  omega
/-- The digits of the group at n. -/
def dg (l : List Int) (n i : Nat) : Nat := (l.getD (n + i) 0).toNat
theorem dg_le {l : List Int} (hl : Bytes l) (n i : Nat) : dg l n i ≤ 255 := by
  unfold dg
  rw [List.getD_eq_getElem?_getD]
  by_cases h : n + i < l.length
  · rw [List.getElem?_eq_getElem h]
    have := hl _ (List.getElem_mem h)
    simp only [Option.getD_some]
    omega
  · rw [List.getElem?_eq_none (by omega)]
    decide
theorem dg_rd {l : List Int} (hl : Bytes l) (n i : Nat) : l.getD (n + i) 0 = (dg l n i : Int) := by
  unfold dg
  rw [List.getD_eq_getElem?_getD]
  by_cases h : n + i < l.length
  · rw [List.getElem?_eq_getElem h]
    have := hl _ (List.getElem_mem h)
    simp only [Option.getD_some]
    omega
  · rw [List.getElem?_eq_none (by omega)]
    rfl
theorem pad_dg {l : List Int} (hl : Bytes l) (n m i : Nat) (hm : m = min (n + 8) l.length) (hi : i < 8) : rd (checksum_Hash.pad ((l.take m).drop n)) (i : Int) = (dg l n i : Int) := by
  rw [← dg_rd hl n i]
  unfold rd checksum_Hash.pad
  rw [Int.toNat_natCast, List.getD_eq_getElem?_getD, List.getD_eq_getElem?_getD]
  by_cases h : i < ((l.take m).drop n).length
  · rw [List.getElem?_append_left h, List.getElem?_drop, List.getElem?_take]
    rw [List.length_drop, List.length_take] at h
    rw [if_pos (by omega)]
  · rw [List.getElem?_append_right (by omega)]
    rw [List.length_drop, List.length_take] at h
    rw [List.getElem?_eq_none (l := l) (by omega)]
    rw [List.getElem?_replicate]
    split <;> rfl
theorem word_vw (g : List Int) (d : Nat → Nat) (hd : ∀ i, d i ≤ 255) (h : ∀ i : Nat, i < 8 → rd g (i : Int) = (d i : Int)) : ∀ i, i ≤ 8 → checksum_Hash.word g i = (vw d i : Int)
  | 0, _ => rfl
  | i + 1, hi => by
    have ih := word_vw g d hd h i (by omega)
    simp only [checksum_Hash.word]
    rw [ih, h i (by omega), IntKind.wrap_u64, IntKind.wrap_u64]
    have hv := vw_lt d hd i
    have hv1 := vw_lt d hd (i + 1)
    have hp : 256 ^ (i + 1) ≤ 256 ^ 8 := Nat.pow_le_pow_right (by decide) hi
    have h8 : (256 : Nat) ^ 8 = 18446744073709551616 := by decide
    have hdi := hd i
    have e256 : ∀ j : Nat, (2 : Nat) ^ (8 * j) = 256 ^ j := fun j => by rw [Nat.pow_mul]
    simp only [vw] at hv1 ⊢
    have e : ((d i : Int) % 18446744073709551616 * 2 ^ (8 * i)) % 18446744073709551616 = ((d i * 2 ^ (8 * i) : Nat) : Int) := by
      have e1 : (d i : Int) % 18446744073709551616 = (d i : Int) := by omega
      rw [e1]
      have e2 : (d i : Int) * 2 ^ (8 * i) = ((d i * 2 ^ (8 * i) : Nat) : Int) := by
        rw [Int.natCast_mul, Int.natCast_pow]
        rfl
      rw [e2]
      have e3 : d i * 2 ^ (8 * i) < 18446744073709551616 := by rw [e256]; omega
      generalize d i * 2 ^ (8 * i) = z at *
      omega
    rw [e, or_add2 (vw d i) (d i) (8 * i) (by rw [e256]; exact hv) (by rw [e256]; omega), e256]
theorem ref_word_loop (l : List Int) (hl : Bytes l) (hn : l.length < 9223372036854775000) (n : Nat) (hnl : n ≤ l.length) : ∀ d c, c + d = 8 → Ev (fun k => laminaref02_word.l0 k l (n : Int) (tw (dg l n) c : Int) (7 - (c : Int))) (tw (dg l n) 8 : Int) := by
  intro d
  induction d with
  | zero =>
    intro c hc
    obtain rfl : c = 8 := by omega
    refine Ev.fin fun k => ?_
    simp only [laminaref02_word.l0]
    rw [if_neg (by decide)]
  | succ d ih =>
    intro c hc
    have h := ih (c + 1) (by omega)
    have hlt := tw_lt (dg l n) (dg_le hl n) c
    have hlt1 := tw_lt (dg l n) (dg_le hl n) (c + 1)
    have hp : 256 ^ (c + 1) ≤ 256 ^ 8 := Nat.pow_le_pow_right (by decide) (by omega)
    have h8 : (256 : Nat) ^ 8 = 18446744073709551616 := by decide
    have hd := dg_le hl n (7 - c)
    have hrd := dg_rd hl n (7 - c)
    rw [h8] at hp
    have hX : tw (dg l n) c * 256 + dg l n (7 - c) < 18446744073709551616 := Nat.lt_of_lt_of_le hlt1 hp
    clear hp h8 hlt1 hlt
    refine Ev.step (fun k => ?_) h
    simp only [laminaref02_word.l0, tw]
    have hw : wrap64 ((n : Int) + (7 - (c : Int))) = ((n + (7 - c) : Nat) : Int) := by unfold wrap64; omega
    have hm : IntKind.u64.wrap ((tw (dg l n) c : Int) * 256) = ((tw (dg l n) c * 256 : Nat) : Int) := by rw [IntKind.wrap_u64]; omega
    rw [if_pos (by omega), hw, hm, show wrap64 (7 - (c : Int) - 1) = 7 - ((c + 1 : Nat) : Int) by unfold wrap64; omega]
    by_cases hin : n + (7 - c) < l.length
    · rw [if_pos (by omega), if_pos (by omega)]
      have hr : rd l ((n + (7 - c) : Nat) : Int) = (dg l n (7 - c) : Int) := by
        unfold rd
        rw [Int.toNat_natCast]
        exact hrd
      have b1 : dg l n (7 - c) < 2 ^ 8 := Nat.lt_of_le_of_lt hd (by decide)
      have b2 : dg l n (7 - c) + tw (dg l n) c * 2 ^ 8 < 18446744073709551616 := by rw [Nat.add_comm]; exact hX
      have b3 : tw (dg l n) c * 256 < 18446744073709551616 := Nat.lt_of_le_of_lt (Nat.le_add_right _ _) hX
      have b4 : dg l n (7 - c) < 18446744073709551616 := Nat.lt_of_le_of_lt hd (by decide)
      have ho := or_add2 (dg l n (7 - c)) (tw (dg l n) c) 8 b1 b2
      rw [hr, IntKind.wrap_u64, show (dg l n (7 - c) : Int) % 18446744073709551616 = (dg l n (7 - c) : Int) by omega]
      have hcomm : Go.bits .or .u64 ((tw (dg l n) c * 256 : Nat) : Int) (dg l n (7 - c) : Int) = ((tw (dg l n) c * 256 + dg l n (7 - c) : Nat) : Int) := by
        have e0 : Go.bits .or .u64 ((tw (dg l n) c * 256 : Nat) : Int) (dg l n (7 - c) : Int) = Go.bits .or .u64 (dg l n (7 - c) : Int) ((tw (dg l n) c * 256 : Nat) : Int) := by
          rw [bits_or_u64_nat _ _ b3 b4, Nat.or_comm, ← bits_or_u64_nat _ _ b4 b3]
        rw [e0]
        refine Eq.trans ho ?_
        congr 1
        omega
      rw [hcomm]
    · rw [if_neg (by omega)]
      have hz : dg l n (7 - c) = 0 := by
        unfold dg
        rw [List.getD_eq_getElem?_getD, List.getElem?_eq_none (by omega)]
        rfl
      simp only [hz, Nat.add_zero]
theorem mix_nn {z m : Int} (h : checksum_Mix.f z = some m) : 0 ≤ m := by
  unfold checksum_Mix.f at h
  obtain rfl := Option.some.inj h
  exact bits_lo_u64 _ _ _
theorem hash_loops (l : List Int) (hl : Bytes l) (hn : l.length < 9223372036854775000) : ∀ (d n : Nat) (h : Int), 0 ≤ h → n ≤ l.length + 8 → l.length ≤ n + 8 * d → ∃ r, 0 ≤ r ∧ Ev (fun k => checksum_Hash.l0 k l h (n : Int)) r ∧ Ev (fun k => laminaref02_Hash.l0 k l h (n : Int)) r := by
  intro d
  induction d with
  | zero =>
    intro n h h0 hb hd
    refine ⟨h, h0, Ev.fin fun k => ?_, Ev.fin fun k => ?_⟩
    · simp only [checksum_Hash.l0]
      rw [if_neg (by omega)]
    · simp only [laminaref02_Hash.l0]
      rw [if_neg (by omega)]
  | succ d ih =>
    intro n h h0 hb hd
    by_cases hlt : n < l.length
    · have hm : ((if (l.length : Int) < wrap64 ((n : Int) + 8) then (l.length : Int) else wrap64 ((n : Int) + 8)).toNat) = min (n + 8) l.length := by
        rw [show wrap64 ((n : Int) + 8) = ((n + 8 : Nat) : Int) by unfold wrap64; omega]
        split <;> omega
      have hword := word_vw (checksum_Hash.pad ((l.take (min (n + 8) l.length)).drop n)) (dg l n) (dg_le hl n) (fun i hi => pad_dg hl n _ i rfl hi) 8 (Nat.le_refl _)
      have href := ref_word_loop l hl hn n (by omega) 8 0 rfl
      obtain ⟨m, hmix⟩ : ∃ m, checksum_Mix.f (Go.bits .xor .u64 h (tw (dg l n) 8 : Int)) = some m := ⟨_, rfl⟩
      have hmix2 : laminaref02_Mix.f (Go.bits .xor .u64 h (tw (dg l n) 8 : Int)) = some m := hmix
      obtain ⟨r, hr, h1, h2⟩ := ih (n + 8) m (mix_nn hmix) (by omega) (by omega)
      refine ⟨r, hr, Ev.step (fun k => ?_) h1, ?_⟩
      · simp only [checksum_Hash.l0]
        rw [if_pos (by omega), if_pos (by omega), hm, Int.toNat_natCast, hword, vw_tw, hmix, Option.bind_some, show wrap64 ((n : Int) + 8) = ((n + 8 : Nat) : Int) by unfold wrap64; omega]
      · have main : Ev (fun k => (laminaref02_word.f k l (n : Int)).bind fun t => (laminaref02_Mix.f (Go.bits .xor .u64 h t)).bind fun u => laminaref02_Hash.l0 k l u ((n + 8 : Nat) : Int)) r := by
          refine Ev.bind (a := (tw (dg l n) 8 : Int)) href ?_
          rw [hmix2]
          exact h2
        refine Ev.step (fun k => ?_) main
        simp only [laminaref02_Hash.l0]
        rw [if_pos (by omega), show wrap64 ((n : Int) + 8) = ((n + 8 : Nat) : Int) by unfold wrap64; omega]
    · refine ⟨h, h0, Ev.fin fun k => ?_, Ev.fin fun k => ?_⟩
      · simp only [checksum_Hash.l0]
        rw [if_neg (by omega)]
      · simp only [laminaref02_Hash.l0]
        rw [if_neg (by omega)]
theorem hashes (l : List Int) (hl : Bytes l) (hn : l.length ≤ 140737488351232) (s : Int) : ∃ r, 0 ≤ r ∧ Ev (fun k => checksum_Hash.f k s l) r ∧ Ev (fun k => laminaref02_Hash.f k s l) r := by
  obtain ⟨m, hmix⟩ : ∃ m, checksum_Mix.f (Go.bits .xor .u64 s (l.length : Int)) = some m := ⟨_, rfl⟩
  have hmix2 : laminaref02_Mix.f (Go.bits .xor .u64 s (l.length : Int)) = some m := hmix
  obtain ⟨r, hr, h1, h2⟩ := hash_loops l hl (by omega) l.length 0 m (mix_nn hmix) (by omega) (by omega)
  refine ⟨r, hr, Ev.congr (fun k => ?_) h1, Ev.congr (fun k => ?_) h2⟩
  · unfold checksum_Hash.f
    rw [if_pos hn, hmix]
    rfl
  · unfold laminaref02_Hash.f
    rw [IntKind.wrap_u64, show (l.length : Int) % 18446744073709551616 = (l.length : Int) by omega, hmix2]
    rfl
theorem bytes_of_str (s : ByteArray) : Bytes (bytesOf s) := by
  intro c hc
  unfold bytesOf at hc
  obtain ⟨u, _, rfl⟩ := List.mem_map.1 hc
  have := u.toNat_lt
  omega
theorem vhash_loops (xs : List S39) (hn : xs.length < 9223372036854775000) (hv : ∀ x ∈ xs, VS x) : ∀ (d i : Nat) (h : Int), 0 ≤ h → i + d = xs.length → ∃ r, 0 ≤ r ∧ Ev (fun k => value_Hash.l0 k h xs (xs.length : Int) (i : Int)) r ∧ Ev (fun k => laminaref04_Hash.l0 k xs h (i : Int)) r := by
  intro d
  induction d with
  | zero =>
    intro i h h0 hd
    refine ⟨h, h0, Ev.fin fun k => ?_, Ev.fin fun k => ?_⟩
    · simp only [value_Hash.l0]
      rw [if_neg (by omega)]
    · simp only [laminaref04_Hash.l0]
      rw [if_neg (by omega)]
  | succ d ih =>
    intro i h h0 hd
    have hlt : i < xs.length := by omega
    have hx := hv _ (List.getElem_mem hlt)
    unfold VS V at hx
    have hA : ∀ k, value_Hash.l0 (k + 1) h xs (xs.length : Int) (i : Int) = (if xs[i].f0 = 0 then ((checksum_Mix.f (Go.bits .xor .u64 h 1)).bind fun t => value_Hash.l0 k t xs (xs.length : Int) ((i + 1 : Nat) : Int)) else if xs[i].f0 = 1 then ((checksum_Mix.f (Go.bits .xor .u64 h 2)).bind fun t => (checksum_Mix.f (Go.bits .xor .u64 t (IntKind.u64.wrap xs[i].f1))).bind fun t => value_Hash.l0 k t xs (xs.length : Int) ((i + 1 : Nat) : Int)) else if xs[i].f0 = 2 then ((checksum_Mix.f (Go.bits .xor .u64 h 3)).bind fun t => (checksum_Mix.f (Go.bits .xor .u64 t (IntKind.u64.wrap xs[i].f1))).bind fun t => value_Hash.l0 k t xs (xs.length : Int) ((i + 1 : Nat) : Int)) else if xs[i].f0 = 3 then ((checksum_Mix.f (Go.bits .xor .u64 h 4)).bind fun t => if xs[i].f2.size ≤ 9223372036854775807 then (checksum_Hash.f k t (bytesOf xs[i].f2)).bind fun t => value_Hash.l0 k t xs (xs.length : Int) ((i + 1 : Nat) : Int) else none) else value_Hash.l0 k h xs (xs.length : Int) ((i + 1 : Nat) : Int)) := by
      intro k
      simp only [value_Hash.l0]
      rw [if_pos (by omega), if_pos (by omega), if_pos (by omega), rd_at xs i hlt, wrap_small (by omega)]
    have hB : ∀ k, laminaref04_Hash.l0 (k + 1) xs h (i : Int) = (if xs[i].f0 = 0 then ((checksum_Mix.f (Go.bits .xor .u64 h 1)).bind fun t => laminaref04_Hash.l0 k xs t ((i + 1 : Nat) : Int)) else if xs[i].f0 = 1 then ((checksum_Mix.f (Go.bits .xor .u64 h 2)).bind fun t => (checksum_Mix.f (Go.bits .xor .u64 t (IntKind.u64.wrap xs[i].f1))).bind fun t => laminaref04_Hash.l0 k xs t ((i + 1 : Nat) : Int)) else if xs[i].f0 = 2 then ((checksum_Mix.f (Go.bits .xor .u64 h 3)).bind fun t => (checksum_Mix.f (Go.bits .xor .u64 t (IntKind.u64.wrap xs[i].f1))).bind fun t => laminaref04_Hash.l0 k xs t ((i + 1 : Nat) : Int)) else if xs[i].f0 = 3 then ((checksum_Mix.f (Go.bits .xor .u64 h 4)).bind fun t => if xs[i].f2.size ≤ 9223372036854775807 then (laminaref02_Hash.f k t (bytesOf xs[i].f2)).bind fun t => laminaref04_Hash.l0 k xs t ((i + 1 : Nat) : Int) else none) else laminaref04_Hash.l0 k xs h ((i + 1 : Nat) : Int)) := by
      intro k
      have hmm : ∀ z, laminaref02_Mix.f z = checksum_Mix.f z := fun _ => rfl
      simp only [laminaref04_Hash.l0, hmm]
      rw [if_pos (by omega), if_pos (by omega), rd_at xs i hlt, wrap_small (by omega)]
    generalize xs[i] = v at *
    have mx : ∀ z, ∃ m, checksum_Mix.f z = some m := fun _ => ⟨_, rfl⟩
    by_cases k0 : v.f0 = 0
    · obtain ⟨m, hm⟩ := mx (Go.bits .xor .u64 h 1)
      obtain ⟨r, hr, h1, h2⟩ := ih (i + 1) m (mix_nn hm) (by omega)
      exact ⟨r, hr, Ev.step (fun k => by rw [hA, if_pos k0, hm]; rfl) h1, Ev.step (fun k => by rw [hB, if_pos k0, hm]; rfl) h2⟩
    by_cases k1 : v.f0 = 1
    · obtain ⟨m, hm⟩ := mx (Go.bits .xor .u64 h 2)
      obtain ⟨m2, hm2⟩ := mx (Go.bits .xor .u64 m (IntKind.u64.wrap v.f1))
      obtain ⟨r, hr, h1, h2⟩ := ih (i + 1) m2 (mix_nn hm2) (by omega)
      exact ⟨r, hr, Ev.step (fun k => by rw [hA, if_neg k0, if_pos k1, hm, Option.bind_some, hm2]; rfl) h1, Ev.step (fun k => by rw [hB, if_neg k0, if_pos k1, hm, Option.bind_some, hm2]; rfl) h2⟩
    by_cases k2 : v.f0 = 2
    · obtain ⟨m, hm⟩ := mx (Go.bits .xor .u64 h 3)
      obtain ⟨m2, hm2⟩ := mx (Go.bits .xor .u64 m (IntKind.u64.wrap v.f1))
      obtain ⟨r, hr, h1, h2⟩ := ih (i + 1) m2 (mix_nn hm2) (by omega)
      exact ⟨r, hr, Ev.step (fun k => by rw [hA, if_neg k0, if_neg k1, if_pos k2, hm, Option.bind_some, hm2]; rfl) h1, Ev.step (fun k => by rw [hB, if_neg k0, if_neg k1, if_pos k2, hm, Option.bind_some, hm2]; rfl) h2⟩
    by_cases k3 : v.f0 = 3
    · obtain ⟨m, hm⟩ := mx (Go.bits .xor .u64 h 4)
      have hsz : v.f2.size ≤ 4096 := by omega
      obtain ⟨m2, hn2, hm2, hm3⟩ := hashes (bytesOf v.f2) (bytes_of_str _) (by rw [bytesOf_length]; omega) m
      obtain ⟨r, hr, h1, h2⟩ := ih (i + 1) m2 hn2 (by omega)
      refine ⟨r, hr, Ev.step (fun k => ?_) (hm2.bind (f := fun k t => value_Hash.l0 k t xs (xs.length : Int) ((i + 1 : Nat) : Int)) h1), Ev.step (fun k => ?_) (hm3.bind (f := fun k t => laminaref04_Hash.l0 k xs t ((i + 1 : Nat) : Int)) h2)⟩
      · rw [hA, if_neg k0, if_neg k1, if_neg k2, if_pos k3, hm, Option.bind_some, if_pos (by omega)]
      · rw [hB, if_neg k0, if_neg k1, if_neg k2, if_pos k3, hm, Option.bind_some, if_pos (by omega)]
    · obtain ⟨r, hr, h1, h2⟩ := ih (i + 1) h h0 (by omega)
      exact ⟨r, hr, Ev.step (fun k => by rw [hA, if_neg k0, if_neg k1, if_neg k2, if_neg k3]) h1, Ev.step (fun k => by rw [hB, if_neg k0, if_neg k1, if_neg k2, if_neg k3]) h2⟩
theorem hash_same (v : S39) (hv : vV v = true) (s : Int) : ∃ r, 0 ≤ r ∧ Ev (fun k => value_Hash.f k s [v]) r ∧ Ev (fun k => laminaref04_Hash.f k s [v]) r := by
  obtain ⟨m, hm⟩ : ∃ m, checksum_Mix.f s = some m := ⟨_, rfl⟩
  have hm2 : laminaref02_Mix.f s = some m := hm
  obtain ⟨r, hr, h1, h2⟩ := vhash_loops [v] (by simp) (fun x hx => by obtain rfl := List.mem_singleton.mp hx; exact V_of x hv) 1 0 m (mix_nn hm) rfl
  exact ⟨r, hr, Ev.congr (fun k => by unfold value_Hash.f; rw [hm]; rfl) h1, Ev.congr (fun k => by unfold laminaref04_Hash.f; rw [hm2]; rfl) h2⟩
end Go.Proofs.Ytackcingpffidaa.P
