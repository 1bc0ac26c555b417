/- What Go functions of the given program return, told as Lean functions, and the walks that show it, with plain facts on them: laminaref04_Decode, HR4, laminaref16_validHashes, laminaref16_Valid, HE1. Conditions: the hypotheses that stand at each theorem. -/
import Derived.Test.YtackcingpffidaaZd0
import Derived.Test.YtackcingpffidaaZd1
import Derived.Test.YtackcingpffidaaZd2
import Derived.Test.YtackcingpffidaaZd8
namespace Go.Proofs.Ytackcingpffidaa.P
open Go.RowKit Go.Proofs.YtackcingpffidaaW.PrintWords Go.Proofs.YtackcingpffidaaW.PrintLast Go.Proofs.YtackcingpffidaaW.PrintMore
attribute [local go_sem] max2_int min2_int max_two min_two max_three min_three max_four min_four Go.Proofs.YtackcingpffidaaQ.str_gtr Go.Proofs.YtackcingpffidaaQ.str_leq Go.Proofs.YtackcingpffidaaQ.str_geq   -- for this text's walks alone
set_option linter.unusedVariables false
set_option linter.unusedSimpArgs false
/-! ### laminaref04_Decode: function 111 -/
def laminaref04_Decode.j0 : Nat → List Int → Int → Bool → Option (Int × Int × ByteArray × Int × Int)
 | 0, _, _, _ => none
 | k + 1, x0, x1, x18 => if x18 = true then (some (0, 0, (⟨#[]⟩ : ByteArray), 0, 1)) else (if x1 = (x0.length : Int) then (some (0, 0, (⟨#[]⟩ : ByteArray), 0, 2)) else (if 0 ≤ x1 then (if x1 < (x0.length : Int) then (if (wrap64 (rd x0 x1)) > 3 then (some (0, 0, (⟨#[]⟩ : ByteArray), 0, 4)) else (if (wrap64 (rd x0 x1)) = 0 then (some (0, 0, (⟨#[]⟩ : ByteArray), wrap64 (x1 + 1), 0)) else (if (wrap64 (rd x0 x1)) = 1 then (if (wrap64 (x1 + 1)) = (x0.length : Int) then (some (0, 0, (⟨#[]⟩ : ByteArray), 0, 2)) else (if 0 ≤ (wrap64 (x1 + 1)) then (if (wrap64 (x1 + 1)) < (x0.length : Int) then (if (rd x0 (wrap64 (x1 + 1))) > 1 then (some (0, 0, (⟨#[]⟩ : ByteArray), 0, 4)) else ((laminaref04_Boolean.f ((rd x0 (wrap64 (x1 + 1))) == 1)).bind fun bt337 => (some (bt337.1, bt337.2.1, bt337.2.2, wrap64 (x1 + 2), 0)))) else (none)) else (none))) else ((laminaref01_Decode.f k x0 (wrap64 (x1 + 1))).bind fun bt340 => (if bt340.2.2 = 0 then (if (wrap64 (rd x0 x1)) = 2 then ((laminaref01_UnZigZag.f bt340.1).bind fun t343 => ((laminaref04_Integer.f t343).bind fun bt344 => (some (bt344.1, bt344.2.1, bt344.2.2, bt340.2.1, 0)))) else (if bt340.1 > 4096 then (some (0, 0, (⟨#[]⟩ : ByteArray), 0, 3)) else (if (wrap64 ((x0.length : Int) - bt340.2.1)) < (wrap64 (bt340.1)) then (some (0, 0, (⟨#[]⟩ : ByteArray), 0, 2)) else (if 0 ≤ bt340.2.1 then (if bt340.2.1 ≤ (wrap64 (bt340.2.1 + (wrap64 (bt340.1)))) then (if (wrap64 (bt340.2.1 + (wrap64 (bt340.1)))) ≤ (x0.length : Int) then (some (3, 0, strOfNums ((x0.take ((wrap64 (bt340.2.1 + (wrap64 (bt340.1)))) : Int).toNat).drop (bt340.2.1 : Int).toNat), wrap64 (bt340.2.1 + (wrap64 (bt340.1))), 0)) else (none)) else (none)) else (none))))) else (some (0, 0, (⟨#[]⟩ : ByteArray), 0, bt340.2.2))))))) else (none)) else (none)))
def laminaref04_Decode.f (k : Nat) (l0 : List Int) (a1 : Int) : Option (Int × Int × ByteArray × Int × Int) := if a1 < 0 then (laminaref04_Decode.j0 k l0 a1 true) else (laminaref04_Decode.j0 k l0 a1 (decide (a1 > (l0.length : Int))))
theorem laminaref04_Decode.mono_l : ∀ k, (∀ y0 y1 y2, LeO (laminaref04_Decode.j0 k y0 y1 y2) (laminaref04_Decode.j0 (k + 1) y0 y1 y2))
 | 0 => fun _ _ _ r h => by simp [laminaref04_Decode.j0] at h
 | k + 1 => by
  have ih0 := laminaref04_Decode.mono_l k
  ·intro y0 y1 y2
   unfold laminaref04_Decode.j0
   repeat' first
   | (with_reducible exact ih0 _ _ _)
   | (with_reducible exact laminaref01_Decode.mono _ _ _)
   | (with_reducible exact LeO.refl _)
   | (with_reducible exact LeO.none _)
   | (with_reducible refine LeO.ite ?_ ?_)
   | (with_reducible refine LeO.bind ?_ (fun _ => ?_))
   | exact ih0 _ _ _
   | exact laminaref01_Decode.mono _ _ _
   | exact LeO.none _
   | refine LeO.ite ?_ ?_
   | refine LeO.bind ?_ (fun _ => ?_)
theorem laminaref04_Decode.mono : ∀ a0 a1 k, LeO (laminaref04_Decode.f k a0 a1) (laminaref04_Decode.f (k + 1) a0 a1) := by
 intro a0 a1 k
 have ih0 := laminaref04_Decode.mono_l k
 unfold laminaref04_Decode.f
 repeat' first
   | (with_reducible exact ih0 _ _ _)
   | (with_reducible exact laminaref01_Decode.mono _ _ _)
   | (with_reducible exact LeO.refl _)
   | (with_reducible exact LeO.none _)
   | (with_reducible refine LeO.ite ?_ ?_)
   | (with_reducible refine LeO.bind ?_ (fun _ => ?_))
   | exact ih0 _ _ _
   | exact laminaref01_Decode.mono _ _ _
   | exact LeO.none _
   | refine LeO.ite ?_ ?_
   | refine LeO.bind ?_ (fun _ => ?_)
set_option maxHeartbeats 8000000 in
set_option maxRecDepth 100000 in
theorem laminaref04_Decode.calls (k : Nat) (A0 : Option Addr) (c0 : Nat) (l0 : List Int) (a1 : Int) (r1 : Int) (r2 : Int) (r3 : ByteArray) (r4 : Int) (r5 : Int) (w : World) (hr0 : Kd.C (Kd.int .u8) w A0 l0.length l0) (hc0 : l0.length ≤ c0) (h : laminaref04_Decode.f k l0 a1 = some (r1, r2, r3, r4, r5)) :
  Calls Try.prog 111 #[.slice A0 l0.length c0, .int .i64 a1] w fun e w' => e = .returned (.tuple #[.agg #[.int .i64 r1, .int .i64 r2, .string r3], .int .i64 r4, .int .i64 r5]) ∧ Below w.heap.size w w' := by
 have hu39 := Try.underlying39
 have HR0 := Aside0.mk hr0
 have HC0 := Aside0.mk hc0
 clear hr0 hc0
 have HB := Aside0.mk (Below.refl w.heap.size w)
 have H : (if a1 < 0 then (laminaref04_Decode.j0 k l0 a1 true) else (laminaref04_Decode.j0 k l0 a1 (decide (a1 > (l0.length : Int))))) = some (r1, r2, r3, r4, r5) := h
 clear h
 have HC3 := Aside0.mk H
 clear H
 go_enter Try.func111, Try.ntmps111
 go_upto_region 1 with (first | ((with_reducible refine gate_dst (N := 4) rfl ?_); (try (refine gate_guard (by rfl) ?_; dsimp only)); refine box_ 4 (cs := #[.int .i64 0, .int .i64 0, .string (⟨#[]⟩ : ByteArray)]) (t := 39) ?_; intro gb333 hg w4 hbox hb; have BK333 := Aside0.mk (hbox); have GW333 := Aside0.mk ((by rw [hg]; exact (below_size (hb_ HB.out)) : w.heap.size ≤ gb333)); have GE333 := Aside0.mk ((by rw [hg]; exact (below_size (hb_ HB.out)) : w.heap.size ≤ gb333)); replace HB := Aside0.mk (below_step (hb_ HB.out) hb); clear hb hbox hg))
 (try simp only [Act.put, List.setIfInBounds_toArray, List.set_cons_zero, List.set_cons_succ])
 go_cut [18] (fun v18 wc => ∃ (kq : Nat) (x18_2 : Bool), v18 = .bool x18_2 ∧ Aside0 (laminaref04_Decode.j0 kq l0 a1 x18_2 = some (r1, r2, r3, r4, r5)) ∧ Aside0 (kq ≤ k) ∧ Aside0 (wc.heap[gb333]? = some (.cells #[.int .i64 0, .int .i64 0, .string (⟨#[]⟩ : ByteArray)] 39 (0, 0))) ∧ Aside0 (Below w.heap.size w wc))
 case first =>
  have H := HC3.out
  clear HC3
  by_cases c5 : a1 < 0
  ·rw [if_pos c5] at H
   have c5b0 : decide (a1 < 0) = true := decide_eq_true c5
   clear c5
   (first | rw [c5b0] | (simp only [i64_w, i32_w]; rw [c5b0]) | skip)
   have H' := Aside0.mk H
   clear H
   go_wp2
   go_meet
   case rel => exact ⟨_, (true), (by first | rfl | (simp; done) | (simp [*]; done)), H', ⟨by first | omega | exact Nat.le_refl _⟩, ⟨by (with_reducible repeat (first | refine blk_drewN ?_ _ | refine blk_drew ?_ | refine blk_alloc ?_ _)); exact BK333.out⟩, ⟨(hb1_ HB.out GE333.out)⟩⟩
  ·rw [if_neg c5] at H
   have c5b0 : decide (a1 < 0) = false := decide_eq_false c5
   clear c5
   (first | rw [c5b0] | (simp only [i64_w, i32_w]; rw [c5b0]) | skip)
   have H' := Aside0.mk H
   clear H
   go_wp2
   go_meet
   case rel => exact ⟨_, (decide (a1 > (l0.length : Int))), (by first | rfl | (simp; done) | (simp [*]; done)), H', ⟨by first | omega | exact Nat.le_refl _⟩, ⟨by (with_reducible repeat (first | refine blk_drewN ?_ _ | refine blk_drew ?_ | refine blk_alloc ?_ _)); exact BK333.out⟩, ⟨(hb1_ HB.out GE333.out)⟩⟩
 case rest =>
  clear HC3
  try clear c1
  try clear p2
  try clear c5
  try clear c5b0
  obtain ⟨kq, x18_2, rfl, HA, HJ2, BK333, HB⟩ := hcut
  cases kq with
  | zero => exact absurd HA.out (by simp [laminaref04_Decode.j0])
  | succ kj2 =>
   have H := HA.out
   clear HA
   simp only [laminaref04_Decode.j0] at H
   by_cases c6 : x18_2 = true
   ·subst c6
    have H1 : (some (0, 0, (⟨#[]⟩ : ByteArray), 0, 1)) = some (r1, r2, r3, r4, r5) := by rw [if_pos rfl] at H; exact H
    clear H
    have H := H1
    clear H1
    simp only [Option.some.injEq, Prod.mk.injEq] at H
    obtain ⟨rfl, rfl, rfl, rfl, rfl⟩ := H
    obtain ⟨hcz7_0, hcz7_1, hcz7_2, hfz7_0, hfz7_1, hfz7_2⟩ := bf3 BK333.out
    go_wp2
    refine bodyPost_ret (results_ctt rfl _ _ gb333 39 #[.int .i64 0, .int .i64 0, .string (⟨#[]⟩ : ByteArray)] (0, 0) _ rfl (by (with_reducible repeat (first | refine blk_drewN ?_ _ | refine blk_drew ?_ | refine blk_alloc ?_ _)); refine blk_put (cs := #[.int .i64 0, .int .i64 0, .string (⟨#[]⟩ : ByteArray)]) ?_ 2 _ rfl; (with_reducible repeat (first | refine blk_drewN ?_ _ | refine blk_drew ?_ | refine blk_alloc ?_ _)); refine blk_put (cs := #[.int .i64 0, .int .i64 0, .string (⟨#[]⟩ : ByteArray)]) ?_ 1 _ rfl; (with_reducible repeat (first | refine blk_drewN ?_ _ | refine blk_drew ?_ | refine blk_alloc ?_ _)); refine blk_put (cs := #[.int .i64 0, .int .i64 0, .string (⟨#[]⟩ : ByteArray)]) ?_ 0 _ rfl; (with_reducible repeat (first | refine blk_drewN ?_ _ | refine blk_drew ?_ | refine blk_alloc ?_ _)); exact BK333.out) Try.underlying39 rfl (by kernel_rfl)) rfl ?_
    exact er_ ((hb1_ HB.out GE333.out))
   ·replace c6 := Bool.eq_false_iff.mpr c6
    subst c6
    have H1 : (if a1 = (l0.length : Int) then (some (0, 0, (⟨#[]⟩ : ByteArray), 0, 2)) else (if 0 ≤ a1 then (if a1 < (l0.length : Int) then (if (wrap64 (rd l0 a1)) > 3 then (some (0, 0, (⟨#[]⟩ : ByteArray), 0, 4)) else (if (wrap64 (rd l0 a1)) = 0 then (some (0, 0, (⟨#[]⟩ : ByteArray), wrap64 (a1 + 1), 0)) else (if (wrap64 (rd l0 a1)) = 1 then (if (wrap64 (a1 + 1)) = (l0.length : Int) then (some (0, 0, (⟨#[]⟩ : ByteArray), 0, 2)) else (if 0 ≤ (wrap64 (a1 + 1)) then (if (wrap64 (a1 + 1)) < (l0.length : Int) then (if (rd l0 (wrap64 (a1 + 1))) > 1 then (some (0, 0, (⟨#[]⟩ : ByteArray), 0, 4)) else ((laminaref04_Boolean.f ((rd l0 (wrap64 (a1 + 1))) == 1)).bind fun bt337 => (some (bt337.1, bt337.2.1, bt337.2.2, wrap64 (a1 + 2), 0)))) else (none)) else (none))) else ((laminaref01_Decode.f kj2 l0 (wrap64 (a1 + 1))).bind fun bt340 => (if bt340.2.2 = 0 then (if (wrap64 (rd l0 a1)) = 2 then ((laminaref01_UnZigZag.f bt340.1).bind fun t343 => ((laminaref04_Integer.f t343).bind fun bt344 => (some (bt344.1, bt344.2.1, bt344.2.2, bt340.2.1, 0)))) else (if bt340.1 > 4096 then (some (0, 0, (⟨#[]⟩ : ByteArray), 0, 3)) else (if (wrap64 ((l0.length : Int) - bt340.2.1)) < (wrap64 (bt340.1)) then (some (0, 0, (⟨#[]⟩ : ByteArray), 0, 2)) else (if 0 ≤ bt340.2.1 then (if bt340.2.1 ≤ (wrap64 (bt340.2.1 + (wrap64 (bt340.1)))) then (if (wrap64 (bt340.2.1 + (wrap64 (bt340.1)))) ≤ (l0.length : Int) then (some (3, 0, strOfNums ((l0.take ((wrap64 (bt340.2.1 + (wrap64 (bt340.1)))) : Int).toNat).drop (bt340.2.1 : Int).toNat), wrap64 (bt340.2.1 + (wrap64 (bt340.1))), 0)) else (none)) else (none)) else (none))))) else (some (0, 0, (⟨#[]⟩ : ByteArray), 0, bt340.2.2))))))) else (none)) else (none))) = some (r1, r2, r3, r4, r5) := by rw [if_neg (show ¬ (false = true) by decide)] at H; exact H
    clear H
    have H := H1
    clear H1
    by_cases c8 : a1 = (l0.length : Int)
    ·rw [if_pos c8] at H
     have c8b0 : (a1 == (l0.length : Int)) = true := beq_iff_eq.mpr c8
     have c8b1 : (a1 != (l0.length : Int)) = false := bne_eq_false_iff_eq.mpr c8
     clear c8
     simp only [Option.some.injEq, Prod.mk.injEq] at H
     obtain ⟨rfl, rfl, rfl, rfl, rfl⟩ := H
     obtain ⟨hcz9_0, hcz9_1, hcz9_2, hfz9_0, hfz9_1, hfz9_2⟩ := bf3 BK333.out
     go_wp2
     refine bodyPost_ret (results_ctt rfl _ _ gb333 39 #[.int .i64 0, .int .i64 0, .string (⟨#[]⟩ : ByteArray)] (0, 0) _ rfl (by (with_reducible repeat (first | refine blk_drewN ?_ _ | refine blk_drew ?_ | refine blk_alloc ?_ _)); refine blk_put (cs := #[.int .i64 0, .int .i64 0, .string (⟨#[]⟩ : ByteArray)]) ?_ 2 _ rfl; (with_reducible repeat (first | refine blk_drewN ?_ _ | refine blk_drew ?_ | refine blk_alloc ?_ _)); refine blk_put (cs := #[.int .i64 0, .int .i64 0, .string (⟨#[]⟩ : ByteArray)]) ?_ 1 _ rfl; (with_reducible repeat (first | refine blk_drewN ?_ _ | refine blk_drew ?_ | refine blk_alloc ?_ _)); refine blk_put (cs := #[.int .i64 0, .int .i64 0, .string (⟨#[]⟩ : ByteArray)]) ?_ 0 _ rfl; (with_reducible repeat (first | refine blk_drewN ?_ _ | refine blk_drew ?_ | refine blk_alloc ?_ _)); exact BK333.out) Try.underlying39 rfl (by kernel_rfl)) rfl ?_
     exact er_ ((hb1_ HB.out GE333.out))
    ·rw [if_neg c8] at H
     have c8b0 : (a1 == (l0.length : Int)) = false := beq_eq_false_iff_ne.mpr c8
     have c8b1 : (a1 != (l0.length : Int)) = true := bne_iff_ne.mpr c8
     by_cases c10 : 0 ≤ a1
     ·rw [if_pos c10] at H
      have c10b0 : decide (0 ≤ a1) = true := decide_eq_true c10
      clear c10
      by_cases c11 : a1 < (l0.length : Int)
      ·rw [if_pos c11] at H
       have c11b0 : decide (a1 < (l0.length : Int)) = true := decide_eq_true c11
       clear c11
       by_cases c12 : (wrap64 (rd l0 a1)) > 3
       ·rw [if_pos c12] at H
        have c12b0 : decide (3 < (wrap64 (rd l0 a1))) = true := decide_eq_true c12
        clear c12
        simp only [Option.some.injEq, Prod.mk.injEq] at H
        obtain ⟨rfl, rfl, rfl, rfl, rfl⟩ := H
        have p334 : 0 ≤ (a1 : Int) := of_decide_eq_true (by first | (with_reducible assumption) | assumption)
        have q334 : a1 < (l0.length : Int) := of_decide_eq_true (by first | (with_reducible assumption) | assumption)
        obtain ⟨ad334, e334, hx334_0⟩ := Kd.at_int HR0.out a1 p334 q334
        cases e334
        replace hx334_0 := up_ HB.out hx334_0
        replace p334 := eq_true p334
        replace q334 := eq_true q334
        obtain ⟨hcz13_0, hcz13_1, hcz13_2, hfz13_0, hfz13_1, hfz13_2⟩ := bf3 BK333.out
        go_wp2
        refine bodyPost_ret (results_ctt rfl _ _ gb333 39 #[.int .i64 0, .int .i64 0, .string (⟨#[]⟩ : ByteArray)] (0, 0) _ rfl (by (with_reducible repeat (first | refine blk_drewN ?_ _ | refine blk_drew ?_ | refine blk_alloc ?_ _)); refine blk_put (cs := #[.int .i64 0, .int .i64 0, .string (⟨#[]⟩ : ByteArray)]) ?_ 2 _ rfl; (with_reducible repeat (first | refine blk_drewN ?_ _ | refine blk_drew ?_ | refine blk_alloc ?_ _)); refine blk_put (cs := #[.int .i64 0, .int .i64 0, .string (⟨#[]⟩ : ByteArray)]) ?_ 1 _ rfl; (with_reducible repeat (first | refine blk_drewN ?_ _ | refine blk_drew ?_ | refine blk_alloc ?_ _)); refine blk_put (cs := #[.int .i64 0, .int .i64 0, .string (⟨#[]⟩ : ByteArray)]) ?_ 0 _ rfl; (with_reducible repeat (first | refine blk_drewN ?_ _ | refine blk_drew ?_ | refine blk_alloc ?_ _)); exact BK333.out) Try.underlying39 rfl (by kernel_rfl)) rfl ?_
        exact er_ ((hb1_ HB.out GE333.out))
       ·rw [if_neg c12] at H
        have c12b0 : decide (3 < (wrap64 (rd l0 a1))) = false := decide_eq_false c12
        clear c12
        by_cases c14 : (wrap64 (rd l0 a1)) = 0
        ·rw [if_pos c14] at H
         have c14b0 : ((wrap64 (rd l0 a1)) == 0) = true := beq_iff_eq.mpr c14
         have c14b1 : ((wrap64 (rd l0 a1)) != 0) = false := bne_eq_false_iff_eq.mpr c14
         clear c14
         simp only [Option.some.injEq, Prod.mk.injEq] at H
         obtain ⟨rfl, rfl, rfl, rfl, rfl⟩ := H
         have p334 : 0 ≤ (a1 : Int) := of_decide_eq_true (by first | (with_reducible assumption) | assumption)
         have q334 : a1 < (l0.length : Int) := of_decide_eq_true (by first | (with_reducible assumption) | assumption)
         obtain ⟨ad334, e334, hx334_0⟩ := Kd.at_int HR0.out a1 p334 q334
         cases e334
         replace hx334_0 := up_ HB.out hx334_0
         replace p334 := eq_true p334
         replace q334 := eq_true q334
         obtain ⟨hcz15_0, hcz15_1, hcz15_2, hfz15_0, hfz15_1, hfz15_2⟩ := bf3 BK333.out
         go_wp2
         refine bodyPost_ret (results_ctt rfl _ _ gb333 39 #[.int .i64 0, .int .i64 0, .string (⟨#[]⟩ : ByteArray)] (0, 0) _ rfl (by (with_reducible repeat (first | refine blk_drewN ?_ _ | refine blk_drew ?_ | refine blk_alloc ?_ _)); refine blk_put (cs := #[.int .i64 0, .int .i64 0, .string (⟨#[]⟩ : ByteArray)]) ?_ 2 _ rfl; (with_reducible repeat (first | refine blk_drewN ?_ _ | refine blk_drew ?_ | refine blk_alloc ?_ _)); refine blk_put (cs := #[.int .i64 0, .int .i64 0, .string (⟨#[]⟩ : ByteArray)]) ?_ 1 _ rfl; (with_reducible repeat (first | refine blk_drewN ?_ _ | refine blk_drew ?_ | refine blk_alloc ?_ _)); refine blk_put (cs := #[.int .i64 0, .int .i64 0, .string (⟨#[]⟩ : ByteArray)]) ?_ 0 _ rfl; (with_reducible repeat (first | refine blk_drewN ?_ _ | refine blk_drew ?_ | refine blk_alloc ?_ _)); exact BK333.out) Try.underlying39 rfl (by kernel_rfl)) rfl ?_
         exact er_ ((hb1_ HB.out GE333.out))
        ·rw [if_neg c14] at H
         have c14b0 : ((wrap64 (rd l0 a1)) == 0) = false := beq_eq_false_iff_ne.mpr c14
         have c14b1 : ((wrap64 (rd l0 a1)) != 0) = true := bne_iff_ne.mpr c14
         by_cases c16 : (wrap64 (rd l0 a1)) = 1
         ·rw [if_pos c16] at H
          have c16b0 : ((wrap64 (rd l0 a1)) == 1) = true := beq_iff_eq.mpr c16
          have c16b1 : ((wrap64 (rd l0 a1)) != 1) = false := bne_eq_false_iff_eq.mpr c16
          clear c16
          by_cases c17 : (wrap64 (a1 + 1)) = (l0.length : Int)
          ·rw [if_pos c17] at H
           have c17b0 : ((wrap64 (a1 + 1)) == (l0.length : Int)) = true := beq_iff_eq.mpr c17
           have c17b1 : ((wrap64 (a1 + 1)) != (l0.length : Int)) = false := bne_eq_false_iff_eq.mpr c17
           clear c17
           simp only [Option.some.injEq, Prod.mk.injEq] at H
           obtain ⟨rfl, rfl, rfl, rfl, rfl⟩ := H
           have p334 : 0 ≤ (a1 : Int) := of_decide_eq_true (by first | (with_reducible assumption) | assumption)
           have q334 : a1 < (l0.length : Int) := of_decide_eq_true (by first | (with_reducible assumption) | assumption)
           obtain ⟨ad334, e334, hx334_0⟩ := Kd.at_int HR0.out a1 p334 q334
           cases e334
           replace hx334_0 := up_ HB.out hx334_0
           replace p334 := eq_true p334
           replace q334 := eq_true q334
           obtain ⟨hcz18_0, hcz18_1, hcz18_2, hfz18_0, hfz18_1, hfz18_2⟩ := bf3 BK333.out
           go_wp2
           refine bodyPost_ret (results_ctt rfl _ _ gb333 39 #[.int .i64 0, .int .i64 0, .string (⟨#[]⟩ : ByteArray)] (0, 0) _ rfl (by (with_reducible repeat (first | refine blk_drewN ?_ _ | refine blk_drew ?_ | refine blk_alloc ?_ _)); refine blk_put (cs := #[.int .i64 0, .int .i64 0, .string (⟨#[]⟩ : ByteArray)]) ?_ 2 _ rfl; (with_reducible repeat (first | refine blk_drewN ?_ _ | refine blk_drew ?_ | refine blk_alloc ?_ _)); refine blk_put (cs := #[.int .i64 0, .int .i64 0, .string (⟨#[]⟩ : ByteArray)]) ?_ 1 _ rfl; (with_reducible repeat (first | refine blk_drewN ?_ _ | refine blk_drew ?_ | refine blk_alloc ?_ _)); refine blk_put (cs := #[.int .i64 0, .int .i64 0, .string (⟨#[]⟩ : ByteArray)]) ?_ 0 _ rfl; (with_reducible repeat (first | refine blk_drewN ?_ _ | refine blk_drew ?_ | refine blk_alloc ?_ _)); exact BK333.out) Try.underlying39 rfl (by kernel_rfl)) rfl ?_
           exact er_ ((hb1_ HB.out GE333.out))
          ·rw [if_neg c17] at H
           have c17b0 : ((wrap64 (a1 + 1)) == (l0.length : Int)) = false := beq_eq_false_iff_ne.mpr c17
           have c17b1 : ((wrap64 (a1 + 1)) != (l0.length : Int)) = true := bne_iff_ne.mpr c17
           obtain ⟨ji19, hji19⟩ : ∃ j_ : Int, (wrap64 (a1 + 1)) = j_ := ⟨_, rfl⟩
           replace H : (if 0 ≤ (ji19) then (if (ji19) < (l0.length : Int) then (if (rd l0 (ji19)) > 1 then (some (0, 0, (⟨#[]⟩ : ByteArray), 0, 4)) else ((laminaref04_Boolean.f ((rd l0 (ji19)) == 1)).bind fun bt337 => (some (bt337.1, bt337.2.1, bt337.2.2, wrap64 (a1 + 2), 0)))) else (none)) else (none)) = some (r1, r2, r3, r4, r5) := by first | (rw [hji19] at H; exact H) | (simp only [hji19] at H ⊢; exact H)
           (try rw [hji19] at c17b0)
           (try rw [hji19] at c17b1)
           have hji19w : (IntKind.i64.wrap (a1 + 1)) = ji19 := (i64_w _).trans hji19
           by_cases c20 : 0 ≤ (ji19)
           ·rw [if_pos c20] at H
            have c20b0 : decide (0 ≤ (ji19)) = true := decide_eq_true c20
            clear c20
            by_cases c21 : (ji19) < (l0.length : Int)
            ·rw [if_pos c21] at H
             have c21b0 : decide ((ji19) < (l0.length : Int)) = true := decide_eq_true c21
             clear c21
             by_cases c22 : (rd l0 (ji19)) > 1
             ·rw [if_pos c22] at H
              have c22b0 : decide (1 < (rd l0 (ji19))) = true := decide_eq_true c22
              clear c22
              simp only [Option.some.injEq, Prod.mk.injEq] at H
              obtain ⟨rfl, rfl, rfl, rfl, rfl⟩ := H
              have p334 : 0 ≤ (a1 : Int) := of_decide_eq_true (by first | (with_reducible assumption) | assumption)
              have q334 : a1 < (l0.length : Int) := of_decide_eq_true (by first | (with_reducible assumption) | assumption)
              obtain ⟨ad334, e334, hx334_0⟩ := Kd.at_int HR0.out a1 p334 q334
              cases e334
              replace hx334_0 := up_ HB.out hx334_0
              replace p334 := eq_true p334
              replace q334 := eq_true q334
              have p335 : 0 ≤ ((ji19) : Int) := of_decide_eq_true (by first | (with_reducible assumption) | assumption)
              have q335 : (ji19) < (l0.length : Int) := of_decide_eq_true (by first | (with_reducible assumption) | assumption)
              obtain ⟨ad335, e335, hx335_0⟩ := Kd.at_int HR0.out (ji19) p335 q335
              obtain rfl : ad334 = ad335 := (by injection e335)
              replace hx335_0 := up_ HB.out hx335_0
              replace p335 := eq_true p335
              replace q335 := eq_true q335
              obtain ⟨hcz23_0, hcz23_1, hcz23_2, hfz23_0, hfz23_1, hfz23_2⟩ := bf3 BK333.out
              go_wp2
              refine bodyPost_ret (results_ctt rfl _ _ gb333 39 #[.int .i64 0, .int .i64 0, .string (⟨#[]⟩ : ByteArray)] (0, 0) _ rfl (by (with_reducible repeat (first | refine blk_drewN ?_ _ | refine blk_drew ?_ | refine blk_alloc ?_ _)); refine blk_put (cs := #[.int .i64 0, .int .i64 0, .string (⟨#[]⟩ : ByteArray)]) ?_ 2 _ rfl; (with_reducible repeat (first | refine blk_drewN ?_ _ | refine blk_drew ?_ | refine blk_alloc ?_ _)); refine blk_put (cs := #[.int .i64 0, .int .i64 0, .string (⟨#[]⟩ : ByteArray)]) ?_ 1 _ rfl; (with_reducible repeat (first | refine blk_drewN ?_ _ | refine blk_drew ?_ | refine blk_alloc ?_ _)); refine blk_put (cs := #[.int .i64 0, .int .i64 0, .string (⟨#[]⟩ : ByteArray)]) ?_ 0 _ rfl; (with_reducible repeat (first | refine blk_drewN ?_ _ | refine blk_drew ?_ | refine blk_alloc ?_ _)); exact BK333.out) Try.underlying39 rfl (by kernel_rfl)) rfl ?_
              exact ⟨by first | rfl | (simp [errW_none, errW_some] <;> rfl) | (simp only [← hji19]; first | rfl | (simp [errW_none, errW_some] <;> rfl)) | (simp [*, errW_none, errW_some] <;> rfl), (hb1_ HB.out GE333.out)⟩
             ·rw [if_neg c22] at H
              have c22b0 : decide (1 < (rd l0 (ji19))) = false := decide_eq_false c22
              clear c22
              replace H := Option.bind_eq_some_iff.mp H
              obtain ⟨⟨t337, t338, t339⟩, A240, H⟩ := H
              replace H : (some (t337, t338, t339, wrap64 (a1 + 2), 0)) = some (r1, r2, r3, r4, r5) := H
              have A24 := Aside0.mk A240
              clear A240
              simp only [Option.some.injEq, Prod.mk.injEq] at H
              obtain ⟨rfl, rfl, rfl, rfl, rfl⟩ := H
              have p334 : 0 ≤ (a1 : Int) := of_decide_eq_true (by first | (with_reducible assumption) | assumption)
              have q334 : a1 < (l0.length : Int) := of_decide_eq_true (by first | (with_reducible assumption) | assumption)
              obtain ⟨ad334, e334, hx334_0⟩ := Kd.at_int HR0.out a1 p334 q334
              cases e334
              replace hx334_0 := up_ HB.out hx334_0
              replace p334 := eq_true p334
              replace q334 := eq_true q334
              have p335 : 0 ≤ ((ji19) : Int) := of_decide_eq_true (by first | (with_reducible assumption) | assumption)
              have q335 : (ji19) < (l0.length : Int) := of_decide_eq_true (by first | (with_reducible assumption) | assumption)
              obtain ⟨ad335, e335, hx335_0⟩ := Kd.at_int HR0.out (ji19) p335 q335
              obtain rfl : ad334 = ad335 := (by injection e335)
              replace hx335_0 := up_ HB.out hx335_0
              replace p335 := eq_true p335
              replace q335 := eq_true q335
              have p336 : 0 ≤ ((ji19) : Int) := of_decide_eq_true (by first | (with_reducible assumption) | assumption)
              have q336 : (ji19) < (l0.length : Int) := of_decide_eq_true (by first | (with_reducible assumption) | assumption)
              obtain ⟨ad336, e336, hx336_0⟩ := Kd.at_int HR0.out (ji19) p336 q336
              obtain rfl : ad334 = ad336 := (by injection e336)
              replace hx336_0 := up_ HB.out hx336_0
              replace p336 := eq_true p336
              replace q336 := eq_true q336
              go_wp2_with (first | ((with_reducible refine gate_callee (f := 83) rfl ?_); refine goesL_ (some 59) rfl rfl Try.func83 (by kernel_rfl) rfl #[.bool ((rd l0 (ji19)) == 1)] rfl (by (try simp only [List.map_toArray, List.map_cons, List.map_nil]); first | done | (simp only [hji19]; rfl) | rfl | (simp only [List.length_drop, List.length_take]; rfl)) ?_; (with_reducible refine (laminaref04_Boolean.calls ((rd l0 (ji19)) == 1) t337 t338 t339 _ A24.out).mono ?_); rintro e w25 ⟨rfl, hb⟩; refine ⟨_, rfl, ?_⟩; replace BK333 := Aside0.mk (blk_below (g := gb333) (o := .cells #[.int .i64 0, .int .i64 0, .string (⟨#[]⟩ : ByteArray)] 39 (0, 0)) (bk_ BK333.out) hb); replace HB := Aside0.mk (below_step (hb1_ HB.out GE333.out) hb); (try clear hb); obtain ⟨hcz26_0, hcz26_1, hcz26_2, hfz26_0, hfz26_1, hfz26_2⟩ := bf3 BK333.out))
              refine bodyPost_ret (results_ctt rfl _ _ gb333 39 #[.int .i64 t337, .int .i64 t338, .string t339] (0, 0) _ rfl (by (with_reducible repeat (first | refine blk_drewN ?_ _ | refine blk_drew ?_ | refine blk_alloc ?_ _)); refine blk_put (cs := #[.int .i64 t337, .int .i64 t338, .string (⟨#[]⟩ : ByteArray)]) ?_ 2 _ rfl; (with_reducible repeat (first | refine blk_drewN ?_ _ | refine blk_drew ?_ | refine blk_alloc ?_ _)); refine blk_put (cs := #[.int .i64 t337, .int .i64 0, .string (⟨#[]⟩ : ByteArray)]) ?_ 1 _ rfl; (with_reducible repeat (first | refine blk_drewN ?_ _ | refine blk_drew ?_ | refine blk_alloc ?_ _)); refine blk_put (cs := #[.int .i64 0, .int .i64 0, .string (⟨#[]⟩ : ByteArray)]) ?_ 0 _ rfl; (with_reducible repeat (first | refine blk_drewN ?_ _ | refine blk_drew ?_ | refine blk_alloc ?_ _)); exact BK333.out) Try.underlying39 rfl (by kernel_rfl)) rfl ?_
              exact ⟨by first | rfl | (simp [errW_none, errW_some] <;> rfl) | (simp only [← hji19]; first | rfl | (simp [errW_none, errW_some] <;> rfl)) | (simp [*, errW_none, errW_some] <;> rfl), (hb1_ HB.out GE333.out)⟩
            ·rw [if_neg c21] at H
             exact absurd H (by simp)
           ·rw [if_neg c20] at H
            exact absurd H (by simp)
         ·rw [if_neg c16] at H
          have c16b0 : ((wrap64 (rd l0 a1)) == 1) = false := beq_eq_false_iff_ne.mpr c16
          have c16b1 : ((wrap64 (rd l0 a1)) != 1) = true := bne_iff_ne.mpr c16
          replace H := Option.bind_eq_some_iff.mp H
          obtain ⟨⟨t340, t341, t342⟩, A270, H⟩ := H
          replace H : (if t342 = 0 then (if (wrap64 (rd l0 a1)) = 2 then ((laminaref01_UnZigZag.f t340).bind fun t343 => ((laminaref04_Integer.f t343).bind fun bt344 => (some (bt344.1, bt344.2.1, bt344.2.2, t341, 0)))) else (if t340 > 4096 then (some (0, 0, (⟨#[]⟩ : ByteArray), 0, 3)) else (if (wrap64 ((l0.length : Int) - t341)) < (wrap64 (t340)) then (some (0, 0, (⟨#[]⟩ : ByteArray), 0, 2)) else (if 0 ≤ t341 then (if t341 ≤ (wrap64 (t341 + (wrap64 (t340)))) then (if (wrap64 (t341 + (wrap64 (t340)))) ≤ (l0.length : Int) then (some (3, 0, strOfNums ((l0.take ((wrap64 (t341 + (wrap64 (t340)))) : Int).toNat).drop (t341 : Int).toNat), wrap64 (t341 + (wrap64 (t340))), 0)) else (none)) else (none)) else (none))))) else (some (0, 0, (⟨#[]⟩ : ByteArray), 0, t342))) = some (r1, r2, r3, r4, r5) := H
          have A27 := Aside0.mk A270
          clear A270
          by_cases c28 : t342 = 0
          ·rw [if_pos c28] at H
           have c28b0 : (t342 == 0) = true := beq_iff_eq.mpr c28
           have c28b1 : (t342 != 0) = false := bne_eq_false_iff_eq.mpr c28
           clear c28
           by_cases c29 : (wrap64 (rd l0 a1)) = 2
           ·rw [if_pos c29] at H
            have c29b0 : ((wrap64 (rd l0 a1)) == 2) = true := beq_iff_eq.mpr c29
            have c29b1 : ((wrap64 (rd l0 a1)) != 2) = false := bne_eq_false_iff_eq.mpr c29
            clear c29
            replace H := Option.bind_eq_some_iff.mp H
            obtain ⟨t343, A300, H⟩ := H
            replace H : ((laminaref04_Integer.f t343).bind fun bt344 => (some (bt344.1, bt344.2.1, bt344.2.2, t341, 0))) = some (r1, r2, r3, r4, r5) := H
            have A30 := Aside0.mk A300
            clear A300
            replace H := Option.bind_eq_some_iff.mp H
            obtain ⟨⟨t344, t345, t346⟩, A310, H⟩ := H
            replace H : (some (t344, t345, t346, t341, 0)) = some (r1, r2, r3, r4, r5) := H
            have A31 := Aside0.mk A310
            clear A310
            simp only [Option.some.injEq, Prod.mk.injEq] at H
            obtain ⟨rfl, rfl, rfl, rfl, rfl⟩ := H
            have p334 : 0 ≤ (a1 : Int) := of_decide_eq_true (by first | (with_reducible assumption) | assumption)
            have q334 : a1 < (l0.length : Int) := of_decide_eq_true (by first | (with_reducible assumption) | assumption)
            obtain ⟨ad334, e334, hx334_0⟩ := Kd.at_int HR0.out a1 p334 q334
            cases e334
            replace hx334_0 := up_ HB.out hx334_0
            replace p334 := eq_true p334
            replace q334 := eq_true q334
            go_wp2_with (first | ((with_reducible refine gate_callee (f := 110) rfl ?_); refine goesL_ (some 66) rfl rfl Try.func110 (by kernel_rfl) rfl #[.slice (some ad334) l0.length c0, .int .i64 (wrap64 (a1 + 1))] rfl (by (try simp only [List.map_toArray, List.map_cons, List.map_nil]); first | done | rfl | (simp only [List.length_drop, List.length_take]; rfl) | (simp only [Int.ofNat_lt, Int.ofNat_le, gt_iff_lt, ge_iff_le]; rfl)) ?_; (with_reducible refine (laminaref01_Decode.calls kj2 _ _ l0 (wrap64 (a1 + 1)) t340 t341 t342 _ ?side1 ?side2 A27.out).mono ?_); (case side1 => exact cb_ HR0.out HB.out); (case side2 => exact HC0.out); rintro e w' ⟨rfl, ⟨nd, rfl⟩⟩; refine ⟨_, rfl, ?_⟩; (try (rw [drewN_self wc]; generalize hq_ : World.drewN wc _ = wc; have n0_ : Aside0 (wc.heap[gb333]? = some (.cells #[.int .i64 0, .int .i64 0, .string (⟨#[]⟩ : ByteArray)] 39 (0, 0))) := ⟨by rw [← hq_]; exact (bk_ BK333.out)⟩; have n1_ : Aside0 (Below w.heap.size w wc) := ⟨by rw [← hq_]; exact (hb1_ HB.out GE333.out)⟩; clear BK333 HB hq_; have BK333 := n0_; have HB := n1_; clear n0_ n1_))) | ((with_reducible refine gate_callee (f := 127) rfl ?_); refine goesL_ (some 77) rfl rfl Try.func127 (by kernel_rfl) rfl #[.int .u64 t340] rfl (by (try simp only [List.map_toArray, List.map_cons, List.map_nil]); first | done | rfl | (simp only [List.length_drop, List.length_take]; rfl) | (simp only [Int.ofNat_lt, Int.ofNat_le, gt_iff_lt, ge_iff_le]; rfl)) ?_; (with_reducible refine (laminaref01_UnZigZag.calls t340 t343 _ A30.out).mono ?_); rintro e w' ⟨rfl, ⟨nd, rfl⟩⟩; refine ⟨_, rfl, ?_⟩; (try (rw [drewN_self wc]; generalize hq_ : World.drewN wc _ = wc; have n0_ : Aside0 (wc.heap[gb333]? = some (.cells #[.int .i64 0, .int .i64 0, .string (⟨#[]⟩ : ByteArray)] 39 (0, 0))) := ⟨by rw [← hq_]; exact (bk_ BK333.out)⟩; have n1_ : Aside0 (Below w.heap.size w wc) := ⟨by rw [← hq_]; exact (hb1_ HB.out GE333.out)⟩; clear BK333 HB hq_; have BK333 := n0_; have HB := n1_; clear n0_ n1_))) | ((with_reducible refine gate_callee (f := 126) rfl ?_); refine goesL_ (some 78) rfl rfl Try.func126 (by kernel_rfl) rfl #[.int .i64 t343] rfl (by (try simp only [List.map_toArray, List.map_cons, List.map_nil]); first | done | rfl | (simp only [List.length_drop, List.length_take]; rfl) | (simp only [Int.ofNat_lt, Int.ofNat_le, gt_iff_lt, ge_iff_le]; rfl)) ?_; (with_reducible refine (laminaref04_Integer.calls t343 t344 t345 t346 _ A31.out).mono ?_); rintro e w32 ⟨rfl, hb⟩; refine ⟨_, rfl, ?_⟩; replace BK333 := Aside0.mk (blk_below (g := gb333) (o := .cells #[.int .i64 0, .int .i64 0, .string (⟨#[]⟩ : ByteArray)] 39 (0, 0)) (bk_ BK333.out) hb); replace HB := Aside0.mk (below_step (hb1_ HB.out GE333.out) hb); (try clear hb); obtain ⟨hcz33_0, hcz33_1, hcz33_2, hfz33_0, hfz33_1, hfz33_2⟩ := bf3 BK333.out))
            refine bodyPost_ret (results_ctt rfl _ _ gb333 39 #[.int .i64 t344, .int .i64 t345, .string t346] (0, 0) _ rfl (by (with_reducible repeat (first | refine blk_drewN ?_ _ | refine blk_drew ?_ | refine blk_alloc ?_ _)); refine blk_put (cs := #[.int .i64 t344, .int .i64 t345, .string (⟨#[]⟩ : ByteArray)]) ?_ 2 _ rfl; (with_reducible repeat (first | refine blk_drewN ?_ _ | refine blk_drew ?_ | refine blk_alloc ?_ _)); refine blk_put (cs := #[.int .i64 t344, .int .i64 0, .string (⟨#[]⟩ : ByteArray)]) ?_ 1 _ rfl; (with_reducible repeat (first | refine blk_drewN ?_ _ | refine blk_drew ?_ | refine blk_alloc ?_ _)); refine blk_put (cs := #[.int .i64 0, .int .i64 0, .string (⟨#[]⟩ : ByteArray)]) ?_ 0 _ rfl; (with_reducible repeat (first | refine blk_drewN ?_ _ | refine blk_drew ?_ | refine blk_alloc ?_ _)); exact BK333.out) Try.underlying39 rfl (by kernel_rfl)) rfl ?_
            exact er_ ((hb1_ HB.out GE333.out))
           ·rw [if_neg c29] at H
            have c29b0 : ((wrap64 (rd l0 a1)) == 2) = false := beq_eq_false_iff_ne.mpr c29
            have c29b1 : ((wrap64 (rd l0 a1)) != 2) = true := bne_iff_ne.mpr c29
            by_cases c34 : t340 > 4096
            ·rw [if_pos c34] at H
             have c34b0 : decide (4096 < t340) = true := decide_eq_true c34
             clear c34
             simp only [Option.some.injEq, Prod.mk.injEq] at H
             obtain ⟨rfl, rfl, rfl, rfl, rfl⟩ := H
             have p334 : 0 ≤ (a1 : Int) := of_decide_eq_true (by first | (with_reducible assumption) | assumption)
             have q334 : a1 < (l0.length : Int) := of_decide_eq_true (by first | (with_reducible assumption) | assumption)
             obtain ⟨ad334, e334, hx334_0⟩ := Kd.at_int HR0.out a1 p334 q334
             cases e334
             replace hx334_0 := up_ HB.out hx334_0
             replace p334 := eq_true p334
             replace q334 := eq_true q334
             go_wp2_with (first | ((with_reducible refine gate_callee (f := 110) rfl ?_); refine goesL_ (some 66) rfl rfl Try.func110 (by kernel_rfl) rfl #[.slice (some ad334) l0.length c0, .int .i64 (wrap64 (a1 + 1))] rfl (by (try simp only [List.map_toArray, List.map_cons, List.map_nil]); first | done | rfl | (simp only [List.length_drop, List.length_take]; rfl) | (simp only [Int.ofNat_lt, Int.ofNat_le, gt_iff_lt, ge_iff_le]; rfl)) ?_; (with_reducible refine (laminaref01_Decode.calls kj2 _ _ l0 (wrap64 (a1 + 1)) t340 t341 t342 _ ?side1 ?side2 A27.out).mono ?_); (case side1 => exact cb_ HR0.out HB.out); (case side2 => exact HC0.out); rintro e w' ⟨rfl, ⟨nd, rfl⟩⟩; refine ⟨_, rfl, ?_⟩; (try (rw [drewN_self wc]; generalize hq_ : World.drewN wc _ = wc; have n0_ : Aside0 (wc.heap[gb333]? = some (.cells #[.int .i64 0, .int .i64 0, .string (⟨#[]⟩ : ByteArray)] 39 (0, 0))) := ⟨by rw [← hq_]; exact (bk_ BK333.out)⟩; have n1_ : Aside0 (Below w.heap.size w wc) := ⟨by rw [← hq_]; exact (hb1_ HB.out GE333.out)⟩; clear BK333 HB hq_; have BK333 := n0_; have HB := n1_; clear n0_ n1_)); obtain ⟨hcz35_0, hcz35_1, hcz35_2, hfz35_0, hfz35_1, hfz35_2⟩ := bf3 BK333.out))
             refine bodyPost_ret (results_ctt rfl _ _ gb333 39 #[.int .i64 0, .int .i64 0, .string (⟨#[]⟩ : ByteArray)] (0, 0) _ rfl (by (with_reducible repeat (first | refine blk_drewN ?_ _ | refine blk_drew ?_ | refine blk_alloc ?_ _)); refine blk_put (cs := #[.int .i64 0, .int .i64 0, .string (⟨#[]⟩ : ByteArray)]) ?_ 2 _ rfl; (with_reducible repeat (first | refine blk_drewN ?_ _ | refine blk_drew ?_ | refine blk_alloc ?_ _)); refine blk_put (cs := #[.int .i64 0, .int .i64 0, .string (⟨#[]⟩ : ByteArray)]) ?_ 1 _ rfl; (with_reducible repeat (first | refine blk_drewN ?_ _ | refine blk_drew ?_ | refine blk_alloc ?_ _)); refine blk_put (cs := #[.int .i64 0, .int .i64 0, .string (⟨#[]⟩ : ByteArray)]) ?_ 0 _ rfl; (with_reducible repeat (first | refine blk_drewN ?_ _ | refine blk_drew ?_ | refine blk_alloc ?_ _)); exact BK333.out) Try.underlying39 rfl (by kernel_rfl)) rfl ?_
             exact er_ ((hb1_ HB.out GE333.out))
            ·rw [if_neg c34] at H
             have c34b0 : decide (4096 < t340) = false := decide_eq_false c34
             clear c34
             by_cases c36 : (wrap64 ((l0.length : Int) - t341)) < (wrap64 (t340))
             ·rw [if_pos c36] at H
              have c36b0 : decide ((wrap64 ((l0.length : Int) - t341)) < (wrap64 (t340))) = true := decide_eq_true c36
              clear c36
              simp only [Option.some.injEq, Prod.mk.injEq] at H
              obtain ⟨rfl, rfl, rfl, rfl, rfl⟩ := H
              have p334 : 0 ≤ (a1 : Int) := of_decide_eq_true (by first | (with_reducible assumption) | assumption)
              have q334 : a1 < (l0.length : Int) := of_decide_eq_true (by first | (with_reducible assumption) | assumption)
              obtain ⟨ad334, e334, hx334_0⟩ := Kd.at_int HR0.out a1 p334 q334
              cases e334
              replace hx334_0 := up_ HB.out hx334_0
              replace p334 := eq_true p334
              replace q334 := eq_true q334
              go_wp2_with (first | ((with_reducible refine gate_callee (f := 110) rfl ?_); refine goesL_ (some 66) rfl rfl Try.func110 (by kernel_rfl) rfl #[.slice (some ad334) l0.length c0, .int .i64 (wrap64 (a1 + 1))] rfl (by (try simp only [List.map_toArray, List.map_cons, List.map_nil]); first | done | rfl | (simp only [List.length_drop, List.length_take]; rfl) | (simp only [Int.ofNat_lt, Int.ofNat_le, gt_iff_lt, ge_iff_le]; rfl)) ?_; (with_reducible refine (laminaref01_Decode.calls kj2 _ _ l0 (wrap64 (a1 + 1)) t340 t341 t342 _ ?side1 ?side2 A27.out).mono ?_); (case side1 => exact cb_ HR0.out HB.out); (case side2 => exact HC0.out); rintro e w' ⟨rfl, ⟨nd, rfl⟩⟩; refine ⟨_, rfl, ?_⟩; (try (rw [drewN_self wc]; generalize hq_ : World.drewN wc _ = wc; have n0_ : Aside0 (wc.heap[gb333]? = some (.cells #[.int .i64 0, .int .i64 0, .string (⟨#[]⟩ : ByteArray)] 39 (0, 0))) := ⟨by rw [← hq_]; exact (bk_ BK333.out)⟩; have n1_ : Aside0 (Below w.heap.size w wc) := ⟨by rw [← hq_]; exact (hb1_ HB.out GE333.out)⟩; clear BK333 HB hq_; have BK333 := n0_; have HB := n1_; clear n0_ n1_)); obtain ⟨hcz37_0, hcz37_1, hcz37_2, hfz37_0, hfz37_1, hfz37_2⟩ := bf3 BK333.out))
              refine bodyPost_ret (results_ctt rfl _ _ gb333 39 #[.int .i64 0, .int .i64 0, .string (⟨#[]⟩ : ByteArray)] (0, 0) _ rfl (by (with_reducible repeat (first | refine blk_drewN ?_ _ | refine blk_drew ?_ | refine blk_alloc ?_ _)); refine blk_put (cs := #[.int .i64 0, .int .i64 0, .string (⟨#[]⟩ : ByteArray)]) ?_ 2 _ rfl; (with_reducible repeat (first | refine blk_drewN ?_ _ | refine blk_drew ?_ | refine blk_alloc ?_ _)); refine blk_put (cs := #[.int .i64 0, .int .i64 0, .string (⟨#[]⟩ : ByteArray)]) ?_ 1 _ rfl; (with_reducible repeat (first | refine blk_drewN ?_ _ | refine blk_drew ?_ | refine blk_alloc ?_ _)); refine blk_put (cs := #[.int .i64 0, .int .i64 0, .string (⟨#[]⟩ : ByteArray)]) ?_ 0 _ rfl; (with_reducible repeat (first | refine blk_drewN ?_ _ | refine blk_drew ?_ | refine blk_alloc ?_ _)); exact BK333.out) Try.underlying39 rfl (by kernel_rfl)) rfl ?_
              exact er_ ((hb1_ HB.out GE333.out))
             ·rw [if_neg c36] at H
              have c36b0 : decide ((wrap64 ((l0.length : Int) - t341)) < (wrap64 (t340))) = false := decide_eq_false c36
              clear c36
              by_cases c38 : 0 ≤ t341
              ·rw [if_pos c38] at H
               have c38b0 := eq_true c38
               have c38b1 : decide (0 ≤ t341) = true := decide_eq_true c38
               clear c38
               by_cases c39 : t341 ≤ (wrap64 (t341 + (wrap64 (t340))))
               ·rw [if_pos c39] at H
                have c39b0 := eq_true c39
                have c39b1 : decide (t341 ≤ (wrap64 (t341 + (wrap64 (t340))))) = true := decide_eq_true c39
                by_cases c40 : (wrap64 (t341 + (wrap64 (t340)))) ≤ (l0.length : Int)
                ·rw [if_pos c40] at H
                 have c40b0 := eq_true c40
                 have c40b1 : decide ((wrap64 (t341 + (wrap64 (t340)))) ≤ (l0.length : Int)) = true := decide_eq_true c40
                 simp only [Option.some.injEq, Prod.mk.injEq] at H
                 obtain ⟨rfl, rfl, rfl, rfl, rfl⟩ := H
                 have p334 : 0 ≤ (a1 : Int) := of_decide_eq_true (by first | (with_reducible assumption) | assumption)
                 have q334 : a1 < (l0.length : Int) := of_decide_eq_true (by first | (with_reducible assumption) | assumption)
                 obtain ⟨ad334, e334, hx334_0⟩ := Kd.at_int HR0.out a1 p334 q334
                 cases e334
                 replace hx334_0 := up_ HB.out hx334_0
                 replace p334 := eq_true p334
                 replace q334 := eq_true q334
                 go_wp2_with (first | ((with_reducible refine gate_callee (f := 110) rfl ?_); refine goesL_ (some 66) rfl rfl Try.func110 (by kernel_rfl) rfl #[.slice (some ad334) l0.length c0, .int .i64 (wrap64 (a1 + 1))] rfl (by (try simp only [List.map_toArray, List.map_cons, List.map_nil]); first | done | rfl | (simp only [List.length_drop, List.length_take]; rfl) | (simp only [Int.ofNat_lt, Int.ofNat_le, gt_iff_lt, ge_iff_le]; rfl)) ?_; (with_reducible refine (laminaref01_Decode.calls kj2 _ _ l0 (wrap64 (a1 + 1)) t340 t341 t342 _ ?side1 ?side2 A27.out).mono ?_); (case side1 => exact cb_ HR0.out HB.out); (case side2 => exact HC0.out); rintro e w' ⟨rfl, ⟨nd, rfl⟩⟩; refine ⟨_, rfl, ?_⟩; (try (rw [drewN_self wc]; generalize hq_ : World.drewN wc _ = wc; have n0_ : Aside0 (wc.heap[gb333]? = some (.cells #[.int .i64 0, .int .i64 0, .string (⟨#[]⟩ : ByteArray)] 39 (0, 0))) := ⟨by rw [← hq_]; exact (bk_ BK333.out)⟩; have n1_ : Aside0 (Below w.heap.size w wc) := ⟨by rw [← hq_]; exact (hb1_ HB.out GE333.out)⟩; clear BK333 HB hq_; have BK333 := n0_; have HB := n1_; clear n0_ n1_)); obtain ⟨i041, hi041, _, hsz41, _⟩ := info_parts info5; obtain ⟨A41, hcut41, hA41, hC41⟩ := print_mid_of (P := Try.prog) (Value.int .u8) 0 27 5 .i64 .i64 Try.underlying27 hi041 hsz41 (some ad334) c0 l0 t341 (wrap64 (t341 + (wrap64 (t340)))) (of_decide_eq_true (by first | (with_reducible assumption) | assumption)) (by first | omega | exact of_decide_eq_true (by first | (with_reducible assumption) | assumption)) (of_decide_eq_true (by first | (with_reducible assumption) | assumption)) HC0.out; have HR347 := Aside0.mk (Kd.C_of_reads (h1 := fun _ => rfl) (hA41 _ (Kd.reads_of_C HR0.out))); have HC347 := Aside0.mk hC41; clear hA41 hC41 hi041 hsz41; have hcv42 := Kd.C_string (P := Try.prog) (A := A41) (c := (c0 - t341.toNat)) Try.underlying27 Try.underlying5 Try.underlying9 (Kd.C_below HR347.out HB.out); (try rw [show ((l0.take (((wrap64 (t341 + (wrap64 (t340))))) : Int).toNat).drop ((t341) : Int).toNat).length = (((wrap64 (t341 + (wrap64 (t340))))) : Int).toNat - ((t341) : Int).toNat from by (rw [List.length_drop, List.length_take]; omega)] at hcv42); obtain ⟨hcz43_0, hcz43_1, hcz43_2, hfz43_0, hfz43_1, hfz43_2⟩ := bf3 BK333.out))
                 refine bodyPost_ret (results_ctt rfl _ _ gb333 39 #[.int .i64 3, .int .i64 0, .string (strOfNums ((l0.take ((wrap64 (t341 + (wrap64 (t340)))) : Int).toNat).drop (t341 : Int).toNat))] (0, 0) _ rfl (by (with_reducible repeat (first | refine blk_drewN ?_ _ | refine blk_drew ?_ | refine blk_alloc ?_ _)); refine blk_put (cs := #[.int .i64 3, .int .i64 0, .string (⟨#[]⟩ : ByteArray)]) ?_ 2 _ rfl; (with_reducible repeat (first | refine blk_drewN ?_ _ | refine blk_drew ?_ | refine blk_alloc ?_ _)); refine blk_put (cs := #[.int .i64 3, .int .i64 0, .string (⟨#[]⟩ : ByteArray)]) ?_ 1 _ rfl; (with_reducible repeat (first | refine blk_drewN ?_ _ | refine blk_drew ?_ | refine blk_alloc ?_ _)); refine blk_put (cs := #[.int .i64 0, .int .i64 0, .string (⟨#[]⟩ : ByteArray)]) ?_ 0 _ rfl; (with_reducible repeat (first | refine blk_drewN ?_ _ | refine blk_drew ?_ | refine blk_alloc ?_ _)); exact BK333.out) Try.underlying39 rfl (by kernel_rfl)) rfl ?_
                 exact er_ ((hb1_ HB.out GE333.out))
                ·rw [if_neg c40] at H
                 exact absurd H (by simp)
               ·rw [if_neg c39] at H
                exact absurd H (by simp)
              ·rw [if_neg c38] at H
               exact absurd H (by simp)
          ·rw [if_neg c28] at H
           have c28b0 : (t342 == 0) = false := beq_eq_false_iff_ne.mpr c28
           have c28b1 : (t342 != 0) = true := bne_iff_ne.mpr c28
           simp only [Option.some.injEq, Prod.mk.injEq] at H
           obtain ⟨rfl, rfl, rfl, rfl, rfl⟩ := H
           have p334 : 0 ≤ (a1 : Int) := of_decide_eq_true (by first | (with_reducible assumption) | assumption)
           have q334 : a1 < (l0.length : Int) := of_decide_eq_true (by first | (with_reducible assumption) | assumption)
           obtain ⟨ad334, e334, hx334_0⟩ := Kd.at_int HR0.out a1 p334 q334
           cases e334
           replace hx334_0 := up_ HB.out hx334_0
           replace p334 := eq_true p334
           replace q334 := eq_true q334
           go_wp2_with (first | ((with_reducible refine gate_callee (f := 110) rfl ?_); refine goesL_ (some 66) rfl rfl Try.func110 (by kernel_rfl) rfl #[.slice (some ad334) l0.length c0, .int .i64 (wrap64 (a1 + 1))] rfl (by (try simp only [List.map_toArray, List.map_cons, List.map_nil]); first | done | rfl | (simp only [List.length_drop, List.length_take]; rfl) | (simp only [Int.ofNat_lt, Int.ofNat_le, gt_iff_lt, ge_iff_le]; rfl)) ?_; (with_reducible refine (laminaref01_Decode.calls kj2 _ _ l0 (wrap64 (a1 + 1)) t340 t341 t342 _ ?side1 ?side2 A27.out).mono ?_); (case side1 => exact cb_ HR0.out HB.out); (case side2 => exact HC0.out); rintro e w' ⟨rfl, ⟨nd, rfl⟩⟩; refine ⟨_, rfl, ?_⟩; (try (rw [drewN_self wc]; generalize hq_ : World.drewN wc _ = wc; have n0_ : Aside0 (wc.heap[gb333]? = some (.cells #[.int .i64 0, .int .i64 0, .string (⟨#[]⟩ : ByteArray)] 39 (0, 0))) := ⟨by rw [← hq_]; exact (bk_ BK333.out)⟩; have n1_ : Aside0 (Below w.heap.size w wc) := ⟨by rw [← hq_]; exact (hb1_ HB.out GE333.out)⟩; clear BK333 HB hq_; have BK333 := n0_; have HB := n1_; clear n0_ n1_)); obtain ⟨hcz44_0, hcz44_1, hcz44_2, hfz44_0, hfz44_1, hfz44_2⟩ := bf3 BK333.out))
           refine bodyPost_ret (results_ctt rfl _ _ gb333 39 #[.int .i64 0, .int .i64 0, .string (⟨#[]⟩ : ByteArray)] (0, 0) _ rfl (by (with_reducible repeat (first | refine blk_drewN ?_ _ | refine blk_drew ?_ | refine blk_alloc ?_ _)); refine blk_put (cs := #[.int .i64 0, .int .i64 0, .string (⟨#[]⟩ : ByteArray)]) ?_ 2 _ rfl; (with_reducible repeat (first | refine blk_drewN ?_ _ | refine blk_drew ?_ | refine blk_alloc ?_ _)); refine blk_put (cs := #[.int .i64 0, .int .i64 0, .string (⟨#[]⟩ : ByteArray)]) ?_ 1 _ rfl; (with_reducible repeat (first | refine blk_drewN ?_ _ | refine blk_drew ?_ | refine blk_alloc ?_ _)); refine blk_put (cs := #[.int .i64 0, .int .i64 0, .string (⟨#[]⟩ : ByteArray)]) ?_ 0 _ rfl; (with_reducible repeat (first | refine blk_drewN ?_ _ | refine blk_drew ?_ | refine blk_alloc ?_ _)); exact BK333.out) Try.underlying39 rfl (by kernel_rfl)) rfl ?_
           exact er_ ((hb1_ HB.out GE333.out))
      ·rw [if_neg c11] at H
       exact absurd H (by simp)
     ·rw [if_neg c10] at H
      exact absurd H (by simp)
end Go.Proofs.Ytackcingpffidaa.P
namespace Go.Proofs.Ytackcingpffidaa.P
open Go.RowKit Go.Proofs.YtackcingpffidaaW.PrintWords Go.Proofs.YtackcingpffidaaW.PrintLast Go.Proofs.YtackcingpffidaaW.PrintMore
set_option linter.unusedVariables false
set_option linter.unusedSimpArgs false
def cvalS (k : Nat) (l : List Int) (t e : Int) : Option (S39 × Int × Int) := if e = 0 then (laminaref04_Decode.f k l t).bind fun x => if x.2.2.2.2 = 0 then some (⟨x.1, x.2.1, x.2.2.1⟩, x.2.2.2.1, 0) else some (⟨0, 0, ⟨#[]⟩⟩, t, x.2.2.2.2) else some (⟨0, 0, ⟨#[]⟩⟩, t, e)
theorem cvalS.mono (k : Nat) (l : List Int) (t e : Int) : LeO (cvalS k l t e) (cvalS (k + 1) l t e) := LeO.ite (LeO.bind (laminaref04_Decode.mono _ _ _) fun _ => LeO.refl _) (LeO.refl _)
/-- A call's last: a value is returned out of a block that stands apart from the cursor's. -/
theorem ret3_ {w0 w W : World} {g g2 : Nat} {A : Option Addr} {l : List Int} {c : Nat} {t e : Int} {x0 x1 x2 : Value} (hp : RDp 106 w0 w g A l c t e W) (hb : W.heap[g2]? = some (.cells #[x0, x1, x2] 39 (0, 0))) (hg : w.heap.size ≤ g2) (hg0 : w0.heap.size ≤ g2) (hn : g < g2) (u0 u1 u2 : Value) {p : World → Prop}
  (h : ∀ Y, Y.cell? ⟨g2, 0, none⟩ = some u0 → Y.cell? ⟨g2, 1, none⟩ = some u1 → Y.cell? ⟨g2, 2, none⟩ = some u2 → RDp 106 w0 w g A l c t e Y → p Y) : p (((W.setCell ⟨g2, 0, none⟩ u0).setCell ⟨g2, 1, none⟩ u1).setCell ⟨g2, 2, none⟩ u2) := by
 have P3 := put3_blk hb u0 u1 u2
 unfold put3 at P3
 have n1 : g ≠ g2 := by omega
 refine h _ ((blk_cell P3 0).trans rfl) ((blk_cell P3 1).trans rfl) ((blk_cell P3 2).trans rfl) ⟨blk_far (blk_far (blk_far hp.1 (p := ⟨g2, 0, none⟩) n1 _) (p := ⟨g2, 1, none⟩) n1 _) (p := ⟨g2, 2, none⟩) n1 _, put3_below hp.2.1 hg0 u0 u1 u2, ?_⟩
 have hs : (put3 W g2 u0 u1 u2).heap.size = W.heap.size := by simp [put3]
 refine ⟨by show w.heap.size ≤ (put3 W g2 u0 u1 u2).heap.size; rw [hs]; exact hp.2.2.1, fun i hi h1 h2 => ?_⟩
 have n2 : i ≠ g2 := by omega
 exact ((Below.heap_setCell _ ⟨g2, 2, none⟩ u2 i n2).trans ((Below.heap_setCell _ ⟨g2, 1, none⟩ u1 i n2).trans (Below.heap_setCell _ ⟨g2, 0, none⟩ u0 i n2))).trans (hp.2.2.2 i hi h1 h2)
def f89_T3 : Bool × List (List Nat × List Nat) := (true, [([], []), ([0], [0]), ([1], [1]), ([2], [2]), ([], []), ([4], [4]), ([5], [5]), ([6], [6]), ([3, 7], [3, 7]), ([8], [8]), ([9], [9]), ([9], [9]), ([9], [9]), ([], []), ([13, 10, 8, 0, 1, 2, 3, 4, 5, 6, 7, 8, 9, 10, 13], [10, 13]), ([11, 14, 0, 1, 2, 3, 4, 5, 6, 7, 8, 9, 10, 11, 13, 14], [11]), ([12, 15, 0, 1, 2, 3, 4, 5, 6, 7, 8, 9, 10, 11, 12, 13, 14, 15], [12])])
def f89_B3 : List Nat := [0, 1, 3, 7, 0, 16, 48, 112, 255, 511, 1023, 1023, 1023, 0, 10239, 28671, 65535]
set_option maxRecDepth 100000 in
theorem f89_tab3 : rtab .any (opsOf Try.f89 3) = f89_T3 := by kernel_rfl
theorem f89_bits3 : waitsOk f89_T3.2 f89_B3 = true := by kernel_rfl
set_option maxHeartbeats 4000000 in
set_option maxRecDepth 100000 in
theorem f89_calls (k : Nat) (w0 w : World) (g : Nat) (A : Option Addr) (c : Nat) (l : List Int) (t e : Int) (v : S39) (t' e' : Int) (hA : Kd.C (Kd.int .u8) w0 A l.length l) (hc : l.length ≤ c) (hB : Below w0.heap.size w0 w) (hg : w0.heap.size ≤ g) (hG : w.heap[g]? = some (RDo 106 A l c t e)) (h : cvalS k l t e = some (v, t', e')) :
  Calls Try.prog 89 #[.pointer (some ⟨g, 0, none⟩)] w fun x w' => x = .returned (.agg #[.int .i64 v.f0, .int .i64 v.f1, .string v.f2]) ∧ RDp 106 w0 w g A l c t' e' w' := by
 have HA := Aside0.mk hA
 have HB := Aside0.mk hB
 have HG := Aside0.mk hG
 have hgl : g < w.heap.size := blk_lt hG
 clear hA hB hG
 unfold cvalS at h
 go_enter Try.func89, Try.ntmps89
 go_upto_region 1 with (refine box_ 2 (cs := #[.int .i64 0, .int .i64 0, .string ⟨#[]⟩]) (t := 39) (fun g2 hg_ V BB hb => ?_); have hg2 : g2 = w.heap.size := hg_; have HP := Aside0.mk (RDp.of HB.out HG.out hb); have B2 := Aside0.mk BB; clear hb hg_ BB)
 have hw0 : w0.heap.size ≤ w.heap.size := HB.out.size
 have hG2 : w.heap.size ≤ g2 := by omega
 have hG0 : w0.heap.size ≤ g2 := by omega
 have hn2 : g < g2 := by omega
 clear hg2
 obtain ⟨t0, t1, t2⟩ := bc3 HP.out.1
 by_cases he : e = 0
 rotate_left
 ·rw [if_neg he] at h
  obtain ⟨rfl, h2⟩ := Prod.mk.inj (Option.some.inj h)
  obtain ⟨rfl, rfl⟩ := Prod.mk.inj h2
  have hb : (e != 0) = true := by simp [he]
  clear h h2 he
  obtain ⟨e0, e1, e2, z0, z1, z2⟩ := bf3 B2.out
  go_wp2
  refine ret3_ (p := fun W => bodyPost _ _ _ _ _ W) HP.out B2.out hG2 hG0 hn2 (.int .i64 0) (.int .i64 0) (.string ⟨#[]⟩) (fun W d0 d1 d2 rB => ?_)
  exact bodyPost_ret (v := .agg #[.int .i64 0, .int .i64 0, .string ⟨#[]⟩]) (by simp [results, Try.results89, go_sem, d0, d1, d2]) rfl ⟨rfl, rB⟩
 rw [if_pos he] at h
 subst he
 obtain ⟨⟨r1, r2, r3, r4, r5⟩, hd, hs⟩ := Option.bind_eq_some_iff.mp h
 have HD := Aside0.mk hd
 have HH := Aside0.mk hs
 clear h hd hs
 have HS : Aside0 (∀ W, Below V.heap.size V W → W.cell? ⟨g, 0, none⟩ = some (.slice A l.length c) ∧ W.cell? ⟨g, 1, none⟩ = some (.int .i64 t) ∧ W.cell? ⟨g, 2, none⟩ = some (.int .i64 0) ∧ True) := ⟨fun W hb => ap3 (bc3 (blk_below HP.out.1 hb)) trivial⟩
 go_upto_region 3 with (fail)
 clear t0 t1 t2
 have HY := Aside0.mk (below_drew1 (Below.refl V.heap.size V))
 refine start_ (n := 17) (S := fun W => W.cell? ⟨g, 0, none⟩ = some (.slice A l.length c) ∧ W.cell? ⟨g, 1, none⟩ = some (.int .i64 t) ∧ W.cell? ⟨g, 2, none⟩ = some (.int .i64 0) ∧ True) (ds := []) #[false, false, false, false, false, false, false, false, false, false, false, false, false, false, false, false, false] (by kernel_rfl) rfl rfl (HS.out _ HY.out) (fun hHeld => ?_)
 refine with_tabW f89_tab3 f89_bits3 (fun HT_ HW_ => ?_)
 generalize V.drew = wd at HY hHeld ⊢
 refine pu_ HT_ 0 (some 13) ?_
 refine pu_ HT_ 1 (some 14) ?_
 refine pu_ HT_ 2 (some 15) ?_
 refine tk_ HT_ HW_ 3 (some 16) hHeld ?_
 refine pu_ HT_ 4 (some 17) ?_
 refine pu_ HT_ 5 (some 18) ?_
 refine pu_ HT_ 6 (some 19) ?_
 refine tk_ HT_ HW_ 7 (some 20) hHeld ?_
 refine join_ (σ := Nat) 3 #[true, true, true, true, true, true, true, true, true, true, true, true, true, true, false, false, false] (fun s_ => [(21, .tuple #[.agg #[.int .i64 r1, .int .i64 r2, .string r3], .int .i64 r4, .int .i64 r5]), (12, .tuple #[.agg #[.int .i64 r1, .int .i64 r2, .string r3], .int .i64 r4, .int .i64 r5]), (22, .agg #[.int .i64 r1, .int .i64 r2, .string r3]), (23, .int .i64 r4), (24, .int .i64 r5), (3, .pointer (some ⟨s_, 0, none⟩))]) (fun s_ W => (W.cell? ⟨g, 0, none⟩ = some (.slice A l.length c) ∧ W.cell? ⟨g, 1, none⟩ = some (.int .i64 t) ∧ W.cell? ⟨g, 2, none⟩ = some (.int .i64 0) ∧ True) ∧ W.heap[s_]? = some (.cells #[.int .i64 0, .int .i64 0, .string ⟨#[]⟩] 39 (0, 0)) ∧ V.heap.size ≤ s_ ∧ Below V.heap.size V W) ?_ ?_
 rotate_left
 ·intro hCont
  refine tw_ HT_ 8 13 (some 21) (some 3) (fun K hK => ?_) (fun K hK => ?_)
  ·refine ck_ hK Try.func111 (laminaref04_Decode.calls k A c l t r1 r2 r3 r4 r5 _ (Kd.C_below HA.out (HP.out.2.1.trans (HY.out.mono HP.out.2.1.size))) hc HD.out) HY HS (fun w9 HY hb hHeld => ?_)
   clear hb
   refine pu_ HT_ 9 (some 12) ?_
   refine pu_ HT_ 10 (some 22) ?_
   refine pu_ HT_ 11 (some 23) ?_
   refine pu_ HT_ 12 (some 24) ?_
   refine al_ HT_ 13 3 #[.int .i64 0, .int .i64 0, .string ⟨#[]⟩] 39 HY HS (fun g3 w9 hgx hg3 BG HY hb hHeld => ?_)
   clear hgx hb
   exact pl_ (hCont g3 _ ⟨hHeld, BG.out, hg3.out, HY.out⟩)
  ·refine ak_ hK 3 #[.int .i64 0, .int .i64 0, .string ⟨#[]⟩] 39 HY HS (fun g3 w9 hgx hg3 BG HY hb hHeld => ?_)
   clear hgx hb
   refine on_ HT_ 8 (some 21) (fun K hK => ?_)
   refine ck_ hK Try.func111 (laminaref04_Decode.calls k A c l t r1 r2 r3 r4 r5 _ (Kd.C_below HA.out (HP.out.2.1.trans (HY.out.mono HP.out.2.1.size))) hc HD.out) HY HS (fun w9 HY hb hHeld => ?_)
   replace BG := Aside0.mk (blk_below BG.out hb)
   clear hb
   refine pu_ HT_ 9 (some 12) ?_
   refine pu_ HT_ 10 (some 22) ?_
   refine pu_ HT_ 11 (some 23) ?_
   refine pu_ HT_ 12 (some 24) ?_
   exact pl_ (hCont g3 _ ⟨hHeld, BG.out, hg3.out, HY.out⟩)
 rintro g3 w3 ⟨hHeld, BG, hg3, hy⟩
 clear HY
 replace BG := Aside0.mk BG
 have HY := Aside0.mk hy
 clear hy
 refine pr_ ?_
 obtain ⟨e0, e1, e2, z0, z1, z2⟩ := bf3 BG.out
 replace BG := Aside0.mk (put3_blk BG.out (.int .i64 r1) (.int .i64 r2) (.string r3))
 replace HY := Aside0.mk (put3_below HY.out hg3 (.int .i64 r1) (.int .i64 r2) (.string r3))
 refine st_ HT_ 14 (put3 w3 g3 (.int .i64 r1) (.int .i64 r2) (.string r3)) ?_ (HS.out _ HY.out) (fun hHeld => ?_)
 ·unfold put3
  go_simp
 clear e0 e1 e2 z0 z1 z2
 generalize put3 w3 g3 (.int .i64 r1) (.int .i64 r2) (.string r3) = U at BG HY hHeld ⊢
 refine pu_ HT_ 15 (some 4) ?_
 refine pu_ HT_ 16 (some 5) ?_
 refine done_ (done_of HT_.out (by kernel_rfl)) ?_
 clear HT_ HW_ hHeld
 have hV := HP.out.2.2.1
 replace HP := Aside0.mk (HP.out.trans (RDp.of HP.out.2.1 HP.out.1 HY.out))
 replace B2 := Aside0.mk (blk_below B2.out HY.out)
 have hn3 : g3 ≠ g := by omega
 have hn4 : g2 ≠ g := by omega
 obtain ⟨t0, t1, t2⟩ := bc3 HP.out.1
 have z1 := blk_frozen HP.out.1 1
 have HH2 := HH.out
 clear HH HS HY HD
 by_cases he : r5 = 0
 ·subst he
  rw [if_pos rfl] at HH2
  obtain ⟨rfl, h2⟩ := Prod.mk.inj (Option.some.inj HH2)
  obtain ⟨rfl, rfl⟩ := Prod.mk.inj h2
  clear HH2 h2
  go_upto_region 8 with (fail)
  clear t0 t1 t2 z1
  replace HP := Aside0.mk (HP.out.set1 hg r4)
  replace B2 := Aside0.mk (blk_far B2.out (p := ⟨g, 1, none⟩) hn4 (.int .i64 r4))
  replace BG := Aside0.mk (blk_far BG.out (p := ⟨g, 1, none⟩) hn3 (.int .i64 r4))
  generalize U.setCell ⟨g, 1, none⟩ (.int .i64 r4) = Y at HP B2 BG ⊢
  obtain ⟨f0, f1, f2⟩ := bc3 BG.out
  obtain ⟨e0, e1, e2, z0, z1, z2⟩ := bf3 B2.out
  go_wp2
  refine ret3_ (p := fun W => bodyPost _ _ _ _ _ W) HP.out B2.out hG2 hG0 hn2 (.int .i64 r1) (.int .i64 r2) (.string r3) (fun W d0 d1 d2 rB => ?_)
  exact bodyPost_ret (v := .agg #[.int .i64 r1, .int .i64 r2, .string r3]) (by simp [results, Try.results89, go_sem, d0, d1, d2]) rfl ⟨rfl, rB⟩
 ·have hb : (r5 != 0) = true := by simp [he]
  rw [if_neg he] at HH2
  obtain ⟨rfl, h2⟩ := Prod.mk.inj (Option.some.inj HH2)
  obtain ⟨rfl, rfl⟩ := Prod.mk.inj h2
  clear HH2 h2 he BG
  go_upto_region 6 with (go_at_call 90; refine (f90_calls r5 w0 _ g A c l t 0 r5 HP.out.2.1 hg HP.out.1 (if_pos rfl)).mono ?_; rintro r w8 ⟨rfl, hp⟩; replace B2 := Aside0.mk (hp.2.2.blk B2.out hn4 (by simp)); replace HP := Aside0.mk (HP.out.trans hp); clear hp t0 t1 t2 z1)
  obtain ⟨e0, e1, e2, z0, z1, z2⟩ := bf3 B2.out
  go_wp2
  refine ret3_ (p := fun W => bodyPost _ _ _ _ _ W) HP.out B2.out hG2 hG0 hn2 (.int .i64 0) (.int .i64 0) (.string ⟨#[]⟩) (fun W d0 d1 d2 rB => ?_)
  exact bodyPost_ret (v := .agg #[.int .i64 0, .int .i64 0, .string ⟨#[]⟩]) (by simp [results, Try.results89, go_sem, d0, d1, d2]) rfl ⟨rfl, rB⟩
end Go.Proofs.Ytackcingpffidaa.P
namespace Go.Proofs.Ytackcingpffidaa.P
open Go.RowKit Go.Proofs.YtackcingpffidaaW.PrintWords Go.Proofs.YtackcingpffidaaW.PrintLast Go.Proofs.YtackcingpffidaaW.PrintMore
attribute [local go_sem] max2_int min2_int max_two min_two max_three min_three max_four min_four Go.Proofs.YtackcingpffidaaQ.str_gtr Go.Proofs.YtackcingpffidaaQ.str_leq Go.Proofs.YtackcingpffidaaQ.str_geq   -- for this text's walks alone
set_option linter.unusedVariables false
set_option linter.unusedSimpArgs false
/-! ### laminaref16_validHashes: function 37 -/
mutual
def laminaref16_validHashes.j0 : Nat → Bool → Int → Int → List Int → Bool → List Int → List (S39) → List Int → Option (Bool)
 | 0, _, _, _, _, _, _, _, _ => none
 | k + 1, x38, x103000, x103001, x103002, x103003, x103004, x103005, x103006 => if x38 = true then (some false) else (laminaref16_validHashes.l0 k 1 x103000 x103001 x103002 x103003 x103004 x103005 x103006)
def laminaref16_validHashes.l0 : Nat → Int → Int → Int → List Int → Bool → List Int → List (S39) → List Int → Option (Bool)
 | 0, _, _, _, _, _, _, _, _ => none
 | k + 1, x4, x103000, x103001, x103002, x103003, x103004, x103005, x103006 => if x4 < (x103002.length : Int) then (if 0 ≤ x4 then (if 0 ≤ (wrap64 (x4 - 1)) then (if (wrap64 (x4 - 1)) < (x103002.length : Int) then (if (rd x103002 x4) ≤ (rd x103002 (wrap64 (x4 - 1))) then (some false) else (laminaref16_validHashes.l0 k (wrap64 (x4 + 1)) x103000 x103001 x103002 x103003 x103004 x103005 x103006)) else (none)) else (none)) else (none)) else (some true)
end
def laminaref16_validHashes.f (k : Nat) (a0_0 : Int) (a0_1 : Int) (l0_2 : List Int) (a0_3 : Bool) (l0_4 : List Int) (l0_5 : List (S39)) (l0_6 : List Int) : Option (Bool) := (laminaref16_values.f a0_0 a0_1 l0_2 a0_3 l0_4 l0_5 l0_6).bind fun t103 => (if (l0_2.length : Int) > 32 then (laminaref16_validHashes.j0 k true a0_0 a0_1 l0_2 a0_3 l0_4 l0_5 l0_6) else (if (l0_2.length : Int) > t103 then (laminaref16_validHashes.j0 k true a0_0 a0_1 l0_2 a0_3 l0_4 l0_5 l0_6) else (if t103 > 0 then (if (l0_2.length : Int) = 0 then (laminaref16_validHashes.j0 k true a0_0 a0_1 l0_2 a0_3 l0_4 l0_5 l0_6) else (if a0_3 = true then (laminaref16_validHashes.j0 k false a0_0 a0_1 l0_2 a0_3 l0_4 l0_5 l0_6) else (laminaref16_validHashes.j0 k ((l0_2.length : Int) != 32) a0_0 a0_1 l0_2 a0_3 l0_4 l0_5 l0_6))) else (if a0_3 = true then (laminaref16_validHashes.j0 k false a0_0 a0_1 l0_2 a0_3 l0_4 l0_5 l0_6) else (laminaref16_validHashes.j0 k ((l0_2.length : Int) != 32) a0_0 a0_1 l0_2 a0_3 l0_4 l0_5 l0_6)))))
theorem laminaref16_validHashes.mono_l : ∀ k, (∀ y0 y1 y2 y3 y4 y5 y6 y7, LeO (laminaref16_validHashes.j0 k y0 y1 y2 y3 y4 y5 y6 y7) (laminaref16_validHashes.j0 (k + 1) y0 y1 y2 y3 y4 y5 y6 y7)) ∧ (∀ y0 y1 y2 y3 y4 y5 y6 y7, LeO (laminaref16_validHashes.l0 k y0 y1 y2 y3 y4 y5 y6 y7) (laminaref16_validHashes.l0 (k + 1) y0 y1 y2 y3 y4 y5 y6 y7))
 | 0 => ⟨fun _ _ _ _ _ _ _ _ r h => by simp [laminaref16_validHashes.j0] at h, fun _ _ _ _ _ _ _ _ r h => by simp [laminaref16_validHashes.l0] at h⟩
 | k + 1 => by
  obtain ⟨ih0, ih1⟩ := laminaref16_validHashes.mono_l k
  refine ⟨?_, ?_⟩
  ·intro y0 y1 y2 y3 y4 y5 y6 y7
   unfold laminaref16_validHashes.j0
   repeat' first
   | (with_reducible exact ih0 _ _ _ _ _ _ _ _)
   | (with_reducible exact ih1 _ _ _ _ _ _ _ _)
   | (with_reducible exact LeO.refl _)
   | (with_reducible exact LeO.none _)
   | (with_reducible refine LeO.ite ?_ ?_)
   | (with_reducible refine LeO.bind ?_ (fun _ => ?_))
   | exact ih0 _ _ _ _ _ _ _ _
   | exact ih1 _ _ _ _ _ _ _ _
   | exact LeO.none _
   | refine LeO.ite ?_ ?_
   | refine LeO.bind ?_ (fun _ => ?_)
  ·intro y0 y1 y2 y3 y4 y5 y6 y7
   unfold laminaref16_validHashes.l0
   repeat' first
   | (with_reducible exact ih0 _ _ _ _ _ _ _ _)
   | (with_reducible exact ih1 _ _ _ _ _ _ _ _)
   | (with_reducible exact LeO.refl _)
   | (with_reducible exact LeO.none _)
   | (with_reducible refine LeO.ite ?_ ?_)
   | (with_reducible refine LeO.bind ?_ (fun _ => ?_))
   | exact ih0 _ _ _ _ _ _ _ _
   | exact ih1 _ _ _ _ _ _ _ _
   | exact LeO.none _
   | refine LeO.ite ?_ ?_
   | refine LeO.bind ?_ (fun _ => ?_)
theorem laminaref16_validHashes.mono : ∀ a0 a1 a2 a3 a4 a5 a6 k, LeO (laminaref16_validHashes.f k a0 a1 a2 a3 a4 a5 a6) (laminaref16_validHashes.f (k + 1) a0 a1 a2 a3 a4 a5 a6) := by
 intro a0 a1 a2 a3 a4 a5 a6 k
 obtain ⟨ih0, ih1⟩ := laminaref16_validHashes.mono_l k
 unfold laminaref16_validHashes.f
 repeat' first
   | (with_reducible exact ih0 _ _ _ _ _ _ _ _)
   | (with_reducible exact ih1 _ _ _ _ _ _ _ _)
   | (with_reducible exact LeO.refl _)
   | (with_reducible exact LeO.none _)
   | (with_reducible refine LeO.ite ?_ ?_)
   | (with_reducible refine LeO.bind ?_ (fun _ => ?_))
   | exact ih0 _ _ _ _ _ _ _ _
   | exact ih1 _ _ _ _ _ _ _ _
   | exact LeO.none _
   | refine LeO.ite ?_ ?_
   | refine LeO.bind ?_ (fun _ => ?_)
set_option maxHeartbeats 8000000 in
set_option maxRecDepth 100000 in
theorem laminaref16_validHashes.calls (k : Nat) (a0_0 : Int) (a0_1 : Int) (A0_2 : Option Addr) (c0_2 : Nat) (l0_2 : List Int) (a0_3 : Bool) (A0_4 : Option Addr) (c0_4 : Nat) (l0_4 : List Int) (A0_5 : Option Addr) (c0_5 : Nat) (l0_5 : List (S39)) (A0_6 : Option Addr) (c0_6 : Nat) (l0_6 : List Int) (r : Bool) (w : World) (hr0_2 : Kd.C (Kd.int .u64) w A0_2 l0_2.length l0_2) (hc0_2 : l0_2.length ≤ c0_2) (hr0_4 : Kd.C (Kd.int .i64) w A0_4 l0_4.length l0_4) (hc0_4 : l0_4.length ≤ c0_4) (hr0_5 : Kd.C k39 w A0_5 l0_5.length l0_5) (hc0_5 : l0_5.length ≤ c0_5) (hr0_6 : Kd.C (Kd.int .i64) w A0_6 l0_6.length l0_6) (hc0_6 : l0_6.length ≤ c0_6) (h : laminaref16_validHashes.f k a0_0 a0_1 l0_2 a0_3 l0_4 l0_5 l0_6 = some r) :
  Calls Try.prog 37 #[.agg #[.int .i64 a0_0, .int .i64 a0_1, .slice A0_2 l0_2.length c0_2, .bool a0_3, .slice A0_4 l0_4.length c0_4, .slice A0_5 l0_5.length c0_5, .slice A0_6 l0_6.length c0_6]] w fun e w' => e = .returned (.bool r) ∧ Below w.heap.size w w' := by
 have hu26 := Try.underlying26
 have HR0_2 := Aside0.mk hr0_2
 have HC0_2 := Aside0.mk hc0_2
 clear hr0_2 hc0_2
 have HR0_4 := Aside0.mk hr0_4
 have HC0_4 := Aside0.mk hc0_4
 clear hr0_4 hc0_4
 have HR0_5 := Aside0.mk hr0_5
 have HC0_5 := Aside0.mk hc0_5
 clear hr0_5 hc0_5
 have HR0_6 := Aside0.mk hr0_6
 have HC0_6 := Aside0.mk hc0_6
 clear hr0_6 hc0_6
 have HB := Aside0.mk (Below.refl w.heap.size w)
 have H : ((laminaref16_values.f a0_0 a0_1 l0_2 a0_3 l0_4 l0_5 l0_6).bind fun t103 => (if (l0_2.length : Int) > 32 then (laminaref16_validHashes.j0 k true a0_0 a0_1 l0_2 a0_3 l0_4 l0_5 l0_6) else (if (l0_2.length : Int) > t103 then (laminaref16_validHashes.j0 k true a0_0 a0_1 l0_2 a0_3 l0_4 l0_5 l0_6) else (if t103 > 0 then (if (l0_2.length : Int) = 0 then (laminaref16_validHashes.j0 k true a0_0 a0_1 l0_2 a0_3 l0_4 l0_5 l0_6) else (if a0_3 = true then (laminaref16_validHashes.j0 k false a0_0 a0_1 l0_2 a0_3 l0_4 l0_5 l0_6) else (laminaref16_validHashes.j0 k ((l0_2.length : Int) != 32) a0_0 a0_1 l0_2 a0_3 l0_4 l0_5 l0_6))) else (if a0_3 = true then (laminaref16_validHashes.j0 k false a0_0 a0_1 l0_2 a0_3 l0_4 l0_5 l0_6) else (laminaref16_validHashes.j0 k ((l0_2.length : Int) != 32) a0_0 a0_1 l0_2 a0_3 l0_4 l0_5 l0_6)))))) = some r := h
 clear h
 replace H := Option.bind_eq_some_iff.mp H
 obtain ⟨t103, A20, H⟩ := H
 replace H : (if (l0_2.length : Int) > 32 then (laminaref16_validHashes.j0 k true a0_0 a0_1 l0_2 a0_3 l0_4 l0_5 l0_6) else (if (l0_2.length : Int) > t103 then (laminaref16_validHashes.j0 k true a0_0 a0_1 l0_2 a0_3 l0_4 l0_5 l0_6) else (if t103 > 0 then (if (l0_2.length : Int) = 0 then (laminaref16_validHashes.j0 k true a0_0 a0_1 l0_2 a0_3 l0_4 l0_5 l0_6) else (if a0_3 = true then (laminaref16_validHashes.j0 k false a0_0 a0_1 l0_2 a0_3 l0_4 l0_5 l0_6) else (laminaref16_validHashes.j0 k ((l0_2.length : Int) != 32) a0_0 a0_1 l0_2 a0_3 l0_4 l0_5 l0_6))) else (if a0_3 = true then (laminaref16_validHashes.j0 k false a0_0 a0_1 l0_2 a0_3 l0_4 l0_5 l0_6) else (laminaref16_validHashes.j0 k ((l0_2.length : Int) != 32) a0_0 a0_1 l0_2 a0_3 l0_4 l0_5 l0_6))))) = some r := H
 have A2 := Aside0.mk A20
 clear A20
 have HC3 := Aside0.mk H
 clear H
 go_enter Try.func37, Try.ntmps37
 go_upto_region 2 with (first | ((with_reducible refine gate_dst (N := 1) rfl ?_); (try (refine gate_guard (by rfl) ?_; dsimp only)); refine box_ 1 (cs := #[.int .i64 a0_0, .int .i64 a0_1, .slice A0_2 l0_2.length c0_2, .bool a0_3, .slice A0_4 l0_4.length c0_4, .slice A0_5 l0_5.length c0_5, .slice A0_6 l0_6.length c0_6]) (t := 26) ?_; intro gb102 hg w4 hbox hb; have BK102 := Aside0.mk (hbox); have GW102 := Aside0.mk ((by rw [hg]; exact (below_size (hb_ HB.out)) : w.heap.size ≤ gb102)); have GE102 := Aside0.mk ((by rw [hg]; exact (below_size (hb_ HB.out)) : w.heap.size ≤ gb102)); replace HB := Aside0.mk (below_step (hb_ HB.out) hb); clear hb hbox hg; obtain ⟨hcz5_0, hcz5_1, hcz5_2, hcz5_3, hcz5_4, hcz5_5, hcz5_6, hfz5_0, hfz5_1, hfz5_2, hfz5_3, hfz5_4, hfz5_5, hfz5_6⟩ := bf7 BK102.out) | (go_at_call 80; (with_reducible refine (laminaref16_values.calls a0_0 a0_1 _ _ l0_2 a0_3 _ _ l0_4 _ _ l0_5 _ _ l0_6 t103 _ ?side1 ?side2 ?side3 ?side4 ?side5 ?side6 ?side7 ?side8 A2.out).mono ?_); (case side1 => exact cb_ HR0_2.out HB.out); (case side2 => exact HC0_2.out); (case side3 => exact cb_ HR0_4.out HB.out); (case side4 => exact HC0_4.out); (case side5 => exact cb_ HR0_5.out HB.out); (case side6 => exact HC0_5.out); (case side7 => exact cb_ HR0_6.out HB.out); (case side8 => exact HC0_6.out); rintro e w6 ⟨rfl, hb⟩; replace BK102 := Aside0.mk (blk_below (bk_ BK102.out) hb); replace HB := Aside0.mk (below_step (hb1_ HB.out GE102.out) hb); (try clear hb)))
 repeat (go_quiet (first | ((with_reducible refine gate_dst (N := 1) rfl ?_); (try (refine gate_guard (by rfl) ?_; dsimp only)); refine box_ 1 (cs := #[.int .i64 a0_0, .int .i64 a0_1, .slice A0_2 l0_2.length c0_2, .bool a0_3, .slice A0_4 l0_4.length c0_4, .slice A0_5 l0_5.length c0_5, .slice A0_6 l0_6.length c0_6]) (t := 26) ?_; intro gb102 hg w4 hbox hb; have BK102 := Aside0.mk (hbox); have GW102 := Aside0.mk ((by rw [hg]; exact (below_size (hb_ HB.out)) : w.heap.size ≤ gb102)); have GE102 := Aside0.mk ((by rw [hg]; exact (below_size (hb_ HB.out)) : w.heap.size ≤ gb102)); replace HB := Aside0.mk (below_step (hb_ HB.out) hb); clear hb hbox hg; obtain ⟨hcz5_0, hcz5_1, hcz5_2, hcz5_3, hcz5_4, hcz5_5, hcz5_6, hfz5_0, hfz5_1, hfz5_2, hfz5_3, hfz5_4, hfz5_5, hfz5_6⟩ := bf7 BK102.out) | (go_at_call 80; (with_reducible refine (laminaref16_values.calls a0_0 a0_1 _ _ l0_2 a0_3 _ _ l0_4 _ _ l0_5 _ _ l0_6 t103 _ ?side1 ?side2 ?side3 ?side4 ?side5 ?side6 ?side7 ?side8 A2.out).mono ?_); (case side1 => exact cb_ HR0_2.out HB.out); (case side2 => exact HC0_2.out); (case side3 => exact cb_ HR0_4.out HB.out); (case side4 => exact HC0_4.out); (case side5 => exact cb_ HR0_5.out HB.out); (case side6 => exact HC0_5.out); (case side7 => exact cb_ HR0_6.out HB.out); (case side8 => exact HC0_6.out); rintro e w6 ⟨rfl, hb⟩; replace BK102 := Aside0.mk (blk_below (bk_ BK102.out) hb); replace HB := Aside0.mk (below_step (hb1_ HB.out GE102.out) hb); (try clear hb))); go_upto_region 2 with (first | ((with_reducible refine gate_dst (N := 1) rfl ?_); (try (refine gate_guard (by rfl) ?_; dsimp only)); refine box_ 1 (cs := #[.int .i64 a0_0, .int .i64 a0_1, .slice A0_2 l0_2.length c0_2, .bool a0_3, .slice A0_4 l0_4.length c0_4, .slice A0_5 l0_5.length c0_5, .slice A0_6 l0_6.length c0_6]) (t := 26) ?_; intro gb102 hg w4 hbox hb; have BK102 := Aside0.mk (hbox); have GW102 := Aside0.mk ((by rw [hg]; exact (below_size (hb_ HB.out)) : w.heap.size ≤ gb102)); have GE102 := Aside0.mk ((by rw [hg]; exact (below_size (hb_ HB.out)) : w.heap.size ≤ gb102)); replace HB := Aside0.mk (below_step (hb_ HB.out) hb); clear hb hbox hg; obtain ⟨hcz5_0, hcz5_1, hcz5_2, hcz5_3, hcz5_4, hcz5_5, hcz5_6, hfz5_0, hfz5_1, hfz5_2, hfz5_3, hfz5_4, hfz5_5, hfz5_6⟩ := bf7 BK102.out) | (go_at_call 80; (with_reducible refine (laminaref16_values.calls a0_0 a0_1 _ _ l0_2 a0_3 _ _ l0_4 _ _ l0_5 _ _ l0_6 t103 _ ?side1 ?side2 ?side3 ?side4 ?side5 ?side6 ?side7 ?side8 A2.out).mono ?_); (case side1 => exact cb_ HR0_2.out HB.out); (case side2 => exact HC0_2.out); (case side3 => exact cb_ HR0_4.out HB.out); (case side4 => exact HC0_4.out); (case side5 => exact cb_ HR0_5.out HB.out); (case side6 => exact HC0_5.out); (case side7 => exact cb_ HR0_6.out HB.out); (case side8 => exact HC0_6.out); rintro e w6 ⟨rfl, hb⟩; replace BK102 := Aside0.mk (blk_below (bk_ BK102.out) hb); replace HB := Aside0.mk (below_step (hb1_ HB.out GE102.out) hb); (try clear hb))))
 (try simp only [Act.put, List.setIfInBounds_toArray, List.set_cons_zero, List.set_cons_succ])
 go_cut [38] (fun v38 wc => ∃ (kq : Nat) (x38_2 : Bool), v38 = .bool x38_2 ∧ Aside0 (laminaref16_validHashes.j0 kq x38_2 a0_0 a0_1 l0_2 a0_3 l0_4 l0_5 l0_6 = some r) ∧ Aside0 (kq ≤ k) ∧ Aside0 (wc.heap[gb102]? = some (.cells #[.int .i64 a0_0, .int .i64 a0_1, (.slice A0_2 l0_2.length c0_2), .bool a0_3, (.slice A0_4 l0_4.length c0_4), (.slice A0_5 l0_5.length c0_5), (.slice A0_6 l0_6.length c0_6)] 26 (0, 0))) ∧ Aside0 (Below w.heap.size w wc))
 case first =>
  have H := HC3.out
  clear HC3
  by_cases c7 : (l0_2.length : Int) > 32
  ·rw [if_pos c7] at H
   have c7b0 : decide (32 < (l0_2.length : Int)) = true := decide_eq_true c7
   have c7b1 : decide (32 < l0_2.length) = true := decide_eq_true (by omega)
   clear c7
   (first | rw [c7b0] | (simp only [i64_w, i32_w]; rw [c7b0]) | skip)
   have H' := Aside0.mk H
   clear H
   obtain ⟨hcz8_0, hcz8_1, hcz8_2, hcz8_3, hcz8_4, hcz8_5, hcz8_6, hfz8_0, hfz8_1, hfz8_2, hfz8_3, hfz8_4, hfz8_5, hfz8_6⟩ := bf7 BK102.out
   go_wp2
   repeat (go_quiet (fail); try go_wp2)
   go_meet
   case rel => exact ⟨_, (true), (by first | rfl | (simp; done) | (simp [*]; done)), H', ⟨by first | omega | exact Nat.le_refl _⟩, ⟨by (with_reducible repeat (first | refine blk_drewN ?_ _ | refine blk_drew ?_ | refine blk_alloc ?_ _)); exact BK102.out⟩, ⟨(hb1_ HB.out GE102.out)⟩⟩
  ·rw [if_neg c7] at H
   have c7b0 : decide (32 < (l0_2.length : Int)) = false := decide_eq_false c7
   have c7b1 : decide (32 < l0_2.length) = false := decide_eq_false (by omega)
   clear c7
   (first | rw [c7b0] | (simp only [i64_w, i32_w]; rw [c7b0]) | skip)
   by_cases c9 : (l0_2.length : Int) > t103
   ·rw [if_pos c9] at H
    have c9b0 : decide (t103 < (l0_2.length : Int)) = true := decide_eq_true c9
    clear c9
    have H' := Aside0.mk H
    clear H
    obtain ⟨hcz10_0, hcz10_1, hcz10_2, hcz10_3, hcz10_4, hcz10_5, hcz10_6, hfz10_0, hfz10_1, hfz10_2, hfz10_3, hfz10_4, hfz10_5, hfz10_6⟩ := bf7 BK102.out
    go_wp2
    repeat (go_quiet (fail); try go_wp2)
    go_meet
    case rel => exact ⟨_, (true), (by first | rfl | (simp; done) | (simp [*]; done)), H', ⟨by first | omega | exact Nat.le_refl _⟩, ⟨by (with_reducible repeat (first | refine blk_drewN ?_ _ | refine blk_drew ?_ | refine blk_alloc ?_ _)); exact BK102.out⟩, ⟨(hb1_ HB.out GE102.out)⟩⟩
   ·rw [if_neg c9] at H
    have c9b0 : decide (t103 < (l0_2.length : Int)) = false := decide_eq_false c9
    clear c9
    by_cases c11 : t103 > 0
    ·rw [if_pos c11] at H
     have c11b0 : decide (0 < t103) = true := decide_eq_true c11
     clear c11
     by_cases c12 : (l0_2.length : Int) = 0
     ·rw [if_pos c12] at H
      have c12b0 : ((l0_2.length : Int) == 0) = true := beq_iff_eq.mpr c12
      have c12b1 : ((l0_2.length : Int) != 0) = false := bne_eq_false_iff_eq.mpr c12
      clear c12
      have H' := Aside0.mk H
      clear H
      obtain ⟨hcz13_0, hcz13_1, hcz13_2, hcz13_3, hcz13_4, hcz13_5, hcz13_6, hfz13_0, hfz13_1, hfz13_2, hfz13_3, hfz13_4, hfz13_5, hfz13_6⟩ := bf7 BK102.out
      go_wp2
      repeat (go_quiet (fail); try go_wp2)
      go_meet
      case rel => exact ⟨_, (true), (by first | rfl | (simp; done) | (simp [*]; done)), H', ⟨by first | omega | exact Nat.le_refl _⟩, ⟨by (with_reducible repeat (first | refine blk_drewN ?_ _ | refine blk_drew ?_ | refine blk_alloc ?_ _)); exact BK102.out⟩, ⟨(hb1_ HB.out GE102.out)⟩⟩
     ·rw [if_neg c12] at H
      have c12b0 : ((l0_2.length : Int) == 0) = false := beq_eq_false_iff_ne.mpr c12
      have c12b1 : ((l0_2.length : Int) != 0) = true := bne_iff_ne.mpr c12
      have c12b2 : ¬ (l0_2 = []) := fun h_ => c12 (by rw [h_]; rfl)
      by_cases c14 : a0_3 = true
      ·subst c14
       have H1 : (laminaref16_validHashes.j0 k false a0_0 a0_1 l0_2 true l0_4 l0_5 l0_6) = some r := by rw [if_pos rfl] at H; exact H
       clear H
       have H := H1
       clear H1
       have H' := Aside0.mk H
       clear H
       obtain ⟨hcz15_0, hcz15_1, hcz15_2, hcz15_3, hcz15_4, hcz15_5, hcz15_6, hfz15_0, hfz15_1, hfz15_2, hfz15_3, hfz15_4, hfz15_5, hfz15_6⟩ := bf7 BK102.out
       go_wp2
       repeat (go_quiet (fail); try go_wp2)
       go_meet
       case rel => exact ⟨_, (false), (by first | rfl | (simp; done) | (simp [*]; done)), H', ⟨by first | omega | exact Nat.le_refl _⟩, ⟨by (with_reducible repeat (first | refine blk_drewN ?_ _ | refine blk_drew ?_ | refine blk_alloc ?_ _)); exact BK102.out⟩, ⟨(hb1_ HB.out GE102.out)⟩⟩
      ·replace c14 := Bool.eq_false_iff.mpr c14
       subst c14
       have H1 : (laminaref16_validHashes.j0 k ((l0_2.length : Int) != 32) a0_0 a0_1 l0_2 false l0_4 l0_5 l0_6) = some r := by rw [if_neg (show ¬ (false = true) by decide)] at H; exact H
       clear H
       have H := H1
       clear H1
       have H' := Aside0.mk H
       clear H
       obtain ⟨hcz16_0, hcz16_1, hcz16_2, hcz16_3, hcz16_4, hcz16_5, hcz16_6, hfz16_0, hfz16_1, hfz16_2, hfz16_3, hfz16_4, hfz16_5, hfz16_6⟩ := bf7 BK102.out
       go_wp2
       repeat (go_quiet (fail); try go_wp2)
       go_meet
       case rel => exact ⟨_, (((l0_2.length : Int) != 32)), (by first | rfl | (simp; done) | (simp [*]; done)), H', ⟨by first | omega | exact Nat.le_refl _⟩, ⟨by (with_reducible repeat (first | refine blk_drewN ?_ _ | refine blk_drew ?_ | refine blk_alloc ?_ _)); exact BK102.out⟩, ⟨(hb1_ HB.out GE102.out)⟩⟩
    ·rw [if_neg c11] at H
     have c11b0 : decide (0 < t103) = false := decide_eq_false c11
     clear c11
     by_cases c17 : a0_3 = true
     ·subst c17
      have H1 : (laminaref16_validHashes.j0 k false a0_0 a0_1 l0_2 true l0_4 l0_5 l0_6) = some r := by rw [if_pos rfl] at H; exact H
      clear H
      have H := H1
      clear H1
      have H' := Aside0.mk H
      clear H
      obtain ⟨hcz18_0, hcz18_1, hcz18_2, hcz18_3, hcz18_4, hcz18_5, hcz18_6, hfz18_0, hfz18_1, hfz18_2, hfz18_3, hfz18_4, hfz18_5, hfz18_6⟩ := bf7 BK102.out
      go_wp2
      repeat (go_quiet (fail); try go_wp2)
      go_meet
      case rel => exact ⟨_, (false), (by first | rfl | (simp; done) | (simp [*]; done)), H', ⟨by first | omega | exact Nat.le_refl _⟩, ⟨by (with_reducible repeat (first | refine blk_drewN ?_ _ | refine blk_drew ?_ | refine blk_alloc ?_ _)); exact BK102.out⟩, ⟨(hb1_ HB.out GE102.out)⟩⟩
     ·replace c17 := Bool.eq_false_iff.mpr c17
      subst c17
      have H1 : (laminaref16_validHashes.j0 k ((l0_2.length : Int) != 32) a0_0 a0_1 l0_2 false l0_4 l0_5 l0_6) = some r := by rw [if_neg (show ¬ (false = true) by decide)] at H; exact H
      clear H
      have H := H1
      clear H1
      have H' := Aside0.mk H
      clear H
      obtain ⟨hcz19_0, hcz19_1, hcz19_2, hcz19_3, hcz19_4, hcz19_5, hcz19_6, hfz19_0, hfz19_1, hfz19_2, hfz19_3, hfz19_4, hfz19_5, hfz19_6⟩ := bf7 BK102.out
      go_wp2
      repeat (go_quiet (fail); try go_wp2)
      go_meet
      case rel => exact ⟨_, (((l0_2.length : Int) != 32)), (by first | rfl | (simp; done) | (simp [*]; done)), H', ⟨by first | omega | exact Nat.le_refl _⟩, ⟨by (with_reducible repeat (first | refine blk_drewN ?_ _ | refine blk_drew ?_ | refine blk_alloc ?_ _)); exact BK102.out⟩, ⟨(hb1_ HB.out GE102.out)⟩⟩
 case rest =>
  clear HC3
  try clear c1
  try clear p2
  try clear c3
  try clear c7
  try clear c7b0
  try clear c7b1
  try clear c9
  try clear c9b0
  try clear c11
  try clear c11b0
  try clear c12
  try clear c12b0
  try clear c12b1
  try clear c12b2
  try clear c14
  try clear c17
  try clear hcz10_0 hcz10_1 hcz10_2 hcz10_3 hcz10_4 hcz10_5 hcz10_6 hfz10_0 hfz10_1 hfz10_2 hfz10_3 hfz10_4 hfz10_5 hfz10_6
  try clear hcz13_0 hcz13_1 hcz13_2 hcz13_3 hcz13_4 hcz13_5 hcz13_6 hfz13_0 hfz13_1 hfz13_2 hfz13_3 hfz13_4 hfz13_5 hfz13_6
  try clear hcz15_0 hcz15_1 hcz15_2 hcz15_3 hcz15_4 hcz15_5 hcz15_6 hfz15_0 hfz15_1 hfz15_2 hfz15_3 hfz15_4 hfz15_5 hfz15_6
  try clear hcz16_0 hcz16_1 hcz16_2 hcz16_3 hcz16_4 hcz16_5 hcz16_6 hfz16_0 hfz16_1 hfz16_2 hfz16_3 hfz16_4 hfz16_5 hfz16_6
  try clear hcz18_0 hcz18_1 hcz18_2 hcz18_3 hcz18_4 hcz18_5 hcz18_6 hfz18_0 hfz18_1 hfz18_2 hfz18_3 hfz18_4 hfz18_5 hfz18_6
  try clear hcz19_0 hcz19_1 hcz19_2 hcz19_3 hcz19_4 hcz19_5 hcz19_6 hfz19_0 hfz19_1 hfz19_2 hfz19_3 hfz19_4 hfz19_5 hfz19_6
  try clear hcz5_0 hcz5_1 hcz5_2 hcz5_3 hcz5_4 hcz5_5 hcz5_6 hfz5_0 hfz5_1 hfz5_2 hfz5_3 hfz5_4 hfz5_5 hfz5_6
  try clear hcz8_0 hcz8_1 hcz8_2 hcz8_3 hcz8_4 hcz8_5 hcz8_6 hfz8_0 hfz8_1 hfz8_2 hfz8_3 hfz8_4 hfz8_5 hfz8_6
  obtain ⟨kq, x38_2, rfl, HA, HJ2, BK102, HB⟩ := hcut
  cases kq with
  | zero => exact absurd HA.out (by simp [laminaref16_validHashes.j0])
  | succ kj2 =>
   have H := HA.out
   clear HA
   simp only [laminaref16_validHashes.j0] at H
   by_cases c20 : x38_2 = true
   ·subst c20
    have H1 : (some false) = some r := by rw [if_pos rfl] at H; exact H
    clear H
    have H := H1
    clear H1
    obtain rfl := Option.some.inj H
    go_wp2
    repeat (go_quiet (fail); try go_wp2)
    go_ret
    exact er_ ((hb1_ HB.out GE102.out))
   ·replace c20 := Bool.eq_false_iff.mpr c20
    subst c20
    have H1 : (laminaref16_validHashes.l0 kj2 1 a0_0 a0_1 l0_2 a0_3 l0_4 l0_5 l0_6) = some r := by rw [if_neg (show ¬ (false = true) by decide)] at H; exact H
    clear H
    have H := H1
    clear H1
    have H' := Aside0.mk H
    clear H
    go_wp2
    repeat (go_quiet (fail); try go_wp2)
    go_loopg [4] kj2 (fun kq v4 w' => ∃ (x4_2 : Int), v4 = .int .i64 x4_2 ∧ Aside0 (laminaref16_validHashes.l0 kq x4_2 a0_0 a0_1 l0_2 a0_3 l0_4 l0_5 l0_6 = some r) ∧ Aside0 (kq ≤ kj2) ∧ Aside0 (w'.heap[gb102]? = some (.cells #[.int .i64 a0_0, .int .i64 a0_1, (.slice A0_2 l0_2.length c0_2), .bool a0_3, (.slice A0_4 l0_4.length c0_4), (.slice A0_5 l0_5.length c0_5), (.slice A0_6 l0_6.length c0_6)] 26 (0, 0))) ∧ Aside0 (Below w.heap.size w w'))
    case atStart => exact ⟨(1), (by first | rfl | (simp; done) | (simp [*]; done)), H', ⟨Nat.le_refl _⟩, ⟨by (with_reducible repeat (first | refine blk_drewN ?_ _ | refine blk_drew ?_ | refine blk_alloc ?_ _)); exact BK102.out⟩, ⟨(hb1_ HB.out GE102.out)⟩⟩
    case round =>
     clear H'
     try clear c1
     try clear c2
     try clear p2
     try clear c3
     try clear c7
     try clear c7b0
     try clear c7b1
     try clear c9
     try clear c9b0
     try clear c11
     try clear c11b0
     try clear c12
     try clear c12b0
     try clear c12b1
     try clear c12b2
     try clear c14
     try clear c17
     try clear c20
     try clear hcz10_0 hcz10_1 hcz10_2 hcz10_3 hcz10_4 hcz10_5 hcz10_6 hfz10_0 hfz10_1 hfz10_2 hfz10_3 hfz10_4 hfz10_5 hfz10_6
     try clear hcz13_0 hcz13_1 hcz13_2 hcz13_3 hcz13_4 hcz13_5 hcz13_6 hfz13_0 hfz13_1 hfz13_2 hfz13_3 hfz13_4 hfz13_5 hfz13_6
     try clear hcz15_0 hcz15_1 hcz15_2 hcz15_3 hcz15_4 hcz15_5 hcz15_6 hfz15_0 hfz15_1 hfz15_2 hfz15_3 hfz15_4 hfz15_5 hfz15_6
     try clear hcz16_0 hcz16_1 hcz16_2 hcz16_3 hcz16_4 hcz16_5 hcz16_6 hfz16_0 hfz16_1 hfz16_2 hfz16_3 hfz16_4 hfz16_5 hfz16_6
     try clear hcz18_0 hcz18_1 hcz18_2 hcz18_3 hcz18_4 hcz18_5 hcz18_6 hfz18_0 hfz18_1 hfz18_2 hfz18_3 hfz18_4 hfz18_5 hfz18_6
     try clear hcz19_0 hcz19_1 hcz19_2 hcz19_3 hcz19_4 hcz19_5 hcz19_6 hfz19_0 hfz19_1 hfz19_2 hfz19_3 hfz19_4 hfz19_5 hfz19_6
     try clear hcz5_0 hcz5_1 hcz5_2 hcz5_3 hcz5_4 hcz5_5 hcz5_6 hfz5_0 hfz5_1 hfz5_2 hfz5_3 hfz5_4 hfz5_5 hfz5_6
     try clear hcz8_0 hcz8_1 hcz8_2 hcz8_3 hcz8_4 hcz8_5 hcz8_6 hfz8_0 hfz8_1 hfz8_2 hfz8_3 hfz8_4 hfz8_5 hfz8_6
     try clear p2
     obtain ⟨x4_2, rfl, HA, HK2, BK102, HB⟩ := hrel
     cases gk with
     | zero => exact absurd HA.out (by simp [laminaref16_validHashes.l0])
     | succ k2 =>
      have H := HA.out
      clear HA
      simp only [laminaref16_validHashes.l0] at H
      by_cases c21 : x4_2 < (l0_2.length : Int)
      ·rw [if_pos c21] at H
       have c21b0 : decide (x4_2 < (l0_2.length : Int)) = true := decide_eq_true c21
       clear c21
       by_cases c22 : 0 ≤ x4_2
       ·rw [if_pos c22] at H
        have c22b0 : decide (0 ≤ x4_2) = true := decide_eq_true c22
        clear c22
        obtain ⟨ji23, hji23⟩ : ∃ j_ : Int, (wrap64 (x4_2 - 1)) = j_ := ⟨_, rfl⟩
        replace H : (if 0 ≤ (ji23) then (if (ji23) < (l0_2.length : Int) then (if (rd l0_2 x4_2) ≤ (rd l0_2 (ji23)) then (some false) else (laminaref16_validHashes.l0 k2 (wrap64 (x4_2 + 1)) a0_0 a0_1 l0_2 a0_3 l0_4 l0_5 l0_6)) else (none)) else (none)) = some r := by first | (rw [hji23] at H; exact H) | (simp only [hji23] at H ⊢; exact H)
        have hji23w : (IntKind.i64.wrap (x4_2 - 1)) = ji23 := (i64_w _).trans hji23
        by_cases c24 : 0 ≤ (ji23)
        ·rw [if_pos c24] at H
         have c24b0 : decide (0 ≤ (ji23)) = true := decide_eq_true c24
         clear c24
         by_cases c25 : (ji23) < (l0_2.length : Int)
         ·rw [if_pos c25] at H
          have c25b0 : decide ((ji23) < (l0_2.length : Int)) = true := decide_eq_true c25
          clear c25
          by_cases c26 : (rd l0_2 x4_2) ≤ (rd l0_2 (ji23))
          ·rw [if_pos c26] at H
           have c26b0 : decide ((rd l0_2 x4_2) ≤ (rd l0_2 (ji23))) = true := decide_eq_true c26
           clear c26
           obtain rfl := Option.some.inj H
           obtain ⟨hcz27_0, hcz27_1, hcz27_2, hcz27_3, hcz27_4, hcz27_5, hcz27_6, hfz27_0, hfz27_1, hfz27_2, hfz27_3, hfz27_4, hfz27_5, hfz27_6⟩ := bf7 BK102.out
           have p104 : 0 ≤ (x4_2 : Int) := of_decide_eq_true (by first | (with_reducible assumption) | assumption)
           have q104 : x4_2 < (l0_2.length : Int) := of_decide_eq_true (by first | (with_reducible assumption) | assumption)
           obtain ⟨ad104, e104, hx104_0⟩ := Kd.at_int HR0_2.out x4_2 p104 q104
           cases e104
           replace hx104_0 := up_ HB.out hx104_0
           replace p104 := eq_true p104
           replace q104 := eq_true q104
           have p105 : 0 ≤ ((ji23) : Int) := of_decide_eq_true (by first | (with_reducible assumption) | assumption)
           have q105 : (ji23) < (l0_2.length : Int) := of_decide_eq_true (by first | (with_reducible assumption) | assumption)
           obtain ⟨ad105, e105, hx105_0⟩ := Kd.at_int HR0_2.out (ji23) p105 q105
           obtain rfl : ad104 = ad105 := (by injection e105)
           replace hx105_0 := up_ HB.out hx105_0
           replace p105 := eq_true p105
           replace q105 := eq_true q105
           go_wp2
           repeat (go_quiet (fail); try go_wp2)
           go_ret
           exact ⟨by first | rfl | (simp [errW_none, errW_some] <;> rfl) | (simp only [← hji23]; first | rfl | (simp [errW_none, errW_some] <;> rfl)) | (simp [*, errW_none, errW_some] <;> rfl), (hb1_ HB.out GE102.out)⟩
          ·rw [if_neg c26] at H
           have c26b0 : decide ((rd l0_2 x4_2) ≤ (rd l0_2 (ji23))) = false := decide_eq_false c26
           clear c26
           have H' := Aside0.mk H
           clear H
           obtain ⟨hcz28_0, hcz28_1, hcz28_2, hcz28_3, hcz28_4, hcz28_5, hcz28_6, hfz28_0, hfz28_1, hfz28_2, hfz28_3, hfz28_4, hfz28_5, hfz28_6⟩ := bf7 BK102.out
           have p104 : 0 ≤ (x4_2 : Int) := of_decide_eq_true (by first | (with_reducible assumption) | assumption)
           have q104 : x4_2 < (l0_2.length : Int) := of_decide_eq_true (by first | (with_reducible assumption) | assumption)
           obtain ⟨ad104, e104, hx104_0⟩ := Kd.at_int HR0_2.out x4_2 p104 q104
           cases e104
           replace hx104_0 := up_ HB.out hx104_0
           replace p104 := eq_true p104
           replace q104 := eq_true q104
           have p105 : 0 ≤ ((ji23) : Int) := of_decide_eq_true (by first | (with_reducible assumption) | assumption)
           have q105 : (ji23) < (l0_2.length : Int) := of_decide_eq_true (by first | (with_reducible assumption) | assumption)
           obtain ⟨ad105, e105, hx105_0⟩ := Kd.at_int HR0_2.out (ji23) p105 q105
           obtain rfl : ad104 = ad105 := (by injection e105)
           replace hx105_0 := up_ HB.out hx105_0
           replace p105 := eq_true p105
           replace q105 := eq_true q105
           go_wp2
           repeat (go_quiet (fail); try go_wp2)
           go_roundg k2
           case measure => have := HJ2.out; have := HK2.out; omega
           case rel => exact ⟨(wrap64 (x4_2 + 1)), (by first | rfl | (simp; done) | (simp [*]; done)), H', ⟨by have := HJ2.out; have := HK2.out; omega⟩, ⟨by (with_reducible repeat (first | refine blk_drewN ?_ _ | refine blk_drew ?_ | refine blk_alloc ?_ _)); exact BK102.out⟩, ⟨(hb1_ HB.out GE102.out)⟩⟩
         ·rw [if_neg c25] at H
          exact absurd H (by simp)
        ·rw [if_neg c24] at H
         exact absurd H (by simp)
       ·rw [if_neg c22] at H
        exact absurd H (by simp)
      ·rw [if_neg c21] at H
       have c21b0 : decide (x4_2 < (l0_2.length : Int)) = false := decide_eq_false c21
       clear c21
       obtain rfl := Option.some.inj H
       obtain ⟨hcz29_0, hcz29_1, hcz29_2, hcz29_3, hcz29_4, hcz29_5, hcz29_6, hfz29_0, hfz29_1, hfz29_2, hfz29_3, hfz29_4, hfz29_5, hfz29_6⟩ := bf7 BK102.out
       go_wp2
       repeat (go_quiet (fail); try go_wp2)
       go_ret
       exact er_ ((hb1_ HB.out GE102.out))
/-! ### laminaref16_Valid: function 11 -/
def laminaref16_Valid.f (k : Nat) (a0_0 : Int) (a0_1 : Int) (l0_2 : List Int) (a0_3 : Bool) (l0_4 : List Int) (l0_5 : List (S39)) (l0_6 : List Int) : Option (Bool) := if a0_1 ≥ 0 then (if a0_1 ≤ a0_0 then ((laminaref16_validHashes.f k a0_0 a0_1 l0_2 a0_3 l0_4 l0_5 l0_6).bind fun t116 => (if t116 = true then ((laminaref16_validCounters.f k a0_0 a0_1 l0_2 a0_3 l0_4 l0_5 l0_6).bind fun t117 => (if t117 = true then ((laminaref16_validFences.f a0_0 a0_1 l0_2 a0_3 l0_4 l0_5 l0_6).bind fun t118 => (some t118)) else (some false))) else (some false))) else (some false)) else (some false)
theorem laminaref16_Valid.mono : ∀ a0 a1 a2 a3 a4 a5 a6 k, LeO (laminaref16_Valid.f k a0 a1 a2 a3 a4 a5 a6) (laminaref16_Valid.f (k + 1) a0 a1 a2 a3 a4 a5 a6) := by
 intro a0 a1 a2 a3 a4 a5 a6 k
 unfold laminaref16_Valid.f
 repeat' first
   | (with_reducible exact laminaref16_validCounters.mono _ _ _ _ _ _ _ _)
   | (with_reducible exact laminaref16_validHashes.mono _ _ _ _ _ _ _ _)
   | (with_reducible exact LeO.refl _)
   | (with_reducible exact LeO.none _)
   | (with_reducible refine LeO.ite ?_ ?_)
   | (with_reducible refine LeO.bind ?_ (fun _ => ?_))
   | exact laminaref16_validCounters.mono _ _ _ _ _ _ _ _
   | exact laminaref16_validHashes.mono _ _ _ _ _ _ _ _
   | exact LeO.none _
   | refine LeO.ite ?_ ?_
   | refine LeO.bind ?_ (fun _ => ?_)
set_option maxHeartbeats 8000000 in
set_option maxRecDepth 100000 in
theorem laminaref16_Valid.calls (k : Nat) (a0_0 : Int) (a0_1 : Int) (A0_2 : Option Addr) (c0_2 : Nat) (l0_2 : List Int) (a0_3 : Bool) (A0_4 : Option Addr) (c0_4 : Nat) (l0_4 : List Int) (A0_5 : Option Addr) (c0_5 : Nat) (l0_5 : List (S39)) (A0_6 : Option Addr) (c0_6 : Nat) (l0_6 : List Int) (r : Bool) (w : World) (hr0_2 : Kd.C (Kd.int .u64) w A0_2 l0_2.length l0_2) (hc0_2 : l0_2.length ≤ c0_2) (hr0_4 : Kd.C (Kd.int .i64) w A0_4 l0_4.length l0_4) (hc0_4 : l0_4.length ≤ c0_4) (hr0_5 : Kd.C k39 w A0_5 l0_5.length l0_5) (hc0_5 : l0_5.length ≤ c0_5) (hr0_6 : Kd.C (Kd.int .i64) w A0_6 l0_6.length l0_6) (hc0_6 : l0_6.length ≤ c0_6) (h : laminaref16_Valid.f k a0_0 a0_1 l0_2 a0_3 l0_4 l0_5 l0_6 = some r) :
  Calls Try.prog 11 #[.agg #[.int .i64 a0_0, .int .i64 a0_1, .slice A0_2 l0_2.length c0_2, .bool a0_3, .slice A0_4 l0_4.length c0_4, .slice A0_5 l0_5.length c0_5, .slice A0_6 l0_6.length c0_6]] w fun e w' => e = .returned (.bool r) ∧ Below w.heap.size w w' := by
 have hu26 := Try.underlying26
 have HR0_2 := Aside0.mk hr0_2
 have HC0_2 := Aside0.mk hc0_2
 clear hr0_2 hc0_2
 have HR0_4 := Aside0.mk hr0_4
 have HC0_4 := Aside0.mk hc0_4
 clear hr0_4 hc0_4
 have HR0_5 := Aside0.mk hr0_5
 have HC0_5 := Aside0.mk hc0_5
 clear hr0_5 hc0_5
 have HR0_6 := Aside0.mk hr0_6
 have HC0_6 := Aside0.mk hc0_6
 clear hr0_6 hc0_6
 have HB := Aside0.mk (Below.refl w.heap.size w)
 have H : (if a0_1 ≥ 0 then (if a0_1 ≤ a0_0 then ((laminaref16_validHashes.f k a0_0 a0_1 l0_2 a0_3 l0_4 l0_5 l0_6).bind fun t116 => (if t116 = true then ((laminaref16_validCounters.f k a0_0 a0_1 l0_2 a0_3 l0_4 l0_5 l0_6).bind fun t117 => (if t117 = true then ((laminaref16_validFences.f a0_0 a0_1 l0_2 a0_3 l0_4 l0_5 l0_6).bind fun t118 => (some t118)) else (some false))) else (some false))) else (some false)) else (some false)) = some r := h
 clear h
 by_cases c2 : a0_1 ≥ 0
 ·rw [if_pos c2] at H
  have c2b0 : decide (0 ≤ a0_1) = true := decide_eq_true c2
  clear c2
  by_cases c3 : a0_1 ≤ a0_0
  ·rw [if_pos c3] at H
   have c3b0 : decide (a0_1 ≤ a0_0) = true := decide_eq_true c3
   clear c3
   replace H := Option.bind_eq_some_iff.mp H
   obtain ⟨t116, A40, H⟩ := H
   replace H : (if t116 = true then ((laminaref16_validCounters.f k a0_0 a0_1 l0_2 a0_3 l0_4 l0_5 l0_6).bind fun t117 => (if t117 = true then ((laminaref16_validFences.f a0_0 a0_1 l0_2 a0_3 l0_4 l0_5 l0_6).bind fun t118 => (some t118)) else (some false))) else (some false)) = some r := H
   have A4 := Aside0.mk A40
   clear A40
   by_cases c5 : t116 = true
   ·subst c5
    have H1 : ((laminaref16_validCounters.f k a0_0 a0_1 l0_2 a0_3 l0_4 l0_5 l0_6).bind fun t117 => (if t117 = true then ((laminaref16_validFences.f a0_0 a0_1 l0_2 a0_3 l0_4 l0_5 l0_6).bind fun t118 => (some t118)) else (some false))) = some r := by rw [if_pos rfl] at H; exact H
    clear H
    have H := H1
    clear H1
    replace H := Option.bind_eq_some_iff.mp H
    obtain ⟨t117, A60, H⟩ := H
    replace H : (if t117 = true then ((laminaref16_validFences.f a0_0 a0_1 l0_2 a0_3 l0_4 l0_5 l0_6).bind fun t118 => (some t118)) else (some false)) = some r := H
    have A6 := Aside0.mk A60
    clear A60
    by_cases c7 : t117 = true
    ·subst c7
     have H1 : ((laminaref16_validFences.f a0_0 a0_1 l0_2 a0_3 l0_4 l0_5 l0_6).bind fun t118 => (some t118)) = some r := by rw [if_pos rfl] at H; exact H
     clear H
     have H := H1
     clear H1
     replace H := Option.bind_eq_some_iff.mp H
     obtain ⟨t118, A80, H⟩ := H
     replace H : (some t118) = some r := H
     have A8 := Aside0.mk A80
     clear A80
     obtain rfl := Option.some.inj H
     go_enter Try.func11, Try.ntmps11
     go_wp2_with (first | ((with_reducible refine gate_dst (N := 1) rfl ?_); refine box_ 1 (cs := #[.int .i64 a0_0, .int .i64 a0_1, .slice A0_2 l0_2.length c0_2, .bool a0_3, .slice A0_4 l0_4.length c0_4, .slice A0_5 l0_5.length c0_5, .slice A0_6 l0_6.length c0_6]) (t := 26) ?_; intro gb115 hg w9 hbox hb; have BK115 := Aside0.mk (hbox); have GW115 := Aside0.mk ((by rw [hg]; exact (below_size (hb_ HB.out)) : w.heap.size ≤ gb115)); have GE115 := Aside0.mk ((by rw [hg]; exact (below_size (hb_ HB.out)) : w.heap.size ≤ gb115)); replace HB := Aside0.mk (below_step (hb_ HB.out) hb); clear hb hbox hg; obtain ⟨hcz10_0, hcz10_1, hcz10_2, hcz10_3, hcz10_4, hcz10_5, hcz10_6, hfz10_0, hfz10_1, hfz10_2, hfz10_3, hfz10_4, hfz10_5, hfz10_6⟩ := bf7 BK115.out) | (go_at_call 37; (with_reducible refine (laminaref16_validHashes.calls k a0_0 a0_1 _ _ l0_2 a0_3 _ _ l0_4 _ _ l0_5 _ _ l0_6 true _ ?side1 ?side2 ?side3 ?side4 ?side5 ?side6 ?side7 ?side8 A4.out).mono ?_); (case side1 => exact cb_ HR0_2.out HB.out); (case side2 => exact HC0_2.out); (case side3 => exact cb_ HR0_4.out HB.out); (case side4 => exact HC0_4.out); (case side5 => exact cb_ HR0_5.out HB.out); (case side6 => exact HC0_5.out); (case side7 => exact cb_ HR0_6.out HB.out); (case side8 => exact HC0_6.out); rintro e w11 ⟨rfl, hb⟩; replace BK115 := Aside0.mk (blk_below (bk_ BK115.out) hb); replace HB := Aside0.mk (below_step (hb1_ HB.out GE115.out) hb); (try clear hb); obtain ⟨hcz12_0, hcz12_1, hcz12_2, hcz12_3, hcz12_4, hcz12_5, hcz12_6, hfz12_0, hfz12_1, hfz12_2, hfz12_3, hfz12_4, hfz12_5, hfz12_6⟩ := bf7 BK115.out) | (go_at_call 38; (with_reducible refine (laminaref16_validCounters.calls k a0_0 a0_1 _ _ l0_2 a0_3 _ _ l0_4 _ _ l0_5 _ _ l0_6 true _ ?side1 ?side2 ?side3 ?side4 ?side5 ?side6 ?side7 ?side8 A6.out).mono ?_); (case side1 => exact cb_ HR0_2.out HB.out); (case side2 => exact HC0_2.out); (case side3 => exact cb_ HR0_4.out HB.out); (case side4 => exact HC0_4.out); (case side5 => exact cb_ HR0_5.out HB.out); (case side6 => exact HC0_5.out); (case side7 => exact cb_ HR0_6.out HB.out); (case side8 => exact HC0_6.out); rintro e w13 ⟨rfl, hb⟩; replace BK115 := Aside0.mk (blk_below (bk_ BK115.out) hb); replace HB := Aside0.mk (below_step (hb1_ HB.out GE115.out) hb); (try clear hb); obtain ⟨hcz14_0, hcz14_1, hcz14_2, hcz14_3, hcz14_4, hcz14_5, hcz14_6, hfz14_0, hfz14_1, hfz14_2, hfz14_3, hfz14_4, hfz14_5, hfz14_6⟩ := bf7 BK115.out) | (go_at_call 39; (with_reducible refine (laminaref16_validFences.calls a0_0 a0_1 _ _ l0_2 a0_3 _ _ l0_4 _ _ l0_5 _ _ l0_6 t118 _ ?side1 ?side2 ?side3 ?side4 ?side5 ?side6 ?side7 ?side8 A8.out).mono ?_); (case side1 => exact cb_ HR0_2.out HB.out); (case side2 => exact HC0_2.out); (case side3 => exact cb_ HR0_4.out HB.out); (case side4 => exact HC0_4.out); (case side5 => exact cb_ HR0_5.out HB.out); (case side6 => exact HC0_5.out); (case side7 => exact cb_ HR0_6.out HB.out); (case side8 => exact HC0_6.out); rintro e w15 ⟨rfl, hb⟩; replace BK115 := Aside0.mk (blk_below (bk_ BK115.out) hb); replace HB := Aside0.mk (below_step (hb1_ HB.out GE115.out) hb); (try clear hb)))
     go_ret
     exact er_ ((hb1_ HB.out GE115.out))
    ·replace c7 := Bool.eq_false_iff.mpr c7
     subst c7
     have H1 : (some false) = some r := by rw [if_neg (show ¬ (false = true) by decide)] at H; exact H
     clear H
     have H := H1
     clear H1
     obtain rfl := Option.some.inj H
     go_enter Try.func11, Try.ntmps11
     go_wp2_with (first | ((with_reducible refine gate_dst (N := 1) rfl ?_); refine box_ 1 (cs := #[.int .i64 a0_0, .int .i64 a0_1, .slice A0_2 l0_2.length c0_2, .bool a0_3, .slice A0_4 l0_4.length c0_4, .slice A0_5 l0_5.length c0_5, .slice A0_6 l0_6.length c0_6]) (t := 26) ?_; intro gb115 hg w16 hbox hb; have BK115 := Aside0.mk (hbox); have GW115 := Aside0.mk ((by rw [hg]; exact (below_size (hb_ HB.out)) : w.heap.size ≤ gb115)); have GE115 := Aside0.mk ((by rw [hg]; exact (below_size (hb_ HB.out)) : w.heap.size ≤ gb115)); replace HB := Aside0.mk (below_step (hb_ HB.out) hb); clear hb hbox hg; obtain ⟨hcz17_0, hcz17_1, hcz17_2, hcz17_3, hcz17_4, hcz17_5, hcz17_6, hfz17_0, hfz17_1, hfz17_2, hfz17_3, hfz17_4, hfz17_5, hfz17_6⟩ := bf7 BK115.out) | (go_at_call 37; (with_reducible refine (laminaref16_validHashes.calls k a0_0 a0_1 _ _ l0_2 a0_3 _ _ l0_4 _ _ l0_5 _ _ l0_6 true _ ?side1 ?side2 ?side3 ?side4 ?side5 ?side6 ?side7 ?side8 A4.out).mono ?_); (case side1 => exact cb_ HR0_2.out HB.out); (case side2 => exact HC0_2.out); (case side3 => exact cb_ HR0_4.out HB.out); (case side4 => exact HC0_4.out); (case side5 => exact cb_ HR0_5.out HB.out); (case side6 => exact HC0_5.out); (case side7 => exact cb_ HR0_6.out HB.out); (case side8 => exact HC0_6.out); rintro e w18 ⟨rfl, hb⟩; replace BK115 := Aside0.mk (blk_below (bk_ BK115.out) hb); replace HB := Aside0.mk (below_step (hb1_ HB.out GE115.out) hb); (try clear hb); obtain ⟨hcz19_0, hcz19_1, hcz19_2, hcz19_3, hcz19_4, hcz19_5, hcz19_6, hfz19_0, hfz19_1, hfz19_2, hfz19_3, hfz19_4, hfz19_5, hfz19_6⟩ := bf7 BK115.out) | (go_at_call 38; (with_reducible refine (laminaref16_validCounters.calls k a0_0 a0_1 _ _ l0_2 a0_3 _ _ l0_4 _ _ l0_5 _ _ l0_6 false _ ?side1 ?side2 ?side3 ?side4 ?side5 ?side6 ?side7 ?side8 A6.out).mono ?_); (case side1 => exact cb_ HR0_2.out HB.out); (case side2 => exact HC0_2.out); (case side3 => exact cb_ HR0_4.out HB.out); (case side4 => exact HC0_4.out); (case side5 => exact cb_ HR0_5.out HB.out); (case side6 => exact HC0_5.out); (case side7 => exact cb_ HR0_6.out HB.out); (case side8 => exact HC0_6.out); rintro e w20 ⟨rfl, hb⟩; replace BK115 := Aside0.mk (blk_below (bk_ BK115.out) hb); replace HB := Aside0.mk (below_step (hb1_ HB.out GE115.out) hb); (try clear hb)))
     go_ret
     exact er_ ((hb1_ HB.out GE115.out))
   ·replace c5 := Bool.eq_false_iff.mpr c5
    subst c5
    have H1 : (some false) = some r := by rw [if_neg (show ¬ (false = true) by decide)] at H; exact H
    clear H
    have H := H1
    clear H1
    obtain rfl := Option.some.inj H
    go_enter Try.func11, Try.ntmps11
    go_wp2_with (first | ((with_reducible refine gate_dst (N := 1) rfl ?_); refine box_ 1 (cs := #[.int .i64 a0_0, .int .i64 a0_1, .slice A0_2 l0_2.length c0_2, .bool a0_3, .slice A0_4 l0_4.length c0_4, .slice A0_5 l0_5.length c0_5, .slice A0_6 l0_6.length c0_6]) (t := 26) ?_; intro gb115 hg w21 hbox hb; have BK115 := Aside0.mk (hbox); have GW115 := Aside0.mk ((by rw [hg]; exact (below_size (hb_ HB.out)) : w.heap.size ≤ gb115)); have GE115 := Aside0.mk ((by rw [hg]; exact (below_size (hb_ HB.out)) : w.heap.size ≤ gb115)); replace HB := Aside0.mk (below_step (hb_ HB.out) hb); clear hb hbox hg; obtain ⟨hcz22_0, hcz22_1, hcz22_2, hcz22_3, hcz22_4, hcz22_5, hcz22_6, hfz22_0, hfz22_1, hfz22_2, hfz22_3, hfz22_4, hfz22_5, hfz22_6⟩ := bf7 BK115.out) | (go_at_call 37; (with_reducible refine (laminaref16_validHashes.calls k a0_0 a0_1 _ _ l0_2 a0_3 _ _ l0_4 _ _ l0_5 _ _ l0_6 false _ ?side1 ?side2 ?side3 ?side4 ?side5 ?side6 ?side7 ?side8 A4.out).mono ?_); (case side1 => exact cb_ HR0_2.out HB.out); (case side2 => exact HC0_2.out); (case side3 => exact cb_ HR0_4.out HB.out); (case side4 => exact HC0_4.out); (case side5 => exact cb_ HR0_5.out HB.out); (case side6 => exact HC0_5.out); (case side7 => exact cb_ HR0_6.out HB.out); (case side8 => exact HC0_6.out); rintro e w23 ⟨rfl, hb⟩; replace BK115 := Aside0.mk (blk_below (bk_ BK115.out) hb); replace HB := Aside0.mk (below_step (hb1_ HB.out GE115.out) hb); (try clear hb)))
    go_ret
    exact er_ ((hb1_ HB.out GE115.out))
  ·rw [if_neg c3] at H
   have c3b0 : decide (a0_1 ≤ a0_0) = false := decide_eq_false c3
   clear c3
   obtain rfl := Option.some.inj H
   go_enter Try.func11, Try.ntmps11
   go_wp2_with (first | ((with_reducible refine gate_dst (N := 1) rfl ?_); refine box_ 1 (cs := #[.int .i64 a0_0, .int .i64 a0_1, .slice A0_2 l0_2.length c0_2, .bool a0_3, .slice A0_4 l0_4.length c0_4, .slice A0_5 l0_5.length c0_5, .slice A0_6 l0_6.length c0_6]) (t := 26) ?_; intro gb115 hg w24 hbox hb; have BK115 := Aside0.mk (hbox); have GW115 := Aside0.mk ((by rw [hg]; exact (below_size (hb_ HB.out)) : w.heap.size ≤ gb115)); have GE115 := Aside0.mk ((by rw [hg]; exact (below_size (hb_ HB.out)) : w.heap.size ≤ gb115)); replace HB := Aside0.mk (below_step (hb_ HB.out) hb); clear hb hbox hg; obtain ⟨hcz25_0, hcz25_1, hcz25_2, hcz25_3, hcz25_4, hcz25_5, hcz25_6, hfz25_0, hfz25_1, hfz25_2, hfz25_3, hfz25_4, hfz25_5, hfz25_6⟩ := bf7 BK115.out))
   go_ret
   exact er_ ((hb1_ HB.out GE115.out))
 ·rw [if_neg c2] at H
  have c2b0 : decide (0 ≤ a0_1) = false := decide_eq_false c2
  clear c2
  obtain rfl := Option.some.inj H
  go_enter Try.func11, Try.ntmps11
  go_wp2_with (first | ((with_reducible refine gate_dst (N := 1) rfl ?_); refine box_ 1 (cs := #[.int .i64 a0_0, .int .i64 a0_1, .slice A0_2 l0_2.length c0_2, .bool a0_3, .slice A0_4 l0_4.length c0_4, .slice A0_5 l0_5.length c0_5, .slice A0_6 l0_6.length c0_6]) (t := 26) ?_; intro gb115 hg w26 hbox hb; have BK115 := Aside0.mk (hbox); have GW115 := Aside0.mk ((by rw [hg]; exact (below_size (hb_ HB.out)) : w.heap.size ≤ gb115)); have GE115 := Aside0.mk ((by rw [hg]; exact (below_size (hb_ HB.out)) : w.heap.size ≤ gb115)); replace HB := Aside0.mk (below_step (hb_ HB.out) hb); clear hb hbox hg; obtain ⟨hcz27_0, hcz27_1, hcz27_2, hcz27_3, hcz27_4, hcz27_5, hcz27_6, hfz27_0, hfz27_1, hfz27_2, hfz27_3, hfz27_4, hfz27_5, hfz27_6⟩ := bf7 BK115.out))
  go_ret
  exact er_ ((hb1_ HB.out GE115.out))
-- NOT PRINTED: function 112 (api_Value_112)
-- NOT PRINTED: function 128 (api_Value_128)
-- NOT PRINTED: function 113 (api_Value_113)
end Go.Proofs.Ytackcingpffidaa.P
namespace Go.Proofs.Ytackcingpffidaa.P
open Go.RowKit Go.Proofs.YtackcingpffidaaW.PrintWords Go.Proofs.YtackcingpffidaaW.PrintLast Go.Proofs.YtackcingpffidaaW.PrintMore
set_option linter.unusedVariables false
set_option linter.unusedSimpArgs false
/-- The reference's hashes, counters, fences with their ranks. -/
def cM (k : Nat) (l : List Int) : Nat → Int → Int → Int → Option (List Int × Int × Int)
 | 0, _, t, e => some ([], t, e)
 | m + 1, last, t, e => (cnumS k l t e).bind fun x => (cM k l m (IntKind.u64.wrap (last + x.1)) x.2.1 x.2.2).bind fun y => some (IntKind.u64.wrap (last + x.1) :: y.1, y.2)
def cC (k : Nat) (l : List Int) : Nat → Int → Int → Option (List Int × Int × Int)
 | 0, t, e => some ([], t, e)
 | m + 1, t, e => if e = 0 then (csmallS k l t e).bind fun x => (cC k l m x.2.1 x.2.2).bind fun y => some (x.1 :: y.1, y.2) else some ([], t, e)
def cF (k : Nat) (l : List Int) : Nat → Int → Int → Option (List S39 × List Int × Int × Int)
 | 0, t, e => some ([], [], t, e)
 | m + 1, t, e => (cvalS k l t e).bind fun v => (csmallS k l v.2.1 v.2.2).bind fun x => (csmallS k l x.2.1 x.2.2).bind fun y => (cF k l m y.2.1 y.2.2).bind fun z => some (v.1 :: z.1, x.1 :: y.1 :: z.2.1, z.2.2)
def laminaref16_Decode.f (k : Nat) (l : List Int) (off : Int) : Option (Int × Int × List Int × Bool × List Int × List S39 × List Int × Int × Int) :=
 if off < 0 ∨ (l.length : Int) < off then some (0, 0, [], false, [], [], [], 0, 1) else
 (csmallS k l off 0).bind fun x1 => (csmallS k l x1.2.1 x1.2.2).bind fun x2 => (ccountS k 32 l x2.2.1 x2.2.2).bind fun x3 => (cM k l x3.1.toNat 0 x3.2.1 x3.2.2).bind fun y3 => (flagS l y3.2.1 y3.2.2).bind fun x4 => (cC k l 256 x4.2.1 x4.2.2).bind fun y4 =>
 (ccountS k 17 l y4.2.1 y4.2.2).bind fun x5 => (cF k l x5.1.toNat x5.2.1 x5.2.2).bind fun y5 => if y5.2.2.2 = 0 then
  (laminaref16_Valid.f k x1.1 x2.1 y3.1 x4.1 y4.1 y5.1 y5.2.1).bind fun ok => if ok = true then some (x1.1, x2.1, y3.1, x4.1, y4.1, y5.1, y5.2.1, y5.2.2.1, 0) else some (0, 0, [], false, [], [], [], 0, 4)
 else some (0, 0, [], false, [], [], [], 0, y5.2.2.2)
theorem cM_succ {k : Nat} {l S : List Int} {m : Nat} {last t e t' e' : Int} (h : cM k l (m + 1) last t e = some (S, t', e')) : ∃ n ta ea S2, cnumS k l t e = some (n, ta, ea) ∧ cM k l m (IntKind.u64.wrap (last + n)) ta ea = some (S2, t', e') ∧ S = IntKind.u64.wrap (last + n) :: S2 := by
 unfold cM at h
 obtain ⟨⟨n, ta, ea⟩, hn, h⟩ := Option.bind_eq_some_iff.mp h
 obtain ⟨⟨S2, tb, eb⟩, hs, h⟩ := Option.bind_eq_some_iff.mp h
 obtain ⟨rfl, h2⟩ := Prod.mk.inj (Option.some.inj h)
 obtain ⟨rfl, rfl⟩ := Prod.mk.inj h2
 exact ⟨n, ta, ea, S2, hn, hs, rfl⟩
theorem cC_succ {k : Nat} {l S : List Int} {m : Nat} {t t' e' : Int} (h : cC k l (m + 1) t 0 = some (S, t', e')) : ∃ n ta ea S2, csmallS k l t 0 = some (n, ta, ea) ∧ cC k l m ta ea = some (S2, t', e') ∧ S = n :: S2 := by
 unfold cC at h
 rw [if_pos rfl] at h
 obtain ⟨⟨n, ta, ea⟩, hn, h⟩ := Option.bind_eq_some_iff.mp h
 obtain ⟨⟨S2, tb, eb⟩, hs, h⟩ := Option.bind_eq_some_iff.mp h
 obtain ⟨rfl, h2⟩ := Prod.mk.inj (Option.some.inj h)
 obtain ⟨rfl, rfl⟩ := Prod.mk.inj h2
 exact ⟨n, ta, ea, S2, hn, hs, rfl⟩
theorem cC_err {k : Nat} {l S : List Int} {m : Nat} {t e t' e' : Int} (he : e ≠ 0) (h : cC k l m t e = some (S, t', e')) : S = [] ∧ t = t' ∧ e = e' := by
 cases m with
 | zero => unfold cC at h; simpa [eq_comm] using h
 | succ m => unfold cC at h; rw [if_neg he] at h; simpa [eq_comm] using h
theorem cF_succ {k : Nat} {l : List Int} {S : List S39} {T : List Int} {m : Nat} {t e t' e' : Int} (h : cF k l (m + 1) t e = some (S, T, t', e')) : ∃ (f : S39) (ta ea n tb eb n2 tc ec : Int) (S2 : List S39) (T2 : List Int), cvalS k l t e = some (f, ta, ea) ∧ csmallS k l ta ea = some (n, tb, eb) ∧ csmallS k l tb eb = some (n2, tc, ec) ∧ cF k l m tc ec = some (S2, T2, t', e') ∧ S = f :: S2 ∧ T = n :: n2 :: T2 := by
 unfold cF at h
 obtain ⟨⟨f, ta, ea⟩, hv, h⟩ := Option.bind_eq_some_iff.mp h
 obtain ⟨⟨n, tb, eb⟩, hn, h⟩ := Option.bind_eq_some_iff.mp h
 obtain ⟨⟨n2, tc, ec⟩, hn2, h⟩ := Option.bind_eq_some_iff.mp h
 obtain ⟨⟨S2, T2, td, ed⟩, hs, h⟩ := Option.bind_eq_some_iff.mp h
 obtain ⟨rfl, h2⟩ := Prod.mk.inj (Option.some.inj h)
 obtain ⟨rfl, h3⟩ := Prod.mk.inj h2
 obtain ⟨rfl, rfl⟩ := Prod.mk.inj h3
 exact ⟨f, ta, ea, n, tb, eb, n2, tc, ec, S2, T2, hv, hn, hn2, hs, rfl, rfl⟩
theorem ccountS_le {k : Nat} {m : Int} {l : List Int} {t e n t' e' : Int} (hm : 0 ≤ m) (h : ccountS k m l t e = some (n, t', e')) : n ≤ m := by
 unfold ccountS at h
 obtain ⟨⟨a, b, c⟩, _, h⟩ := Option.bind_eq_some_iff.mp h
 split at h
 ·obtain ⟨rfl, _⟩ := Prod.mk.inj (Option.some.inj h); exact hm
 ·rename_i hh
  obtain ⟨rfl, _⟩ := Prod.mk.inj (Option.some.inj h); exact Int.not_lt.mp hh
theorem rdec_parts {k : Nat} {l : List Int} {off : Int} {r : Int × Int × List Int × Bool × List Int × List S39 × List Int × Int × Int} (ho : ¬(off < 0 ∨ (l.length : Int) < off)) (h : laminaref16_Decode.f k l off = some r) :
  ∃ m1 t1 e1 m2 t2 e2 m3 t3 e3 M t4 e4 b t5 e5 C t6 e6 m7 t7 e7 F R t8 e8, csmallS k l off 0 = some (m1, t1, e1) ∧ csmallS k l t1 e1 = some (m2, t2, e2) ∧ ccountS k 32 l t2 e2 = some (m3, t3, e3) ∧ cM k l m3.toNat 0 t3 e3 = some (M, t4, e4) ∧ flagS l t4 e4 = some (b, t5, e5) ∧ cC k l 256 t5 e5 = some (C, t6, e6) ∧ ccountS k 17 l t6 e6 = some (m7, t7, e7) ∧ cF k l m7.toNat t7 e7 = some (F, R, t8, e8) ∧
  (if e8 = 0 then (laminaref16_Valid.f k m1 m2 M b C F R).bind fun ok => if ok = true then some (m1, m2, M, b, C, F, R, t8, 0) else some (0, 0, [], false, [], [], [], 0, 4) else some (0, 0, [], false, [], [], [], 0, e8)) = some r := by
 unfold laminaref16_Decode.f at h
 rw [if_neg ho] at h
 obtain ⟨⟨m1, t1, e1⟩, h1, h⟩ := Option.bind_eq_some_iff.mp h
 obtain ⟨⟨m2, t2, e2⟩, h2, h⟩ := Option.bind_eq_some_iff.mp h
 obtain ⟨⟨m3, t3, e3⟩, h3, h⟩ := Option.bind_eq_some_iff.mp h
 obtain ⟨⟨M, t4, e4⟩, h4, h⟩ := Option.bind_eq_some_iff.mp h
 obtain ⟨⟨b, t5, e5⟩, h5, h⟩ := Option.bind_eq_some_iff.mp h
 obtain ⟨⟨C, t6, e6⟩, h6, h⟩ := Option.bind_eq_some_iff.mp h
 obtain ⟨⟨m7, t7, e7⟩, h7, h⟩ := Option.bind_eq_some_iff.mp h
 obtain ⟨⟨F, R, t8, e8⟩, h8, h⟩ := Option.bind_eq_some_iff.mp h
 exact ⟨m1, t1, e1, m2, t2, e2, m3, t3, e3, M, t4, e4, b, t5, e5, C, t6, e6, m7, t7, e7, F, R, t8, e8, h1, h2, h3, h4, h5, h6, h7, h8, h⟩
end Go.Proofs.Ytackcingpffidaa.P
