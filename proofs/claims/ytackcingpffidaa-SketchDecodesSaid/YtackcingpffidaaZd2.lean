/- What Go functions of the given program return, told as Lean functions, and the walks that show it, with plain facts on them: laminaref16_validCounters, laminaref16_span, laminaref04_sign, laminaref04_Compare, laminaref04_Valid, laminaref04_Boolean, U2, sketch_spread, sketch_count, U3, U4, H53, Sh, S18, S19, S20, U8. Conditions: the hypotheses that stand at each theorem. -/
import Derived.Sort.Grow
import Derived.Shelf.SlSortCmp.WholeK
import Derived.Shelf.SlicesE.Compact
import Derived.Sort.AssemblyPlain
import Derived.Shelf.SlSortCmp.NoneTotal
import Derived.Test.YtackcingpffidaaZd0
import Derived.Test.YtackcingpffidaaZd1
namespace Go.Proofs.Ytackcingpffidaa.P
open Go.RowKit Go.Proofs.YtackcingpffidaaW.PrintWords Go.Proofs.YtackcingpffidaaW.PrintLast Go.Proofs.YtackcingpffidaaW.PrintMore
attribute [local go_sem] max2_int min2_int max_two min_two max_three min_three max_four min_four Go.Proofs.YtackcingpffidaaQ.str_gtr Go.Proofs.YtackcingpffidaaQ.str_leq Go.Proofs.YtackcingpffidaaQ.str_geq   -- for this text's walks alone
set_option linter.unusedVariables false
set_option linter.unusedSimpArgs false
/-! ### laminaref16_validCounters: function 38 -/
mutual
def laminaref16_validCounters.l0 : Nat → Int → Int → Int → List Int → Bool → List Int → List (S39) → List Int → Option (Bool)
 | 0, _, _, _, _, _, _, _, _ => none
 | k + 1, x3, x107000, x107001, x107002, x107003, x107004, x107005, x107006 => if x3 < 4 then ((laminaref16_values.f x107000 x107001 x107002 x107003 x107004 x107005 x107006).bind fun t107 => (laminaref16_validCounters.l1 k x3 t107 0 x107000 x107001 x107002 x107003 x107004 x107005 x107006)) else (some true)
def laminaref16_validCounters.l1 : Nat → Int → Int → Int → Int → Int → List Int → Bool → List Int → List (S39) → List Int → Option (Bool)
 | 0, _, _, _, _, _, _, _, _, _, _ => none
 | k + 1, x3, x4, x5, x107000, x107001, x107002, x107003, x107004, x107005, x107006 => if x5 < 64 then (if 0 ≤ (wrap64 ((wrap64 (x3 * 64)) + x5)) then (if (wrap64 ((wrap64 (x3 * 64)) + x5)) < (x107004.length : Int) then (if (rd x107004 (wrap64 ((wrap64 (x3 * 64)) + x5))) < 0 then (some false) else (if (rd x107004 (wrap64 ((wrap64 (x3 * 64)) + x5))) > x4 then (some false) else (laminaref16_validCounters.l1 k x3 (wrap64 (x4 - (rd x107004 (wrap64 ((wrap64 (x3 * 64)) + x5))))) (wrap64 (x5 + 1)) x107000 x107001 x107002 x107003 x107004 x107005 x107006))) else (none)) else (none)) else (if x4 = 0 then (laminaref16_validCounters.l0 k (wrap64 (x3 + 1)) x107000 x107001 x107002 x107003 x107004 x107005 x107006) else (some false))
end
def laminaref16_validCounters.f (k : Nat) (a0_0 : Int) (a0_1 : Int) (l0_2 : List Int) (a0_3 : Bool) (l0_4 : List Int) (l0_5 : List (S39)) (l0_6 : List Int) : Option (Bool) := if (l0_4.length : Int) = 256 then (laminaref16_validCounters.l0 k 0 a0_0 a0_1 l0_2 a0_3 l0_4 l0_5 l0_6) else (some false)
theorem laminaref16_validCounters.mono_l : ∀ k, (∀ y0 y1 y2 y3 y4 y5 y6 y7, LeO (laminaref16_validCounters.l0 k y0 y1 y2 y3 y4 y5 y6 y7) (laminaref16_validCounters.l0 (k + 1) y0 y1 y2 y3 y4 y5 y6 y7)) ∧ (∀ y0 y1 y2 y3 y4 y5 y6 y7 y8 y9, LeO (laminaref16_validCounters.l1 k y0 y1 y2 y3 y4 y5 y6 y7 y8 y9) (laminaref16_validCounters.l1 (k + 1) y0 y1 y2 y3 y4 y5 y6 y7 y8 y9))
 | 0 => ⟨fun _ _ _ _ _ _ _ _ r h => by simp [laminaref16_validCounters.l0] at h, fun _ _ _ _ _ _ _ _ _ _ r h => by simp [laminaref16_validCounters.l1] at h⟩
 | k + 1 => by
  obtain ⟨ih0, ih1⟩ := laminaref16_validCounters.mono_l k
  refine ⟨?_, ?_⟩
  ·intro y0 y1 y2 y3 y4 y5 y6 y7
   unfold laminaref16_validCounters.l0
   repeat' first
   | (with_reducible exact ih0 _ _ _ _ _ _ _ _)
   | (with_reducible exact ih1 _ _ _ _ _ _ _ _ _ _)
   | (with_reducible exact LeO.refl _)
   | (with_reducible exact LeO.none _)
   | (with_reducible refine LeO.ite ?_ ?_)
   | (with_reducible refine LeO.bind ?_ (fun _ => ?_))
   | exact ih0 _ _ _ _ _ _ _ _
   | exact ih1 _ _ _ _ _ _ _ _ _ _
   | exact LeO.none _
   | refine LeO.ite ?_ ?_
   | refine LeO.bind ?_ (fun _ => ?_)
  ·intro y0 y1 y2 y3 y4 y5 y6 y7 y8 y9
   unfold laminaref16_validCounters.l1
   repeat' first
   | (with_reducible exact ih0 _ _ _ _ _ _ _ _)
   | (with_reducible exact ih1 _ _ _ _ _ _ _ _ _ _)
   | (with_reducible exact LeO.refl _)
   | (with_reducible exact LeO.none _)
   | (with_reducible refine LeO.ite ?_ ?_)
   | (with_reducible refine LeO.bind ?_ (fun _ => ?_))
   | exact ih0 _ _ _ _ _ _ _ _
   | exact ih1 _ _ _ _ _ _ _ _ _ _
   | exact LeO.none _
   | refine LeO.ite ?_ ?_
   | refine LeO.bind ?_ (fun _ => ?_)
theorem laminaref16_validCounters.mono : ∀ a0 a1 a2 a3 a4 a5 a6 k, LeO (laminaref16_validCounters.f k a0 a1 a2 a3 a4 a5 a6) (laminaref16_validCounters.f (k + 1) a0 a1 a2 a3 a4 a5 a6) := by
 intro a0 a1 a2 a3 a4 a5 a6 k
 obtain ⟨ih0, ih1⟩ := laminaref16_validCounters.mono_l k
 unfold laminaref16_validCounters.f
 repeat' first
   | (with_reducible exact ih0 _ _ _ _ _ _ _ _)
   | (with_reducible exact ih1 _ _ _ _ _ _ _ _ _ _)
   | (with_reducible exact LeO.refl _)
   | (with_reducible exact LeO.none _)
   | (with_reducible refine LeO.ite ?_ ?_)
   | (with_reducible refine LeO.bind ?_ (fun _ => ?_))
   | exact ih0 _ _ _ _ _ _ _ _
   | exact ih1 _ _ _ _ _ _ _ _ _ _
   | exact LeO.none _
   | refine LeO.ite ?_ ?_
   | refine LeO.bind ?_ (fun _ => ?_)
set_option maxHeartbeats 8000000 in
set_option maxRecDepth 100000 in
theorem laminaref16_validCounters.calls (k : Nat) (a0_0 : Int) (a0_1 : Int) (A0_2 : Option Addr) (c0_2 : Nat) (l0_2 : List Int) (a0_3 : Bool) (A0_4 : Option Addr) (c0_4 : Nat) (l0_4 : List Int) (A0_5 : Option Addr) (c0_5 : Nat) (l0_5 : List (S39)) (A0_6 : Option Addr) (c0_6 : Nat) (l0_6 : List Int) (r : Bool) (w : World) (hr0_2 : Kd.C (Kd.int .u64) w A0_2 l0_2.length l0_2) (hc0_2 : l0_2.length ≤ c0_2) (hr0_4 : Kd.C (Kd.int .i64) w A0_4 l0_4.length l0_4) (hc0_4 : l0_4.length ≤ c0_4) (hr0_5 : Kd.C k39 w A0_5 l0_5.length l0_5) (hc0_5 : l0_5.length ≤ c0_5) (hr0_6 : Kd.C (Kd.int .i64) w A0_6 l0_6.length l0_6) (hc0_6 : l0_6.length ≤ c0_6) (h : laminaref16_validCounters.f k a0_0 a0_1 l0_2 a0_3 l0_4 l0_5 l0_6 = some r) :
  Calls Try.prog 38 #[.agg #[.int .i64 a0_0, .int .i64 a0_1, .slice A0_2 l0_2.length c0_2, .bool a0_3, .slice A0_4 l0_4.length c0_4, .slice A0_5 l0_5.length c0_5, .slice A0_6 l0_6.length c0_6]] w fun e w' => e = .returned (.bool r) ∧ Below w.heap.size w w' := by
 have hu26 := Try.underlying26
 have HR0_2 := Aside0.mk hr0_2
 have HC0_2 := Aside0.mk hc0_2
 clear hr0_2 hc0_2
 have HR0_4 := Aside0.mk hr0_4
 have HC0_4 := Aside0.mk hc0_4
 clear hr0_4 hc0_4
 have HR0_5 := Aside0.mk hr0_5
 have HC0_5 := Aside0.mk hc0_5
 clear hr0_5 hc0_5
 have HR0_6 := Aside0.mk hr0_6
 have HC0_6 := Aside0.mk hc0_6
 clear hr0_6 hc0_6
 have HB := Aside0.mk (Below.refl w.heap.size w)
 have H : (if (l0_4.length : Int) = 256 then (laminaref16_validCounters.l0 k 0 a0_0 a0_1 l0_2 a0_3 l0_4 l0_5 l0_6) else (some false)) = some r := h
 clear h
 by_cases c2 : (l0_4.length : Int) = 256
 ·rw [if_pos c2] at H
  have c2b0 : ((l0_4.length : Int) == 256) = true := beq_iff_eq.mpr c2
  have c2b1 : ((l0_4.length : Int) != 256) = false := bne_eq_false_iff_eq.mpr c2
  clear c2
  have H' := Aside0.mk H
  clear H
  go_enter Try.func38, Try.ntmps38
  go_wp2_with (first | ((with_reducible refine gate_dst (N := 1) rfl ?_); refine box_ 1 (cs := #[.int .i64 a0_0, .int .i64 a0_1, .slice A0_2 l0_2.length c0_2, .bool a0_3, .slice A0_4 l0_4.length c0_4, .slice A0_5 l0_5.length c0_5, .slice A0_6 l0_6.length c0_6]) (t := 26) ?_; intro gb106 hg w3 hbox hb; have BK106 := Aside0.mk (hbox); have GW106 := Aside0.mk ((by rw [hg]; exact (below_size (hb_ HB.out)) : w.heap.size ≤ gb106)); have GE106 := Aside0.mk ((by rw [hg]; exact (below_size (hb_ HB.out)) : w.heap.size ≤ gb106)); replace HB := Aside0.mk (below_step (hb_ HB.out) hb); clear hb hbox hg; obtain ⟨hcz4_0, hcz4_1, hcz4_2, hcz4_3, hcz4_4, hcz4_5, hcz4_6, hfz4_0, hfz4_1, hfz4_2, hfz4_3, hfz4_4, hfz4_5, hfz4_6⟩ := bf7 BK106.out))
  go_loopg [3] k (fun kq v3 w' => ∃ (x3_1 : Int), v3 = .int .i64 x3_1 ∧ Aside0 (laminaref16_validCounters.l0 kq x3_1 a0_0 a0_1 l0_2 a0_3 l0_4 l0_5 l0_6 = some r) ∧ Aside0 (kq ≤ k) ∧ Aside0 (w'.heap[gb106]? = some (.cells #[.int .i64 a0_0, .int .i64 a0_1, (.slice A0_2 l0_2.length c0_2), .bool a0_3, (.slice A0_4 l0_4.length c0_4), (.slice A0_5 l0_5.length c0_5), (.slice A0_6 l0_6.length c0_6)] 26 (0, 0))) ∧ Aside0 (Below w.heap.size w w'))
  case atStart => exact ⟨(0), (by first | rfl | (simp; done) | (simp [*]; done)), H', ⟨Nat.le_refl _⟩, ⟨by (with_reducible repeat (first | refine blk_drewN ?_ _ | refine blk_drew ?_ | refine blk_alloc ?_ _)); exact BK106.out⟩, ⟨(hb1_ HB.out GE106.out)⟩⟩
  case round =>
   clear H'
   try clear c2
   try clear c2b0
   try clear c2b1
   try clear p2
   try clear c3
   try clear hcz4_0 hcz4_1 hcz4_2 hcz4_3 hcz4_4 hcz4_5 hcz4_6 hfz4_0 hfz4_1 hfz4_2 hfz4_3 hfz4_4 hfz4_5 hfz4_6
   obtain ⟨x3_1, rfl, HA, HK1, BK106, HB⟩ := hrel
   cases gk with
   | zero => exact absurd HA.out (by simp [laminaref16_validCounters.l0])
   | succ k1 =>
    have H := HA.out
    clear HA
    simp only [laminaref16_validCounters.l0] at H
    by_cases c5 : x3_1 < 4
    ·rw [if_pos c5] at H
     have c5b0 : decide (x3_1 < 4) = true := decide_eq_true c5
     clear c5
     replace H := Option.bind_eq_some_iff.mp H
     obtain ⟨t107, A60, H⟩ := H
     replace H : (laminaref16_validCounters.l1 k1 x3_1 t107 0 a0_0 a0_1 l0_2 a0_3 l0_4 l0_5 l0_6) = some r := H
     have A6 := Aside0.mk A60
     clear A60
     have H' := Aside0.mk H
     clear H
     obtain ⟨hcz7_0, hcz7_1, hcz7_2, hcz7_3, hcz7_4, hcz7_5, hcz7_6, hfz7_0, hfz7_1, hfz7_2, hfz7_3, hfz7_4, hfz7_5, hfz7_6⟩ := bf7 BK106.out
     go_wp2_with (first | ((with_reducible refine gate_callee (f := 80) rfl ?_); refine goesL_ (some 16) rfl rfl Try.func80 (by kernel_rfl) rfl #[.agg #[.int .i64 a0_0, .int .i64 a0_1, .slice A0_2 l0_2.length c0_2, .bool a0_3, .slice A0_4 l0_4.length c0_4, .slice A0_5 l0_5.length c0_5, .slice A0_6 l0_6.length c0_6]] rfl (by (try simp only [List.map_toArray, List.map_cons, List.map_nil]); first | done | rfl | (simp only [List.length_drop, List.length_take]; rfl) | (simp only [Int.ofNat_lt, Int.ofNat_le, gt_iff_lt, ge_iff_le]; rfl)) ?_; (with_reducible refine (laminaref16_values.calls a0_0 a0_1 _ _ l0_2 a0_3 _ _ l0_4 _ _ l0_5 _ _ l0_6 t107 _ ?side1 ?side2 ?side3 ?side4 ?side5 ?side6 ?side7 ?side8 A6.out).mono ?_); (case side1 => exact cb_ HR0_2.out HB.out); (case side2 => exact HC0_2.out); (case side3 => exact cb_ HR0_4.out HB.out); (case side4 => exact HC0_4.out); (case side5 => exact cb_ HR0_5.out HB.out); (case side6 => exact HC0_5.out); (case side7 => exact cb_ HR0_6.out HB.out); (case side8 => exact HC0_6.out); rintro e w8 ⟨rfl, hb⟩; refine ⟨_, rfl, ?_⟩; replace BK106 := Aside0.mk (blk_below (bk_ BK106.out) hb); replace HB := Aside0.mk (below_step (hb1_ HB.out GE106.out) hb); (try clear hb)))
     go_loopg [4, 5] k1 (fun kq v4 v5 w' => ∃ (x4_2 : Int) (x5_2 : Int), v4 = .int .i64 x4_2 ∧ v5 = .int .i64 x5_2 ∧ Aside0 (laminaref16_validCounters.l1 kq x3_1 x4_2 x5_2 a0_0 a0_1 l0_2 a0_3 l0_4 l0_5 l0_6 = some r) ∧ Aside0 (kq ≤ k1) ∧ Aside0 (w'.heap[gb106]? = some (.cells #[.int .i64 a0_0, .int .i64 a0_1, (.slice A0_2 l0_2.length c0_2), .bool a0_3, (.slice A0_4 l0_4.length c0_4), (.slice A0_5 l0_5.length c0_5), (.slice A0_6 l0_6.length c0_6)] 26 (0, 0))) ∧ Aside0 (Below w.heap.size w w'))
     case atStart => exact ⟨(t107), (0), (by first | rfl | (simp; done) | (simp [*]; done)), (by first | rfl | (simp; done) | (simp [*]; done)), H', ⟨Nat.le_refl _⟩, ⟨by (with_reducible repeat (first | refine blk_drewN ?_ _ | refine blk_drew ?_ | refine blk_alloc ?_ _)); exact BK106.out⟩, ⟨(hb1_ HB.out GE106.out)⟩⟩
     case round =>
      clear H'
      try clear c2
      try clear c2b0
      try clear c2b1
      try clear p2
      try clear c3
      try clear c5
      try clear c5b0
      try clear c8
      try clear hcz4_0 hcz4_1 hcz4_2 hcz4_3 hcz4_4 hcz4_5 hcz4_6 hfz4_0 hfz4_1 hfz4_2 hfz4_3 hfz4_4 hfz4_5 hfz4_6
      try clear hcz7_0 hcz7_1 hcz7_2 hcz7_3 hcz7_4 hcz7_5 hcz7_6 hfz7_0 hfz7_1 hfz7_2 hfz7_3 hfz7_4 hfz7_5 hfz7_6
      try clear p2
      obtain ⟨x4_2, x5_2, rfl, rfl, HA, HK2, BK106, HB⟩ := hrel
      cases gk with
      | zero => exact absurd HA.out (by simp [laminaref16_validCounters.l1])
      | succ k2 =>
       have H := HA.out
       clear HA
       simp only [laminaref16_validCounters.l1] at H
       by_cases c9 : x5_2 < 64
       ·rw [if_pos c9] at H
        have c9b0 : decide (x5_2 < 64) = true := decide_eq_true c9
        clear c9
        obtain ⟨ji10, hji10⟩ : ∃ j_ : Int, (wrap64 ((wrap64 (x3_1 * 64)) + x5_2)) = j_ := ⟨_, rfl⟩
        replace H : (if 0 ≤ (ji10) then (if (ji10) < (l0_4.length : Int) then (if (rd l0_4 (ji10)) < 0 then (some false) else (if (rd l0_4 (ji10)) > x4_2 then (some false) else (laminaref16_validCounters.l1 k2 x3_1 (wrap64 (x4_2 - (rd l0_4 (ji10)))) (wrap64 (x5_2 + 1)) a0_0 a0_1 l0_2 a0_3 l0_4 l0_5 l0_6))) else (none)) else (none)) = some r := by first | (rw [hji10] at H; exact H) | (simp only [hji10] at H ⊢; exact H)
        have hji10w : (IntKind.i64.wrap ((wrap64 (x3_1 * 64)) + x5_2)) = ji10 := (i64_w _).trans hji10
        by_cases c11 : 0 ≤ (ji10)
        ·rw [if_pos c11] at H
         have c11b0 : decide (0 ≤ (ji10)) = true := decide_eq_true c11
         clear c11
         by_cases c12 : (ji10) < (l0_4.length : Int)
         ·rw [if_pos c12] at H
          have c12b0 : decide ((ji10) < (l0_4.length : Int)) = true := decide_eq_true c12
          clear c12
          by_cases c13 : (rd l0_4 (ji10)) < 0
          ·rw [if_pos c13] at H
           have c13b0 : decide ((rd l0_4 (ji10)) < 0) = true := decide_eq_true c13
           clear c13
           obtain rfl := Option.some.inj H
           obtain ⟨hcz14_0, hcz14_1, hcz14_2, hcz14_3, hcz14_4, hcz14_5, hcz14_6, hfz14_0, hfz14_1, hfz14_2, hfz14_3, hfz14_4, hfz14_5, hfz14_6⟩ := bf7 BK106.out
           have p108 : 0 ≤ ((ji10) : Int) := of_decide_eq_true (by first | (with_reducible assumption) | assumption)
           have q108 : (ji10) < (l0_4.length : Int) := of_decide_eq_true (by first | (with_reducible assumption) | assumption)
           obtain ⟨ad108, e108, hx108_0⟩ := Kd.at_int HR0_4.out (ji10) p108 q108
           cases e108
           replace hx108_0 := up_ HB.out hx108_0
           replace p108 := eq_true p108
           replace q108 := eq_true q108
           go_wp2
           go_ret
           exact ⟨by first | rfl | (simp [errW_none, errW_some] <;> rfl) | (simp only [← hji10]; first | rfl | (simp [errW_none, errW_some] <;> rfl)) | (simp [*, errW_none, errW_some] <;> rfl), (hb1_ HB.out GE106.out)⟩
          ·rw [if_neg c13] at H
           have c13b0 : decide ((rd l0_4 (ji10)) < 0) = false := decide_eq_false c13
           clear c13
           by_cases c15 : (rd l0_4 (ji10)) > x4_2
           ·rw [if_pos c15] at H
            have c15b0 : decide (x4_2 < (rd l0_4 (ji10))) = true := decide_eq_true c15
            clear c15
            obtain rfl := Option.some.inj H
            obtain ⟨hcz16_0, hcz16_1, hcz16_2, hcz16_3, hcz16_4, hcz16_5, hcz16_6, hfz16_0, hfz16_1, hfz16_2, hfz16_3, hfz16_4, hfz16_5, hfz16_6⟩ := bf7 BK106.out
            have p108 : 0 ≤ ((ji10) : Int) := of_decide_eq_true (by first | (with_reducible assumption) | assumption)
            have q108 : (ji10) < (l0_4.length : Int) := of_decide_eq_true (by first | (with_reducible assumption) | assumption)
            obtain ⟨ad108, e108, hx108_0⟩ := Kd.at_int HR0_4.out (ji10) p108 q108
            cases e108
            replace hx108_0 := up_ HB.out hx108_0
            replace p108 := eq_true p108
            replace q108 := eq_true q108
            go_wp2
            go_ret
            exact ⟨by first | rfl | (simp [errW_none, errW_some] <;> rfl) | (simp only [← hji10]; first | rfl | (simp [errW_none, errW_some] <;> rfl)) | (simp [*, errW_none, errW_some] <;> rfl), (hb1_ HB.out GE106.out)⟩
           ·rw [if_neg c15] at H
            have c15b0 : decide (x4_2 < (rd l0_4 (ji10))) = false := decide_eq_false c15
            clear c15
            have H' := Aside0.mk H
            clear H
            obtain ⟨hcz17_0, hcz17_1, hcz17_2, hcz17_3, hcz17_4, hcz17_5, hcz17_6, hfz17_0, hfz17_1, hfz17_2, hfz17_3, hfz17_4, hfz17_5, hfz17_6⟩ := bf7 BK106.out
            have p108 : 0 ≤ ((ji10) : Int) := of_decide_eq_true (by first | (with_reducible assumption) | assumption)
            have q108 : (ji10) < (l0_4.length : Int) := of_decide_eq_true (by first | (with_reducible assumption) | assumption)
            obtain ⟨ad108, e108, hx108_0⟩ := Kd.at_int HR0_4.out (ji10) p108 q108
            cases e108
            replace hx108_0 := up_ HB.out hx108_0
            replace p108 := eq_true p108
            replace q108 := eq_true q108
            go_wp2
            go_roundg k2
            case measure => have := HK1.out; have := HK2.out; omega
            case rel => exact ⟨(wrap64 (x4_2 - (rd l0_4 (ji10)))), (wrap64 (x5_2 + 1)), (by first | rfl | (simp; done) | (simp only [← hji10] <;> (first | rfl | simp)) | (simp [*]; done)), (by first | rfl | (simp; done) | (simp [*]; done)), H', ⟨by have := HK1.out; have := HK2.out; omega⟩, ⟨by (with_reducible repeat (first | refine blk_drewN ?_ _ | refine blk_drew ?_ | refine blk_alloc ?_ _)); exact BK106.out⟩, ⟨(hb1_ HB.out GE106.out)⟩⟩
         ·rw [if_neg c12] at H
          exact absurd H (by simp)
        ·rw [if_neg c11] at H
         exact absurd H (by simp)
       ·rw [if_neg c9] at H
        have c9b0 : decide (x5_2 < 64) = false := decide_eq_false c9
        clear c9
        by_cases c18 : x4_2 = 0
        ·rw [if_pos c18] at H
         have c18b0 : (x4_2 == 0) = true := beq_iff_eq.mpr c18
         have c18b1 : (x4_2 != 0) = false := bne_eq_false_iff_eq.mpr c18
         clear c18
         have H' := Aside0.mk H
         clear H
         go_wp2
         go_roundg k2
         case measure => have := HK1.out; have := HK2.out; omega
         case rel => exact ⟨(wrap64 (x3_1 + 1)), (by first | rfl | (simp; done) | (simp [*]; done)), H', ⟨by have := HK1.out; have := HK2.out; omega⟩, ⟨by (with_reducible repeat (first | refine blk_drewN ?_ _ | refine blk_drew ?_ | refine blk_alloc ?_ _)); exact BK106.out⟩, ⟨(hb1_ HB.out GE106.out)⟩⟩
        ·rw [if_neg c18] at H
         have c18b0 : (x4_2 == 0) = false := beq_eq_false_iff_ne.mpr c18
         have c18b1 : (x4_2 != 0) = true := bne_iff_ne.mpr c18
         obtain rfl := Option.some.inj H
         go_wp2
         go_ret
         exact er_ ((hb1_ HB.out GE106.out))
    ·rw [if_neg c5] at H
     have c5b0 : decide (x3_1 < 4) = false := decide_eq_false c5
     clear c5
     obtain rfl := Option.some.inj H
     go_wp2
     go_ret
     exact er_ ((hb1_ HB.out GE106.out))
 ·rw [if_neg c2] at H
  have c2b0 : ((l0_4.length : Int) == 256) = false := beq_eq_false_iff_ne.mpr c2
  have c2b1 : ((l0_4.length : Int) != 256) = true := bne_iff_ne.mpr c2
  obtain rfl := Option.some.inj H
  go_enter Try.func38, Try.ntmps38
  go_wp2_with (first | ((with_reducible refine gate_dst (N := 1) rfl ?_); refine box_ 1 (cs := #[.int .i64 a0_0, .int .i64 a0_1, .slice A0_2 l0_2.length c0_2, .bool a0_3, .slice A0_4 l0_4.length c0_4, .slice A0_5 l0_5.length c0_5, .slice A0_6 l0_6.length c0_6]) (t := 26) ?_; intro gb106 hg w19 hbox hb; have BK106 := Aside0.mk (hbox); have GW106 := Aside0.mk ((by rw [hg]; exact (below_size (hb_ HB.out)) : w.heap.size ≤ gb106)); have GE106 := Aside0.mk ((by rw [hg]; exact (below_size (hb_ HB.out)) : w.heap.size ≤ gb106)); replace HB := Aside0.mk (below_step (hb_ HB.out) hb); clear hb hbox hg; obtain ⟨hcz20_0, hcz20_1, hcz20_2, hcz20_3, hcz20_4, hcz20_5, hcz20_6, hfz20_0, hfz20_1, hfz20_2, hfz20_3, hfz20_4, hfz20_5, hfz20_6⟩ := bf7 BK106.out))
  go_ret
  exact er_ ((hb1_ HB.out GE106.out))
/-! ### laminaref16_span: function 76 -/
def laminaref16_span.f (a0 : Int) (a1 : Int) : Option (Int × Int) := some (a0, a1)
set_option maxHeartbeats 8000000 in
set_option maxRecDepth 100000 in
theorem laminaref16_span.calls (a0 : Int) (a1 : Int) (r1 : Int) (r2 : Int) (w : World) (h : laminaref16_span.f a0 a1 = some (r1, r2)) :
  Calls Try.prog 76 #[.int .i64 a0, .int .i64 a1] w fun e w' => e = .returned (.agg #[.int .i64 r1, .int .i64 r2]) ∧ Below w.heap.size w w' := by
 have hu44 := Try.underlying44
 have HB := Aside0.mk (Below.refl w.heap.size w)
 have H : (some (a0, a1)) = some (r1, r2) := h
 clear h
 simp only [Option.some.injEq, Prod.mk.injEq] at H
 obtain ⟨rfl, rfl⟩ := H
 go_enter Try.func76, Try.ntmps76
 go_wp2_with (first | ((with_reducible refine gate_dst (N := 4) rfl ?_); refine box_ 4 (cs := #[.int .i64 0, .int .i64 0]) (t := 44) ?_; intro gb132 hg w3 hbox hb; have BK132 := Aside0.mk (hbox); have GW132 := Aside0.mk ((by rw [hg]; exact (below_size (hb_ HB.out)) : w.heap.size ≤ gb132)); have GE132 := Aside0.mk ((by rw [hg]; exact (below_size (hb_ HB.out)) : w.heap.size ≤ gb132)); replace HB := Aside0.mk (below_step (hb_ HB.out) hb); clear hb hbox hg; obtain ⟨hcz4_0, hcz4_1, hfz4_0, hfz4_1⟩ := bf2 BK132.out))
 refine bodyPost_ret (results_cell_row rfl _ _ gb132 44 #[.int .i64 a0, .int .i64 a1] (0, 0) _ rfl (by (with_reducible repeat (first | refine blk_drewN ?_ _ | refine blk_drew ?_ | refine blk_alloc ?_ _)); refine blk_put (cs := #[.int .i64 a0, .int .i64 0]) ?_ 1 _ rfl; (with_reducible repeat (first | refine blk_drewN ?_ _ | refine blk_drew ?_ | refine blk_alloc ?_ _)); refine blk_put (cs := #[.int .i64 0, .int .i64 0]) ?_ 0 _ rfl; (with_reducible repeat (first | refine blk_drewN ?_ _ | refine blk_drew ?_ | refine blk_alloc ?_ _)); exact BK132.out) Try.underlying44 rfl (by kernel_rfl)) rfl ?_
 exact er_ ((hb1_ HB.out GE132.out))
/-! ### laminaref04_sign: function 82 -/
def laminaref04_sign.f (a0 : Bool) (a1 : Bool) : Option (Int) := if a0 = true then (some (-1)) else (if a1 = true then (some 1) else (some 0))
set_option maxHeartbeats 8000000 in
set_option maxRecDepth 100000 in
theorem laminaref04_sign.calls (a0 : Bool) (a1 : Bool) (r : Int) (w : World) (h : laminaref04_sign.f a0 a1 = some r) :
  Calls Try.prog 82 #[.bool a0, .bool a1] w fun e w' => e = .returned (.int .i64 r) ∧ Drawn0 w w' := by
 have H : (if a0 = true then (some (-1)) else (if a1 = true then (some 1) else (some 0))) = some r := h
 clear h
 by_cases c3 : a0 = true
 ·subst c3
  have H1 : (some (-1)) = some r := by rw [if_pos rfl] at H; exact H
  clear H
  have H := H1
  clear H1
  obtain rfl := Option.some.inj H
  go_enter Try.func82, Try.ntmps82
  go_wp2
  go_ret
  exact ⟨by first | rfl | (simp; done) | (simp [*]; done), by repeat (first | exact Drawn0.refl _ | apply Drawn0.step)⟩
 ·replace c3 := Bool.eq_false_iff.mpr c3
  subst c3
  have H1 : (if a1 = true then (some 1) else (some 0)) = some r := by rw [if_neg (show ¬ (false = true) by decide)] at H; exact H
  clear H
  have H := H1
  clear H1
  by_cases c4 : a1 = true
  ·subst c4
   have H1 : (some 1) = some r := by rw [if_pos rfl] at H; exact H
   clear H
   have H := H1
   clear H1
   obtain rfl := Option.some.inj H
   go_enter Try.func82, Try.ntmps82
   go_wp2
   go_ret
   exact ⟨by first | rfl | (simp; done) | (simp [*]; done), by repeat (first | exact Drawn0.refl _ | apply Drawn0.step)⟩
  ·replace c4 := Bool.eq_false_iff.mpr c4
   subst c4
   have H1 : (some 0) = some r := by rw [if_neg (show ¬ (false = true) by decide)] at H; exact H
   clear H
   have H := H1
   clear H1
   obtain rfl := Option.some.inj H
   go_enter Try.func82, Try.ntmps82
   go_wp2
   go_ret
   exact ⟨by first | rfl | (simp; done) | (simp [*]; done), by repeat (first | exact Drawn0.refl _ | apply Drawn0.step)⟩
/-! ### laminaref04_Compare: function 32 -/
def laminaref04_Compare.f (a0_0 : Int) (a0_1 : Int) (a0_2 : ByteArray) (a1_0 : Int) (a1_1 : Int) (a1_2 : ByteArray) : Option (Int) := if a0_0 = a1_0 then (if a0_0 = 3 then ((laminaref04_sign.f (Op.bytesLess a0_2.toList a1_2.toList) (Op.bytesLess a1_2.toList a0_2.toList)).bind fun t136 => (some t136)) else ((laminaref04_sign.f (decide (a0_1 < a1_1)) (decide (a0_1 > a1_1))).bind fun t137 => (some t137))) else ((laminaref04_sign.f (decide (a0_0 < a1_0)) true).bind fun t135 => (some t135))
set_option maxHeartbeats 8000000 in
set_option maxRecDepth 100000 in
theorem laminaref04_Compare.calls (a0_0 : Int) (a0_1 : Int) (a0_2 : ByteArray) (a1_0 : Int) (a1_1 : Int) (a1_2 : ByteArray) (r : Int) (w : World) (h : laminaref04_Compare.f a0_0 a0_1 a0_2 a1_0 a1_1 a1_2 = some r) :
  Calls Try.prog 32 #[.agg #[.int .i64 a0_0, .int .i64 a0_1, .string a0_2], .agg #[.int .i64 a1_0, .int .i64 a1_1, .string a1_2]] w fun e w' => e = .returned (.int .i64 r) ∧ Below w.heap.size w w' := by
 have hu39 := Try.underlying39
 have HB := Aside0.mk (Below.refl w.heap.size w)
 have H : (if a0_0 = a1_0 then (if a0_0 = 3 then ((laminaref04_sign.f (Op.bytesLess a0_2.toList a1_2.toList) (Op.bytesLess a1_2.toList a0_2.toList)).bind fun t136 => (some t136)) else ((laminaref04_sign.f (decide (a0_1 < a1_1)) (decide (a0_1 > a1_1))).bind fun t137 => (some t137))) else ((laminaref04_sign.f (decide (a0_0 < a1_0)) true).bind fun t135 => (some t135))) = some r := h
 clear h
 by_cases c3 : a0_0 = a1_0
 ·rw [if_pos c3] at H
  have c3b0 : (a0_0 == a1_0) = true := beq_iff_eq.mpr c3
  have c3b1 : (a0_0 != a1_0) = false := bne_eq_false_iff_eq.mpr c3
  clear c3
  by_cases c4 : a0_0 = 3
  ·rw [if_pos c4] at H
   have c4b0 : (a0_0 == 3) = true := beq_iff_eq.mpr c4
   have c4b1 : (a0_0 != 3) = false := bne_eq_false_iff_eq.mpr c4
   clear c4
   replace H := Option.bind_eq_some_iff.mp H
   obtain ⟨t136, A50, H⟩ := H
   replace H : (some t136) = some r := H
   have A5 := Aside0.mk A50
   clear A50
   obtain rfl := Option.some.inj H
   go_enter Try.func32, Try.ntmps32
   go_wp2_with (first | ((with_reducible refine gate_dst (N := 2) rfl ?_); refine box_ 2 (cs := #[.int .i64 a0_0, .int .i64 a0_1, .string a0_2]) (t := 39) ?_; intro gb133 hg w6 hbox hb; have BK133 := Aside0.mk (hbox); have GW133 := Aside0.mk ((by rw [hg]; exact (below_size (hb_ HB.out)) : w.heap.size ≤ gb133)); have GE133 := Aside0.mk ((by rw [hg]; exact (below_size (hb_ HB.out)) : w.heap.size ≤ gb133)); replace HB := Aside0.mk (below_step (hb_ HB.out) hb); clear hb hbox hg) | ((with_reducible refine gate_dst (N := 3) rfl ?_); refine box_ 3 (cs := #[.int .i64 a1_0, .int .i64 a1_1, .string a1_2]) (t := 39) ?_; intro gb134 hg w7 hbox hb; have BK134 := Aside0.mk (hbox); have GW134 := Aside0.mk ((by rw [hg]; exact (below_size (hb1_ HB.out GE133.out)) : w.heap.size ≤ gb134)); have GE134 := Aside0.mk ((by rw [hg]; exact (below_size (hb1_ HB.out GE133.out)) : w.heap.size ≤ gb134)); have NB133_134 := Aside0.mk ((by rw [hg]; exact Nat.ne_of_lt (blk_lt (bk_ BK133.out)) : gb133 ≠ gb134)); have NB134_133 := Aside0.mk ((by rw [hg]; exact Nat.ne_of_gt (blk_lt (bk_ BK133.out)) : gb134 ≠ gb133)); replace BK133 := Aside0.mk (blk_below (bk_ BK133.out) hb); replace HB := Aside0.mk (below_step (hb1_ HB.out GE133.out) hb); clear hb hbox hg; have hnb8 := NB133_134.out; have hnc8 := NB134_133.out; obtain ⟨hcz9_0, hcz9_1, hcz9_2, hfz9_0, hfz9_1, hfz9_2⟩ := bf3 BK133.out; obtain ⟨hcz10_0, hcz10_1, hcz10_2, hfz10_0, hfz10_1, hfz10_2⟩ := bf3 BK134.out) | ((with_reducible refine gate_callee (f := 82) rfl ?_); refine goesL_ (some 29) rfl rfl Try.func82 (by kernel_rfl) rfl #[.bool (Op.bytesLess a0_2.toList a1_2.toList), .bool (Op.bytesLess a1_2.toList a0_2.toList)] rfl (by (try simp only [List.map_toArray, List.map_cons, List.map_nil]); first | done | rfl | (simp only [List.length_drop, List.length_take]; rfl) | (simp only [Int.ofNat_lt, Int.ofNat_le, gt_iff_lt, ge_iff_le]; rfl)) ?_; (with_reducible refine (laminaref04_sign.calls (Op.bytesLess a0_2.toList a1_2.toList) (Op.bytesLess a1_2.toList a0_2.toList) t136 _ A5.out).mono ?_); rintro e w' ⟨rfl, ⟨nd, rfl⟩⟩; refine ⟨_, rfl, ?_⟩))
   go_ret
   exact er_ ((hb2_ HB.out GE133.out GE134.out))
  ·rw [if_neg c4] at H
   have c4b0 : (a0_0 == 3) = false := beq_eq_false_iff_ne.mpr c4
   have c4b1 : (a0_0 != 3) = true := bne_iff_ne.mpr c4
   replace H := Option.bind_eq_some_iff.mp H
   obtain ⟨t137, A110, H⟩ := H
   replace H : (some t137) = some r := H
   have A11 := Aside0.mk A110
   clear A110
   obtain rfl := Option.some.inj H
   go_enter Try.func32, Try.ntmps32
   go_wp2_with (first | ((with_reducible refine gate_dst (N := 2) rfl ?_); refine box_ 2 (cs := #[.int .i64 a0_0, .int .i64 a0_1, .string a0_2]) (t := 39) ?_; intro gb133 hg w12 hbox hb; have BK133 := Aside0.mk (hbox); have GW133 := Aside0.mk ((by rw [hg]; exact (below_size (hb_ HB.out)) : w.heap.size ≤ gb133)); have GE133 := Aside0.mk ((by rw [hg]; exact (below_size (hb_ HB.out)) : w.heap.size ≤ gb133)); replace HB := Aside0.mk (below_step (hb_ HB.out) hb); clear hb hbox hg) | ((with_reducible refine gate_dst (N := 3) rfl ?_); refine box_ 3 (cs := #[.int .i64 a1_0, .int .i64 a1_1, .string a1_2]) (t := 39) ?_; intro gb134 hg w13 hbox hb; have BK134 := Aside0.mk (hbox); have GW134 := Aside0.mk ((by rw [hg]; exact (below_size (hb1_ HB.out GE133.out)) : w.heap.size ≤ gb134)); have GE134 := Aside0.mk ((by rw [hg]; exact (below_size (hb1_ HB.out GE133.out)) : w.heap.size ≤ gb134)); have NB133_134 := Aside0.mk ((by rw [hg]; exact Nat.ne_of_lt (blk_lt (bk_ BK133.out)) : gb133 ≠ gb134)); have NB134_133 := Aside0.mk ((by rw [hg]; exact Nat.ne_of_gt (blk_lt (bk_ BK133.out)) : gb134 ≠ gb133)); replace BK133 := Aside0.mk (blk_below (bk_ BK133.out) hb); replace HB := Aside0.mk (below_step (hb1_ HB.out GE133.out) hb); clear hb hbox hg; have hnb14 := NB133_134.out; have hnc14 := NB134_133.out; obtain ⟨hcz15_0, hcz15_1, hcz15_2, hfz15_0, hfz15_1, hfz15_2⟩ := bf3 BK133.out; obtain ⟨hcz16_0, hcz16_1, hcz16_2, hfz16_0, hfz16_1, hfz16_2⟩ := bf3 BK134.out) | ((with_reducible refine gate_callee (f := 82) rfl ?_); refine goesL_ (some 40) rfl rfl Try.func82 (by kernel_rfl) rfl #[.bool (decide (a0_1 < a1_1)), .bool (decide (a0_1 > a1_1))] rfl (by (try simp only [List.map_toArray, List.map_cons, List.map_nil]); first | done | rfl | (simp only [List.length_drop, List.length_take]; rfl) | (simp only [Int.ofNat_lt, Int.ofNat_le, gt_iff_lt, ge_iff_le]; rfl)) ?_; (with_reducible refine (laminaref04_sign.calls (decide (a0_1 < a1_1)) (decide (a0_1 > a1_1)) t137 _ A11.out).mono ?_); rintro e w' ⟨rfl, ⟨nd, rfl⟩⟩; refine ⟨_, rfl, ?_⟩))
   go_ret
   exact er_ ((hb2_ HB.out GE133.out GE134.out))
 ·rw [if_neg c3] at H
  have c3b0 : (a0_0 == a1_0) = false := beq_eq_false_iff_ne.mpr c3
  have c3b1 : (a0_0 != a1_0) = true := bne_iff_ne.mpr c3
  replace H := Option.bind_eq_some_iff.mp H
  obtain ⟨t135, A170, H⟩ := H
  replace H : (some t135) = some r := H
  have A17 := Aside0.mk A170
  clear A170
  obtain rfl := Option.some.inj H
  go_enter Try.func32, Try.ntmps32
  go_wp2_with (first | ((with_reducible refine gate_dst (N := 2) rfl ?_); refine box_ 2 (cs := #[.int .i64 a0_0, .int .i64 a0_1, .string a0_2]) (t := 39) ?_; intro gb133 hg w18 hbox hb; have BK133 := Aside0.mk (hbox); have GW133 := Aside0.mk ((by rw [hg]; exact (below_size (hb_ HB.out)) : w.heap.size ≤ gb133)); have GE133 := Aside0.mk ((by rw [hg]; exact (below_size (hb_ HB.out)) : w.heap.size ≤ gb133)); replace HB := Aside0.mk (below_step (hb_ HB.out) hb); clear hb hbox hg) | ((with_reducible refine gate_dst (N := 3) rfl ?_); refine box_ 3 (cs := #[.int .i64 a1_0, .int .i64 a1_1, .string a1_2]) (t := 39) ?_; intro gb134 hg w19 hbox hb; have BK134 := Aside0.mk (hbox); have GW134 := Aside0.mk ((by rw [hg]; exact (below_size (hb1_ HB.out GE133.out)) : w.heap.size ≤ gb134)); have GE134 := Aside0.mk ((by rw [hg]; exact (below_size (hb1_ HB.out GE133.out)) : w.heap.size ≤ gb134)); have NB133_134 := Aside0.mk ((by rw [hg]; exact Nat.ne_of_lt (blk_lt (bk_ BK133.out)) : gb133 ≠ gb134)); have NB134_133 := Aside0.mk ((by rw [hg]; exact Nat.ne_of_gt (blk_lt (bk_ BK133.out)) : gb134 ≠ gb133)); replace BK133 := Aside0.mk (blk_below (bk_ BK133.out) hb); replace HB := Aside0.mk (below_step (hb1_ HB.out GE133.out) hb); clear hb hbox hg; have hnb20 := NB133_134.out; have hnc20 := NB134_133.out; obtain ⟨hcz21_0, hcz21_1, hcz21_2, hfz21_0, hfz21_1, hfz21_2⟩ := bf3 BK133.out; obtain ⟨hcz22_0, hcz22_1, hcz22_2, hfz22_0, hfz22_1, hfz22_2⟩ := bf3 BK134.out) | ((with_reducible refine gate_callee (f := 82) rfl ?_); refine goesL_ (some 15) rfl rfl Try.func82 (by kernel_rfl) rfl #[.bool (decide (a0_0 < a1_0)), .bool true] rfl (by (try simp only [List.map_toArray, List.map_cons, List.map_nil]); first | done | rfl | (simp only [List.length_drop, List.length_take]; rfl) | (simp only [Int.ofNat_lt, Int.ofNat_le, gt_iff_lt, ge_iff_le]; rfl)) ?_; (with_reducible refine (laminaref04_sign.calls (decide (a0_0 < a1_0)) true t135 _ A17.out).mono ?_); rintro e w' ⟨rfl, ⟨nd, rfl⟩⟩; refine ⟨_, rfl, ?_⟩))
  go_ret
  exact er_ ((hb2_ HB.out GE133.out GE134.out))
/-! ### laminaref04_Valid: function 21 -/
def laminaref04_Valid.f (a0_0 : Int) (a0_1 : Int) (a0_2 : ByteArray) : Option (Bool) := if a0_0 = 0 then (if a0_1 = 0 then (some (a0_2.toList == ([] : List UInt8))) else (some false)) else (if a0_0 = 1 then (if a0_1 = 0 then (some (a0_2.toList == ([] : List UInt8))) else (if a0_1 = 1 then (some (a0_2.toList == ([] : List UInt8))) else (some false))) else (if a0_0 = 2 then (some (a0_2.toList == ([] : List UInt8))) else (if a0_0 = 3 then (if a0_1 = 0 then (some (decide ((a0_2.size : Int) ≤ 4096))) else (some false)) else (some false))))
set_option maxHeartbeats 8000000 in
set_option maxRecDepth 100000 in
theorem laminaref04_Valid.calls (a0_0 : Int) (a0_1 : Int) (a0_2 : ByteArray) (r : Bool) (w : World) (h : laminaref04_Valid.f a0_0 a0_1 a0_2 = some r) :
  Calls Try.prog 21 #[.agg #[.int .i64 a0_0, .int .i64 a0_1, .string a0_2]] w fun e w' => e = .returned (.bool r) ∧ Below w.heap.size w w' := by
 have hu39 := Try.underlying39
 have HB := Aside0.mk (Below.refl w.heap.size w)
 have H : (if a0_0 = 0 then (if a0_1 = 0 then (some (a0_2.toList == ([] : List UInt8))) else (some false)) else (if a0_0 = 1 then (if a0_1 = 0 then (some (a0_2.toList == ([] : List UInt8))) else (if a0_1 = 1 then (some (a0_2.toList == ([] : List UInt8))) else (some false))) else (if a0_0 = 2 then (some (a0_2.toList == ([] : List UInt8))) else (if a0_0 = 3 then (if a0_1 = 0 then (some (decide ((a0_2.size : Int) ≤ 4096))) else (some false)) else (some false))))) = some r := h
 clear h
 by_cases c2 : a0_0 = 0
 ·rw [if_pos c2] at H
  have c2b0 : (a0_0 == 0) = true := beq_iff_eq.mpr c2
  have c2b1 : (a0_0 != 0) = false := bne_eq_false_iff_eq.mpr c2
  clear c2
  by_cases c3 : a0_1 = 0
  ·rw [if_pos c3] at H
   have c3b0 : (a0_1 == 0) = true := beq_iff_eq.mpr c3
   have c3b1 : (a0_1 != 0) = false := bne_eq_false_iff_eq.mpr c3
   clear c3
   obtain rfl := Option.some.inj H
   go_enter Try.func21, Try.ntmps21
   go_wp2_with (first | ((with_reducible refine gate_dst (N := 1) rfl ?_); (try (refine gate_guard (by rfl) ?_; dsimp only)); refine box_ 1 (cs := #[.int .i64 a0_0, .int .i64 a0_1, .string a0_2]) (t := 39) ?_; intro gb326 hg w4 hbox hb; have BK326 := Aside0.mk (hbox); have GW326 := Aside0.mk ((by rw [hg]; exact (below_size (hb_ HB.out)) : w.heap.size ≤ gb326)); have GE326 := Aside0.mk ((by rw [hg]; exact (below_size (hb_ HB.out)) : w.heap.size ≤ gb326)); replace HB := Aside0.mk (below_step (hb_ HB.out) hb); clear hb hbox hg; obtain ⟨hcz5_0, hcz5_1, hcz5_2, hfz5_0, hfz5_1, hfz5_2⟩ := bf3 BK326.out))
   go_ret
   exact er_ ((hb1_ HB.out GE326.out))
  ·rw [if_neg c3] at H
   have c3b0 : (a0_1 == 0) = false := beq_eq_false_iff_ne.mpr c3
   have c3b1 : (a0_1 != 0) = true := bne_iff_ne.mpr c3
   obtain rfl := Option.some.inj H
   go_enter Try.func21, Try.ntmps21
   go_wp2_with (first | ((with_reducible refine gate_dst (N := 1) rfl ?_); (try (refine gate_guard (by rfl) ?_; dsimp only)); refine box_ 1 (cs := #[.int .i64 a0_0, .int .i64 a0_1, .string a0_2]) (t := 39) ?_; intro gb326 hg w6 hbox hb; have BK326 := Aside0.mk (hbox); have GW326 := Aside0.mk ((by rw [hg]; exact (below_size (hb_ HB.out)) : w.heap.size ≤ gb326)); have GE326 := Aside0.mk ((by rw [hg]; exact (below_size (hb_ HB.out)) : w.heap.size ≤ gb326)); replace HB := Aside0.mk (below_step (hb_ HB.out) hb); clear hb hbox hg; obtain ⟨hcz7_0, hcz7_1, hcz7_2, hfz7_0, hfz7_1, hfz7_2⟩ := bf3 BK326.out))
   go_ret
   exact er_ ((hb1_ HB.out GE326.out))
 ·rw [if_neg c2] at H
  have c2b0 : (a0_0 == 0) = false := beq_eq_false_iff_ne.mpr c2
  have c2b1 : (a0_0 != 0) = true := bne_iff_ne.mpr c2
  by_cases c8 : a0_0 = 1
  ·rw [if_pos c8] at H
   have c8b0 : (a0_0 == 1) = true := beq_iff_eq.mpr c8
   have c8b1 : (a0_0 != 1) = false := bne_eq_false_iff_eq.mpr c8
   clear c8
   by_cases c9 : a0_1 = 0
   ·rw [if_pos c9] at H
    have c9b0 : (a0_1 == 0) = true := beq_iff_eq.mpr c9
    have c9b1 : (a0_1 != 0) = false := bne_eq_false_iff_eq.mpr c9
    clear c9
    obtain rfl := Option.some.inj H
    go_enter Try.func21, Try.ntmps21
    go_wp2_with (first | ((with_reducible refine gate_dst (N := 1) rfl ?_); (try (refine gate_guard (by rfl) ?_; dsimp only)); refine box_ 1 (cs := #[.int .i64 a0_0, .int .i64 a0_1, .string a0_2]) (t := 39) ?_; intro gb326 hg w10 hbox hb; have BK326 := Aside0.mk (hbox); have GW326 := Aside0.mk ((by rw [hg]; exact (below_size (hb_ HB.out)) : w.heap.size ≤ gb326)); have GE326 := Aside0.mk ((by rw [hg]; exact (below_size (hb_ HB.out)) : w.heap.size ≤ gb326)); replace HB := Aside0.mk (below_step (hb_ HB.out) hb); clear hb hbox hg; obtain ⟨hcz11_0, hcz11_1, hcz11_2, hfz11_0, hfz11_1, hfz11_2⟩ := bf3 BK326.out))
    go_ret
    exact er_ ((hb1_ HB.out GE326.out))
   ·rw [if_neg c9] at H
    have c9b0 : (a0_1 == 0) = false := beq_eq_false_iff_ne.mpr c9
    have c9b1 : (a0_1 != 0) = true := bne_iff_ne.mpr c9
    by_cases c12 : a0_1 = 1
    ·rw [if_pos c12] at H
     have c12b0 : (a0_1 == 1) = true := beq_iff_eq.mpr c12
     have c12b1 : (a0_1 != 1) = false := bne_eq_false_iff_eq.mpr c12
     clear c12
     obtain rfl := Option.some.inj H
     go_enter Try.func21, Try.ntmps21
     go_wp2_with (first | ((with_reducible refine gate_dst (N := 1) rfl ?_); (try (refine gate_guard (by rfl) ?_; dsimp only)); refine box_ 1 (cs := #[.int .i64 a0_0, .int .i64 a0_1, .string a0_2]) (t := 39) ?_; intro gb326 hg w13 hbox hb; have BK326 := Aside0.mk (hbox); have GW326 := Aside0.mk ((by rw [hg]; exact (below_size (hb_ HB.out)) : w.heap.size ≤ gb326)); have GE326 := Aside0.mk ((by rw [hg]; exact (below_size (hb_ HB.out)) : w.heap.size ≤ gb326)); replace HB := Aside0.mk (below_step (hb_ HB.out) hb); clear hb hbox hg; obtain ⟨hcz14_0, hcz14_1, hcz14_2, hfz14_0, hfz14_1, hfz14_2⟩ := bf3 BK326.out))
     go_ret
     exact er_ ((hb1_ HB.out GE326.out))
    ·rw [if_neg c12] at H
     have c12b0 : (a0_1 == 1) = false := beq_eq_false_iff_ne.mpr c12
     have c12b1 : (a0_1 != 1) = true := bne_iff_ne.mpr c12
     obtain rfl := Option.some.inj H
     go_enter Try.func21, Try.ntmps21
     go_wp2_with (first | ((with_reducible refine gate_dst (N := 1) rfl ?_); (try (refine gate_guard (by rfl) ?_; dsimp only)); refine box_ 1 (cs := #[.int .i64 a0_0, .int .i64 a0_1, .string a0_2]) (t := 39) ?_; intro gb326 hg w15 hbox hb; have BK326 := Aside0.mk (hbox); have GW326 := Aside0.mk ((by rw [hg]; exact (below_size (hb_ HB.out)) : w.heap.size ≤ gb326)); have GE326 := Aside0.mk ((by rw [hg]; exact (below_size (hb_ HB.out)) : w.heap.size ≤ gb326)); replace HB := Aside0.mk (below_step (hb_ HB.out) hb); clear hb hbox hg; obtain ⟨hcz16_0, hcz16_1, hcz16_2, hfz16_0, hfz16_1, hfz16_2⟩ := bf3 BK326.out))
     go_ret
     exact er_ ((hb1_ HB.out GE326.out))
  ·rw [if_neg c8] at H
   have c8b0 : (a0_0 == 1) = false := beq_eq_false_iff_ne.mpr c8
   have c8b1 : (a0_0 != 1) = true := bne_iff_ne.mpr c8
   by_cases c17 : a0_0 = 2
   ·rw [if_pos c17] at H
    have c17b0 : (a0_0 == 2) = true := beq_iff_eq.mpr c17
    have c17b1 : (a0_0 != 2) = false := bne_eq_false_iff_eq.mpr c17
    clear c17
    obtain rfl := Option.some.inj H
    go_enter Try.func21, Try.ntmps21
    go_wp2_with (first | ((with_reducible refine gate_dst (N := 1) rfl ?_); (try (refine gate_guard (by rfl) ?_; dsimp only)); refine box_ 1 (cs := #[.int .i64 a0_0, .int .i64 a0_1, .string a0_2]) (t := 39) ?_; intro gb326 hg w18 hbox hb; have BK326 := Aside0.mk (hbox); have GW326 := Aside0.mk ((by rw [hg]; exact (below_size (hb_ HB.out)) : w.heap.size ≤ gb326)); have GE326 := Aside0.mk ((by rw [hg]; exact (below_size (hb_ HB.out)) : w.heap.size ≤ gb326)); replace HB := Aside0.mk (below_step (hb_ HB.out) hb); clear hb hbox hg; obtain ⟨hcz19_0, hcz19_1, hcz19_2, hfz19_0, hfz19_1, hfz19_2⟩ := bf3 BK326.out))
    go_ret
    exact er_ ((hb1_ HB.out GE326.out))
   ·rw [if_neg c17] at H
    have c17b0 : (a0_0 == 2) = false := beq_eq_false_iff_ne.mpr c17
    have c17b1 : (a0_0 != 2) = true := bne_iff_ne.mpr c17
    by_cases c20 : a0_0 = 3
    ·rw [if_pos c20] at H
     have c20b0 : (a0_0 == 3) = true := beq_iff_eq.mpr c20
     have c20b1 : (a0_0 != 3) = false := bne_eq_false_iff_eq.mpr c20
     clear c20
     by_cases c21 : a0_1 = 0
     ·rw [if_pos c21] at H
      have c21b0 : (a0_1 == 0) = true := beq_iff_eq.mpr c21
      have c21b1 : (a0_1 != 0) = false := bne_eq_false_iff_eq.mpr c21
      clear c21
      obtain rfl := Option.some.inj H
      go_enter Try.func21, Try.ntmps21
      go_wp2_with (first | ((with_reducible refine gate_dst (N := 1) rfl ?_); (try (refine gate_guard (by rfl) ?_; dsimp only)); refine box_ 1 (cs := #[.int .i64 a0_0, .int .i64 a0_1, .string a0_2]) (t := 39) ?_; intro gb326 hg w22 hbox hb; have BK326 := Aside0.mk (hbox); have GW326 := Aside0.mk ((by rw [hg]; exact (below_size (hb_ HB.out)) : w.heap.size ≤ gb326)); have GE326 := Aside0.mk ((by rw [hg]; exact (below_size (hb_ HB.out)) : w.heap.size ≤ gb326)); replace HB := Aside0.mk (below_step (hb_ HB.out) hb); clear hb hbox hg; obtain ⟨hcz23_0, hcz23_1, hcz23_2, hfz23_0, hfz23_1, hfz23_2⟩ := bf3 BK326.out))
      go_ret
      exact er_ ((hb1_ HB.out GE326.out))
     ·rw [if_neg c21] at H
      have c21b0 : (a0_1 == 0) = false := beq_eq_false_iff_ne.mpr c21
      have c21b1 : (a0_1 != 0) = true := bne_iff_ne.mpr c21
      obtain rfl := Option.some.inj H
      go_enter Try.func21, Try.ntmps21
      go_wp2_with (first | ((with_reducible refine gate_dst (N := 1) rfl ?_); (try (refine gate_guard (by rfl) ?_; dsimp only)); refine box_ 1 (cs := #[.int .i64 a0_0, .int .i64 a0_1, .string a0_2]) (t := 39) ?_; intro gb326 hg w24 hbox hb; have BK326 := Aside0.mk (hbox); have GW326 := Aside0.mk ((by rw [hg]; exact (below_size (hb_ HB.out)) : w.heap.size ≤ gb326)); have GE326 := Aside0.mk ((by rw [hg]; exact (below_size (hb_ HB.out)) : w.heap.size ≤ gb326)); replace HB := Aside0.mk (below_step (hb_ HB.out) hb); clear hb hbox hg; obtain ⟨hcz25_0, hcz25_1, hcz25_2, hfz25_0, hfz25_1, hfz25_2⟩ := bf3 BK326.out))
      go_ret
      exact er_ ((hb1_ HB.out GE326.out))
    ·rw [if_neg c20] at H
     have c20b0 : (a0_0 == 3) = false := beq_eq_false_iff_ne.mpr c20
     have c20b1 : (a0_0 != 3) = true := bne_iff_ne.mpr c20
     obtain rfl := Option.some.inj H
     go_enter Try.func21, Try.ntmps21
     go_wp2_with (first | ((with_reducible refine gate_dst (N := 1) rfl ?_); (try (refine gate_guard (by rfl) ?_; dsimp only)); refine box_ 1 (cs := #[.int .i64 a0_0, .int .i64 a0_1, .string a0_2]) (t := 39) ?_; intro gb326 hg w26 hbox hb; have BK326 := Aside0.mk (hbox); have GW326 := Aside0.mk ((by rw [hg]; exact (below_size (hb_ HB.out)) : w.heap.size ≤ gb326)); have GE326 := Aside0.mk ((by rw [hg]; exact (below_size (hb_ HB.out)) : w.heap.size ≤ gb326)); replace HB := Aside0.mk (below_step (hb_ HB.out) hb); clear hb hbox hg; obtain ⟨hcz27_0, hcz27_1, hcz27_2, hfz27_0, hfz27_1, hfz27_2⟩ := bf3 BK326.out))
     go_ret
     exact er_ ((hb1_ HB.out GE326.out))
/-! ### laminaref04_Boolean: function 83 -/
def laminaref04_Boolean.f (a0 : Bool) : Option (Int × Int × ByteArray) := if a0 = true then (some (1, 1, (⟨#[]⟩ : ByteArray))) else (some (1, 0, (⟨#[]⟩ : ByteArray)))
set_option maxHeartbeats 8000000 in
set_option maxRecDepth 100000 in
theorem laminaref04_Boolean.calls (a0 : Bool) (r1 : Int) (r2 : Int) (r3 : ByteArray) (w : World) (h : laminaref04_Boolean.f a0 = some (r1, r2, r3)) :
  Calls Try.prog 83 #[.bool a0] w fun e w' => e = .returned (.agg #[.int .i64 r1, .int .i64 r2, .string r3]) ∧ Below w.heap.size w w' := by
 have hu39 := Try.underlying39
 have HB := Aside0.mk (Below.refl w.heap.size w)
 have H : (if a0 = true then (some (1, 1, (⟨#[]⟩ : ByteArray))) else (some (1, 0, (⟨#[]⟩ : ByteArray)))) = some (r1, r2, r3) := h
 clear h
 by_cases c2 : a0 = true
 ·subst c2
  have H1 : (some (1, 1, (⟨#[]⟩ : ByteArray))) = some (r1, r2, r3) := by rw [if_pos rfl] at H; exact H
  clear H
  have H := H1
  clear H1
  simp only [Option.some.injEq, Prod.mk.injEq] at H
  obtain ⟨rfl, rfl, rfl⟩ := H
  go_enter Try.func83, Try.ntmps83
  go_wp2_with (first | ((with_reducible refine gate_dst (N := 2) rfl ?_); refine box_ 2 (cs := #[.int .i64 0, .int .i64 0, .string (⟨#[]⟩ : ByteArray)]) (t := 39) ?_; intro gb330 hg w3 hbox hb; have BK330 := Aside0.mk (hbox); have GW330 := Aside0.mk ((by rw [hg]; exact (below_size (hb_ HB.out)) : w.heap.size ≤ gb330)); have GE330 := Aside0.mk ((by rw [hg]; exact (below_size (hb_ HB.out)) : w.heap.size ≤ gb330)); replace HB := Aside0.mk (below_step (hb_ HB.out) hb); clear hb hbox hg; obtain ⟨hcz4_0, hcz4_1, hcz4_2, hfz4_0, hfz4_1, hfz4_2⟩ := bf3 BK330.out))
  refine bodyPost_ret (results_cell_row rfl _ _ gb330 39 #[.int .i64 1, .int .i64 1, .string (⟨#[]⟩ : ByteArray)] (0, 0) _ rfl (by (with_reducible repeat (first | refine blk_drewN ?_ _ | refine blk_drew ?_ | refine blk_alloc ?_ _)); refine blk_put (cs := #[.int .i64 1, .int .i64 1, .string (⟨#[]⟩ : ByteArray)]) ?_ 2 _ rfl; (with_reducible repeat (first | refine blk_drewN ?_ _ | refine blk_drew ?_ | refine blk_alloc ?_ _)); refine blk_put (cs := #[.int .i64 1, .int .i64 0, .string (⟨#[]⟩ : ByteArray)]) ?_ 1 _ rfl; (with_reducible repeat (first | refine blk_drewN ?_ _ | refine blk_drew ?_ | refine blk_alloc ?_ _)); refine blk_put (cs := #[.int .i64 0, .int .i64 0, .string (⟨#[]⟩ : ByteArray)]) ?_ 0 _ rfl; (with_reducible repeat (first | refine blk_drewN ?_ _ | refine blk_drew ?_ | refine blk_alloc ?_ _)); exact BK330.out) Try.underlying39 rfl (by kernel_rfl)) rfl ?_
  exact er_ ((hb1_ HB.out GE330.out))
 ·replace c2 := Bool.eq_false_iff.mpr c2
  subst c2
  have H1 : (some (1, 0, (⟨#[]⟩ : ByteArray))) = some (r1, r2, r3) := by rw [if_neg (show ¬ (false = true) by decide)] at H; exact H
  clear H
  have H := H1
  clear H1
  simp only [Option.some.injEq, Prod.mk.injEq] at H
  obtain ⟨rfl, rfl, rfl⟩ := H
  go_enter Try.func83, Try.ntmps83
  go_wp2_with (first | ((with_reducible refine gate_dst (N := 2) rfl ?_); refine box_ 2 (cs := #[.int .i64 0, .int .i64 0, .string (⟨#[]⟩ : ByteArray)]) (t := 39) ?_; intro gb330 hg w5 hbox hb; have BK330 := Aside0.mk (hbox); have GW330 := Aside0.mk ((by rw [hg]; exact (below_size (hb_ HB.out)) : w.heap.size ≤ gb330)); have GE330 := Aside0.mk ((by rw [hg]; exact (below_size (hb_ HB.out)) : w.heap.size ≤ gb330)); replace HB := Aside0.mk (below_step (hb_ HB.out) hb); clear hb hbox hg; obtain ⟨hcz6_0, hcz6_1, hcz6_2, hfz6_0, hfz6_1, hfz6_2⟩ := bf3 BK330.out))
  refine bodyPost_ret (results_cell_row rfl _ _ gb330 39 #[.int .i64 1, .int .i64 0, .string (⟨#[]⟩ : ByteArray)] (0, 0) _ rfl (by (with_reducible repeat (first | refine blk_drewN ?_ _ | refine blk_drew ?_ | refine blk_alloc ?_ _)); refine blk_put (cs := #[.int .i64 1, .int .i64 0, .string (⟨#[]⟩ : ByteArray)]) ?_ 2 _ rfl; (with_reducible repeat (first | refine blk_drewN ?_ _ | refine blk_drew ?_ | refine blk_alloc ?_ _)); refine blk_put (cs := #[.int .i64 1, .int .i64 0, .string (⟨#[]⟩ : ByteArray)]) ?_ 1 _ rfl; (with_reducible repeat (first | refine blk_drewN ?_ _ | refine blk_drew ?_ | refine blk_alloc ?_ _)); refine blk_put (cs := #[.int .i64 0, .int .i64 0, .string (⟨#[]⟩ : ByteArray)]) ?_ 0 _ rfl; (with_reducible repeat (first | refine blk_drewN ?_ _ | refine blk_drew ?_ | refine blk_alloc ?_ _)); exact BK330.out) Try.underlying39 rfl (by kernel_rfl)) rfl ?_
  exact er_ ((hb1_ HB.out GE330.out))
end Go.Proofs.Ytackcingpffidaa.P
namespace Go.Proofs.Ytackcingpffidaa.P
open Go.RowKit Go.Proofs.YtackcingpffidaaW.PrintWords Go.Proofs.YtackcingpffidaaW.PrintLast Go.Proofs.YtackcingpffidaaW.PrintMore
def vV (x : S39) : Bool := (value_Valid.f x.f0 x.f1 x.f2).getD false
def cV (x y : S39) : Int := (value_Compare.f x.f0 x.f1 x.f2 y.f0 y.f1 y.f2).getD 0
theorem vV_is (x : S39) : value_Valid.f x.f0 x.f1 x.f2 = some (vV x) := by
 unfold vV value_Valid.f
 repeat' split
 all_goals rfl
theorem sign_some (a b : Bool) : ∃ t, value_sign.f a b = some t := by cases a <;> cases b <;> exact ⟨_, rfl⟩
theorem cV_is (x y : S39) : value_Compare.f x.f0 x.f1 x.f2 y.f0 y.f1 y.f2 = some (cV x y) := by
 have h : ∃ t, value_Compare.f x.f0 x.f1 x.f2 y.f0 y.f1 y.f2 = some t := by
  unfold value_Compare.f
  split
  ·split
   ·exact ⟨_, rfl⟩
   ·split
    ·obtain ⟨t, ht⟩ := sign_some (decide (x.f1 < y.f1)) (decide (x.f1 > y.f1)); rw [ht]; exact ⟨_, rfl⟩
    ·split
     ·obtain ⟨t, ht⟩ := sign_some (decide (x.f1 < y.f1)) (decide (x.f1 > y.f1)); rw [ht]; exact ⟨_, rfl⟩
     ·exact ⟨_, rfl⟩
  ·obtain ⟨t, ht⟩ := sign_some (decide (x.f0 < y.f0)) true; rw [ht]; exact ⟨_, rfl⟩
 obtain ⟨t, ht⟩ := h
 unfold cV
 rw [ht]
 rfl
theorem vV_calls (x : S39) (b : Bool) (h : vV x = b) (w : World) : Calls Try.prog 107 #[.agg #[.int .i64 x.f0, .int .i64 x.f1, .string x.f2]] w fun e w' => e = .returned (.bool b) ∧ Below w.heap.size w w' :=
 value_Valid.calls _ _ _ b w (by rw [vV_is, h])
theorem cV_calls (x y : S39) (c : Int) (h : cV x y = c) (w : World) : Calls Try.prog 53 #[.agg #[.int .i64 x.f0, .int .i64 x.f1, .string x.f2], .agg #[.int .i64 y.f0, .int .i64 y.f1, .string y.f2]] w fun e w' => e = .returned (.int .i64 c) ∧ Below w.heap.size w w' :=
 value_Compare.calls _ _ _ _ _ _ c w (by rw [cV_is, h])
def rvV (x : S39) : Bool := (laminaref04_Valid.f x.f0 x.f1 x.f2).getD false
def rcV (x y : S39) : Int := (laminaref04_Compare.f x.f0 x.f1 x.f2 y.f0 y.f1 y.f2).getD 0
theorem rvV_is (x : S39) : laminaref04_Valid.f x.f0 x.f1 x.f2 = some (rvV x) := by
 unfold rvV laminaref04_Valid.f
 repeat' split
 all_goals rfl
theorem rsign_some (a b : Bool) : ∃ t, laminaref04_sign.f a b = some t := by cases a <;> cases b <;> exact ⟨_, rfl⟩
theorem rcV_is (x y : S39) : laminaref04_Compare.f x.f0 x.f1 x.f2 y.f0 y.f1 y.f2 = some (rcV x y) := by
 have h : ∃ t, laminaref04_Compare.f x.f0 x.f1 x.f2 y.f0 y.f1 y.f2 = some t := by
  unfold laminaref04_Compare.f
  split
  ·split
   ·obtain ⟨t, ht⟩ := rsign_some (Op.bytesLess x.f2.toList y.f2.toList) (Op.bytesLess y.f2.toList x.f2.toList); rw [ht]; exact ⟨_, rfl⟩
   ·obtain ⟨t, ht⟩ := rsign_some (decide (x.f1 < y.f1)) (decide (x.f1 > y.f1)); rw [ht]; exact ⟨_, rfl⟩
  ·obtain ⟨t, ht⟩ := rsign_some (decide (x.f0 < y.f0)) true; rw [ht]; exact ⟨_, rfl⟩
 obtain ⟨t, ht⟩ := h
 unfold rcV
 rw [ht]
 rfl
theorem rvV_calls (x : S39) (b : Bool) (h : rvV x = b) (w : World) : Calls Try.prog 21 #[.agg #[.int .i64 x.f0, .int .i64 x.f1, .string x.f2]] w fun e w' => e = .returned (.bool b) ∧ Below w.heap.size w w' :=
 laminaref04_Valid.calls _ _ _ b w (by rw [rvV_is, h])
theorem rcV_calls (x y : S39) (c : Int) (h : rcV x y = c) (w : World) : Calls Try.prog 32 #[.agg #[.int .i64 x.f0, .int .i64 x.f1, .string x.f2], .agg #[.int .i64 y.f0, .int .i64 y.f1, .string y.f2]] w fun e w' => e = .returned (.int .i64 c) ∧ Below w.heap.size w w' :=
 laminaref04_Compare.calls _ _ _ _ _ _ c w (by rw [rcV_is, h])
def allN (p : Nat → Bool) : Nat → Nat → Bool
 | _, 0 => true
 | i, m + 1 => p i && allN p (i + 1) m
theorem allN_next (p : Nat → Bool) (i m : Nat) (h : p i = true) : allN p i (m + 1) = allN p (i + 1) m := by simp [allN, h]
theorem allN_bad (p : Nat → Bool) (i m : Nat) (h : p i = false) : allN p i (m + 1) = false := by simp [allN, h]
/-- A fence is valid, not NULL, of the first one's kind, and above the one before it. -/
def fOk (l : List S39) (i : Nat) : Bool := vV (rd_T39 l i) && !((rd_T39 l i).f0 == 0) && !((rd_T39 l i).f0 != (rd_T39 l 0).f0) && !(decide (0 < i) && decide (0 ≤ cV (rd_T39 l ((i : Int) - 1)) (rd_T39 l i)))
def rOk (r : List Int) (n : Int) (i : Nat) : Bool := !(decide (rd r i < 0)) && !(decide (n < rd r i)) && !(decide (2 ≤ i) && decide (rd r i < rd r ((i : Int) - 2)))
def tOk (r : List Int) (i : Nat) : Bool := !(decide (rd r (2 * (i : Int)) < rd r (2 * (i : Int) - 1)))
def fencesB (l : List S39) (r : List Int) (n : Int) : Bool :=
 if 17 < l.length then false else if (l.length = 0) = (n = 0) then (if r.length = 2 * l.length then allN (fOk l) 0 l.length && allN (rOk r n) 0 (2 * l.length) && allN (tOk r) 1 (l.length - 1) && (l.length == 0 || (rd r 0 == 0 && rd r (2 * (l.length : Int) - 1) == n)) else false) else false
/-- The reference's checks of a fence and of its ranks. -/
def rF (l : List S39) (i : Nat) : Bool := rvV (rd_T39 l i) && !((rd_T39 l i).f0 == 0) && !((rd_T39 l i).f0 != (rd_T39 l 0).f0) && !(decide (0 < i) && decide (0 ≤ rcV (rd_T39 l ((i : Int) - 1)) (rd_T39 l i)))
def rR (r : List Int) (n : Int) (k i : Nat) : Bool :=
 !(decide (rd r (2 * (i : Int)) < 0)) && !(decide (n < rd r (2 * (i : Int)))) && !(decide (rd r (2 * (i : Int) + 1) < 0)) && !(decide (n < rd r (2 * (i : Int) + 1))) && !(i == 0 && rd r (2 * (i : Int)) != 0) && !(i + 1 == k && rd r (2 * (i : Int) + 1) != n) &&
   !(decide (0 < i) && (decide (rd r (2 * (i : Int)) < rd r (2 * (i : Int) - 2)) || decide (rd r (2 * (i : Int) + 1) < rd r (2 * (i : Int) - 1)) || decide (rd r (2 * (i : Int)) < rd r (2 * (i : Int) - 1))))
def rfencesB (l : List S39) (r : List Int) (n : Int) : Bool :=
 if 17 < l.length then false else if (l.length = 0) = (n = 0) then (if r.length = 2 * l.length then allN (fun i => rF l i && rR r n l.length i) 0 l.length else false) else false
end Go.Proofs.Ytackcingpffidaa.P
namespace Go.Proofs.Ytackcingpffidaa.P
open Go.RowKit Go.Proofs.YtackcingpffidaaW.PrintWords Go.Proofs.YtackcingpffidaaW.PrintLast Go.Proofs.YtackcingpffidaaW.PrintMore
attribute [local go_sem] max2_int min2_int max_two min_two max_three min_three max_four min_four Go.Proofs.YtackcingpffidaaQ.str_gtr Go.Proofs.YtackcingpffidaaQ.str_leq Go.Proofs.YtackcingpffidaaQ.str_geq   -- for this text's walks alone
set_option linter.unusedVariables false
set_option linter.unusedSimpArgs false
/-! ### sketch_spread: function 58 -/
mutual
def sketch_spread.l0 : Nat → Int → List Int → Int → Option (List Int)
 | 0, _, _, _ => none
 | k + 1, x0, x3, x4 => if x4 < 17 then (sketch_spread.j1 k x0 x3 x4 (decide (x0 > 0))) else (sketch_spread.j1 k x0 x3 x4 false)
def sketch_spread.j1 : Nat → Int → List Int → Int → Bool → Option (List Int)
 | 0, _, _, _, _ => none
 | k + 1, x0, x3, x4, x11 => if x11 = true then (if (x3.length : Int) = 0 then (if x3.length < 17592186044416 then (sketch_spread.l0 k x0 (x3 ++ [wrap64 (Int.tdiv (wrap64 (x4 * (wrap64 (x0 - 1)))) 16)]) (wrap64 (x4 + 1))) else (none)) else (if 0 ≤ (wrap64 ((x3.length : Int) - 1)) then (if (wrap64 ((x3.length : Int) - 1)) < (x3.length : Int) then (if (rd x3 (wrap64 ((x3.length : Int) - 1))) = (wrap64 (Int.tdiv (wrap64 (x4 * (wrap64 (x0 - 1)))) 16)) then (sketch_spread.l0 k x0 x3 (wrap64 (x4 + 1))) else (if x3.length < 17592186044416 then (sketch_spread.l0 k x0 (x3 ++ [wrap64 (Int.tdiv (wrap64 (x4 * (wrap64 (x0 - 1)))) 16)]) (wrap64 (x4 + 1))) else (none))) else (none)) else (none))) else (some x3)
end
def sketch_spread.f (k : Nat) (a0 : Int) : Option (List Int) := sketch_spread.l0 k a0 ([] : List Int) 0
theorem sketch_spread.mono_l : ∀ k, (∀ y0 y1 y2, LeO (sketch_spread.l0 k y0 y1 y2) (sketch_spread.l0 (k + 1) y0 y1 y2)) ∧ (∀ y0 y1 y2 y3, LeO (sketch_spread.j1 k y0 y1 y2 y3) (sketch_spread.j1 (k + 1) y0 y1 y2 y3))
 | 0 => ⟨fun _ _ _ r h => by simp [sketch_spread.l0] at h, fun _ _ _ _ r h => by simp [sketch_spread.j1] at h⟩
 | k + 1 => by
  obtain ⟨ih0, ih1⟩ := sketch_spread.mono_l k
  refine ⟨?_, ?_⟩
  ·intro y0 y1 y2
   unfold sketch_spread.l0
   repeat' first
   | (with_reducible exact ih0 _ _ _)
   | (with_reducible exact ih1 _ _ _ _)
   | (with_reducible exact LeO.refl _)
   | (with_reducible exact LeO.none _)
   | (with_reducible refine LeO.ite ?_ ?_)
   | (with_reducible refine LeO.bind ?_ (fun _ => ?_))
   | exact ih0 _ _ _
   | exact ih1 _ _ _ _
   | exact LeO.none _
   | refine LeO.ite ?_ ?_
   | refine LeO.bind ?_ (fun _ => ?_)
  ·intro y0 y1 y2 y3
   unfold sketch_spread.j1
   repeat' first
   | (with_reducible exact ih0 _ _ _)
   | (with_reducible exact ih1 _ _ _ _)
   | (with_reducible exact LeO.refl _)
   | (with_reducible exact LeO.none _)
   | (with_reducible refine LeO.ite ?_ ?_)
   | (with_reducible refine LeO.bind ?_ (fun _ => ?_))
   | exact ih0 _ _ _
   | exact ih1 _ _ _ _
   | exact LeO.none _
   | refine LeO.ite ?_ ?_
   | refine LeO.bind ?_ (fun _ => ?_)
theorem sketch_spread.mono : ∀ a0 k, LeO (sketch_spread.f k a0) (sketch_spread.f (k + 1) a0) := by
 intro a0 k
 obtain ⟨ih0, ih1⟩ := sketch_spread.mono_l k
 unfold sketch_spread.f
 repeat' first
   | (with_reducible exact ih0 _ _ _)
   | (with_reducible exact ih1 _ _ _ _)
   | (with_reducible exact LeO.refl _)
   | (with_reducible exact LeO.none _)
   | (with_reducible refine LeO.ite ?_ ?_)
   | (with_reducible refine LeO.bind ?_ (fun _ => ?_))
   | exact ih0 _ _ _
   | exact ih1 _ _ _ _
   | exact LeO.none _
   | refine LeO.ite ?_ ?_
   | refine LeO.bind ?_ (fun _ => ?_)
set_option maxHeartbeats 8000000 in
set_option maxRecDepth 100000 in
theorem sketch_spread.calls (k : Nat) (a0 : Int) (r : List Int) (w : World) (h : sketch_spread.f k a0 = some r) :
  Calls Try.prog 58 #[.int .i64 a0] w fun e w' => ∃ v0_ : Value, e = .returned (v0_) ∧ Kd.R (Kd.int .i64) 3 w' w.heap.size (fun _ => True) v0_ r ∧ Below w.heap.size w w' := by
 have HB := Aside0.mk (Below.refl w.heap.size w)
 have H : (sketch_spread.l0 k a0 ([] : List Int) 0) = some r := h
 clear h
 have H' := Aside0.mk H
 clear H
 go_enter Try.func58, Try.ntmps58
 go_wp2
 go_loopg [3, 4] k (fun kq v3 v4 w' => ∃ (x3_1 : List Int) (x4_1 : Int), v4 = .int .i64 x4_1 ∧ Aside0 (sketch_spread.l0 kq a0 x3_1 x4_1 = some r) ∧ Aside0 (kq ≤ k) ∧ Aside0 (Kd.R (Kd.int .i64) 3 w' w.heap.size (fun _ => True) v3 x3_1) ∧ Aside0 (Below w.heap.size w w'))
 case atStart => exact ⟨(([] : List Int)), (0), (by first | rfl | (simp; done) | (simp [*]; done)), H', ⟨Nat.le_refl _⟩, ⟨by first | exact Kd.R_nil _ _ _ _ _ | exact Kd.N_nil _ _ _ _ _ | exact Kd.V_nil _ _ _ _ _ | exact Kd.Q_nil _ _ _ _ _ | exact Kd.S_nil _ _ _ _ _⟩, ⟨(hb_ HB.out)⟩⟩
 case round =>
  clear H'
  obtain ⟨x3_1, x4_1, rfl, HA, HK1, HO_3, HB⟩ := hrel
  cases gk with
  | zero => exact absurd HA.out (by simp [sketch_spread.l0])
  | succ k1 =>
   have H := HA.out
   clear HA
   simp only [sketch_spread.l0] at H
   have HC2 := Aside0.mk H
   clear H
   go_upto_region 3 with (fail)
   go_cut [11] (fun v11 wc => ∃ (kq : Nat) (x11_1 : Bool), v11 = .bool x11_1 ∧ Aside0 (sketch_spread.j1 kq a0 x3_1 x4_1 x11_1 = some r) ∧ Aside0 (kq ≤ k1) ∧ Aside0 (Kd.R (Kd.int .i64) 3 wc w.heap.size (fun _ => True) u3 x3_1) ∧ Aside0 (Below w.heap.size w wc))
   case first =>
    have H := HC2.out
    clear HC2
    by_cases c3 : x4_1 < 17
    ·rw [if_pos c3] at H
     have c3b0 : decide (x4_1 < 17) = true := decide_eq_true c3
     clear c3
     (first | rw [c3b0] | (simp only [i64_w, i32_w]; rw [c3b0]) | skip)
     have H' := Aside0.mk H
     clear H
     go_wp2
     go_meet
     case rel => exact ⟨_, (decide (a0 > 0)), (by first | rfl | (simp; done) | (simp [*]; done)), H', ⟨by have := HK1.out; first | omega | exact Nat.le_refl _⟩, ⟨by (with_reducible repeat (first | apply Kd.R_alloc | apply Kd.R_drewN | apply Kd.R_drew)); exact HO_3.out⟩, ⟨(hb_ HB.out)⟩⟩
    ·rw [if_neg c3] at H
     have c3b0 : decide (x4_1 < 17) = false := decide_eq_false c3
     clear c3
     (first | rw [c3b0] | (simp only [i64_w, i32_w]; rw [c3b0]) | skip)
     have H' := Aside0.mk H
     clear H
     go_wp2
     go_meet
     case rel => exact ⟨_, (false), (by first | rfl | (simp; done) | (simp [*]; done)), H', ⟨by have := HK1.out; first | omega | exact Nat.le_refl _⟩, ⟨by (with_reducible repeat (first | apply Kd.R_alloc | apply Kd.R_drewN | apply Kd.R_drew)); exact HO_3.out⟩, ⟨(hb_ HB.out)⟩⟩
   case rest =>
    clear HC2
    try clear p2
    try clear c3
    try clear c3b0
    obtain ⟨kq, x11_1, rfl, HA, HJ1, HO_3, HB⟩ := hcut
    cases kq with
    | zero => exact absurd HA.out (by simp [sketch_spread.j1])
    | succ kj1 =>
     have H := HA.out
     clear HA
     simp only [sketch_spread.j1] at H
     by_cases c4 : x11_1 = true
     ·subst c4
      have H1 : (if (x3_1.length : Int) = 0 then (if x3_1.length < 17592186044416 then (sketch_spread.l0 kj1 a0 (x3_1 ++ [wrap64 (Int.tdiv (wrap64 (x4_1 * (wrap64 (a0 - 1)))) 16)]) (wrap64 (x4_1 + 1))) else (none)) else (if 0 ≤ (wrap64 ((x3_1.length : Int) - 1)) then (if (wrap64 ((x3_1.length : Int) - 1)) < (x3_1.length : Int) then (if (rd x3_1 (wrap64 ((x3_1.length : Int) - 1))) = (wrap64 (Int.tdiv (wrap64 (x4_1 * (wrap64 (a0 - 1)))) 16)) then (sketch_spread.l0 kj1 a0 x3_1 (wrap64 (x4_1 + 1))) else (if x3_1.length < 17592186044416 then (sketch_spread.l0 kj1 a0 (x3_1 ++ [wrap64 (Int.tdiv (wrap64 (x4_1 * (wrap64 (a0 - 1)))) 16)]) (wrap64 (x4_1 + 1))) else (none))) else (none)) else (none))) = some r := by rw [if_pos rfl] at H; exact H
      clear H
      have H := H1
      clear H1
      by_cases c5 : (x3_1.length : Int) = 0
      ·rw [if_pos c5] at H
       have c5b0 : ((x3_1.length : Int) == 0) = true := beq_iff_eq.mpr c5
       have c5b1 : ((x3_1.length : Int) != 0) = false := bne_eq_false_iff_eq.mpr c5
       clear c5
       by_cases c6 : x3_1.length < 17592186044416
       ·rw [if_pos c6] at H
        have LMc6 := Aside0.mk c6
        clear c6
        obtain ⟨y429, hy429⟩ : ∃ y_ : List Int, y_ = (x3_1 ++ [wrap64 (Int.tdiv (wrap64 (x4_1 * (wrap64 (a0 - 1)))) 16)]) := ⟨_, rfl⟩
        replace H : (sketch_spread.l0 kj1 a0 y429 (wrap64 (x4_1 + 1))) = some r := by first | (rw [hy429]; with_reducible exact H) | (have H2_ := (Option.bind_some _ _).symm.trans H; rw [hy429]; with_reducible exact H2_) | (have H2_ := (Option.bind_some _ _).symm.trans H; with_reducible exact H2_) | with_reducible exact H | (rw [hy429]; exact H) | exact H
        have Ny429 := Aside0.mk hy429
        clear hy429
        have H' := Aside0.mk H
        clear H
        obtain ⟨Ao7, co7, eo7⟩ := Kd.R_slice HO_3.out
        subst eo7
        go_wp2_with (first | ((with_reducible refine gate_builtin (b := .append) (xs := #[.tmp 32, .tmp 34]) rfl ?_); (try (refine gate_guard (by rfl) ?_; dsimp only)); at_builtin; refine Kd.R_append (Kd.int .i64) (w0 := w) w.heap.size rfl (.tmp 32) (.tmp 34) 23 3 (.int .i64 0) 8 rfl Try.underlying23 info3 rfl (by decide) (by omega) (.slice Ao7 x3_1.length co7) x3_1 (wrap64 (Int.tdiv (wrap64 (x4_1 * (wrap64 (a0 - 1)))) 16)) [.int .i64 (wrap64 (Int.tdiv (wrap64 (x4_1 * (wrap64 (a0 - 1)))) 16))] (fun _ => True) (fun _ => False) rfl rfl ?aP (fun _ hk => hk.elim) ?aF ?aO ?aB ?aS ?aL ?_; (case aP => exact rfl); (case aB => exact (hb_ HB.out)); (case aF => exact (fun _ _ => trivial)); (case aO => exact (ra_ HO_3.out)); (case aS => exact (below_size (hb_ HB.out))); (case aL => have := LMc6.out; omega); intro v430 w8 ho hb hg hat; rw [← Ny429.out] at ho; have n0_ := Aside0.mk (hb); have n1_ := Aside0.mk (ho); clear HB; clear HO_3; have HB := n0_; have HO431 := n1_; clear n0_ n1_; clear ho hb hg hat))
        go_roundg kj1
        case measure => have := HK1.out; have := HJ1.out; omega
        case rel => exact ⟨(y429), (wrap64 (x4_1 + 1)), (by first | rfl | (simp; done) | (simp [*]; done)), H', ⟨by have := HK1.out; have := HJ1.out; omega⟩, ⟨by (with_reducible repeat (first | apply Kd.R_alloc | apply Kd.R_drewN | apply Kd.R_drew)); exact HO431.out⟩, ⟨(hb_ HB.out)⟩⟩
       ·rw [if_neg c6] at H
        exact absurd H (by simp)
      ·rw [if_neg c5] at H
       have c5b0 : ((x3_1.length : Int) == 0) = false := beq_eq_false_iff_ne.mpr c5
       have c5b1 : ((x3_1.length : Int) != 0) = true := bne_iff_ne.mpr c5
       have c5b2 : ¬ (x3_1 = []) := fun h_ => c5 (by rw [h_]; rfl)
       obtain ⟨ji9, hji9⟩ : ∃ j_ : Int, (wrap64 ((x3_1.length : Int) - 1)) = j_ := ⟨_, rfl⟩
       replace H : (if 0 ≤ (ji9) then (if (ji9) < (x3_1.length : Int) then (if (rd x3_1 (ji9)) = (wrap64 (Int.tdiv (wrap64 (x4_1 * (wrap64 (a0 - 1)))) 16)) then (sketch_spread.l0 kj1 a0 x3_1 (wrap64 (x4_1 + 1))) else (if x3_1.length < 17592186044416 then (sketch_spread.l0 kj1 a0 (x3_1 ++ [wrap64 (Int.tdiv (wrap64 (x4_1 * (wrap64 (a0 - 1)))) 16)]) (wrap64 (x4_1 + 1))) else (none))) else (none)) else (none)) = some r := by first | (rw [hji9] at H; exact H) | (simp only [hji9] at H ⊢; exact H)
       have hji9w : (IntKind.i64.wrap ((x3_1.length : Int) - 1)) = ji9 := (i64_w _).trans hji9
       by_cases c10 : 0 ≤ (ji9)
       ·rw [if_pos c10] at H
        have c10b0 : decide (0 ≤ (ji9)) = true := decide_eq_true c10
        clear c10
        by_cases c11 : (ji9) < (x3_1.length : Int)
        ·rw [if_pos c11] at H
         have c11b0 : decide ((ji9) < (x3_1.length : Int)) = true := decide_eq_true c11
         clear c11
         by_cases c12 : (rd x3_1 (ji9)) = (wrap64 (Int.tdiv (wrap64 (x4_1 * (wrap64 (a0 - 1)))) 16))
         ·rw [if_pos c12] at H
          have c12b0 : ((rd x3_1 (ji9)) == (wrap64 (Int.tdiv (wrap64 (x4_1 * (wrap64 (a0 - 1)))) 16))) = true := beq_iff_eq.mpr c12
          have c12b1 : ((rd x3_1 (ji9)) != (wrap64 (Int.tdiv (wrap64 (x4_1 * (wrap64 (a0 - 1)))) 16))) = false := bne_eq_false_iff_eq.mpr c12
          clear c12
          have H' := Aside0.mk H
          clear H
          obtain ⟨Ao13, co13, eo13⟩ := Kd.R_slice HO_3.out
          subst eo13
          have p432 : 0 ≤ ((ji9) : Int) := of_decide_eq_true (by first | (with_reducible assumption) | assumption)
          have q432 : (ji9) < (x3_1.length : Int) := of_decide_eq_true (by first | (with_reducible assumption) | assumption)
          obtain ⟨ad432, e432, hx432_0⟩ := Kd.at_int (Kd.R_reads' HO_3.out).2.2 (ji9) p432 q432
          cases e432
          replace p432 := eq_true p432
          replace q432 := eq_true q432
          go_wp2
          go_roundg kj1
          case measure => have := HK1.out; have := HJ1.out; omega
          case rel => exact ⟨(x3_1), (wrap64 (x4_1 + 1)), (by first | rfl | (simp; done) | (simp [*]; done)), H', ⟨by have := HK1.out; have := HJ1.out; omega⟩, ⟨by (with_reducible repeat (first | apply Kd.R_alloc | apply Kd.R_drewN | apply Kd.R_drew)); exact HO_3.out⟩, ⟨(hb_ HB.out)⟩⟩
         ·rw [if_neg c12] at H
          have c12b0 : ((rd x3_1 (ji9)) == (wrap64 (Int.tdiv (wrap64 (x4_1 * (wrap64 (a0 - 1)))) 16))) = false := beq_eq_false_iff_ne.mpr c12
          have c12b1 : ((rd x3_1 (ji9)) != (wrap64 (Int.tdiv (wrap64 (x4_1 * (wrap64 (a0 - 1)))) 16))) = true := bne_iff_ne.mpr c12
          by_cases c14 : x3_1.length < 17592186044416
          ·rw [if_pos c14] at H
           have LMc14 := Aside0.mk c14
           clear c14
           obtain ⟨y433, hy433⟩ : ∃ y_ : List Int, y_ = (x3_1 ++ [wrap64 (Int.tdiv (wrap64 (x4_1 * (wrap64 (a0 - 1)))) 16)]) := ⟨_, rfl⟩
           replace H : (sketch_spread.l0 kj1 a0 y433 (wrap64 (x4_1 + 1))) = some r := by first | (rw [hy433]; with_reducible exact H) | (have H2_ := (Option.bind_some _ _).symm.trans H; rw [hy433]; with_reducible exact H2_) | (have H2_ := (Option.bind_some _ _).symm.trans H; with_reducible exact H2_) | with_reducible exact H | (rw [hy433]; exact H) | exact H
           have Ny433 := Aside0.mk hy433
           clear hy433
           have H' := Aside0.mk H
           clear H
           obtain ⟨Ao15, co15, eo15⟩ := Kd.R_slice HO_3.out
           subst eo15
           have p432 : 0 ≤ ((ji9) : Int) := of_decide_eq_true (by first | (with_reducible assumption) | assumption)
           have q432 : (ji9) < (x3_1.length : Int) := of_decide_eq_true (by first | (with_reducible assumption) | assumption)
           obtain ⟨ad432, e432, hx432_0⟩ := Kd.at_int (Kd.R_reads' HO_3.out).2.2 (ji9) p432 q432
           cases e432
           replace p432 := eq_true p432
           replace q432 := eq_true q432
           go_wp2_with (first | ((with_reducible refine gate_builtin (b := .append) (xs := #[.tmp 32, .tmp 34]) rfl ?_); (try (refine gate_guard (by rfl) ?_; dsimp only)); at_builtin; refine Kd.R_append (Kd.int .i64) (w0 := w) w.heap.size rfl (.tmp 32) (.tmp 34) 23 3 (.int .i64 0) 8 rfl Try.underlying23 info3 rfl (by decide) (by omega) (.slice (some ad432) x3_1.length co15) x3_1 (wrap64 (Int.tdiv (wrap64 (x4_1 * (wrap64 (a0 - 1)))) 16)) [.int .i64 (wrap64 (Int.tdiv (wrap64 (x4_1 * (wrap64 (a0 - 1)))) 16))] (fun _ => True) (fun _ => False) rfl rfl ?aP (fun _ hk => hk.elim) ?aF ?aO ?aB ?aS ?aL ?_; (case aP => exact rfl); (case aB => exact (hb_ HB.out)); (case aF => exact (fun _ _ => trivial)); (case aO => exact (ra_ HO_3.out)); (case aS => exact (below_size (hb_ HB.out))); (case aL => have := LMc14.out; omega); intro v434 w16 ho hb hg hat; rw [← Ny433.out] at ho; have n0_ := Aside0.mk (hb); have n1_ := Aside0.mk (ho); clear HB; clear HO_3; have HB := n0_; have HO435 := n1_; clear n0_ n1_; clear ho hb hg hat))
           go_roundg kj1
           case measure => have := HK1.out; have := HJ1.out; omega
           case rel => exact ⟨(y433), (wrap64 (x4_1 + 1)), (by first | rfl | (simp; done) | (simp [*]; done)), H', ⟨by have := HK1.out; have := HJ1.out; omega⟩, ⟨by (with_reducible repeat (first | apply Kd.R_alloc | apply Kd.R_drewN | apply Kd.R_drew)); exact HO435.out⟩, ⟨(hb_ HB.out)⟩⟩
          ·rw [if_neg c14] at H
           exact absurd H (by simp)
        ·rw [if_neg c11] at H
         exact absurd H (by simp)
       ·rw [if_neg c10] at H
        exact absurd H (by simp)
     ·replace c4 := Bool.eq_false_iff.mpr c4
      subst c4
      have H1 : (some x3_1) = some r := by rw [if_neg (show ¬ (false = true) by decide)] at H; exact H
      clear H
      have H := H1
      clear H1
      obtain rfl := Option.some.inj H
      go_wp2
      go_ret
      exact ⟨_, by first | rfl | (simp [errW_none, errW_some] <;> rfl) | (simp [*, errW_none, errW_some] <;> rfl), by (with_reducible repeat (first | apply Kd.R_alloc | apply Kd.R_drewN | apply Kd.R_drew)); exact HO_3.out, (hb_ HB.out)⟩
/-! ### sketch_count: function 66 -/
def sketch_count.f (a0_0 : Int) (a0_1 : Int) (l0_2 : List Int) (a0_3 : Bool) (l0_4 : List Int) (l0_5 : List (S39)) (l0_6 : List Int) : Option (Int) := some (wrap64 (a0_0 - a0_1))
set_option maxHeartbeats 8000000 in
set_option maxRecDepth 100000 in
theorem sketch_count.calls (a0_0 : Int) (a0_1 : Int) (A0_2 : Option Addr) (c0_2 : Nat) (l0_2 : List Int) (a0_3 : Bool) (A0_4 : Option Addr) (c0_4 : Nat) (l0_4 : List Int) (A0_5 : Option Addr) (c0_5 : Nat) (l0_5 : List (S39)) (A0_6 : Option Addr) (c0_6 : Nat) (l0_6 : List Int) (r : Int) (w : World) (hr0_2 : Kd.C (Kd.int .u64) w A0_2 l0_2.length l0_2) (hc0_2 : l0_2.length ≤ c0_2) (hr0_4 : Kd.C (Kd.int .i64) w A0_4 l0_4.length l0_4) (hc0_4 : l0_4.length ≤ c0_4) (hr0_5 : Kd.C k39 w A0_5 l0_5.length l0_5) (hc0_5 : l0_5.length ≤ c0_5) (hr0_6 : Kd.C (Kd.int .i64) w A0_6 l0_6.length l0_6) (hc0_6 : l0_6.length ≤ c0_6) (h : sketch_count.f a0_0 a0_1 l0_2 a0_3 l0_4 l0_5 l0_6 = some r) :
  Calls Try.prog 66 #[.agg #[.int .i64 a0_0, .int .i64 a0_1, .slice A0_2 l0_2.length c0_2, .bool a0_3, .slice A0_4 l0_4.length c0_4, .slice A0_5 l0_5.length c0_5, .slice A0_6 l0_6.length c0_6]] w fun e w' => e = .returned (.int .i64 r) ∧ Below w.heap.size w w' := by
 have hu26 := Try.underlying26
 have HR0_2 := Aside0.mk hr0_2
 have HC0_2 := Aside0.mk hc0_2
 clear hr0_2 hc0_2
 have HR0_4 := Aside0.mk hr0_4
 have HC0_4 := Aside0.mk hc0_4
 clear hr0_4 hc0_4
 have HR0_5 := Aside0.mk hr0_5
 have HC0_5 := Aside0.mk hc0_5
 clear hr0_5 hc0_5
 have HR0_6 := Aside0.mk hr0_6
 have HC0_6 := Aside0.mk hc0_6
 clear hr0_6 hc0_6
 have HB := Aside0.mk (Below.refl w.heap.size w)
 have H : (some (wrap64 (a0_0 - a0_1))) = some r := h
 clear h
 obtain rfl := Option.some.inj H
 go_enter Try.func66, Try.ntmps66
 go_wp2_with (first | ((with_reducible refine gate_dst (N := 1) rfl ?_); refine box_ 1 (cs := #[.int .i64 a0_0, .int .i64 a0_1, .slice A0_2 l0_2.length c0_2, .bool a0_3, .slice A0_4 l0_4.length c0_4, .slice A0_5 l0_5.length c0_5, .slice A0_6 l0_6.length c0_6]) (t := 26) ?_; intro gb436 hg w2 hbox hb; have BK436 := Aside0.mk (hbox); have GW436 := Aside0.mk ((by rw [hg]; exact (below_size (hb_ HB.out)) : w.heap.size ≤ gb436)); have GE436 := Aside0.mk ((by rw [hg]; exact (below_size (hb_ HB.out)) : w.heap.size ≤ gb436)); replace HB := Aside0.mk (below_step (hb_ HB.out) hb); clear hb hbox hg; obtain ⟨hcz3_0, hcz3_1, hcz3_2, hcz3_3, hcz3_4, hcz3_5, hcz3_6, hfz3_0, hfz3_1, hfz3_2, hfz3_3, hfz3_4, hfz3_5, hfz3_6⟩ := bf7 BK436.out))
 go_ret
 exact er_ ((hb1_ HB.out GE436.out))
end Go.Proofs.Ytackcingpffidaa.P
namespace Go.Proofs.Ytackcingpffidaa.P
open Go.RowKit Go.Proofs.YtackcingpffidaaW.PrintWords Go.Proofs.YtackcingpffidaaW.PrintLast Go.Proofs.YtackcingpffidaaW.PrintMore
theorem eqV_calls (x y : S39) (b : Bool) (h : (cV x y == 0) = b) (w : World) : Calls Try.prog 59 #[.agg #[.int .i64 x.f0, .int .i64 x.f1, .string x.f2], .agg #[.int .i64 y.f0, .int .i64 y.f1, .string y.f2]] w fun e w' => e = .returned (.bool b) ∧ Below w.heap.size w w' :=
 value_Equal.calls _ _ _ _ _ _ b w (by unfold value_Equal.f; rw [cV_is]; exact congrArg some h)
/-- The values that are not NULL. -/
def someS (l : List S39) : List S39 := l.filter fun v => !(v.f0 == 0)
/-- Their hashes, as they come. -/
def hashS (k : Nat) : List S39 → Option (List Int)
 | [] => some []
 | v :: vs => (value_Hash.f k 3 [v]).bind fun h => (hashS k vs).bind fun r => some (h :: r)
/-- One counter more, in row r. -/
def bump (k : Nat) (v : S39) (cs : List Int) (r : Nat) : Option (List Int) := (sketch_cell.f k r v.f0 v.f1 v.f2).bind fun c => if 0 ≤ c ∧ c < 64 then some (cs.set (r * 64 + c.toNat) (wrap64 (cs.getD (r * 64 + c.toNat) 0 + 1))) else none
def bumps (k : Nat) (v : S39) : List Int → Nat → Nat → Option (List Int)
 | cs, _, 0 => some cs
 | cs, r, m + 1 => (bump k v cs r).bind fun cs' => bumps k v cs' (r + 1) m
def counts (k : Nat) : List S39 → List Int → Option (List Int)
 | [], cs => some cs
 | v :: vs, cs => (bumps k v cs 0 4).bind fun cs' => counts k vs cs'
/-- The first place of the values equal to the one at kk, from f downwards; the first place behind them, upwards. -/
def fromS (s : List S39) (kk : Int) : Nat → Nat
 | 0 => 0
 | f + 1 => if cV (rd_T39 s f) (rd_T39 s kk) == 0 then fromS s kk f else f + 1
def toS (s : List S39) (kk : Int) : Nat → Nat → Nat
 | t, 0 => t
 | t, m + 1 => if cV (rd_T39 s t) (rd_T39 s kk) == 0 then toS s kk (t + 1) m else t
def fenceS (s : List S39) : List Int → List S39 → List Int → List S39 × List Int
 | [], F, R => (F, R)
 | kk :: ks, F, R => if decide (0 < F.length) && (cV (rd_T39 F ((F.length : Int) - 1)) (rd_T39 s kk) == 0) then fenceS s ks F R else fenceS s ks (F ++ [rd_T39 s kk]) (R ++ [(fromS s kk kk.toNat : Int), (toS s kk (kk.toNat + 1) (s.length - (kk.toNat + 1)) : Int)])
end Go.Proofs.Ytackcingpffidaa.P
namespace Go.Proofs.Ytackcingpffidaa.P
open Go.RowKit Go.Proofs.YtackcingpffidaaW.PrintWords Go.Proofs.YtackcingpffidaaW.PrintLast Go.Proofs.YtackcingpffidaaW.PrintMore
set_option linter.unusedVariables false
theorem C1 {w : World} {g : Nat} {x : S39} (h : w.heap[g]? = some (.cells #[.int .i64 x.f0, .int .i64 x.f1, .string x.f2] 39 (0, 0))) : Kd.C k39 w (some ⟨g, 0, none⟩) 1 [x] := by
 refine ⟨rfl, by decide, fun _ => ⟨_, rfl, fun j p hj => ?_⟩⟩
 cases j with
 | succ j => simp at hj
 | zero =>
  obtain rfl : x = p := by simpa using hj
  refine ⟨[.int .i64 x.f0, .int .i64 x.f1, .string x.f2], rfl, k39_mk w x, fun i u hu => ?_⟩
  have h0 := blk_cell h i
  rw [Nat.zero_mul, Nat.zero_add]
  have e : (⟨g, 0, none⟩ : Addr).add i = ⟨g, i, none⟩ := by unfold Addr.add; split <;> simp_all
  rw [e, h0]
  simpa using hu
theorem hash1 (k : Nat) (x : S39) (h : Int) (hh : value_Hash.f k 3 [x] = some h) {w : World} {g : Nat} (hb : w.heap[g]? = some (.cells #[.int .i64 x.f0, .int .i64 x.f1, .string x.f2] 39 (0, 0))) :
  Calls Try.prog 54 #[.int .u64 3, .slice (some ⟨g, 0, none⟩) 1 1] w fun e w' => e = .returned (.int .u64 h) ∧ Below w.heap.size w w' :=
 value_Hash.calls k 3 (some ⟨g, 0, none⟩) 1 [x] h w (C1 hb) (Nat.le_refl _) hh
theorem hashS_len {k : Nat} : ∀ {S : List S39} {hs : List Int}, hashS k S = some hs → hs.length = S.length
 | [], hs, h => by obtain rfl := Option.some.inj h; rfl
 | v :: vs, hs, h => by
  obtain ⟨a, h1, h2⟩ := Option.bind_eq_some_iff.mp h
  obtain ⟨b, h3, h4⟩ := Option.bind_eq_some_iff.mp h2
  obtain rfl := Option.some.inj h4
  simp [hashS_len h3]
theorem hashS_at {k : Nat} : ∀ {S : List S39} {hs : List Int}, hashS k S = some hs → ∀ i : Nat, i < S.length → value_Hash.f k 3 [rd_T39 S i] = some (rd hs i)
 | [], hs, h, i, hi => by simp at hi
 | v :: vs, hs, h, i, hi => by
  obtain ⟨a, h1, h2⟩ := Option.bind_eq_some_iff.mp h
  obtain ⟨b, h3, h4⟩ := Option.bind_eq_some_iff.mp h2
  obtain rfl := Option.some.inj h4
  cases i with
  | zero => exact h1
  | succ i =>
   have := hashS_at h3 i (by simpa using hi)
   simpa [rd_T39, rd] using this
theorem take_rd (hs : List Int) (i : Nat) (h : i < hs.length) : hs.take (i + 1) = hs.take i ++ [rd hs i] := by
 rw [List.take_succ_eq_append_getElem h]
 unfold rd
 rw [Int.toNat_natCast, List.getD_eq_getElem?_getD, List.getElem?_eq_getElem h]
 rfl
theorem drop_rd39 (S : List S39) (i : Nat) (h : i < S.length) : S.drop i = rd_T39 S i :: S.drop (i + 1) := by
 rw [List.drop_eq_getElem_cons h]
 congr 1
 unfold rd_T39
 rw [Int.toNat_natCast, List.getD_eq_getElem?_getD, List.getElem?_eq_getElem h]
 rfl
/-- One value's four counters, then the other values. -/
theorem counts_next {k : Nat} {S : List S39} {i : Nat} (h : i < S.length) {cur cs : List Int} (hc : counts k (S.drop i) cur = some cs) : ∃ c2, bumps k (rd_T39 S i) cur 0 4 = some c2 ∧ counts k (S.drop (i + 1)) c2 = some cs := by
 rw [drop_rd39 S i h] at hc
 exact Option.bind_eq_some_iff.mp hc
theorem bumps_next {k : Nat} {v : S39} {cur c2 : List Int} {r m : Nat} (h : bumps k v cur r (m + 1) = some c2) : ∃ c : Int, sketch_cell.f k r v.f0 v.f1 v.f2 = some c ∧ 0 ≤ c ∧ c < 64 ∧ bumps k v (cur.set (r * 64 + c.toNat) (wrap64 (cur.getD (r * 64 + c.toNat) 0 + 1))) (r + 1) m = some c2 := by
 obtain ⟨a, h1, h2⟩ := Option.bind_eq_some_iff.mp h
 unfold bump at h1
 obtain ⟨c, h3, h4⟩ := Option.bind_eq_some_iff.mp h1
 by_cases hc : 0 ≤ c ∧ c < 64
 ·rw [if_pos hc] at h4
  obtain rfl := Option.some.inj h4
  exact ⟨c, h3, hc.1, hc.2, h2⟩
 ·rw [if_neg hc] at h4
  exact absurd h4 (by simp)
/-- The counters' block. -/
def cntO (cur : List Int) : Obj := .cells (cur.map (Value.int .i64)).toArray 77 (0, 0)
theorem cnt_cell {w : World} {g : Nat} {cur : List Int} (h : w.heap[g]? = some (cntO cur)) (j : Nat) (hj : j < cur.length) : w.cell? ⟨g, j, none⟩ = some (.int .i64 (cur.getD j 0)) := by
 have h0 := blk_cell h j
 rw [h0]
 simp [hj]
theorem cnt_put {w : World} {g : Nat} {cur : List Int} (h : w.heap[g]? = some (cntO cur)) (j : Nat) (x : Int) : (w.setCell ⟨g, j, none⟩ (.int .i64 x)).heap[g]? = some (cntO (cur.set j x)) := by
 refine blk_put h j _ ?_
 apply Array.ext'
 simp [List.map_set]
theorem cnt_zero : Obj.cells Try.zeroCells77 77 (0, 0) = cntO (List.replicate 256 0) := by
 unfold cntO
 rw [List.map_replicate]
 kernel_rfl
theorem C2 {w : World} {g : Nat} {a b : Int} (h : w.heap[g]? = some (.cells #[.int .i64 a, .int .i64 b] 3 (0, 0))) : Kd.C (Kd.int .i64) w (some ⟨g, 0, none⟩) 2 [a, b] := by
 refine Kd.C_of_reads (enc := Value.int .i64) (d := (0 : Int)) (h1 := fun _ => rfl) ⟨rfl, by decide, fun _ => ⟨_, rfl, fun j hj => ?_⟩⟩
 have h0 := blk_cell h j
 rw [show (⟨g, 0, none⟩ : Addr).add j = ⟨g, j, none⟩ from by unfold Addr.add; split <;> simp_all, h0]
 match j, hj with
 | 0, _ => rfl
 | 1, _ => rfl
def put7 (w : World) (g : Nat) (u0 u1 u2 u3 u4 u5 u6 : Value) : World := ((((((w.setCell ⟨g, 0, none⟩ u0).setCell ⟨g, 1, none⟩ u1).setCell ⟨g, 2, none⟩ u2).setCell ⟨g, 3, none⟩ u3).setCell ⟨g, 4, none⟩ u4).setCell ⟨g, 5, none⟩ u5).setCell ⟨g, 6, none⟩ u6
theorem put7_blk {w : World} {g : Nat} {t : TypeId} {a0 a1 a2 a3 a4 a5 a6 : Value} (h : w.heap[g]? = some (.cells #[a0, a1, a2, a3, a4, a5, a6] t (0, 0))) (u0 u1 u2 u3 u4 u5 u6 : Value) : (put7 w g u0 u1 u2 u3 u4 u5 u6).heap[g]? = some (.cells #[u0, u1, u2, u3, u4, u5, u6] t (0, 0)) := by
 have h0 := blk_put (cs' := #[u0, a1, a2, a3, a4, a5, a6]) h 0 u0 rfl
 have h1 := blk_put (cs' := #[u0, u1, a2, a3, a4, a5, a6]) h0 1 u1 rfl
 have h2 := blk_put (cs' := #[u0, u1, u2, a3, a4, a5, a6]) h1 2 u2 rfl
 have h3 := blk_put (cs' := #[u0, u1, u2, u3, a4, a5, a6]) h2 3 u3 rfl
 have h4 := blk_put (cs' := #[u0, u1, u2, u3, u4, a5, a6]) h3 4 u4 rfl
 have h5 := blk_put (cs' := #[u0, u1, u2, u3, u4, u5, a6]) h4 5 u5 rfl
 exact blk_put (cs' := #[u0, u1, u2, u3, u4, u5, u6]) h5 6 u6 rfl
theorem typ_set {w : World} {g : Nat} {t : TypeId} (h : ∃ cs, w.heap[g]? = some (.cells cs t (0, 0))) (j : Nat) (u : Value) : ∃ cs, (w.setCell ⟨g, j, none⟩ u).heap[g]? = some (.cells cs t (0, 0)) := by
 obtain ⟨cs, h⟩ := h
 exact ⟨_, blk_set h j u⟩
theorem R_setE {w : World} {g : Nat} {t : TypeId} (h : ∃ cs, w.heap[g]? = some (.cells cs t (0, 0))) {α : Type} {d : Kd α} {e base : Nat} {ok : Nat → Prop} {v : Value} {xs : List α} (hr : d.R e w base ok v xs) (ht : ∀ q, q ∈ e :: d.E → q ≠ t) (j : Nat) (u : Value) : d.R e (w.setCell ⟨g, j, none⟩ u) base ok v xs := by
 obtain ⟨cs, h⟩ := h
 exact Kd.R_set hr h ht j u
theorem put7_R {w : World} {g : Nat} {t : TypeId} {cs : Array Value} (h : w.heap[g]? = some (.cells cs t (0, 0))) (u0 u1 u2 u3 u4 u5 u6 : Value) {α : Type} {d : Kd α} {e base : Nat} {ok : Nat → Prop} {v : Value} {xs : List α} (hr : d.R e w base ok v xs) (ht : ∀ q, q ∈ e :: d.E → q ≠ t) : d.R e (put7 w g u0 u1 u2 u3 u4 u5 u6) base ok v xs := by
 have t0 : ∃ cs, w.heap[g]? = some (.cells cs t (0, 0)) := ⟨_, h⟩
 have t1 := typ_set t0 0 u0
 have t2 := typ_set t1 1 u1
 have t3 := typ_set t2 2 u2
 have t4 := typ_set t3 3 u3
 have t5 := typ_set t4 4 u4
 have t6 := typ_set t5 5 u5
 exact R_setE t6 (R_setE t5 (R_setE t4 (R_setE t3 (R_setE t2 (R_setE t1 (R_setE t0 hr ht 0 u0) ht 1 u1) ht 2 u2) ht 3 u3) ht 4 u4) ht 5 u5) ht 6 u6
theorem put7_below {b : Nat} {w0 w : World} (h : Below b w0 w) {g : Nat} (hg : b ≤ g) (u0 u1 u2 u3 u4 u5 u6 : Value) : Below b w0 (put7 w g u0 u1 u2 u3 u4 u5 u6) :=
 ((((((h.setCell (p := ⟨g, 0, none⟩) hg u0).setCell (p := ⟨g, 1, none⟩) hg u1).setCell (p := ⟨g, 2, none⟩) hg u2).setCell (p := ⟨g, 3, none⟩) hg u3).setCell (p := ⟨g, 4, none⟩) hg u4).setCell (p := ⟨g, 5, none⟩) hg u5).setCell (p := ⟨g, 6, none⟩) hg u6
theorem drop_rd (S : List Int) (i : Nat) (h : i < S.length) : S.drop i = rd S i :: S.drop (i + 1) := by
 rw [List.drop_eq_getElem_cons h]
 congr 1
 unfold rd
 rw [Int.toNat_natCast, List.getD_eq_getElem?_getD, List.getElem?_eq_getElem h]
 rfl
theorem fence_same {T : List S39} {sp : List Int} {j : Nat} {Fj F : List S39} {Rj R : List Int} {x y : S39} (h : fenceS T (sp.drop j) Fj Rj = (F, R)) (hj : j < sp.length) (hx : rd_T39 Fj ((Fj.length : Int) - 1) = x) (hy : rd_T39 T (rd sp j) = y) (he : (cV x y == 0) = true) (hF : 0 < Fj.length) : fenceS T (sp.drop (j + 1)) Fj Rj = (F, R) := by
 rw [drop_rd sp j hj] at h
 unfold fenceS at h
 rw [if_pos (by rw [hx, hy, he, decide_eq_true hF]; rfl)] at h
 exact h
theorem fence_more {T : List S39} {sp : List Int} {j : Nat} {Fj F : List S39} {Rj R : List Int} {y : S39} (h : fenceS T (sp.drop j) Fj Rj = (F, R)) (hj : j < sp.length) (hy : rd_T39 T (rd sp j) = y) (he : (decide (0 < Fj.length) && (cV (rd_T39 Fj ((Fj.length : Int) - 1)) y == 0)) = false) :
  fenceS T (sp.drop (j + 1)) (Fj ++ [y]) (Rj ++ [(fromS T (rd sp j) (rd sp j).toNat : Int), (toS T (rd sp j) ((rd sp j).toNat + 1) (T.length - ((rd sp j).toNat + 1)) : Int)]) = (F, R) := by
 rw [drop_rd sp j hj] at h
 unfold fenceS at h
 rw [if_neg (by rw [hy, he]; simp), hy] at h
 exact h
theorem from_down {T : List S39} {kk : Int} {f r : Nat} (h : fromS T kk (f + 1) = r) (he : (cV (rd_T39 T f) (rd_T39 T kk) == 0) = true) : fromS T kk f = r := by unfold fromS at h; rw [if_pos he] at h; exact h
theorem from_stay {T : List S39} {kk : Int} {f r : Nat} (h : fromS T kk (f + 1) = r) (he : (cV (rd_T39 T f) (rd_T39 T kk) == 0) = false) : f + 1 = r := by unfold fromS at h; rw [if_neg (by rw [he]; simp)] at h; exact h
theorem to_up {T : List S39} {kk : Int} {t m r : Nat} (h : toS T kk t (m + 1) = r) (he : (cV (rd_T39 T t) (rd_T39 T kk) == 0) = true) : toS T kk (t + 1) m = r := by unfold toS at h; rw [if_pos he] at h; exact h
theorem to_stay {T : List S39} {kk : Int} {t m r : Nat} (h : toS T kk t (m + 1) = r) (he : (cV (rd_T39 T t) (rd_T39 T kk) == 0) = false) : t = r := by unfold toS at h; rw [if_neg (by rw [he]; simp)] at h; exact h
theorem to_le (T : List S39) (kk : Int) : ∀ m t, toS T kk t m ≤ t + m
 | 0, t => Nat.le_refl _
 | m + 1, t => by unfold toS; split; (have := to_le T kk m (t + 1); omega); omega
theorem from_le (T : List S39) (kk : Int) : ∀ f, fromS T kk f ≤ f
 | 0 => Nat.le_refl _
 | f + 1 => by unfold fromS; split; (have := from_le T kk f; omega); omega
end Go.Proofs.Ytackcingpffidaa.P
namespace Go.Proofs.Ytackcingpffidaa.P
open Go.RowKit Go.Sort Go.Proofs.YtackcingpffidaaW.PrintWords Go.Proofs.YtackcingpffidaaW.PrintLast Go.Proofs.YtackcingpffidaaW.PrintMore
set_option linter.unusedVariables false
set_option linter.unusedSimpArgs false
theorem grow2 (W : World) (b1 b2 : Obj) (n : Nat) : ((W.alloc b1).alloc b2).drewN n = grow (W.drewN n) #[b1, b2] := by
 have h : (W.heap.push b1).push b2 = W.heap ++ #[b1, b2] := by
  apply Array.ext'
  simp
 show ({ W with heap := (W.heap.push b1).push b2, drawn := W.drawn + n } : World) = { W with heap := W.heap ++ #[b1, b2], drawn := W.drawn + n }
 rw [h]
set_option maxHeartbeats 2000000 in
set_option maxRecDepth 100000 in
theorem cV_grown (x y : S39) (c : Int) (h : cV x y = c) (W : World) : Calls Try.prog 53 #[.agg #[.int .i64 x.f0, .int .i64 x.f1, .string x.f2], .agg #[.int .i64 y.f0, .int .i64 y.f1, .string y.f2]] W fun e w' => e = .returned (.int .i64 c) ∧ ∃ q os', w' = grow (W.drewN q) os' := by
 have hf : value_Compare.f x.f0 x.f1 x.f2 y.f0 y.f1 y.f2 = some c := by rw [cV_is, h]
 have g1 : ((W.alloc (.cells #[.int .i64 x.f0, .int .i64 x.f1, .string x.f2] 39)).alloc (.cells #[.int .i64 y.f0, .int .i64 y.f1, .string y.f2] 39)).heap[W.heap.size]? = some (.cells #[.int .i64 x.f0, .int .i64 x.f1, .string x.f2] 39 (0, 0)) := blk_alloc (heap_alloc_new W (.cells #[.int .i64 x.f0, .int .i64 x.f1, .string x.f2] 39)) _
 have g2 : ((W.alloc (.cells #[.int .i64 x.f0, .int .i64 x.f1, .string x.f2] 39)).alloc (.cells #[.int .i64 y.f0, .int .i64 y.f1, .string y.f2] 39)).heap[W.heap.size + 1]? = some (.cells #[.int .i64 y.f0, .int .i64 y.f1, .string y.f2] 39 (0, 0)) := by
  have := heap_alloc_new (W.alloc (.cells #[.int .i64 x.f0, .int .i64 x.f1, .string x.f2] 39)) (.cells #[.int .i64 y.f0, .int .i64 y.f1, .string y.f2] 39)
  rwa [World.size_alloc] at this
 have p0 : ((W.alloc (.cells #[.int .i64 x.f0, .int .i64 x.f1, .string x.f2] 39)).alloc (.cells #[.int .i64 y.f0, .int .i64 y.f1, .string y.f2] 39)).cell? ⟨W.heap.size, 0, none⟩ = some (.int .i64 x.f0) := (blk_cell g1 0).trans rfl
 have p1 : ((W.alloc (.cells #[.int .i64 x.f0, .int .i64 x.f1, .string x.f2] 39)).alloc (.cells #[.int .i64 y.f0, .int .i64 y.f1, .string y.f2] 39)).cell? ⟨W.heap.size, 1, none⟩ = some (.int .i64 x.f1) := (blk_cell g1 1).trans rfl
 have p2 : ((W.alloc (.cells #[.int .i64 x.f0, .int .i64 x.f1, .string x.f2] 39)).alloc (.cells #[.int .i64 y.f0, .int .i64 y.f1, .string y.f2] 39)).cell? ⟨W.heap.size, 2, none⟩ = some (.string x.f2) := (blk_cell g1 2).trans rfl
 have q0 : ((W.alloc (.cells #[.int .i64 x.f0, .int .i64 x.f1, .string x.f2] 39)).alloc (.cells #[.int .i64 y.f0, .int .i64 y.f1, .string y.f2] 39)).cell? ⟨W.heap.size + 1, 0, none⟩ = some (.int .i64 y.f0) := (blk_cell g2 0).trans rfl
 have q1 : ((W.alloc (.cells #[.int .i64 x.f0, .int .i64 x.f1, .string x.f2] 39)).alloc (.cells #[.int .i64 y.f0, .int .i64 y.f1, .string y.f2] 39)).cell? ⟨W.heap.size + 1, 1, none⟩ = some (.int .i64 y.f1) := (blk_cell g2 1).trans rfl
 have q2 : ((W.alloc (.cells #[.int .i64 x.f0, .int .i64 x.f1, .string x.f2] 39)).alloc (.cells #[.int .i64 y.f0, .int .i64 y.f1, .string y.f2] 39)).cell? ⟨W.heap.size + 1, 2, none⟩ = some (.string y.f2) := (blk_cell g2 2).trans rfl
 clear g1 g2 h
 unfold value_Compare.f at hf
 by_cases hk : x.f0 = y.f0
 ·rw [if_pos hk] at hf
  have hkb : (x.f0 != y.f0) = false := by simp [hk]
  by_cases h3 : x.f0 = 3
  ·rw [if_pos h3] at hf
   obtain ⟨t, ht, he⟩ := Option.bind_eq_some_iff.mp hf
   obtain rfl := Option.some.inj he
   have HC : Aside0 (∀ w', Calls Try.prog 100 #[.string x.f2, .string y.f2] w' fun e w'' => e = .returned (.int .i64 t) ∧ Drawn0 w' w'') := ⟨fun w' => strings_Compare.calls x.f2 y.f2 t w' ht⟩
   have e3 : (x.f0 == 3) = true := by simp [h3]
   clear hf he ht hk h3
   go_enter Try.func53, Try.ntmps53; go_wp2_with (first | (go_at_call 99; refine (HC.out _).mono ?_; rintro e w1 ⟨rfl, n, rfl⟩) | (go_at_call 100; refine (HC.out _).mono ?_; rintro e w1 ⟨rfl, n, rfl⟩)); go_ret
   exact ⟨rfl, _, _, grow2 W _ _ _⟩
  ·rw [if_neg h3] at hf
   have e3 : (x.f0 == 3) = false := by simp [h3]
   by_cases h1 : x.f0 = 1
   ·rw [if_pos h1] at hf
    obtain ⟨t, ht, he⟩ := Option.bind_eq_some_iff.mp hf
    obtain rfl := Option.some.inj he
    have HC : Aside0 (∀ w', Calls Try.prog 99 #[.bool (decide (x.f1 < y.f1)), .bool (decide (y.f1 < x.f1))] w' fun e w'' => e = .returned (.int .i64 t) ∧ Drawn0 w' w'') := ⟨fun w' => value_sign.calls _ _ t w' ht⟩
    have e1 : (x.f0 == 1) = true := by simp [h1]
    clear hf he ht hk h3 h1
    go_enter Try.func53, Try.ntmps53; go_wp2_with (first | (go_at_call 99; refine (HC.out _).mono ?_; rintro e w1 ⟨rfl, n, rfl⟩) | (go_at_call 100; refine (HC.out _).mono ?_; rintro e w1 ⟨rfl, n, rfl⟩)); go_ret
    exact ⟨rfl, _, _, grow2 W _ _ _⟩
   ·rw [if_neg h1] at hf
    have e1 : (x.f0 == 1) = false := by simp [h1]
    by_cases h2 : x.f0 = 2
    ·rw [if_pos h2] at hf
     obtain ⟨t, ht, he⟩ := Option.bind_eq_some_iff.mp hf
     obtain rfl := Option.some.inj he
     have HC : Aside0 (∀ w', Calls Try.prog 99 #[.bool (decide (x.f1 < y.f1)), .bool (decide (y.f1 < x.f1))] w' fun e w'' => e = .returned (.int .i64 t) ∧ Drawn0 w' w'') := ⟨fun w' => value_sign.calls _ _ t w' ht⟩
     have e2 : (x.f0 == 2) = true := by simp [h2]
     clear hf he ht hk h3 h1 h2
     go_enter Try.func53, Try.ntmps53; go_wp2_with (first | (go_at_call 99; refine (HC.out _).mono ?_; rintro e w1 ⟨rfl, n, rfl⟩) | (go_at_call 100; refine (HC.out _).mono ?_; rintro e w1 ⟨rfl, n, rfl⟩)); go_ret
     exact ⟨rfl, _, _, grow2 W _ _ _⟩
    ·rw [if_neg h2] at hf
     obtain rfl := Option.some.inj hf
     have e2 : (x.f0 == 2) = false := by simp [h2]
     clear hf hk h3 h1 h2
     go_enter Try.func53, Try.ntmps53
     go_wp2
     go_ret
     exact ⟨rfl, 0, _, grow2 W _ _ 0⟩
 ·rw [if_neg hk] at hf
  obtain ⟨t, ht, he⟩ := Option.bind_eq_some_iff.mp hf
  obtain rfl := Option.some.inj he
  have hkb : (x.f0 != y.f0) = true := by simp [hk]
  have HC : Aside0 (∀ w', Calls Try.prog 99 #[.bool (decide (x.f0 < y.f0)), .bool true] w' fun e w'' => e = .returned (.int .i64 t) ∧ Drawn0 w' w'') := ⟨fun w' => value_sign.calls _ _ t w' ht⟩
  clear hf he ht hk
  go_enter Try.func53, Try.ntmps53; go_wp2_with (first | (go_at_call 99; refine (HC.out _).mono ?_; rintro e w1 ⟨rfl, n, rfl⟩) | (go_at_call 100; refine (HC.out _).mono ?_; rintro e w1 ⟨rfl, n, rfl⟩)); go_ret
  exact ⟨rfl, _, _, grow2 W _ _ _⟩
end Go.Proofs.Ytackcingpffidaa.P
namespace Go.Proofs
open Go.Shelf
def Try.laysSortF_ren : Go.Shelf.Ren := ⟨fun | 6 => 52 | 15 => 98 | 14 => 97 | 28 => 120 | 29 => 121 | 20 => 112 | 21 => 113 | 22 => 114 | 23 => 115 | 24 => 116 | 25 => 117 | 26 => 118 | 27 => 119 | 46 => 128 | 47 => 129 | 48 => 130 | 49 => 131 | 50 => 132 | 57 => 142 | n => n, fun | 22 => 24 | 24 => 39 | 25 => 52 | 3 => 3 | 39 => 109 | 0 => 0 | 53 => 136 | 55 => 53 | 4 => 4 | 46 => 130 | 45 => 129 | 50 => 93 | 5 => 5 | 9 => 9 | 66 => 141 | 70 => 144 | 76 => 151 | 77 => 152 | n => n, fun | n => n⟩
theorem Try.laysSortF : Go.Proofs.SlLaysF0.n6 Try.prog Try.laysSortF_ren := {
 mixed := by kernel_rfl
 f6 := ⟨Try.f52.name, by decide, Try.func52.trans (congrArg some (by kernel_rfl))⟩
 f14 := ⟨Try.f97.name, by decide, Try.func97.trans (congrArg some (by kernel_rfl))⟩
 f15 := Try.func98.trans (congrArg some (by kernel_rfl))
 f20 := ⟨Try.f112.name, by decide, Try.func112.trans (congrArg some (by kernel_rfl))⟩
 f21 := ⟨Try.f113.name, by decide, Try.func113.trans (congrArg some (by kernel_rfl))⟩
 f22 := ⟨Try.f114.name, by decide, Try.func114.trans (congrArg some (by kernel_rfl))⟩
 f23 := ⟨Try.f115.name, by decide, Try.func115.trans (congrArg some (by kernel_rfl))⟩
 f24 := ⟨Try.f116.name, by decide, Try.func116.trans (congrArg some (by kernel_rfl))⟩
 f25 := ⟨Try.f117.name, by decide, Try.func117.trans (congrArg some (by kernel_rfl))⟩
 f26 := ⟨Try.f118.name, by decide, Try.func118.trans (congrArg some (by kernel_rfl))⟩
 f27 := ⟨Try.f119.name, by decide, Try.func119.trans (congrArg some (by kernel_rfl))⟩
 f28 := Try.func120.trans (congrArg some (by kernel_rfl))
 f29 := Try.func121.trans (congrArg some (by kernel_rfl))
 f46 := ⟨Try.f128.name, by decide, Try.func128.trans (congrArg some (by kernel_rfl))⟩
 f47 := Try.func129.trans (congrArg some (by kernel_rfl))
 f48 := Try.func130.trans (congrArg some (by kernel_rfl))
 f49 := ⟨Try.f131.name, by decide, Try.func131.trans (congrArg some (by kernel_rfl))⟩
 f50 := ⟨Try.f132.name, by decide, Try.func132.trans (congrArg some (by kernel_rfl))⟩
 f57 := ⟨Try.f142.name, by decide, Try.func142.trans (congrArg some (by kernel_rfl))⟩
 t0 := Try.underlying0
 a0 := Try.isAgg0
 z0 := Try.sizeOf0
 v0 := Try.zeroValue0
 t3 := Try.underlying3
 a3 := Try.isAgg3
 z3 := Try.sizeOf3
 v3 := Try.zeroValue3
 t4 := Try.underlying4
 a4 := Try.isAgg4
 z4 := Try.sizeOf4
 v4 := Try.zeroValue4
 t5 := Try.underlying5
 a5 := Try.isAgg5
 z5 := Try.sizeOf5
 v5 := Try.zeroValue5
 t9 := Try.underlying9
 a9 := Try.isAgg9
 z9 := Try.sizeOf9
 v9 := Try.zeroValue9
 t22 := Try.underlying24
 a22 := Try.isAgg24
 z22 := Try.sizeOf24
 v22 := Try.zeroValue24
 t25 := Try.underlying52
 a25 := Try.isAgg52
 z25 := Try.sizeOf52
 v25 := Try.zeroValue52
 t39 := Try.underlying109
 a39 := Try.isAgg109
 z39 := Try.sizeOf109
 v39 := Try.zeroValue109
 t45 := Try.underlying129
 a45 := Try.isAgg129
 z45 := Try.sizeOf129
 v45 := Try.zeroValue129
 t46 := Try.underlying130
 a46 := Try.isAgg130
 z46 := Try.sizeOf130
 v46 := Try.zeroValue130
 t50 := Try.underlying93
 a50 := Try.isAgg93
 z50 := Try.sizeOf93
 v50 := Try.zeroValue93
 t53 := Try.underlying136
 a53 := Try.isAgg136
 z53 := Try.sizeOf136
 v53 := Try.zeroValue136
 t55 := Try.underlying53
 a55 := Try.isAgg53
 z55 := Try.sizeOf53
 v55 := Try.zeroValue53
 t66 := Try.underlying141
 a66 := Try.isAgg141
 z66 := Try.sizeOf141
 v66 := Try.zeroValue141
 t70 := Try.underlying144
 a70 := Try.isAgg144
 z70 := Try.sizeOf144
 v70 := Try.zeroValue144
 t76 := Try.underlying151
 a76 := Try.isAgg151
 z76 := Try.sizeOf151
 v76 := Try.zeroValue151
 t77 := Try.underlying152
 a77 := Try.isAgg152
 z77 := Try.sizeOf152
 v77 := Try.zeroValue152 }
def Try.laysCompact_ren : Go.Shelf.Ren := ⟨fun | 43 => 104 | n => n, fun | 22 => 22 | 23 => 53 | 3 => 3 | 4 => 4 | 0 => 0 | n => n, fun | n => n⟩
theorem Try.laysCompact : Go.Proofs.SlLaysE.n43 Try.prog Try.laysCompact_ren := {
 mixed := by kernel_rfl
 f43 := ⟨Try.f104.name, by decide, Try.func104.trans (congrArg some (by kernel_rfl))⟩
 t0 := Try.underlying0
 a0 := Try.isAgg0
 z0 := Try.sizeOf0
 v0 := Try.zeroValue0
 t3 := Try.underlying3
 a3 := Try.isAgg3
 z3 := Try.sizeOf3
 v3 := Try.zeroValue3
 t4 := Try.underlying4
 a4 := Try.isAgg4
 z4 := Try.sizeOf4
 v4 := Try.zeroValue4
 t22 := Try.underlying22
 a22 := Try.isAgg22
 z22 := Try.sizeOf22
 v22 := Try.zeroValue22
 a23 := Try.isAgg53
 z23 := Try.sizeOf53 }
def Try.laysBits_ren : Go.Shelf.Ren := ⟨fun | 125 => 98 | 128 => 120 | 129 => 121 | n => n, fun | 46 => 109 | 3 => 3 | 51 => 136 | 53 => 53 | 4 => 4 | 5 => 5 | 9 => 9 | n => n, fun | n => n⟩
theorem Try.laysBits : Go.Proofs.Lays.n125 Try.prog Try.laysBits_ren := {
 mixed := by kernel_rfl
 f125 := Try.func98.trans (congrArg some (by kernel_rfl))
 f128 := Try.func120.trans (congrArg some (by kernel_rfl))
 f129 := Try.func121.trans (congrArg some (by kernel_rfl))
 t3 := Try.underlying3
 a3 := Try.isAgg3
 z3 := Try.sizeOf3
 v3 := Try.zeroValue3
 t4 := Try.underlying4
 a4 := Try.isAgg4
 z4 := Try.sizeOf4
 v4 := Try.zeroValue4
 t5 := Try.underlying5
 a5 := Try.isAgg5
 z5 := Try.sizeOf5
 v5 := Try.zeroValue5
 t9 := Try.underlying9
 a9 := Try.isAgg9
 z9 := Try.sizeOf9
 v9 := Try.zeroValue9
 t46 := Try.underlying109
 a46 := Try.isAgg109
 z46 := Try.sizeOf109
 v46 := Try.zeroValue109
 t51 := Try.underlying136
 a51 := Try.isAgg136
 z51 := Try.sizeOf136
 v51 := Try.zeroValue136
 t53 := Try.underlying53
 a53 := Try.isAgg53
 z53 := Try.sizeOf53
 v53 := Try.zeroValue53 }
end Go.Proofs
namespace Go.Proofs.Ytackcingpffidaa.P
open Go.RowKit Go.Sort Go.Proofs.YtackcingpffidaaW.PrintWords Go.Proofs.YtackcingpffidaaW.PrintLast Go.Proofs.YtackcingpffidaaW.PrintMore
set_option linter.unusedVariables false
set_option linter.unusedSimpArgs false
/-! ### a row's cells, flat -/
theorem flat_len {α : Type} (k : Nat) (f : α → List Value) (hf : ∀ x, (f x).length = k) : ∀ l : List α, (l.flatMap f).length = l.length * k
 | [] => by simp
 | x :: l => by rw [List.flatMap_cons, List.length_append, hf, flat_len k f hf l, List.length_cons, Nat.add_mul, Nat.one_mul, Nat.add_comm]
theorem flat_drop {α : Type} (k : Nat) (f : α → List Value) (hf : ∀ x, (f x).length = k) : ∀ (l : List α) (i : Nat), (l.flatMap f).drop (i * k) = (l.drop i).flatMap f
 | l, 0 => by simp
 | [], i + 1 => by simp
 | x :: l, i + 1 => by
  rw [List.flatMap_cons, List.drop_succ_cons, Nat.add_mul, Nat.one_mul, ← flat_drop k f hf l i, show i * k + k = (f x).length + i * k from by rw [hf]; omega, List.drop_append]
  simp
theorem flat_reps {α : Type} (R : α → List Value → Prop) (k : Nat) (f : α → List Value) (hf : ∀ x, (f x).length = k) (hR : ∀ x, R x (f x)) (l : List α) : Reps R k l (l.flatMap f) := by
 refine ⟨flat_len k f hf l, fun j p hj => ?_⟩
 rw [flat_drop k f hf]
 obtain ⟨hjl, rfl⟩ := List.getElem?_eq_some_iff.1 hj
 rw [List.drop_eq_getElem_cons hjl, List.flatMap_cons, List.take_append, List.take_of_length_le (by rw [hf]; omega), hf]
 simp
 exact hR _
theorem flat_of_reps {α : Type} {R : α → List Value → Prop} {k : Nat} {f : α → List Value} (hf : ∀ x, (f x).length = k) (hR : ∀ x c, R x c → c = f x) {l : List α} {cs : List Value} (h : Reps R k l cs) : cs = l.flatMap f := by
 revert cs
 induction l with
 | nil =>
  intro cs h
  have := h.1
  simp at this
  rw [List.flatMap_nil, this]
 | cons x l ih =>
  intro cs h
  have h0 := hR _ _ (h.2 0 x rfl)
  rw [Nat.zero_mul, List.drop_zero] at h0
  have h1 : cs.drop k = l.flatMap f := ih ⟨by rw [List.length_drop, h.1, List.length_cons, Nat.add_mul, Nat.one_mul]; omega, fun j p hj => by
   have := h.2 (j + 1) p (by simpa using hj)
   rw [List.drop_drop]
   rwa [Nat.add_mul, Nat.one_mul, Nat.add_comm (j * k) k] at this⟩
  rw [List.flatMap_cons, ← h0, ← h1, List.take_append_drop]
def enc39 (x : S39) : List Value := [.int .i64 x.f0, .int .i64 x.f1, .string x.f2]
def E39 (l : List S39) : List Value := l.flatMap enc39
theorem len39 (x : S39) : (enc39 x).length = 3 := rfl
theorem E39_len (l : List S39) : (E39 l).length = l.length * 3 := flat_len 3 _ len39 l
theorem enc39_one (x : S39) : ∀ v ∈ enc39 x, v.oneCell' = true := by
 intro v hv
 simp [enc39] at hv
 rcases hv with rfl | rfl | rfl <;> rfl
theorem R39_of {w : World} {base : Nat} {ok : Nat → Prop} {v : Value} {l : List S39} (h : w.ownsRow base 39 3 v l.length (E39 l)) (hok : ∀ k, v.ownBlock = some k → ok k) : Kd.R k39 39 w base ok v l :=
 ⟨hok, E39 l, h, flat_reps _ 3 _ len39 (fun x => k39_mkM w base _ x) l⟩
theorem R39_own {w : World} {base : Nat} {ok : Nat → Prop} {v : Value} {l : List S39} (h : Kd.R k39 39 w base ok v l) : w.ownsRow base 39 3 v l.length (E39 l) := by
 obtain ⟨_, inner, ho, hr⟩ := h
 have : inner = E39 l := flat_of_reps len39 (fun x c hc => k39_openM hc) hr
 rw [← this]; exact ho
instance : Inhabited S39 := ⟨z39⟩
theorem flatK_E39 (l : List S39) : (flatK enc39 3 l.toArray).toList = E39 l := by
 apply List.ext_getElem?
 intro t
 by_cases ht : t < l.length * 3
 ·have h1 : (flatK enc39 3 l.toArray).toList[t]? = some ((enc39 l.toArray[t / 3]!)[t % 3]!) := by
   rw [Array.getElem?_toList]
   simp [flatK, ht]
  have hr := (flat_reps (fun (x : S39) c => c = enc39 x) 3 enc39 len39 (fun _ => rfl) l).2 (t / 3) l[t / 3] (List.getElem?_eq_getElem (by omega))
  have h2 : (E39 l)[t]? = (enc39 l[t / 3])[t % 3]? := by
   rw [← hr, List.getElem?_take_of_lt (by omega), List.getElem?_drop]
   unfold E39
   congr 1
   omega
  rw [h1, h2]
  have h3 : l.toArray[t / 3]! = l[t / 3] := by
   rw [getElem!_pos l.toArray (t / 3) (by simp; omega)]
   simp
  rw [h3]
  have h4 : t % 3 < (enc39 l[t / 3]).length := by rw [len39]; omega
  rw [List.getElem?_eq_getElem h4, getElem!_pos (enc39 l[t / 3]) (t % 3) h4]
 ·rw [List.getElem?_eq_none (by simp; omega), List.getElem?_eq_none (by rw [E39_len]; omega)]
/-- Less, told out. -/
def lV (x y : S39) : Bool := if x.f0 = y.f0 then (if x.f0 = 3 then decide (Lib.compareBytes x.f2.data.toList y.f2.data.toList < 0) else if x.f0 = 1 ∨ x.f0 = 2 then decide (x.f1 < y.f1) else false) else decide (x.f0 < y.f0)
theorem sign_lt (a b : Bool) (t : Int) (h : value_sign.f a b = some t) : decide (t < 0) = a := by
 cases a <;> cases b <;> (obtain rfl := Option.some.inj h; rfl)
theorem lt_lV (x y : S39) : ltOf cV x y = lV x y := by
 have hf : value_Compare.f x.f0 x.f1 x.f2 y.f0 y.f1 y.f2 = some (cV x y) := cV_is x y
 unfold ltOf lV
 generalize cV x y = c at hf ⊢
 unfold value_Compare.f at hf
 by_cases hk : x.f0 = y.f0
 ·rw [if_pos hk] at hf ⊢
  by_cases h3 : x.f0 = 3
  ·rw [if_pos h3] at hf ⊢
   obtain ⟨t, ht, he⟩ := Option.bind_eq_some_iff.mp hf
   obtain rfl := Option.some.inj he
   obtain rfl := Option.some.inj ht
   rfl
  ·rw [if_neg h3] at hf ⊢
   by_cases h1 : x.f0 = 1
   ·rw [if_pos h1] at hf
    rw [if_pos (.inl h1)]
    obtain ⟨t, ht, he⟩ := Option.bind_eq_some_iff.mp hf
    obtain rfl := Option.some.inj he
    exact sign_lt _ _ _ ht
   ·rw [if_neg h1] at hf
    by_cases h2 : x.f0 = 2
    ·rw [if_pos h2] at hf
     rw [if_pos (.inr h2)]
     obtain ⟨t, ht, he⟩ := Option.bind_eq_some_iff.mp hf
     obtain rfl := Option.some.inj he
     exact sign_lt _ _ _ ht
    ·rw [if_neg h2] at hf
     rw [if_neg (by simp [h1, h2])]
     obtain rfl := Option.some.inj hf
     rfl
 ·rw [if_neg hk] at hf ⊢
  obtain ⟨t, ht, he⟩ := Option.bind_eq_some_iff.mp hf
  obtain rfl := Option.some.inj he
  exact sign_lt _ _ _ ht
theorem swo_of (lb : ByteArray → ByteArray → Bool) (hb : SWO lb) : SWO (fun x y : S39 => if x.f0 = y.f0 then (if x.f0 = 3 then lb x.f2 y.f2 else if x.f0 = 1 ∨ x.f0 = 2 then decide (x.f1 < y.f1) else false) else decide (x.f0 < y.f0)) where
 irrefl x := by
  simp only [if_true]
  split
  ·exact hb.irrefl _
  ·split
   ·simp
   ·rfl
 trans x y z h1 h2 := by
  by_cases hxy : x.f0 = y.f0
  ·rw [if_pos hxy] at h1
   by_cases hyz : y.f0 = z.f0
   ·rw [if_pos hyz] at h2
    rw [if_pos (hxy.trans hyz)]
    rw [hxy] at h1 ⊢
    by_cases h3 : y.f0 = 3
    ·rw [if_pos h3] at h1 h2 ⊢
     exact hb.trans _ _ _ h1 h2
    ·rw [if_neg h3] at h1 h2 ⊢
     by_cases h4 : y.f0 = 1 ∨ y.f0 = 2
     ·rw [if_pos h4] at h1 h2 ⊢
      simp only [decide_eq_true_eq] at *
      omega
     ·rw [if_neg h4] at h1
      exact absurd h1 (by simp)
   ·rw [if_neg hyz] at h2
    rw [hxy, if_neg hyz]
    exact h2
  ·rw [if_neg hxy] at h1
   by_cases hyz : y.f0 = z.f0
   ·rw [← hyz, if_neg hxy]
    exact h1
   ·rw [if_neg hyz] at h2
    simp only [decide_eq_true_eq] at h1 h2
    rw [if_neg (by omega)]
    simp only [decide_eq_true_eq]
    omega
 ntrans x y z h1 h2 := by
  by_cases hxy : x.f0 = y.f0
  ·rw [if_pos hxy] at h1
   by_cases hyz : y.f0 = z.f0
   ·rw [if_pos hyz] at h2
    rw [if_pos (hxy.trans hyz)]
    rw [hxy] at h1 ⊢
    by_cases h3 : y.f0 = 3
    ·rw [if_pos h3] at h1 h2 ⊢
     exact hb.ntrans _ _ _ h1 h2
    ·rw [if_neg h3] at h1 h2 ⊢
     by_cases h4 : y.f0 = 1 ∨ y.f0 = 2
     ·rw [if_pos h4] at h1 h2 ⊢
      simp only [decide_eq_false_iff_not] at *
      omega
     ·rw [if_neg h4]
   ·rw [if_neg hyz] at h2
    rw [hxy, if_neg hyz]
    exact h2
  ·rw [if_neg hxy] at h1
   by_cases hyz : y.f0 = z.f0
   ·rw [← hyz, if_neg hxy]
    exact h1
   ·rw [if_neg hyz] at h2
    simp only [decide_eq_false_iff_not] at h1 h2
    by_cases hxz : x.f0 = z.f0
    ·exfalso
     omega
    ·rw [if_neg hxz]
     simp only [decide_eq_false_iff_not]
     omega
theorem compare_lt : ∀ x y : List UInt8, Lib.compareBytes x y < 0 ↔ x < y
 | [], [] => by simp [Lib.compareBytes]
 | [], b :: y => by simp [Lib.compareBytes]
 | a :: x, [] => by simp [Lib.compareBytes]
 | a :: x, b :: y => by
  have ih := compare_lt x y
  rw [List.cons_lt_cons_iff]
  simp only [Lib.compareBytes]
  rcases Nat.lt_trichotomy a.toNat b.toNat with h | h | h
  ·have h1 : a < b := UInt8.lt_iff_toNat_lt.2 h
   simp [h1]
  ·obtain rfl : a = b := UInt8.toNat_inj.1 h
   have h2 : ¬ a < a := fun e => by have := UInt8.lt_iff_toNat_lt.1 e; omega
   simp [h2, ih]
  ·have h1 : b < a := UInt8.lt_iff_toNat_lt.2 h
   have h2 : ¬ a < b := fun e => by have := UInt8.lt_iff_toNat_lt.1 e; omega
   have h3 : ¬ a = b := fun e => by subst e; omega
   simp [h1, h2, h3]
theorem swo_lb : SWO (fun a b : ByteArray => decide (Lib.compareBytes a.data.toList b.data.toList < 0)) where
 irrefl x := by simp [ltStr, compare_lt]
 trans x y z h1 h2 := by have := swo_ltStr.trans x.data.toList y.data.toList z.data.toList; simp only [compare_lt, ltStr] at *; exact this h1 h2
 ntrans x y z h1 h2 := by have := swo_ltStr.ntrans x.data.toList y.data.toList z.data.toList; simp only [compare_lt, ltStr] at *; exact this h1 h2
theorem swo_cV : SWO (ltOf cV) := by
 have h := swo_of _ swo_lb
 have e : ltOf cV = lV := by funext x y; exact lt_lV x y
 rw [e]
 exact h
/-- What the sort makes of a list. -/
def sortV (l : List S39) : List S39 := (pdq (ltOf cV) l.toArray 0 l.toArray.size (Lib.bitLen l.toArray.size) true true).toList
theorem sortV_perm (l : List S39) : PermIn 0 l.toArray.size l.toArray (sortV l).toArray ∧ SortedIn (ltOf cV) 0 l.toArray.size (sortV l).toArray := by
 have h := pdq_sorts (ltOf cV) swo_cV l.toArray 0 l.toArray.size (Lib.bitLen l.toArray.size) true true (Nat.zero_le _) (Nat.le_refl _) (Or.inl rfl)
 unfold sortV
 simpa using h
theorem sortV_len (l : List S39) : (sortV l).length = l.length := by
 have h := (sortV_perm l).1.1
 simpa using h
theorem holds39 {w : World} {g : Nat} {cur : Array Value} {e : TypeId} {l : List S39} (hb : w.heap[g]? = some (.cells cur e (0, 0))) (ht : cur.toList.take (l.length * 3) = E39 l) : HoldsK enc39 3 w g 0 l.toArray := by
 intro j hj
 have hj' : j < l.length * 3 := by simpa using hj
 refine ⟨?_, by simp [World.frozen?, hb]⟩
 have h1 : (cur.toList.take (l.length * 3))[j]? = (flatK enc39 3 l.toArray).toList[j]? := by rw [ht, flatK_E39]
 rw [List.getElem?_take_of_lt hj'] at h1
 simp only [World.cell?, hb, Nat.zero_add]
 simp only [Option.isSome_none, Bool.false_eq_true, if_false]
 rw [← Array.getElem?_toList, h1, Array.getElem?_toList]
 rw [Array.getElem?_eq_getElem (by simpa using hj'), getElem!_pos _ j (by simpa using hj')]
 rfl
theorem heap_put39 {w : World} {g n : Nat} {os : Array Obj} {cur : Array Value} {e : TypeId} (d : Array S39) (hb : w.heap[g]? = some (.cells cur e (0, 0))) :
  (sortWorldK enc39 3 w g 0 n d os).heap[g]? = some (.cells (putCells id 0 (flatK enc39 3 d) cur) e (0, 0)) := by
 have hg : g < w.heap.size := (Array.getElem?_eq_some_iff.1 hb).1
 unfold sortWorldK putRowK
 rw [heap_grow_old _ _ (by simpa using hg)]
 simp [putRow, mapBlock, Sort.ahead, Array.getElem?_modify, hb, onCells]
theorem grown_put39 {w : World} {g n : Nat} {os : Array Obj} (d : Array S39) : w.grownBy (sortWorldK enc39 3 w g 0 n d os) (some g) := by
 unfold sortWorldK putRowK
 refine ⟨rfl, rfl, rfl, by simp, fun k hk hne => ?_⟩
 rw [heap_grow_old _ _ (by simpa using hk)]
 have : g ≠ k := fun e => hne (by rw [e])
 simp [putRow, mapBlock, Sort.ahead, Array.getElem?_modify, this]
theorem take_put39 (cur : Array Value) (l : List S39) (h : l.length * 3 ≤ cur.size) : (putCells id 0 (flatK enc39 3 l.toArray) cur).toList.take (l.length * 3) = E39 l := by
 rw [← flatK_E39]
 apply List.ext_getElem?
 intro j
 by_cases hj : j < l.length * 3
 ·rw [List.getElem?_take_of_lt hj, Array.getElem?_toList, Array.getElem?_toList]
  simp [putCells, hj, show j < cur.size by omega]
 ·rw [List.getElem?_take_eq_none (by omega), List.getElem?_eq_none (by simp; omega)]
theorem f52_own {w : World} {base : Nat} {ok : Nat → Prop} {v : Value} {l : List S39} (h : Kd.R k39 39 w base ok v l) (hn : l.length ≤ 1000000) :
  Calls Try.prog 52 #[v, .func (.func 53) #[] #[]] w fun e w' => e = .returned (.tuple #[]) ∧ Kd.R k39 39 w' base ok v (sortV l) ∧ w.grownBy w' v.ownBlock := by
 have hok := h.1
 have ho := R39_own h
 obtain ⟨hl, hr⟩ := ho
 rcases hr with ⟨rfl, h0⟩ | ⟨g, cap, cur, rfl, hb, hh, h1, h2, h3, h4⟩
 ·obtain rfl : l = [] := List.eq_nil_of_length_eq_zero h0
  refine (AnyF.slices_SortFunc_none Try.laysSortF none 0 (.func (.func 53) #[] #[]) w).mono ?_
  rintro e w' ⟨rfl, rfl⟩
  have hs : sortV [] = [] := List.eq_nil_of_length_eq_zero (sortV_len [])
  exact ⟨rfl, by rw [hs]; exact h, World.grownBy.refl _ _⟩
 ·have hC : CmpLays Try.prog 53 #[] enc39 3 cV g 0 l.toArray.size w := fun m os dk hd x y => cV_grown x y (cV x y) rfl _
  have hc := AnyQ.slices_SortFunc_eq Try.laysSortF 3 Try.isAgg39 Try.sizeOf39 enc39 len39 enc39_one cV swo_cV 53 #[] g 0 cap l.toArray w (enters_of Try.func53 (by kernel_rfl) rfl) hC (holds39 hh h4) (Array.getElem?_eq_some_iff.1 hh).1 (by simp; omega)
  refine Calls.mono (show Calls Try.prog 52 #[.slice (some ⟨g, 0, none⟩) l.length cap, .func (.func 53) #[] #[]] w _ from hc) ?_
  rintro e w' ⟨rfl, n, os, rfl⟩
  have hs := sortV_len l
  have hse : pdq (ltOf cV) l.toArray 0 l.toArray.size (Lib.bitLen l.toArray.size) true true = (sortV l).toArray := by unfold sortV; simp
  rw [hse]
  refine ⟨rfl, ?_, by simpa [Value.ownBlock] using grown_put39 _⟩
  refine R39_of ⟨by rw [E39_len], .inr ⟨g, cap, _, by rw [hs], hb, heap_put39 _ hh, by rw [hs]; exact h1, h2, by simp [putCells, h3], ?_⟩⟩ hok
  exact take_put39 cur _ (by rw [hs]; omega)
end Go.Proofs.Ytackcingpffidaa.P
namespace Go.Proofs.Ytackcingpffidaa.P
set_option linter.unusedVariables false
open Go.RowKit Go.Proofs.YtackcingpffidaaW.PrintWords Go.Proofs.YtackcingpffidaaW.PrintLast Go.Proofs.YtackcingpffidaaW.PrintMore
/-- A fence. -/
def fe (F : List S39) (i : Nat) : S39 := rd_T39 F (i : Int)
def upS (cm : S39 → S39 → Int) (F : List S39) (R : List Int) (v : S39) (q : Bool) (n : Int) : Nat → Nat → Int
 | 0, _ => n
 | m + 1, i => if decide (0 < cm (fe F i) v) || (cm (fe F i) v == 0 && q) then rd R ((2 * i : Nat) : Int) else upS cm F R v q n m (i + 1)
def loS (cm : S39 → S39 → Int) (F : List S39) (R : List Int) (v : S39) (q : Bool) : Nat → Int
 | 0 => 0
 | i + 1 => if decide (cm (fe F i) v < 0) || (cm (fe F i) v == 0 && q) then rd R ((2 * i + 1 : Nat) : Int) else loS cm F R v q i
def rkB (F : List S39) (R : List Int) : Bool := R.length == 2 * F.length && decide (F.length ≤ 1000)
theorem rk_of {F : List S39} {R : List Int} {α : Type} {x : α} {r : α} (h : (if rkB F R then some x else none) = some r) : R.length = 2 * F.length ∧ F.length ≤ 1000 ∧ x = r := by
 unfold rkB at h
 cases hb : (R.length == 2 * F.length && decide (F.length ≤ 1000)) with
 | false => rw [hb] at h; exact absurd h (by simp)
 | true =>
  rw [hb] at h
  rw [Bool.and_eq_true] at hb
  exact ⟨by simpa using hb.1, of_decide_eq_true hb.2, Option.some.inj h⟩
def sketch_upper.f (k : Nat) (a0_0 : Int) (a0_1 : Int) (l0_2 : List Int) (a0_3 : Bool) (l0_4 : List Int) (l0_5 : List (S39)) (l0_6 : List Int) (a1_0 : Int) (a1_1 : Int) (a1_2 : ByteArray) (a2 : Bool) : Option Int := if rkB l0_5 l0_6 then some (upS cV l0_5 l0_6 ⟨a1_0, a1_1, a1_2⟩ a2 (wrap64 (a0_0 - a0_1)) l0_5.length 0) else none
theorem sketch_upper.mono : ∀ a0 a1 a2 a3 a4 a5 a6 a7 a8 a9 a10 k, LeO (sketch_upper.f k a0 a1 a2 a3 a4 a5 a6 a7 a8 a9 a10) (sketch_upper.f (k + 1) a0 a1 a2 a3 a4 a5 a6 a7 a8 a9 a10) := fun _ _ _ _ _ _ _ _ _ _ _ _ => LeO.refl _
def sketch_lower.f (k : Nat) (a0_0 : Int) (a0_1 : Int) (l0_2 : List Int) (a0_3 : Bool) (l0_4 : List Int) (l0_5 : List (S39)) (l0_6 : List Int) (a1_0 : Int) (a1_1 : Int) (a1_2 : ByteArray) (a2 : Bool) : Option Int := if rkB l0_5 l0_6 then some (loS cV l0_5 l0_6 ⟨a1_0, a1_1, a1_2⟩ a2 l0_5.length) else none
theorem sketch_lower.mono : ∀ a0 a1 a2 a3 a4 a5 a6 a7 a8 a9 a10 k, LeO (sketch_lower.f k a0 a1 a2 a3 a4 a5 a6 a7 a8 a9 a10) (sketch_lower.f (k + 1) a0 a1 a2 a3 a4 a5 a6 a7 a8 a9 a10) := fun _ _ _ _ _ _ _ _ _ _ _ _ => LeO.refl _
def laminaref16_LessMax.f (k : Nat) (a0_0 : Int) (a0_1 : Int) (l0_2 : List Int) (a0_3 : Bool) (l0_4 : List Int) (l0_5 : List (S39)) (l0_6 : List Int) (a1_0 : Int) (a1_1 : Int) (a1_2 : ByteArray) (a2 : Bool) : Option Int := if rkB l0_5 l0_6 then some (upS rcV l0_5 l0_6 ⟨a1_0, a1_1, a1_2⟩ (!a2) (wrap64 (a0_0 - a0_1)) l0_5.length 0) else none
theorem laminaref16_LessMax.mono : ∀ a0 a1 a2 a3 a4 a5 a6 a7 a8 a9 a10 k, LeO (laminaref16_LessMax.f k a0 a1 a2 a3 a4 a5 a6 a7 a8 a9 a10) (laminaref16_LessMax.f (k + 1) a0 a1 a2 a3 a4 a5 a6 a7 a8 a9 a10) := fun _ _ _ _ _ _ _ _ _ _ _ _ => LeO.refl _
def laminaref16_LessMin.f (k : Nat) (a0_0 : Int) (a0_1 : Int) (l0_2 : List Int) (a0_3 : Bool) (l0_4 : List Int) (l0_5 : List (S39)) (l0_6 : List Int) (a1_0 : Int) (a1_1 : Int) (a1_2 : ByteArray) (a2 : Bool) : Option Int := if rkB l0_5 l0_6 then some (loS rcV l0_5 l0_6 ⟨a1_0, a1_1, a1_2⟩ a2 l0_5.length) else none
theorem laminaref16_LessMin.mono : ∀ a0 a1 a2 a3 a4 a5 a6 a7 a8 a9 a10 k, LeO (laminaref16_LessMin.f k a0 a1 a2 a3 a4 a5 a6 a7 a8 a9 a10) (laminaref16_LessMin.f (k + 1) a0 a1 a2 a3 a4 a5 a6 a7 a8 a9 a10) := fun _ _ _ _ _ _ _ _ _ _ _ _ => LeO.refl _
end Go.Proofs.Ytackcingpffidaa.P
