/- What Go functions of the given program return, told as Lean functions, and the walks that show it, with plain facts on them: laminaref16_Encode, H3, Kinds, laminaref01_UnZigZag, V0, YA, YC, YD, YE, YF. Conditions: the hypotheses that stand at each theorem. -/
import Derived.Test.YtackcingpffidaaReads
import Derived.Laws.BitsAllLaws
import Derived.Lib.Zigzag
import Derived.Test.YtackcingpffidaaZe0
import Derived.Test.YtackcingpffidaaZe1
import Derived.Test.YtackcingpffidaaZe2
import Derived.Test.YtackcingpffidaaZe8
import Derived.Test.YtackcingpffidaaZe9
import Derived.Test.YtackcingpffidaaZe11
namespace Go.Proofs.Ytackcingpffidaa.P
open Go.RowKit Go.Proofs.YtackcingpffidaaW.PrintWords Go.Proofs.YtackcingpffidaaW.PrintLast Go.Proofs.YtackcingpffidaaW.PrintMore
attribute [local go_sem] max2_int min2_int max_two min_two max_three min_three max_four min_four Go.Proofs.YtackcingpffidaaQ.str_gtr Go.Proofs.YtackcingpffidaaQ.str_leq Go.Proofs.YtackcingpffidaaQ.str_geq   -- for this text's walks alone
set_option linter.unusedVariables false
set_option linter.unusedSimpArgs false
/-! ### laminaref16_Encode: function 14 -/
mutual
def laminaref16_Encode.l0 : Nat → List (List Int) → Int → Int → Int → Int → List Int → Bool → List Int → List (S39) → List Int → Option (List Int)
 | 0, _, _, _, _, _, _, _, _, _, _ => none
 | k + 1, x3, x4, x5, x444000, x444001, x444002, x444003, x444004, x444005, x444006 => if x5 < (x444002.length : Int) then (if 0 ≤ x5 then ((laminaref01_Encode.f k (IntKind.u64.wrap ((rd x444002 x5) - x4))).bind fun t457 => (if x3.length < 5864062014805 then (laminaref16_Encode.l0 k (x3 ++ [t457]) (rd x444002 x5) (wrap64 (x5 + 1)) x444000 x444001 x444002 x444003 x444004 x444005 x444006) else (none))) else (none)) else (if x444003 = true then (if x3.length < 5864062014805 then (laminaref16_Encode.j1 k (x3 ++ [(([1] : List Int))]) x444000 x444001 x444002 x444003 x444004 x444005 x444006) else (none)) else (if x3.length < 5864062014805 then (laminaref16_Encode.j1 k (x3 ++ [(([0] : List Int))]) x444000 x444001 x444002 x444003 x444004 x444005 x444006) else (none)))
def laminaref16_Encode.j1 : Nat → List (List Int) → Int → Int → List Int → Bool → List Int → List (S39) → List Int → Option (List Int)
 | 0, _, _, _, _, _, _, _, _ => none
 | k + 1, x3, x444000, x444001, x444002, x444003, x444004, x444005, x444006 => laminaref16_Encode.l1 k x3 0 x444000 x444001 x444002 x444003 x444004 x444005 x444006
def laminaref16_Encode.l1 : Nat → List (List Int) → Int → Int → Int → List Int → Bool → List Int → List (S39) → List Int → Option (List Int)
 | 0, _, _, _, _, _, _, _, _, _ => none
 | k + 1, x3, x6, x444000, x444001, x444002, x444003, x444004, x444005, x444006 => if x6 < (x444004.length : Int) then (if 0 ≤ x6 then ((laminaref01_Encode.f k (IntKind.u64.wrap (rd x444004 x6))).bind fun t477 => (if x3.length < 5864062014805 then (laminaref16_Encode.l1 k (x3 ++ [t477]) (wrap64 (x6 + 1)) x444000 x444001 x444002 x444003 x444004 x444005 x444006) else (none))) else (none)) else ((laminaref01_Encode.f k (IntKind.u64.wrap ((x444005.length : Int)))).bind fun t483 => (if x3.length < 5864062014805 then (laminaref16_Encode.l2 k (x3 ++ [t483]) 0 x444000 x444001 x444002 x444003 x444004 x444005 x444006) else (none)))
def laminaref16_Encode.l2 : Nat → List (List Int) → Int → Int → Int → List Int → Bool → List Int → List (S39) → List Int → Option (List Int)
 | 0, _, _, _, _, _, _, _, _, _ => none
 | k + 1, x3, x7, x444000, x444001, x444002, x444003, x444004, x444005, x444006 => if x7 < (x444005.length : Int) then (if 0 ≤ x7 then ((laminaref04_Encode.f k ((rd_T39 x444005 x7).f0) ((rd_T39 x444005 x7).f1) ((rd_T39 x444005 x7).f2)).bind fun t490 => (if x3.length < 5864062014805 then ((some (x3 ++ [t490] : List (List Int))).bind fun y493 => (if 0 ≤ (wrap64 (2 * x7)) then (if (wrap64 (2 * x7)) < (x444006.length : Int) then ((laminaref01_Encode.f k (IntKind.u64.wrap (rd x444006 (wrap64 (2 * x7))))).bind fun t497 => (if y493.length < 5864062014805 then ((some (y493 ++ [t497] : List (List Int))).bind fun y500 => (if 0 ≤ (wrap64 ((wrap64 (2 * x7)) + 1)) then (if (wrap64 ((wrap64 (2 * x7)) + 1)) < (x444006.length : Int) then ((laminaref01_Encode.f k (IntKind.u64.wrap (rd x444006 (wrap64 ((wrap64 (2 * x7)) + 1))))).bind fun t504 => (if y500.length < 5864062014805 then (laminaref16_Encode.l2 k (y500 ++ [t504]) (wrap64 (x7 + 1)) x444000 x444001 x444002 x444003 x444004 x444005 x444006) else (none))) else (none)) else (none))) else (none))) else (none)) else (none))) else (none))) else (none)) else ((laminaref01_Concat.f k x3).bind fun t510 => (some t510))
end
def laminaref16_Encode.f (k : Nat) (a0_0 : Int) (a0_1 : Int) (l0_2 : List Int) (a0_3 : Bool) (l0_4 : List Int) (l0_5 : List (S39)) (l0_6 : List Int) : Option (List Int) := (laminaref01_Encode.f k (IntKind.u64.wrap (a0_0))).bind fun t444 => ((laminaref01_Encode.f k (IntKind.u64.wrap (a0_1))).bind fun t447 => ((laminaref01_Encode.f k (IntKind.u64.wrap ((l0_2.length : Int)))).bind fun t450 => (laminaref16_Encode.l0 k (([t444, t447, t450] : List (List Int))) 0 0 a0_0 a0_1 l0_2 a0_3 l0_4 l0_5 l0_6)))
def laminaref16_Encode.T1 : Bool × List (List Nat × List Nat) := (true, [([], []), ([0], [0]), ([1], [1]), ([2], [2]), ([], []), ([4], [4]), ([5], [5]), ([6, 3], [6]), ([], []), ([8], [8]), ([9], [9]), ([10], [10]), ([11, 7], [11]), ([3, 7, 12], [3, 7, 12]), ([13, 12, 0, 1, 2, 3, 4, 5, 6, 7, 8, 9, 10, 11, 12, 13], [13])])
def laminaref16_Encode.B1 : List Nat := [0, 1, 3, 7, 0, 16, 48, 127, 0, 256, 768, 1792, 4095, 8191, 16383]
theorem laminaref16_Encode.tab1 : rtab .any (opsOf Try.f14 1) = laminaref16_Encode.T1 := by kernel_rfl
theorem laminaref16_Encode.bits1 : waitsOk laminaref16_Encode.T1.2 laminaref16_Encode.B1 = true := by kernel_rfl
set_option maxHeartbeats 8000000 in
set_option maxRecDepth 100000 in
theorem laminaref16_Encode.calls (k : Nat) (a0_0 : Int) (a0_1 : Int) (A0_2 : Option Addr) (c0_2 : Nat) (l0_2 : List Int) (a0_3 : Bool) (A0_4 : Option Addr) (c0_4 : Nat) (l0_4 : List Int) (A0_5 : Option Addr) (c0_5 : Nat) (l0_5 : List (S39)) (A0_6 : Option Addr) (c0_6 : Nat) (l0_6 : List Int) (r : List Int) (w : World) (hr0_2 : Kd.C (Kd.int .u64) w A0_2 l0_2.length l0_2) (hc0_2 : l0_2.length ≤ c0_2) (hr0_4 : Kd.C (Kd.int .i64) w A0_4 l0_4.length l0_4) (hc0_4 : l0_4.length ≤ c0_4) (hr0_5 : Kd.C k39 w A0_5 l0_5.length l0_5) (hc0_5 : l0_5.length ≤ c0_5) (hr0_6 : Kd.C (Kd.int .i64) w A0_6 l0_6.length l0_6) (hc0_6 : l0_6.length ≤ c0_6) (h : laminaref16_Encode.f k a0_0 a0_1 l0_2 a0_3 l0_4 l0_5 l0_6 = some r) :
  Calls Try.prog 14 #[.agg #[.int .i64 a0_0, .int .i64 a0_1, .slice A0_2 l0_2.length c0_2, .bool a0_3, .slice A0_4 l0_4.length c0_4, .slice A0_5 l0_5.length c0_5, .slice A0_6 l0_6.length c0_6]] w fun e w' => ∃ v0_ : Value, e = .returned (v0_) ∧ Kd.R (Kd.int .u8) 5 w' w.heap.size (fun _ => True) v0_ r ∧ Below w.heap.size w w' := by
 have hu26 := Try.underlying26
 have hu39 := Try.underlying39
 have HR0_2 := Aside0.mk hr0_2
 have HC0_2 := Aside0.mk hc0_2
 clear hr0_2 hc0_2
 have HR0_4 := Aside0.mk hr0_4
 have HC0_4 := Aside0.mk hc0_4
 clear hr0_4 hc0_4
 have HR0_5 := Aside0.mk hr0_5
 have HC0_5 := Aside0.mk hc0_5
 clear hr0_5 hc0_5
 have HR0_6 := Aside0.mk hr0_6
 have HC0_6 := Aside0.mk hc0_6
 clear hr0_6 hc0_6
 have HB := Aside0.mk (Below.refl w.heap.size w)
 have H : ((laminaref01_Encode.f k (IntKind.u64.wrap (a0_0))).bind fun t444 => ((laminaref01_Encode.f k (IntKind.u64.wrap (a0_1))).bind fun t447 => ((laminaref01_Encode.f k (IntKind.u64.wrap ((l0_2.length : Int)))).bind fun t450 => (laminaref16_Encode.l0 k (([t444, t447, t450] : List (List Int))) 0 0 a0_0 a0_1 l0_2 a0_3 l0_4 l0_5 l0_6)))) = some r := h
 clear h
 replace H := Option.bind_eq_some_iff.mp H
 obtain ⟨t444, A20, H⟩ := H
 replace H : ((laminaref01_Encode.f k (IntKind.u64.wrap (a0_1))).bind fun t447 => ((laminaref01_Encode.f k (IntKind.u64.wrap ((l0_2.length : Int)))).bind fun t450 => (laminaref16_Encode.l0 k (([t444, t447, t450] : List (List Int))) 0 0 a0_0 a0_1 l0_2 a0_3 l0_4 l0_5 l0_6))) = some r := H
 have A2 := Aside0.mk A20
 clear A20
 replace H := Option.bind_eq_some_iff.mp H
 obtain ⟨t447, A30, H⟩ := H
 replace H : ((laminaref01_Encode.f k (IntKind.u64.wrap ((l0_2.length : Int)))).bind fun t450 => (laminaref16_Encode.l0 k (([t444, t447, t450] : List (List Int))) 0 0 a0_0 a0_1 l0_2 a0_3 l0_4 l0_5 l0_6)) = some r := H
 have A3 := Aside0.mk A30
 clear A30
 replace H := Option.bind_eq_some_iff.mp H
 obtain ⟨t450, A40, H⟩ := H
 replace H : (laminaref16_Encode.l0 k (([t444, t447, t450] : List (List Int))) 0 0 a0_0 a0_1 l0_2 a0_3 l0_4 l0_5 l0_6) = some r := H
 have A4 := Aside0.mk A40
 clear A40
 obtain ⟨y453, hy453⟩ : ∃ y_ : List (List Int), y_ = (([t444, t447, t450] : List (List Int))) := ⟨_, rfl⟩
 replace H : (laminaref16_Encode.l0 k y453 0 0 a0_0 a0_1 l0_2 a0_3 l0_4 l0_5 l0_6) = some r := by first | (rw [hy453]; with_reducible exact H) | (have H2_ := (Option.bind_some _ _).symm.trans H; rw [hy453]; with_reducible exact H2_) | (have H2_ := (Option.bind_some _ _).symm.trans H; with_reducible exact H2_) | with_reducible exact H | (rw [hy453]; exact H) | exact H
 have Ny453 := Aside0.mk hy453
 clear hy453
 have H' := Aside0.mk H
 clear H
 go_enter Try.func14, Try.ntmps14
 try go_wp2_with (first | ((with_reducible refine gate_dst (N := 1) rfl ?_); refine box_ 1 (cs := #[.int .i64 a0_0, .int .i64 a0_1, .slice A0_2 l0_2.length c0_2, .bool a0_3, .slice A0_4 l0_4.length c0_4, .slice A0_5 l0_5.length c0_5, .slice A0_6 l0_6.length c0_6]) (t := 26) ?_; intro gb443 hg w5 hbox hb; have BK443 := Aside0.mk (hbox); have GW443 := Aside0.mk ((by rw [hg]; exact (below_size (hb_ HB.out)) : w.heap.size ≤ gb443)); have GE443 := Aside0.mk ((by rw [hg]; exact (below_size (hb_ HB.out)) : w.heap.size ≤ gb443)); replace HB := Aside0.mk (below_step (hb_ HB.out) hb); clear hb hbox hg))
 replace BK443 := Aside0.mk (blk_drew BK443.out)
 replace HB := Aside0.mk (below_drew1 HB.out)
 refine start_ (n := 15) (S := fun w' => w'.cell? ⟨gb443, 0, none⟩ = some (.int .i64 a0_0) ∧ w'.cell? ⟨gb443, 1, none⟩ = some (.int .i64 a0_1) ∧ w'.cell? ⟨gb443, 2, none⟩ = some (.slice A0_2 l0_2.length c0_2) ∧ w'.cell? ⟨gb443, 3, none⟩ = some (.bool a0_3) ∧ w'.cell? ⟨gb443, 4, none⟩ = some (.slice A0_4 l0_4.length c0_4) ∧ w'.cell? ⟨gb443, 5, none⟩ = some (.slice A0_5 l0_5.length c0_5) ∧ w'.cell? ⟨gb443, 6, none⟩ = some (.slice A0_6 l0_6.length c0_6)) (ds := []) #[false, false, false, false, false, false, false, false, false, false, false, false, false, false, false] (by kernel_rfl) rfl rfl (bc7 BK443.out) (fun hHeld => ?_); refine with_tabW laminaref16_Encode.tab1 laminaref16_Encode.bits1 (fun HT_ HW_ => ?_)
 generalize w5.drew = w6 at BK443 HB hHeld ⊢
 refine pu_ HT_ 0 (some 8) ?_
 refine pu_ HT_ 4 (some 12) ?_
 refine pu_ HT_ 8 (some 16) ?_
 refine tk_ HT_ HW_ 1 (some 9) hHeld ?_
 refine pu_ HT_ 2 (some 10) ?_
 refine tk_ HT_ HW_ 5 (some 13) hHeld ?_
 refine pu_ HT_ 6 (some 14) ?_
 refine tk_ HT_ HW_ 9 (some 17) hHeld ?_
 refine pu_ HT_ 10 (some 18) ?_
 refine pu_ HT_ 11 (some 19) ?_
 refine on_ HT_ 3 (some 11) (fun K hK => ?_)
 refine gos_ Try.func44 #[.int .u64 (IntKind.u64.wrap (a0_0))] ?_
 with_reducible refine (laminaref01_Encode.calls k (IntKind.u64.wrap (a0_0)) t444 _ A2.out).mono ?_
 rintro e w7 ⟨v445, rfl, ho0, hb⟩
 refine ⟨_, rfl, ?_⟩
 have HO446 := Aside0.mk (Kd.R_lower ho0 (below_size (hb1_ HB.out GE443.out)))
 replace BK443 := Aside0.mk (blk_below (bk_ BK443.out) hb)
 replace HB := Aside0.mk (below_step (hb1_ HB.out GE443.out) hb)
 (try clear hb)
 (try clear ho0)
 refine hK.out _ _ (bc7 BK443.out) (fun hHeld => ?_)
 clear hK K
 refine nm_ (some 11) ?_
 refine on_ HT_ 7 (some 15) (fun K hK => ?_)
 refine gos_ Try.func44 #[.int .u64 (IntKind.u64.wrap (a0_1))] ?_
 with_reducible refine (laminaref01_Encode.calls k (IntKind.u64.wrap (a0_1)) t447 _ A3.out).mono ?_
 rintro e w8 ⟨v448, rfl, ho0, hb⟩
 refine ⟨_, rfl, ?_⟩
 have HO449 := Aside0.mk (Kd.R_lower (Kd.R_new' ho0 (Kd.R_lt (ra_ HO446.out))) (below_size (hb1_ HB.out GE443.out)))
 replace HO446 := Aside0.mk (Kd.R_elder' (ra_ HO446.out) (Kd.R_base ho0) hb)
 replace BK443 := Aside0.mk (blk_below (bk_ BK443.out) hb)
 replace HB := Aside0.mk (below_step (hb1_ HB.out GE443.out) hb)
 (try clear hb)
 (try clear ho0)
 refine hK.out _ _ (bc7 BK443.out) (fun hHeld => ?_)
 clear hK K
 refine nm_ (some 15) ?_
 refine on_ HT_ 12 (some 20) (fun K hK => ?_)
 refine gos_ Try.func44 #[.int .u64 (IntKind.u64.wrap ((l0_2.length : Int)))] ?_
 with_reducible refine (laminaref01_Encode.calls k (IntKind.u64.wrap ((l0_2.length : Int))) t450 _ A4.out).mono ?_
 rintro e w9 ⟨v451, rfl, ho0, hb⟩
 refine ⟨_, rfl, ?_⟩
 have HO452 := Aside0.mk (Kd.R_lower (Kd.R_new' (Kd.R_new' ho0 (Kd.R_lt (ra_ HO446.out))) (Kd.R_lt (ra_ HO449.out))) (below_size (hb1_ HB.out GE443.out)))
 replace HO446 := Aside0.mk (Kd.R_elder' (ra_ HO446.out) (Kd.R_base ho0) hb)
 replace HO449 := Aside0.mk (Kd.R_elder' (ra_ HO449.out) (Kd.R_base ho0) hb)
 replace BK443 := Aside0.mk (blk_below (bk_ BK443.out) hb)
 replace HB := Aside0.mk (below_step (hb1_ HB.out GE443.out) hb)
 (try clear hb)
 (try clear ho0)
 obtain ⟨Ao10, co10, eo10⟩ := Kd.R_slice HO446.out
 (first | subst eo10 | (injection eo10 with f1_ f2_ f3_; have f4_ := f1_.symm; have f5_ := f3_.symm; clear f1_ f2_ f3_; subst f4_; subst f5_))
 obtain ⟨Ao11, co11, eo11⟩ := Kd.R_slice HO449.out
 (first | subst eo11 | (injection eo11 with f1_ f2_ f3_; have f4_ := f1_.symm; have f5_ := f3_.symm; clear f1_ f2_ f3_; subst f4_; subst f5_))
 obtain ⟨Ao12, co12, eo12⟩ := Kd.R_slice HO452.out
 (first | subst eo12 | (injection eo12 with f1_ f2_ f3_; have f4_ := f1_.symm; have f5_ := f3_.symm; clear f1_ f2_ f3_; subst f4_; subst f5_))
 refine hK.out _ _ (bc7 BK443.out) (fun hHeld => ?_)
 clear hK K
 refine nm_ (some 20) ?_
 refine on_ HT_ 13 (some 21) (fun K hK => ?_)
 refine Kd.N_lit_step (Kd.slice 5 (Kd.int .u8)) _ 27 ?hg (N' := 21) ?hd (xs := ([t444, t447, t450] : List (List Int))) (inner := [.slice Ao10 t444.length co10, .slice Ao11 t447.length co11, .slice Ao12 t450.length co12]) (ok := (fun k_ => k_ ≠ gb443)) (okp := (fun k_ => k_ ≠ gb443)) ?hr ?hp (fun _ hk => hk) ((show ∀ k_, w9.heap.size ≤ k_ → (fun k_ => k_ ≠ gb443) k_ from fun k_ hk => Kd.freshB (g := gb443) (o := .cells #[.int .i64 a0_0, .int .i64 a0_1, .slice A0_2 l0_2.length c0_2, .bool a0_3, .slice A0_4 l0_4.length c0_4, .slice A0_5 l0_5.length c0_5, .slice A0_6 l0_6.length c0_6] 26 (0, 0)) (bk_ BK443.out) k_ hk) _ (Nat.le_refl _)) (Below.refl _ _) (Nat.le_refl _) (by simp) ?_; (case hd => rfl); (case hg => rfl); (case hr => first | (go_simp; done) | (go_simp; rfl)); (case hp => exact (Reps.one (show Kd.FK (Kd.slice 5 (Kd.int .u8)) _ _ t444 [.slice Ao10 t444.length co10] from (Kd.FK_slice_mk (Kd.R_reads' (Kd.R_mono (ok' := (fun k_ => k_ ≠ gb443)) (Kd.R_types (HO446.out) BK443.out (by decide)) (fun k_ hk => hk.2))).2.1 (Kd.R_F (Kd.R_mono (ok' := (fun k_ => k_ ≠ gb443)) (Kd.R_types (HO446.out) BK443.out (by decide)) (fun k_ hk => hk.2))))) (Reps.one (show Kd.FK (Kd.slice 5 (Kd.int .u8)) _ _ t447 [.slice Ao11 t447.length co11] from (Kd.FK_slice_mk (Kd.R_reads' (Kd.R_mono (ok' := (fun k_ => k_ ≠ gb443)) (Kd.R_types (HO449.out) BK443.out (by decide)) (fun k_ hk => hk.2))).2.1 (Kd.R_F (Kd.R_mono (ok' := (fun k_ => k_ ≠ gb443)) (Kd.R_types (HO449.out) BK443.out (by decide)) (fun k_ hk => hk.2))))) (Reps.one (show Kd.FK (Kd.slice 5 (Kd.int .u8)) _ _ t450 [.slice Ao12 t450.length co12] from (Kd.FK_slice_mk (Kd.R_reads' (Kd.R_mono (ok' := (fun k_ => k_ ≠ gb443)) (Kd.R_types (HO452.out) BK443.out (by decide)) (fun k_ hk => hk.2))).2.1 (Kd.R_F (Kd.R_mono (ok' := (fun k_ => k_ ≠ gb443)) (Kd.R_types (HO452.out) BK443.out (by decide)) (fun k_ hk => hk.2))))) (Reps.none _ _)))))
 intro v454 w13 ho14 hb hg_ hnew_
 clear hg_ hnew_
 (first | rw [← Ny453.out] at ho14 | (simp only [Int.reduceToNat] at ho14; rw [← Ny453.out] at ho14))
 have n0_ := Aside0.mk (Kd.N_lower ho14 (below_size (hb1_ HB.out GE443.out)))
 have n1_ := Aside0.mk (blk_below (bk_ BK443.out) hb)
 have n2_ := Aside0.mk (below_step (hb1_ HB.out GE443.out) hb)
 clear BK443
 clear HB
 clear HO446
 clear HO449
 clear HO452
 have HO455 := n0_
 have BK443 := n1_
 have HB := n2_
 clear n0_ n1_ n2_
 clear hb ho14
 refine hK.out _ _ (bc7 BK443.out) (fun hHeld => ?_)
 clear hK K
 refine nm_ (some 21) ?_
 refine pu_ HT_ 14 (some 3) ?_
 refine done_ (done_of HT_.out (by kernel_rfl)) ?_
 try go_wp2
 go_loopg [3, 4, 5] k (fun kq v3 v4 v5 w' => ∃ (x3_1 : List (List Int)) (x4_1 : Int) (x5_1 : Int), v4 = .int .u64 x4_1 ∧ v5 = .int .i64 x5_1 ∧ Aside0 (laminaref16_Encode.l0 kq x3_1 x4_1 x5_1 a0_0 a0_1 l0_2 a0_3 l0_4 l0_5 l0_6 = some r) ∧ Aside0 (kq ≤ k) ∧ Aside0 (Kd.N (Kd.slice 5 (Kd.int .u8)) 27 w' w.heap.size (fun k_ => k_ ≠ gb443) v3 x3_1) ∧ Aside0 (w'.heap[gb443]? = some (.cells #[.int .i64 a0_0, .int .i64 a0_1, (.slice A0_2 l0_2.length c0_2), .bool a0_3, (.slice A0_4 l0_4.length c0_4), (.slice A0_5 l0_5.length c0_5), (.slice A0_6 l0_6.length c0_6)] 26 (0, 0))) ∧ Aside0 (Below w.heap.size w w'))
 case atStart => exact ⟨(y453), (0), (0), (by first | rfl | (simp; done) | (simp [*]; done)), (by first | rfl | (simp; done) | (simp [*]; done)), H', ⟨Nat.le_refl _⟩, ⟨by (with_reducible repeat (first | apply Kd.N_alloc | apply Kd.N_drewN | apply Kd.N_drew)); exact HO455.out⟩, ⟨by (with_reducible repeat (first | refine blk_drewN ?_ _ | refine blk_drew ?_ | refine blk_alloc ?_ _)); exact BK443.out⟩, ⟨(hb1_ HB.out GE443.out)⟩⟩
 case round =>
  clear H'
  try clear c1
  try clear p2
  try clear c4
  try clear c14
  obtain ⟨x3_1, x4_1, x5_1, rfl, rfl, HA, HK1, HO_3, BK443, HB⟩ := hrel
  cases gk with
  | zero => exact absurd HA.out (by simp [laminaref16_Encode.l0])
  | succ k1 =>
   have H := HA.out
   clear HA
   simp only [laminaref16_Encode.l0] at H
   by_cases c15 : x5_1 < (l0_2.length : Int)
   ·rw [if_pos c15] at H
    have c15b0 : decide (x5_1 < (l0_2.length : Int)) = true := decide_eq_true c15
    clear c15
    by_cases c16 : 0 ≤ x5_1
    ·rw [if_pos c16] at H
     have c16b0 : decide (0 ≤ x5_1) = true := decide_eq_true c16
     clear c16
     replace H := Option.bind_eq_some_iff.mp H
     obtain ⟨t457, A170, H⟩ := H
     replace H : (if x3_1.length < 5864062014805 then (laminaref16_Encode.l0 k1 (x3_1 ++ [t457]) (rd l0_2 x5_1) (wrap64 (x5_1 + 1)) a0_0 a0_1 l0_2 a0_3 l0_4 l0_5 l0_6) else (none)) = some r := H
     have A17 := Aside0.mk A170
     clear A170
     by_cases c18 : x3_1.length < 5864062014805
     ·rw [if_pos c18] at H
      have LMc18 := Aside0.mk c18
      clear c18
      obtain ⟨y460, hy460⟩ : ∃ y_ : List (List Int), y_ = (x3_1 ++ [t457]) := ⟨_, rfl⟩
      replace H : (laminaref16_Encode.l0 k1 y460 (rd l0_2 x5_1) (wrap64 (x5_1 + 1)) a0_0 a0_1 l0_2 a0_3 l0_4 l0_5 l0_6) = some r := by first | (rw [hy460]; with_reducible exact H) | (have H2_ := (Option.bind_some _ _).symm.trans H; rw [hy460]; with_reducible exact H2_) | (have H2_ := (Option.bind_some _ _).symm.trans H; with_reducible exact H2_) | with_reducible exact H | (rw [hy460]; exact H) | exact H
      have Ny460 := Aside0.mk hy460
      clear hy460
      have H' := Aside0.mk H
      clear H
      obtain ⟨hcz19_0, hcz19_1, hcz19_2, hcz19_3, hcz19_4, hcz19_5, hcz19_6, hfz19_0, hfz19_1, hfz19_2, hfz19_3, hfz19_4, hfz19_5, hfz19_6⟩ := bf7 BK443.out
      have p456 : 0 ≤ (x5_1 : Int) := of_decide_eq_true (by first | (with_reducible assumption) | assumption)
      have q456 : x5_1 < (l0_2.length : Int) := of_decide_eq_true (by first | (with_reducible assumption) | assumption)
      obtain ⟨ad456, e456, hx456_0⟩ := Kd.at_int HR0_2.out x5_1 p456 q456
      cases e456
      replace hx456_0 := up_ HB.out hx456_0
      replace p456 := eq_true p456
      replace q456 := eq_true q456
      go_wp2_with (first | ((with_reducible refine gate_callee (f := 44) rfl ?_); refine goesL_ (some 37) rfl rfl Try.func44 (by kernel_rfl) rfl #[.int .u64 (IntKind.u64.wrap ((rd l0_2 x5_1) - x4_1))] rfl (by (try simp only [List.map_toArray, List.map_cons, List.map_nil]); first | done | rfl | (simp only [List.length_drop, List.length_take]; rfl) | (simp only [Int.ofNat_lt, Int.ofNat_le, gt_iff_lt, ge_iff_le]; rfl)) ?_; (with_reducible refine (laminaref01_Encode.calls k1 (IntKind.u64.wrap ((rd l0_2 x5_1) - x4_1)) t457 _ A17.out).mono ?_); rintro e w20 ⟨v458, rfl, ho0, hb⟩; refine ⟨_, rfl, ?_⟩; have HO459 := Aside0.mk (Kd.R_lower ho0 (below_size (hb1_ HB.out GE443.out))); replace HO_3 := Aside0.mk (Kd.N_elder' (by (with_reducible repeat (first | apply Kd.N_alloc | apply Kd.N_drewN | apply Kd.N_drew)); exact HO_3.out) (Kd.R_base ho0) hb); replace BK443 := Aside0.mk (blk_below (bk_ BK443.out) hb); replace HB := Aside0.mk (below_step (hb1_ HB.out GE443.out) hb); (try clear hb); (try clear ho0); obtain ⟨Ao22, co22, eo22⟩ := Kd.R_slice HO459.out; subst eo22) | ((with_reducible refine gate_builtin (b := .append) (xs := #[.tmp 29, .tmp 38]) rfl ?_); at_builtin; refine Kd.N_append (Kd.slice 5 (Kd.int .u8)) (w0 := w) w.heap.size rfl (.tmp 29) (.tmp 38) 65 27 (.slice none 0 0) 24 rfl Try.underlying65 info27 rfl (by decide) (by omega) u3 x3_1 t457 [.slice Ao22 t457.length co22] (fun k_ => k_ ≠ gb443) (fun k_ => ((fun k_ => k_ ≠ gb443)) k_ ∧ some k_ ≠ (u3 : Value).ownBlock) rfl rfl ?aP (fun _ hk => hk) ?aF ?aO ?aB ?aS ?aL ?_; (case aP => exact (Kd.FK_slice_mk (Kd.R_reads' (Kd.R_mono (ok' := (fun k_ => ((fun k_ => k_ ≠ gb443)) k_ ∧ some k_ ≠ (u3 : Value).ownBlock)) (Kd.R_types (Kd.R_apart' (HO459.out) (Kd.N_typed HO_3.out) (by decide)) BK443.out (by decide)) (fun k_ hk => ⟨hk.2, hk.1.2⟩))).2.1 (Kd.R_F (Kd.R_mono (ok' := (fun k_ => ((fun k_ => k_ ≠ gb443)) k_ ∧ some k_ ≠ (u3 : Value).ownBlock)) (Kd.R_types (Kd.R_apart' (HO459.out) (Kd.N_typed HO_3.out) (by decide)) BK443.out (by decide)) (fun k_ hk => ⟨hk.2, hk.1.2⟩))))); (case aB => exact (hb1_ HB.out GE443.out)); (case aF => exact (fun k_ hk => Kd.freshB (g := gb443) (o := .cells #[.int .i64 a0_0, .int .i64 a0_1, .slice (some ad456) l0_2.length c0_2, .bool a0_3, .slice A0_4 l0_4.length c0_4, .slice A0_5 l0_5.length c0_5, .slice A0_6 l0_6.length c0_6] 26 (0, 0)) (bk_ BK443.out) k_ hk)); (case aO => exact (by (with_reducible repeat (first | apply Kd.N_alloc | apply Kd.N_drewN | apply Kd.N_drew)); exact Kd.N_mono HO_3.out (fun _ hk => hk.1))); (case aS => exact (below_size (hb1_ HB.out GE443.out))); (case aL => have := LMc18.out; omega); intro v461 w21 ho hb hg hat; rw [← Ny460.out] at ho; have n0_ := Aside0.mk (blk_grown (g := gb443) (o := .cells #[.int .i64 a0_0, .int .i64 a0_1, .slice (some ad456) l0_2.length c0_2, .bool a0_3, .slice A0_4 l0_4.length c0_4, .slice A0_5 l0_5.length c0_5, .slice A0_6 l0_6.length c0_6] 26 (0, 0)) (bk_ BK443.out) hg (Kd.N_ne HO_3.out BK443.out (by decide))); have n1_ := Aside0.mk (hb); have n2_ := Aside0.mk (ho); clear BK443; clear HB; clear HO_3; clear HO459; have BK443 := n0_; have HB := n1_; have HO462 := n2_; clear n0_ n1_ n2_; clear ho hb hg hat; obtain ⟨hcz23_0, hcz23_1, hcz23_2, hcz23_3, hcz23_4, hcz23_5, hcz23_6, hfz23_0, hfz23_1, hfz23_2, hfz23_3, hfz23_4, hfz23_5, hfz23_6⟩ := bf7 BK443.out; have p463 : 0 ≤ (x5_1 : Int) := of_decide_eq_true (by first | (with_reducible assumption) | assumption); have q463 : x5_1 < (l0_2.length : Int) := of_decide_eq_true (by first | (with_reducible assumption) | assumption); obtain ⟨ad463, e463, hx463_0⟩ := Kd.at_int HR0_2.out x5_1 p463 q463; obtain rfl : ad456 = ad463 := (by injection e463); replace hx463_0 := up_ HB.out hx463_0; replace p463 := eq_true p463; replace q463 := eq_true q463))
      go_roundg k1
      case measure => have := HK1.out; omega
      case rel => exact ⟨(y460), (rd l0_2 x5_1), (wrap64 (x5_1 + 1)), (by first | rfl | (simp; done) | (simp [*]; done)), (by first | rfl | (simp; done) | (simp [*]; done)), H', ⟨by have := HK1.out; omega⟩, ⟨by (with_reducible repeat (first | apply Kd.N_alloc | apply Kd.N_drewN | apply Kd.N_drew)); exact HO462.out⟩, ⟨by (with_reducible repeat (first | refine blk_drewN ?_ _ | refine blk_drew ?_ | refine blk_alloc ?_ _)); exact BK443.out⟩, ⟨(hb1_ HB.out GE443.out)⟩⟩
     ·rw [if_neg c18] at H
      exact absurd H (by simp)
    ·rw [if_neg c16] at H
     exact absurd H (by simp)
   ·rw [if_neg c15] at H
    have c15b0 : decide (x5_1 < (l0_2.length : Int)) = false := decide_eq_false c15
    clear c15
    have HC24 := Aside0.mk H
    clear H
    obtain ⟨hcz25_0, hcz25_1, hcz25_2, hcz25_3, hcz25_4, hcz25_5, hcz25_6, hfz25_0, hfz25_1, hfz25_2, hfz25_3, hfz25_4, hfz25_5, hfz25_6⟩ := bf7 BK443.out
    go_upto_if 46 with (fail)
    go_cut [3] (fun v3 wc => ∃ (kq : Nat) (x3_23 : List (List Int)), Aside0 (laminaref16_Encode.j1 kq x3_23 a0_0 a0_1 l0_2 a0_3 l0_4 l0_5 l0_6 = some r) ∧ Aside0 (kq ≤ k1) ∧ Aside0 (Kd.N (Kd.slice 5 (Kd.int .u8)) 27 wc w.heap.size (fun k_ => k_ ≠ gb443) v3 x3_23) ∧ Aside0 (wc.heap[gb443]? = some (.cells #[.int .i64 a0_0, .int .i64 a0_1, (.slice A0_2 l0_2.length c0_2), .bool a0_3, (.slice A0_4 l0_4.length c0_4), (.slice A0_5 l0_5.length c0_5), (.slice A0_6 l0_6.length c0_6)] 26 (0, 0))) ∧ Aside0 (Below w.heap.size w wc))
    case first =>
     have H := HC24.out
     clear HC24
     by_cases c26 : a0_3 = true
     ·subst c26
      have H1 : (if x3_1.length < 5864062014805 then (laminaref16_Encode.j1 k1 (x3_1 ++ [(([1] : List Int))]) a0_0 a0_1 l0_2 true l0_4 l0_5 l0_6) else (none)) = some r := by rw [if_pos rfl] at H; exact H
      clear H
      have H := H1
      clear H1
      obtain ⟨y464, hy464⟩ : ∃ y_ : List Int, y_ = (([1] : List Int)) := ⟨_, rfl⟩
      replace H : (if x3_1.length < 5864062014805 then (laminaref16_Encode.j1 k1 (x3_1 ++ [y464]) a0_0 a0_1 l0_2 true l0_4 l0_5 l0_6) else (none)) = some r := by first | (rw [hy464]; with_reducible exact H) | (have H2_ := (Option.bind_some _ _).symm.trans H; rw [hy464]; with_reducible exact H2_) | (have H2_ := (Option.bind_some _ _).symm.trans H; with_reducible exact H2_) | with_reducible exact H | (rw [hy464]; exact H) | exact H
      have Ny464 := Aside0.mk hy464
      clear hy464
      by_cases c27 : x3_1.length < 5864062014805
      ·rw [if_pos c27] at H
       have LMc27 := Aside0.mk c27
       clear c27
       obtain ⟨y467, hy467⟩ : ∃ y_ : List (List Int), y_ = (x3_1 ++ [y464]) := ⟨_, rfl⟩
       replace H : (laminaref16_Encode.j1 k1 y467 a0_0 a0_1 l0_2 true l0_4 l0_5 l0_6) = some r := by first | (rw [hy467]; with_reducible exact H) | (have H2_ := (Option.bind_some _ _).symm.trans H; rw [hy467]; with_reducible exact H2_) | (have H2_ := (Option.bind_some _ _).symm.trans H; with_reducible exact H2_) | with_reducible exact H | (rw [hy467]; exact H) | exact H
       have Ny467 := Aside0.mk hy467
       clear hy467
       have H' := Aside0.mk H
       clear H
       go_wp2_with (first | ((with_reducible refine gate_dst (N := 48) rfl ?_); refine Kd.R_lit (Kd.int .u8) _ 5 ?hg (N := 48) ?hd (xs := ([1] : List Int)) (inner := [.int .u8 1]) (ok := fun _ => True) (okp := fun _ => True) ?hr ?hp (fun _ hk => hk) trivial (Below.refl _ _) (Nat.le_refl _) (by simp) ?_; (case hd => rfl); (case hg => rfl); (case hr => first | (go_simp; done) | (go_simp; rfl)); (case hp => exact (Reps.one (show Kd.M (Kd.int .u8) _ _ _ 1 [.int .u8 1] from rfl) (Reps.none _ _))); intro v465 w28 ho29 hb hg_ hnew_; clear hg_ hnew_; (first | rw [← Ny464.out] at ho29 | (simp only [Int.reduceToNat] at ho29; rw [← Ny464.out] at ho29)); have HO466 := Aside0.mk (Kd.R_lower ho29 (below_size (hb1_ HB.out GE443.out))); replace HO_3 := Aside0.mk (Kd.N_elder' (by (with_reducible repeat (first | apply Kd.N_alloc | apply Kd.N_drewN | apply Kd.N_drew)); exact HO_3.out) (Kd.R_base ho29) hb); replace BK443 := Aside0.mk (blk_below (bk_ BK443.out) hb); replace HB := Aside0.mk (below_step (hb1_ HB.out GE443.out) hb); clear hb ho29; obtain ⟨Ao31, co31, eo31⟩ := Kd.R_slice HO466.out; subst eo31) | ((with_reducible refine gate_builtin (b := .append) (xs := #[.tmp 47, .tmp 49]) rfl ?_); at_builtin; refine Kd.N_append (Kd.slice 5 (Kd.int .u8)) (w0 := w) w.heap.size rfl (.tmp 47) (.tmp 49) 65 27 (.slice none 0 0) 24 rfl Try.underlying65 info27 rfl (by decide) (by omega) u3 x3_1 y464 [.slice Ao31 y464.length co31] (fun k_ => k_ ≠ gb443) (fun k_ => ((fun k_ => k_ ≠ gb443)) k_ ∧ some k_ ≠ (u3 : Value).ownBlock) rfl rfl ?aP (fun _ hk => hk) ?aF ?aO ?aB ?aS ?aL ?_; (case aP => exact (Kd.FK_slice_mk (Kd.R_reads' (Kd.R_mono (ok' := (fun k_ => ((fun k_ => k_ ≠ gb443)) k_ ∧ some k_ ≠ (u3 : Value).ownBlock)) (Kd.R_types (Kd.R_apart' (HO466.out) (Kd.N_typed HO_3.out) (by decide)) BK443.out (by decide)) (fun k_ hk => ⟨hk.2, hk.1.2⟩))).2.1 (Kd.R_F (Kd.R_mono (ok' := (fun k_ => ((fun k_ => k_ ≠ gb443)) k_ ∧ some k_ ≠ (u3 : Value).ownBlock)) (Kd.R_types (Kd.R_apart' (HO466.out) (Kd.N_typed HO_3.out) (by decide)) BK443.out (by decide)) (fun k_ hk => ⟨hk.2, hk.1.2⟩))))); (case aB => exact (hb1_ HB.out GE443.out)); (case aF => exact (fun k_ hk => Kd.freshB (g := gb443) (o := .cells #[.int .i64 a0_0, .int .i64 a0_1, .slice A0_2 l0_2.length c0_2, .bool true, .slice A0_4 l0_4.length c0_4, .slice A0_5 l0_5.length c0_5, .slice A0_6 l0_6.length c0_6] 26 (0, 0)) (bk_ BK443.out) k_ hk)); (case aO => exact (by (with_reducible repeat (first | apply Kd.N_alloc | apply Kd.N_drewN | apply Kd.N_drew)); exact Kd.N_mono HO_3.out (fun _ hk => hk.1))); (case aS => exact (below_size (hb1_ HB.out GE443.out))); (case aL => have := LMc27.out; omega); intro v468 w30 ho hb hg hat; rw [← Ny467.out] at ho; have n0_ := Aside0.mk (blk_grown (g := gb443) (o := .cells #[.int .i64 a0_0, .int .i64 a0_1, .slice A0_2 l0_2.length c0_2, .bool true, .slice A0_4 l0_4.length c0_4, .slice A0_5 l0_5.length c0_5, .slice A0_6 l0_6.length c0_6] 26 (0, 0)) (bk_ BK443.out) hg (Kd.N_ne HO_3.out BK443.out (by decide))); have n1_ := Aside0.mk (hb); have n2_ := Aside0.mk (ho); clear BK443; clear HB; clear HO_3; clear HO466; have BK443 := n0_; have HB := n1_; have HO469 := n2_; clear n0_ n1_ n2_; clear ho hb hg hat))
       go_meet
       case rel => exact ⟨_, (y467), H', ⟨by have := HK1.out; first | omega | exact Nat.le_refl _⟩, ⟨by (with_reducible repeat (first | apply Kd.N_alloc | apply Kd.N_drewN | apply Kd.N_drew)); exact HO469.out⟩, ⟨by (with_reducible repeat (first | refine blk_drewN ?_ _ | refine blk_drew ?_ | refine blk_alloc ?_ _)); exact BK443.out⟩, ⟨(hb1_ HB.out GE443.out)⟩⟩
      ·rw [if_neg c27] at H
       exact absurd H (by simp)
     ·replace c26 := Bool.eq_false_iff.mpr c26
      subst c26
      have H1 : (if x3_1.length < 5864062014805 then (laminaref16_Encode.j1 k1 (x3_1 ++ [(([0] : List Int))]) a0_0 a0_1 l0_2 false l0_4 l0_5 l0_6) else (none)) = some r := by rw [if_neg (show ¬ (false = true) by decide)] at H; exact H
      clear H
      have H := H1
      clear H1
      obtain ⟨y470, hy470⟩ : ∃ y_ : List Int, y_ = (([0] : List Int)) := ⟨_, rfl⟩
      replace H : (if x3_1.length < 5864062014805 then (laminaref16_Encode.j1 k1 (x3_1 ++ [y470]) a0_0 a0_1 l0_2 false l0_4 l0_5 l0_6) else (none)) = some r := by first | (rw [hy470]; with_reducible exact H) | (have H2_ := (Option.bind_some _ _).symm.trans H; rw [hy470]; with_reducible exact H2_) | (have H2_ := (Option.bind_some _ _).symm.trans H; with_reducible exact H2_) | with_reducible exact H | (rw [hy470]; exact H) | exact H
      have Ny470 := Aside0.mk hy470
      clear hy470
      by_cases c32 : x3_1.length < 5864062014805
      ·rw [if_pos c32] at H
       have LMc32 := Aside0.mk c32
       clear c32
       obtain ⟨y473, hy473⟩ : ∃ y_ : List (List Int), y_ = (x3_1 ++ [y470]) := ⟨_, rfl⟩
       replace H : (laminaref16_Encode.j1 k1 y473 a0_0 a0_1 l0_2 false l0_4 l0_5 l0_6) = some r := by first | (rw [hy473]; with_reducible exact H) | (have H2_ := (Option.bind_some _ _).symm.trans H; rw [hy473]; with_reducible exact H2_) | (have H2_ := (Option.bind_some _ _).symm.trans H; with_reducible exact H2_) | with_reducible exact H | (rw [hy473]; exact H) | exact H
       have Ny473 := Aside0.mk hy473
       clear hy473
       have H' := Aside0.mk H
       clear H
       go_wp2_with (first | ((with_reducible refine gate_dst (N := 52) rfl ?_); refine Kd.R_lit (Kd.int .u8) _ 5 ?hg (N := 52) ?hd (xs := ([0] : List Int)) (inner := [.int .u8 0]) (ok := fun _ => True) (okp := fun _ => True) ?hr ?hp (fun _ hk => hk) trivial (Below.refl _ _) (Nat.le_refl _) (by simp) ?_; (case hd => rfl); (case hg => rfl); (case hr => first | (go_simp; done) | (go_simp; rfl)); (case hp => exact (Reps.one (show Kd.M (Kd.int .u8) _ _ _ 0 [.int .u8 0] from rfl) (Reps.none _ _))); intro v471 w33 ho34 hb hg_ hnew_; clear hg_ hnew_; (first | rw [← Ny470.out] at ho34 | (simp only [Int.reduceToNat] at ho34; rw [← Ny470.out] at ho34)); have HO472 := Aside0.mk (Kd.R_lower ho34 (below_size (hb1_ HB.out GE443.out))); replace HO_3 := Aside0.mk (Kd.N_elder' (by (with_reducible repeat (first | apply Kd.N_alloc | apply Kd.N_drewN | apply Kd.N_drew)); exact HO_3.out) (Kd.R_base ho34) hb); replace BK443 := Aside0.mk (blk_below (bk_ BK443.out) hb); replace HB := Aside0.mk (below_step (hb1_ HB.out GE443.out) hb); clear hb ho34; obtain ⟨Ao36, co36, eo36⟩ := Kd.R_slice HO472.out; subst eo36) | ((with_reducible refine gate_builtin (b := .append) (xs := #[.tmp 51, .tmp 53]) rfl ?_); at_builtin; refine Kd.N_append (Kd.slice 5 (Kd.int .u8)) (w0 := w) w.heap.size rfl (.tmp 51) (.tmp 53) 65 27 (.slice none 0 0) 24 rfl Try.underlying65 info27 rfl (by decide) (by omega) u3 x3_1 y470 [.slice Ao36 y470.length co36] (fun k_ => k_ ≠ gb443) (fun k_ => ((fun k_ => k_ ≠ gb443)) k_ ∧ some k_ ≠ (u3 : Value).ownBlock) rfl rfl ?aP (fun _ hk => hk) ?aF ?aO ?aB ?aS ?aL ?_; (case aP => exact (Kd.FK_slice_mk (Kd.R_reads' (Kd.R_mono (ok' := (fun k_ => ((fun k_ => k_ ≠ gb443)) k_ ∧ some k_ ≠ (u3 : Value).ownBlock)) (Kd.R_types (Kd.R_apart' (HO472.out) (Kd.N_typed HO_3.out) (by decide)) BK443.out (by decide)) (fun k_ hk => ⟨hk.2, hk.1.2⟩))).2.1 (Kd.R_F (Kd.R_mono (ok' := (fun k_ => ((fun k_ => k_ ≠ gb443)) k_ ∧ some k_ ≠ (u3 : Value).ownBlock)) (Kd.R_types (Kd.R_apart' (HO472.out) (Kd.N_typed HO_3.out) (by decide)) BK443.out (by decide)) (fun k_ hk => ⟨hk.2, hk.1.2⟩))))); (case aB => exact (hb1_ HB.out GE443.out)); (case aF => exact (fun k_ hk => Kd.freshB (g := gb443) (o := .cells #[.int .i64 a0_0, .int .i64 a0_1, .slice A0_2 l0_2.length c0_2, .bool false, .slice A0_4 l0_4.length c0_4, .slice A0_5 l0_5.length c0_5, .slice A0_6 l0_6.length c0_6] 26 (0, 0)) (bk_ BK443.out) k_ hk)); (case aO => exact (by (with_reducible repeat (first | apply Kd.N_alloc | apply Kd.N_drewN | apply Kd.N_drew)); exact Kd.N_mono HO_3.out (fun _ hk => hk.1))); (case aS => exact (below_size (hb1_ HB.out GE443.out))); (case aL => have := LMc32.out; omega); intro v474 w35 ho hb hg hat; rw [← Ny473.out] at ho; have n0_ := Aside0.mk (blk_grown (g := gb443) (o := .cells #[.int .i64 a0_0, .int .i64 a0_1, .slice A0_2 l0_2.length c0_2, .bool false, .slice A0_4 l0_4.length c0_4, .slice A0_5 l0_5.length c0_5, .slice A0_6 l0_6.length c0_6] 26 (0, 0)) (bk_ BK443.out) hg (Kd.N_ne HO_3.out BK443.out (by decide))); have n1_ := Aside0.mk (hb); have n2_ := Aside0.mk (ho); clear BK443; clear HB; clear HO_3; clear HO472; have BK443 := n0_; have HB := n1_; have HO475 := n2_; clear n0_ n1_ n2_; clear ho hb hg hat))
       go_meet
       case rel => exact ⟨_, (y473), H', ⟨by have := HK1.out; first | omega | exact Nat.le_refl _⟩, ⟨by (with_reducible repeat (first | apply Kd.N_alloc | apply Kd.N_drewN | apply Kd.N_drew)); exact HO475.out⟩, ⟨by (with_reducible repeat (first | refine blk_drewN ?_ _ | refine blk_drew ?_ | refine blk_alloc ?_ _)); exact BK443.out⟩, ⟨(hb1_ HB.out GE443.out)⟩⟩
      ·rw [if_neg c32] at H
       exact absurd H (by simp)
    case rest =>
     clear HC24
     try clear c1
     try clear c2
     try clear p2
     try clear c3
     try clear c4
     try clear p4
     try clear q4
     try clear hx4
     try clear p6
     try clear c14
     try clear c15
     try clear c15b0
     try clear c16
     try clear c16b0
     try clear c18
     try clear c26
     try clear c27
     try clear c32
     try clear hcz19_0 hcz19_1 hcz19_2 hcz19_3 hcz19_4 hcz19_5 hcz19_6 hfz19_0 hfz19_1 hfz19_2 hfz19_3 hfz19_4 hfz19_5 hfz19_6
     try clear hcz23_0 hcz23_1 hcz23_2 hcz23_3 hcz23_4 hcz23_5 hcz23_6 hfz23_0 hfz23_1 hfz23_2 hfz23_3 hfz23_4 hfz23_5 hfz23_6
     try clear hcz25_0 hcz25_1 hcz25_2 hcz25_3 hcz25_4 hcz25_5 hcz25_6 hfz25_0 hfz25_1 hfz25_2 hfz25_3 hfz25_4 hfz25_5 hfz25_6
     try clear hx456_0
     try clear hx463_0
     try clear p2
     try clear p456
     try clear p463
     try clear q456
     try clear q463
     obtain ⟨kq, x3_23, HA, HJ23, HO_3, BK443, HB⟩ := hcut
     cases kq with
     | zero => exact absurd HA.out (by simp [laminaref16_Encode.j1])
     | succ kj23 =>
      have H := HA.out
      clear HA
      simp only [laminaref16_Encode.j1] at H
      have H' := Aside0.mk H
      clear H
      go_wp2
      go_loopg [3, 6] kj23 (fun kq v3 v6 w' => ∃ (x3_3 : List (List Int)) (x6_3 : Int), v6 = .int .i64 x6_3 ∧ Aside0 (laminaref16_Encode.l1 kq x3_3 x6_3 a0_0 a0_1 l0_2 a0_3 l0_4 l0_5 l0_6 = some r) ∧ Aside0 (kq ≤ kj23) ∧ Aside0 (Kd.N (Kd.slice 5 (Kd.int .u8)) 27 w' w.heap.size (fun k_ => k_ ≠ gb443) v3 x3_3) ∧ Aside0 (w'.heap[gb443]? = some (.cells #[.int .i64 a0_0, .int .i64 a0_1, (.slice A0_2 l0_2.length c0_2), .bool a0_3, (.slice A0_4 l0_4.length c0_4), (.slice A0_5 l0_5.length c0_5), (.slice A0_6 l0_6.length c0_6)] 26 (0, 0))) ∧ Aside0 (Below w.heap.size w w'))
      case atStart => exact ⟨(x3_23), (0), (by first | rfl | (simp; done) | (simp [*]; done)), H', ⟨Nat.le_refl _⟩, ⟨by (with_reducible repeat (first | apply Kd.N_alloc | apply Kd.N_drewN | apply Kd.N_drew)); exact HO_3.out⟩, ⟨by (with_reducible repeat (first | refine blk_drewN ?_ _ | refine blk_drew ?_ | refine blk_alloc ?_ _)); exact BK443.out⟩, ⟨(hb1_ HB.out GE443.out)⟩⟩
      case round =>
       clear H'
       try clear c1
       try clear c2
       try clear p2
       try clear c3
       try clear c4
       try clear p4
       try clear q4
       try clear hx4
       try clear p6
       try clear c14
       try clear c15
       try clear c15b0
       try clear c16
       try clear c16b0
       try clear c18
       try clear c26
       try clear c27
       try clear c32
       try clear hcz19_0 hcz19_1 hcz19_2 hcz19_3 hcz19_4 hcz19_5 hcz19_6 hfz19_0 hfz19_1 hfz19_2 hfz19_3 hfz19_4 hfz19_5 hfz19_6
       try clear hcz23_0 hcz23_1 hcz23_2 hcz23_3 hcz23_4 hcz23_5 hcz23_6 hfz23_0 hfz23_1 hfz23_2 hfz23_3 hfz23_4 hfz23_5 hfz23_6
       try clear hcz25_0 hcz25_1 hcz25_2 hcz25_3 hcz25_4 hcz25_5 hcz25_6 hfz25_0 hfz25_1 hfz25_2 hfz25_3 hfz25_4 hfz25_5 hfz25_6
       try clear hx456_0
       try clear hx463_0
       try clear p2
       try clear p4
       try clear p456
       try clear p463
       try clear p6
       try clear q4
       try clear q456
       try clear q463
       obtain ⟨x3_3, x6_3, rfl, HA, HK3, HO_3, BK443, HB⟩ := hrel
       cases gk with
       | zero => exact absurd HA.out (by simp [laminaref16_Encode.l1])
       | succ k3 =>
        have H := HA.out
        clear HA
        simp only [laminaref16_Encode.l1] at H
        by_cases c37 : x6_3 < (l0_4.length : Int)
        ·rw [if_pos c37] at H
         have c37b0 : decide (x6_3 < (l0_4.length : Int)) = true := decide_eq_true c37
         clear c37
         by_cases c38 : 0 ≤ x6_3
         ·rw [if_pos c38] at H
          have c38b0 : decide (0 ≤ x6_3) = true := decide_eq_true c38
          clear c38
          replace H := Option.bind_eq_some_iff.mp H
          obtain ⟨t477, A390, H⟩ := H
          replace H : (if x3_3.length < 5864062014805 then (laminaref16_Encode.l1 k3 (x3_3 ++ [t477]) (wrap64 (x6_3 + 1)) a0_0 a0_1 l0_2 a0_3 l0_4 l0_5 l0_6) else (none)) = some r := H
          have A39 := Aside0.mk A390
          clear A390
          by_cases c40 : x3_3.length < 5864062014805
          ·rw [if_pos c40] at H
           have LMc40 := Aside0.mk c40
           clear c40
           obtain ⟨y480, hy480⟩ : ∃ y_ : List (List Int), y_ = (x3_3 ++ [t477]) := ⟨_, rfl⟩
           replace H : (laminaref16_Encode.l1 k3 y480 (wrap64 (x6_3 + 1)) a0_0 a0_1 l0_2 a0_3 l0_4 l0_5 l0_6) = some r := by first | (rw [hy480]; with_reducible exact H) | (have H2_ := (Option.bind_some _ _).symm.trans H; rw [hy480]; with_reducible exact H2_) | (have H2_ := (Option.bind_some _ _).symm.trans H; with_reducible exact H2_) | with_reducible exact H | (rw [hy480]; exact H) | exact H
           have Ny480 := Aside0.mk hy480
           clear hy480
           have H' := Aside0.mk H
           clear H
           obtain ⟨hcz41_0, hcz41_1, hcz41_2, hcz41_3, hcz41_4, hcz41_5, hcz41_6, hfz41_0, hfz41_1, hfz41_2, hfz41_3, hfz41_4, hfz41_5, hfz41_6⟩ := bf7 BK443.out
           have p476 : 0 ≤ (x6_3 : Int) := of_decide_eq_true (by first | (with_reducible assumption) | assumption)
           have q476 : x6_3 < (l0_4.length : Int) := of_decide_eq_true (by first | (with_reducible assumption) | assumption)
           obtain ⟨ad476, e476, hx476_0⟩ := Kd.at_int HR0_4.out x6_3 p476 q476
           cases e476
           replace hx476_0 := up_ HB.out hx476_0
           replace p476 := eq_true p476
           replace q476 := eq_true q476
           go_wp2_with (first | ((with_reducible refine gate_callee (f := 44) rfl ?_); refine goesL_ (some 69) rfl rfl Try.func44 (by kernel_rfl) rfl #[.int .u64 (IntKind.u64.wrap (rd l0_4 x6_3))] rfl (by (try simp only [List.map_toArray, List.map_cons, List.map_nil]); first | done | rfl | (simp only [List.length_drop, List.length_take]; rfl) | (simp only [Int.ofNat_lt, Int.ofNat_le, gt_iff_lt, ge_iff_le]; rfl)) ?_; (with_reducible refine (laminaref01_Encode.calls k3 (IntKind.u64.wrap (rd l0_4 x6_3)) t477 _ A39.out).mono ?_); rintro e w42 ⟨v478, rfl, ho0, hb⟩; refine ⟨_, rfl, ?_⟩; have HO479 := Aside0.mk (Kd.R_lower ho0 (below_size (hb1_ HB.out GE443.out))); replace HO_3 := Aside0.mk (Kd.N_elder' (by (with_reducible repeat (first | apply Kd.N_alloc | apply Kd.N_drewN | apply Kd.N_drew)); exact HO_3.out) (Kd.R_base ho0) hb); replace BK443 := Aside0.mk (blk_below (bk_ BK443.out) hb); replace HB := Aside0.mk (below_step (hb1_ HB.out GE443.out) hb); (try clear hb); (try clear ho0); obtain ⟨Ao44, co44, eo44⟩ := Kd.R_slice HO479.out; subst eo44) | ((with_reducible refine gate_builtin (b := .append) (xs := #[.tmp 62, .tmp 70]) rfl ?_); at_builtin; refine Kd.N_append (Kd.slice 5 (Kd.int .u8)) (w0 := w) w.heap.size rfl (.tmp 62) (.tmp 70) 65 27 (.slice none 0 0) 24 rfl Try.underlying65 info27 rfl (by decide) (by omega) u3 x3_3 t477 [.slice Ao44 t477.length co44] (fun k_ => k_ ≠ gb443) (fun k_ => ((fun k_ => k_ ≠ gb443)) k_ ∧ some k_ ≠ (u3 : Value).ownBlock) rfl rfl ?aP (fun _ hk => hk) ?aF ?aO ?aB ?aS ?aL ?_; (case aP => exact (Kd.FK_slice_mk (Kd.R_reads' (Kd.R_mono (ok' := (fun k_ => ((fun k_ => k_ ≠ gb443)) k_ ∧ some k_ ≠ (u3 : Value).ownBlock)) (Kd.R_types (Kd.R_apart' (HO479.out) (Kd.N_typed HO_3.out) (by decide)) BK443.out (by decide)) (fun k_ hk => ⟨hk.2, hk.1.2⟩))).2.1 (Kd.R_F (Kd.R_mono (ok' := (fun k_ => ((fun k_ => k_ ≠ gb443)) k_ ∧ some k_ ≠ (u3 : Value).ownBlock)) (Kd.R_types (Kd.R_apart' (HO479.out) (Kd.N_typed HO_3.out) (by decide)) BK443.out (by decide)) (fun k_ hk => ⟨hk.2, hk.1.2⟩))))); (case aB => exact (hb1_ HB.out GE443.out)); (case aF => exact (fun k_ hk => Kd.freshB (g := gb443) (o := .cells #[.int .i64 a0_0, .int .i64 a0_1, .slice A0_2 l0_2.length c0_2, .bool a0_3, .slice (some ad476) l0_4.length c0_4, .slice A0_5 l0_5.length c0_5, .slice A0_6 l0_6.length c0_6] 26 (0, 0)) (bk_ BK443.out) k_ hk)); (case aO => exact (by (with_reducible repeat (first | apply Kd.N_alloc | apply Kd.N_drewN | apply Kd.N_drew)); exact Kd.N_mono HO_3.out (fun _ hk => hk.1))); (case aS => exact (below_size (hb1_ HB.out GE443.out))); (case aL => have := LMc40.out; omega); intro v481 w43 ho hb hg hat; rw [← Ny480.out] at ho; have n0_ := Aside0.mk (blk_grown (g := gb443) (o := .cells #[.int .i64 a0_0, .int .i64 a0_1, .slice A0_2 l0_2.length c0_2, .bool a0_3, .slice (some ad476) l0_4.length c0_4, .slice A0_5 l0_5.length c0_5, .slice A0_6 l0_6.length c0_6] 26 (0, 0)) (bk_ BK443.out) hg (Kd.N_ne HO_3.out BK443.out (by decide))); have n1_ := Aside0.mk (hb); have n2_ := Aside0.mk (ho); clear BK443; clear HB; clear HO_3; clear HO479; have BK443 := n0_; have HB := n1_; have HO482 := n2_; clear n0_ n1_ n2_; clear ho hb hg hat))
           go_roundg k3
           case measure => have := HK1.out; have := HJ23.out; have := HK3.out; omega
           case rel => exact ⟨(y480), (wrap64 (x6_3 + 1)), (by first | rfl | (simp; done) | (simp [*]; done)), H', ⟨by have := HK1.out; have := HJ23.out; have := HK3.out; omega⟩, ⟨by (with_reducible repeat (first | apply Kd.N_alloc | apply Kd.N_drewN | apply Kd.N_drew)); exact HO482.out⟩, ⟨by (with_reducible repeat (first | refine blk_drewN ?_ _ | refine blk_drew ?_ | refine blk_alloc ?_ _)); exact BK443.out⟩, ⟨(hb1_ HB.out GE443.out)⟩⟩
          ·rw [if_neg c40] at H
           exact absurd H (by simp)
         ·rw [if_neg c38] at H
          exact absurd H (by simp)
        ·rw [if_neg c37] at H
         have c37b0 : decide (x6_3 < (l0_4.length : Int)) = false := decide_eq_false c37
         clear c37
         replace H := Option.bind_eq_some_iff.mp H
         obtain ⟨t483, A450, H⟩ := H
         replace H : (if x3_3.length < 5864062014805 then (laminaref16_Encode.l2 k3 (x3_3 ++ [t483]) 0 a0_0 a0_1 l0_2 a0_3 l0_4 l0_5 l0_6) else (none)) = some r := H
         have A45 := Aside0.mk A450
         clear A450
         by_cases c46 : x3_3.length < 5864062014805
         ·rw [if_pos c46] at H
          have LMc46 := Aside0.mk c46
          clear c46
          obtain ⟨y486, hy486⟩ : ∃ y_ : List (List Int), y_ = (x3_3 ++ [t483]) := ⟨_, rfl⟩
          replace H : (laminaref16_Encode.l2 k3 y486 0 a0_0 a0_1 l0_2 a0_3 l0_4 l0_5 l0_6) = some r := by first | (rw [hy486]; with_reducible exact H) | (have H2_ := (Option.bind_some _ _).symm.trans H; rw [hy486]; with_reducible exact H2_) | (have H2_ := (Option.bind_some _ _).symm.trans H; with_reducible exact H2_) | with_reducible exact H | (rw [hy486]; exact H) | exact H
          have Ny486 := Aside0.mk hy486
          clear hy486
          have H' := Aside0.mk H
          clear H
          obtain ⟨hcz47_0, hcz47_1, hcz47_2, hcz47_3, hcz47_4, hcz47_5, hcz47_6, hfz47_0, hfz47_1, hfz47_2, hfz47_3, hfz47_4, hfz47_5, hfz47_6⟩ := bf7 BK443.out
          go_wp2_with (first | ((with_reducible refine gate_callee (f := 44) rfl ?_); refine goesL_ (some 77) rfl rfl Try.func44 (by kernel_rfl) rfl #[.int .u64 (IntKind.u64.wrap ((l0_5.length : Int)))] rfl (by (try simp only [List.map_toArray, List.map_cons, List.map_nil]); first | done | rfl | (simp only [List.length_drop, List.length_take]; rfl) | (simp only [Int.ofNat_lt, Int.ofNat_le, gt_iff_lt, ge_iff_le]; rfl)) ?_; (with_reducible refine (laminaref01_Encode.calls k3 (IntKind.u64.wrap ((l0_5.length : Int))) t483 _ A45.out).mono ?_); rintro e w48 ⟨v484, rfl, ho0, hb⟩; refine ⟨_, rfl, ?_⟩; have HO485 := Aside0.mk (Kd.R_lower ho0 (below_size (hb1_ HB.out GE443.out))); replace HO_3 := Aside0.mk (Kd.N_elder' (by (with_reducible repeat (first | apply Kd.N_alloc | apply Kd.N_drewN | apply Kd.N_drew)); exact HO_3.out) (Kd.R_base ho0) hb); replace BK443 := Aside0.mk (blk_below (bk_ BK443.out) hb); replace HB := Aside0.mk (below_step (hb1_ HB.out GE443.out) hb); (try clear hb); (try clear ho0); obtain ⟨Ao50, co50, eo50⟩ := Kd.R_slice HO485.out; subst eo50) | ((with_reducible refine gate_builtin (b := .append) (xs := #[.tmp 72, .tmp 78]) rfl ?_); at_builtin; refine Kd.N_append (Kd.slice 5 (Kd.int .u8)) (w0 := w) w.heap.size rfl (.tmp 72) (.tmp 78) 65 27 (.slice none 0 0) 24 rfl Try.underlying65 info27 rfl (by decide) (by omega) u3 x3_3 t483 [.slice Ao50 t483.length co50] (fun k_ => k_ ≠ gb443) (fun k_ => ((fun k_ => k_ ≠ gb443)) k_ ∧ some k_ ≠ (u3 : Value).ownBlock) rfl rfl ?aP (fun _ hk => hk) ?aF ?aO ?aB ?aS ?aL ?_; (case aP => exact (Kd.FK_slice_mk (Kd.R_reads' (Kd.R_mono (ok' := (fun k_ => ((fun k_ => k_ ≠ gb443)) k_ ∧ some k_ ≠ (u3 : Value).ownBlock)) (Kd.R_types (Kd.R_apart' (HO485.out) (Kd.N_typed HO_3.out) (by decide)) BK443.out (by decide)) (fun k_ hk => ⟨hk.2, hk.1.2⟩))).2.1 (Kd.R_F (Kd.R_mono (ok' := (fun k_ => ((fun k_ => k_ ≠ gb443)) k_ ∧ some k_ ≠ (u3 : Value).ownBlock)) (Kd.R_types (Kd.R_apart' (HO485.out) (Kd.N_typed HO_3.out) (by decide)) BK443.out (by decide)) (fun k_ hk => ⟨hk.2, hk.1.2⟩))))); (case aB => exact (hb1_ HB.out GE443.out)); (case aF => exact (fun k_ hk => Kd.freshB (g := gb443) (o := .cells #[.int .i64 a0_0, .int .i64 a0_1, .slice A0_2 l0_2.length c0_2, .bool a0_3, .slice A0_4 l0_4.length c0_4, .slice A0_5 l0_5.length c0_5, .slice A0_6 l0_6.length c0_6] 26 (0, 0)) (bk_ BK443.out) k_ hk)); (case aO => exact (by (with_reducible repeat (first | apply Kd.N_alloc | apply Kd.N_drewN | apply Kd.N_drew)); exact Kd.N_mono HO_3.out (fun _ hk => hk.1))); (case aS => exact (below_size (hb1_ HB.out GE443.out))); (case aL => have := LMc46.out; omega); intro v487 w49 ho hb hg hat; rw [← Ny486.out] at ho; have n0_ := Aside0.mk (blk_grown (g := gb443) (o := .cells #[.int .i64 a0_0, .int .i64 a0_1, .slice A0_2 l0_2.length c0_2, .bool a0_3, .slice A0_4 l0_4.length c0_4, .slice A0_5 l0_5.length c0_5, .slice A0_6 l0_6.length c0_6] 26 (0, 0)) (bk_ BK443.out) hg (Kd.N_ne HO_3.out BK443.out (by decide))); have n1_ := Aside0.mk (hb); have n2_ := Aside0.mk (ho); clear BK443; clear HB; clear HO_3; clear HO485; have BK443 := n0_; have HB := n1_; have HO488 := n2_; clear n0_ n1_ n2_; clear ho hb hg hat))
          go_loopg [3, 7] k3 (fun kq v3 v7 w' => ∃ (x3_4 : List (List Int)) (x7_4 : Int), v7 = .int .i64 x7_4 ∧ Aside0 (laminaref16_Encode.l2 kq x3_4 x7_4 a0_0 a0_1 l0_2 a0_3 l0_4 l0_5 l0_6 = some r) ∧ Aside0 (kq ≤ k3) ∧ Aside0 (Kd.N (Kd.slice 5 (Kd.int .u8)) 27 w' w.heap.size (fun k_ => k_ ≠ gb443) v3 x3_4) ∧ Aside0 (w'.heap[gb443]? = some (.cells #[.int .i64 a0_0, .int .i64 a0_1, (.slice A0_2 l0_2.length c0_2), .bool a0_3, (.slice A0_4 l0_4.length c0_4), (.slice A0_5 l0_5.length c0_5), (.slice A0_6 l0_6.length c0_6)] 26 (0, 0))) ∧ Aside0 (Below w.heap.size w w'))
          case atStart => exact ⟨(y486), (0), (by first | rfl | (simp; done) | (simp [*]; done)), H', ⟨Nat.le_refl _⟩, ⟨by (with_reducible repeat (first | apply Kd.N_alloc | apply Kd.N_drewN | apply Kd.N_drew)); exact HO488.out⟩, ⟨by (with_reducible repeat (first | refine blk_drewN ?_ _ | refine blk_drew ?_ | refine blk_alloc ?_ _)); exact BK443.out⟩, ⟨(hb1_ HB.out GE443.out)⟩⟩
          case round =>
           clear H'
           try clear c1
           try clear c2
           try clear p2
           try clear c3
           try clear c4
           try clear p4
           try clear q4
           try clear hx4
           try clear p6
           try clear c14
           try clear c15
           try clear c15b0
           try clear c16
           try clear c16b0
           try clear c18
           try clear c26
           try clear c27
           try clear c32
           try clear c37
           try clear c37b0
           try clear c38
           try clear c38b0
           try clear c40
           try clear c44
           try clear p45
           try clear q45
           try clear hx45
           try clear c46
           try clear p46
           try clear q46
           try clear hx46
           try clear p47
           try clear q47
           try clear hx47
           try clear hcz19_0 hcz19_1 hcz19_2 hcz19_3 hcz19_4 hcz19_5 hcz19_6 hfz19_0 hfz19_1 hfz19_2 hfz19_3 hfz19_4 hfz19_5 hfz19_6
           try clear hcz23_0 hcz23_1 hcz23_2 hcz23_3 hcz23_4 hcz23_5 hcz23_6 hfz23_0 hfz23_1 hfz23_2 hfz23_3 hfz23_4 hfz23_5 hfz23_6
           try clear hcz25_0 hcz25_1 hcz25_2 hcz25_3 hcz25_4 hcz25_5 hcz25_6 hfz25_0 hfz25_1 hfz25_2 hfz25_3 hfz25_4 hfz25_5 hfz25_6
           try clear hcz41_0 hcz41_1 hcz41_2 hcz41_3 hcz41_4 hcz41_5 hcz41_6 hfz41_0 hfz41_1 hfz41_2 hfz41_3 hfz41_4 hfz41_5 hfz41_6
           try clear hcz47_0 hcz47_1 hcz47_2 hcz47_3 hcz47_4 hcz47_5 hcz47_6 hfz47_0 hfz47_1 hfz47_2 hfz47_3 hfz47_4 hfz47_5 hfz47_6
           try clear hx456_0
           try clear hx463_0
           try clear hx476_0
           try clear p2
           try clear p4
           try clear p456
           try clear p463
           try clear p476
           try clear p6
           try clear q4
           try clear q456
           try clear q463
           try clear q476
           obtain ⟨x3_4, x7_4, rfl, HA, HK4, HO_3, BK443, HB⟩ := hrel
           cases gk with
           | zero => exact absurd HA.out (by simp [laminaref16_Encode.l2])
           | succ k4 =>
            have H := HA.out
            clear HA
            simp only [laminaref16_Encode.l2] at H
            by_cases c51 : x7_4 < (l0_5.length : Int)
            ·rw [if_pos c51] at H
             have c51b0 : decide (x7_4 < (l0_5.length : Int)) = true := decide_eq_true c51
             clear c51
             by_cases c52 : 0 ≤ x7_4
             ·rw [if_pos c52] at H
              have c52b0 : decide (0 ≤ x7_4) = true := decide_eq_true c52
              clear c52
              replace H := Option.bind_eq_some_iff.mp H
              obtain ⟨t490, A530, H⟩ := H
              replace H : (if x3_4.length < 5864062014805 then ((some (x3_4 ++ [t490] : List (List Int))).bind fun y493 => (if 0 ≤ (wrap64 (2 * x7_4)) then (if (wrap64 (2 * x7_4)) < (l0_6.length : Int) then ((laminaref01_Encode.f k4 (IntKind.u64.wrap (rd l0_6 (wrap64 (2 * x7_4))))).bind fun t497 => (if y493.length < 5864062014805 then ((some (y493 ++ [t497] : List (List Int))).bind fun y500 => (if 0 ≤ (wrap64 ((wrap64 (2 * x7_4)) + 1)) then (if (wrap64 ((wrap64 (2 * x7_4)) + 1)) < (l0_6.length : Int) then ((laminaref01_Encode.f k4 (IntKind.u64.wrap (rd l0_6 (wrap64 ((wrap64 (2 * x7_4)) + 1))))).bind fun t504 => (if y500.length < 5864062014805 then (laminaref16_Encode.l2 k4 (y500 ++ [t504]) (wrap64 (x7_4 + 1)) a0_0 a0_1 l0_2 a0_3 l0_4 l0_5 l0_6) else (none))) else (none)) else (none))) else (none))) else (none)) else (none))) else (none)) = some r := H
              have A53 := Aside0.mk A530
              clear A530
              by_cases c54 : x3_4.length < 5864062014805
              ·rw [if_pos c54] at H
               have LMc54 := Aside0.mk c54
               clear c54
               obtain ⟨y493, hy493⟩ : ∃ y_ : List (List Int), y_ = (x3_4 ++ [t490]) := ⟨_, rfl⟩
               replace H : (if 0 ≤ (wrap64 (2 * x7_4)) then (if (wrap64 (2 * x7_4)) < (l0_6.length : Int) then ((laminaref01_Encode.f k4 (IntKind.u64.wrap (rd l0_6 (wrap64 (2 * x7_4))))).bind fun t497 => (if y493.length < 5864062014805 then ((some (y493 ++ [t497] : List (List Int))).bind fun y500 => (if 0 ≤ (wrap64 ((wrap64 (2 * x7_4)) + 1)) then (if (wrap64 ((wrap64 (2 * x7_4)) + 1)) < (l0_6.length : Int) then ((laminaref01_Encode.f k4 (IntKind.u64.wrap (rd l0_6 (wrap64 ((wrap64 (2 * x7_4)) + 1))))).bind fun t504 => (if y500.length < 5864062014805 then (laminaref16_Encode.l2 k4 (y500 ++ [t504]) (wrap64 (x7_4 + 1)) a0_0 a0_1 l0_2 a0_3 l0_4 l0_5 l0_6) else (none))) else (none)) else (none))) else (none))) else (none)) else (none)) = some r := by first | (rw [hy493]; with_reducible exact H) | (have H2_ := (Option.bind_some _ _).symm.trans H; rw [hy493]; with_reducible exact H2_) | (have H2_ := (Option.bind_some _ _).symm.trans H; with_reducible exact H2_) | with_reducible exact H | (rw [hy493]; exact H) | exact H
               have Ny493 := Aside0.mk hy493
               clear hy493
               obtain ⟨ji55, hji55⟩ : ∃ j_ : Int, (wrap64 (2 * x7_4)) = j_ := ⟨_, rfl⟩
               replace H : (if 0 ≤ (ji55) then (if (ji55) < (l0_6.length : Int) then ((laminaref01_Encode.f k4 (IntKind.u64.wrap (rd l0_6 (ji55)))).bind fun t497 => (if y493.length < 5864062014805 then ((some (y493 ++ [t497] : List (List Int))).bind fun y500 => (if 0 ≤ (wrap64 ((ji55) + 1)) then (if (wrap64 ((ji55) + 1)) < (l0_6.length : Int) then ((laminaref01_Encode.f k4 (IntKind.u64.wrap (rd l0_6 (wrap64 ((ji55) + 1))))).bind fun t504 => (if y500.length < 5864062014805 then (laminaref16_Encode.l2 k4 (y500 ++ [t504]) (wrap64 (x7_4 + 1)) a0_0 a0_1 l0_2 a0_3 l0_4 l0_5 l0_6) else (none))) else (none)) else (none))) else (none))) else (none)) else (none)) = some r := by first | (rw [hji55] at H; exact H) | (simp only [hji55] at H ⊢; exact H)
               (try rw [hji55] at A53)
               have hji55w : (IntKind.i64.wrap (2 * x7_4)) = ji55 := (i64_w _).trans hji55
               by_cases c56 : 0 ≤ (ji55)
               ·rw [if_pos c56] at H
                have c56b0 : decide (0 ≤ (ji55)) = true := decide_eq_true c56
                clear c56
                by_cases c57 : (ji55) < (l0_6.length : Int)
                ·rw [if_pos c57] at H
                 have c57b0 : decide ((ji55) < (l0_6.length : Int)) = true := decide_eq_true c57
                 clear c57
                 replace H := Option.bind_eq_some_iff.mp H
                 obtain ⟨t497, A580, H⟩ := H
                 replace H : (if y493.length < 5864062014805 then ((some (y493 ++ [t497] : List (List Int))).bind fun y500 => (if 0 ≤ (wrap64 ((ji55) + 1)) then (if (wrap64 ((ji55) + 1)) < (l0_6.length : Int) then ((laminaref01_Encode.f k4 (IntKind.u64.wrap (rd l0_6 (wrap64 ((ji55) + 1))))).bind fun t504 => (if y500.length < 5864062014805 then (laminaref16_Encode.l2 k4 (y500 ++ [t504]) (wrap64 (x7_4 + 1)) a0_0 a0_1 l0_2 a0_3 l0_4 l0_5 l0_6) else (none))) else (none)) else (none))) else (none)) = some r := H
                 have A58 := Aside0.mk A580
                 clear A580
                 by_cases c59 : y493.length < 5864062014805
                 ·rw [if_pos c59] at H
                  have LMc59 := Aside0.mk c59
                  clear c59
                  obtain ⟨y500, hy500⟩ : ∃ y_ : List (List Int), y_ = (y493 ++ [t497]) := ⟨_, rfl⟩
                  replace H : (if 0 ≤ (wrap64 ((ji55) + 1)) then (if (wrap64 ((ji55) + 1)) < (l0_6.length : Int) then ((laminaref01_Encode.f k4 (IntKind.u64.wrap (rd l0_6 (wrap64 ((ji55) + 1))))).bind fun t504 => (if y500.length < 5864062014805 then (laminaref16_Encode.l2 k4 (y500 ++ [t504]) (wrap64 (x7_4 + 1)) a0_0 a0_1 l0_2 a0_3 l0_4 l0_5 l0_6) else (none))) else (none)) else (none)) = some r := by first | (rw [hy500]; with_reducible exact H) | (have H2_ := (Option.bind_some _ _).symm.trans H; rw [hy500]; with_reducible exact H2_) | (have H2_ := (Option.bind_some _ _).symm.trans H; with_reducible exact H2_) | with_reducible exact H | (rw [hy500]; exact H) | exact H
                  have Ny500 := Aside0.mk hy500
                  clear hy500
                  obtain ⟨ji60, hji60⟩ : ∃ j_ : Int, (wrap64 ((ji55) + 1)) = j_ := ⟨_, rfl⟩
                  replace H : (if 0 ≤ (ji60) then (if (ji60) < (l0_6.length : Int) then ((laminaref01_Encode.f k4 (IntKind.u64.wrap (rd l0_6 (ji60)))).bind fun t504 => (if y500.length < 5864062014805 then (laminaref16_Encode.l2 k4 (y500 ++ [t504]) (wrap64 (x7_4 + 1)) a0_0 a0_1 l0_2 a0_3 l0_4 l0_5 l0_6) else (none))) else (none)) else (none)) = some r := by first | (rw [hji60] at H; exact H) | (simp only [hji60] at H ⊢; exact H)
                  (try rw [hji60] at A53)
                  (try rw [hji60] at A58)
                  have hji60w : (IntKind.i64.wrap ((ji55) + 1)) = ji60 := (i64_w _).trans hji60
                  by_cases c61 : 0 ≤ (ji60)
                  ·rw [if_pos c61] at H
                   have c61b0 : decide (0 ≤ (ji60)) = true := decide_eq_true c61
                   clear c61
                   by_cases c62 : (ji60) < (l0_6.length : Int)
                   ·rw [if_pos c62] at H
                    have c62b0 : decide ((ji60) < (l0_6.length : Int)) = true := decide_eq_true c62
                    clear c62
                    replace H := Option.bind_eq_some_iff.mp H
                    obtain ⟨t504, A630, H⟩ := H
                    replace H : (if y500.length < 5864062014805 then (laminaref16_Encode.l2 k4 (y500 ++ [t504]) (wrap64 (x7_4 + 1)) a0_0 a0_1 l0_2 a0_3 l0_4 l0_5 l0_6) else (none)) = some r := H
                    have A63 := Aside0.mk A630
                    clear A630
                    by_cases c64 : y500.length < 5864062014805
                    ·rw [if_pos c64] at H
                     have LMc64 := Aside0.mk c64
                     clear c64
                     obtain ⟨y507, hy507⟩ : ∃ y_ : List (List Int), y_ = (y500 ++ [t504]) := ⟨_, rfl⟩
                     replace H : (laminaref16_Encode.l2 k4 y507 (wrap64 (x7_4 + 1)) a0_0 a0_1 l0_2 a0_3 l0_4 l0_5 l0_6) = some r := by first | (rw [hy507]; with_reducible exact H) | (have H2_ := (Option.bind_some _ _).symm.trans H; rw [hy507]; with_reducible exact H2_) | (have H2_ := (Option.bind_some _ _).symm.trans H; with_reducible exact H2_) | with_reducible exact H | (rw [hy507]; exact H) | exact H
                     have Ny507 := Aside0.mk hy507
                     clear hy507
                     have H' := Aside0.mk H
                     clear H
                     obtain ⟨hcz65_0, hcz65_1, hcz65_2, hcz65_3, hcz65_4, hcz65_5, hcz65_6, hfz65_0, hfz65_1, hfz65_2, hfz65_3, hfz65_4, hfz65_5, hfz65_6⟩ := bf7 BK443.out
                     have p489 : 0 ≤ (x7_4 : Int) := of_decide_eq_true (by first | (with_reducible assumption) | assumption)
                     have q489 : x7_4 < (l0_5.length : Int) := of_decide_eq_true (by first | (with_reducible assumption) | assumption)
                     obtain ⟨ad489, e489, hx489_0, hx489_1, hx489_2⟩ := at_T39 HR0_5.out x7_4 p489 q489
                     cases e489
                     replace hx489_0 := up_ HB.out hx489_0
                     replace hx489_1 := up_ HB.out hx489_1
                     replace hx489_2 := up_ HB.out hx489_2
                     replace p489 := eq_true p489
                     replace q489 := eq_true q489
                     go_wp2_with (first | ((with_reducible refine gate_callee (f := 45) rfl ?_); refine goesL_ (some 93) rfl rfl Try.func45 (by kernel_rfl) rfl #[.agg #[.int .i64 ((rd_T39 l0_5 x7_4).f0), .int .i64 ((rd_T39 l0_5 x7_4).f1), .string ((rd_T39 l0_5 x7_4).f2)]] rfl (by (try simp only [List.map_toArray, List.map_cons, List.map_nil]); first | done | rfl | (simp only [List.length_drop, List.length_take]; rfl) | (simp only [Int.ofNat_lt, Int.ofNat_le, gt_iff_lt, ge_iff_le]; rfl)) ?_; (with_reducible refine (laminaref04_Encode.calls k4 ((rd_T39 l0_5 x7_4).f0) ((rd_T39 l0_5 x7_4).f1) ((rd_T39 l0_5 x7_4).f2) t490 _ A53.out).mono ?_); rintro e w66 ⟨v491, rfl, ho0, hb⟩; refine ⟨_, rfl, ?_⟩; have HO492 := Aside0.mk (Kd.R_lower ho0 (below_size (hb1_ HB.out GE443.out))); replace HO_3 := Aside0.mk (Kd.N_elder' (by (with_reducible repeat (first | apply Kd.N_alloc | apply Kd.N_drewN | apply Kd.N_drew)); exact HO_3.out) (Kd.R_base ho0) hb); replace BK443 := Aside0.mk (blk_below (bk_ BK443.out) hb); replace HB := Aside0.mk (below_step (hb1_ HB.out GE443.out) hb); (try clear hb); (try clear ho0); obtain ⟨Ao68, co68, eo68⟩ := Kd.R_slice HO492.out; subst eo68) | ((with_reducible refine gate_builtin (b := .append) (xs := #[.tmp 87, .tmp 94]) rfl ?_); at_builtin; refine Kd.N_append (Kd.slice 5 (Kd.int .u8)) (w0 := w) w.heap.size rfl (.tmp 87) (.tmp 94) 65 27 (.slice none 0 0) 24 rfl Try.underlying65 info27 rfl (by decide) (by omega) u3 x3_4 t490 [.slice Ao68 t490.length co68] (fun k_ => k_ ≠ gb443) (fun k_ => ((fun k_ => k_ ≠ gb443)) k_ ∧ some k_ ≠ (u3 : Value).ownBlock) rfl rfl ?aP (fun _ hk => hk) ?aF ?aO ?aB ?aS ?aL ?_; (case aP => exact (Kd.FK_slice_mk (Kd.R_reads' (Kd.R_mono (ok' := (fun k_ => ((fun k_ => k_ ≠ gb443)) k_ ∧ some k_ ≠ (u3 : Value).ownBlock)) (Kd.R_types (Kd.R_apart' (HO492.out) (Kd.N_typed HO_3.out) (by decide)) BK443.out (by decide)) (fun k_ hk => ⟨hk.2, hk.1.2⟩))).2.1 (Kd.R_F (Kd.R_mono (ok' := (fun k_ => ((fun k_ => k_ ≠ gb443)) k_ ∧ some k_ ≠ (u3 : Value).ownBlock)) (Kd.R_types (Kd.R_apart' (HO492.out) (Kd.N_typed HO_3.out) (by decide)) BK443.out (by decide)) (fun k_ hk => ⟨hk.2, hk.1.2⟩))))); (case aB => exact (hb1_ HB.out GE443.out)); (case aF => exact (fun k_ hk => Kd.freshB (g := gb443) (o := .cells #[.int .i64 a0_0, .int .i64 a0_1, .slice A0_2 l0_2.length c0_2, .bool a0_3, .slice A0_4 l0_4.length c0_4, .slice (some ad489) l0_5.length c0_5, .slice A0_6 l0_6.length c0_6] 26 (0, 0)) (bk_ BK443.out) k_ hk)); (case aO => exact (by (with_reducible repeat (first | apply Kd.N_alloc | apply Kd.N_drewN | apply Kd.N_drew)); exact Kd.N_mono HO_3.out (fun _ hk => hk.1))); (case aS => exact (below_size (hb1_ HB.out GE443.out))); (case aL => have := LMc54.out; omega); intro v494 w67 ho hb hg hat; rw [← Ny493.out] at ho; have n0_ := Aside0.mk (blk_grown (g := gb443) (o := .cells #[.int .i64 a0_0, .int .i64 a0_1, .slice A0_2 l0_2.length c0_2, .bool a0_3, .slice A0_4 l0_4.length c0_4, .slice (some ad489) l0_5.length c0_5, .slice A0_6 l0_6.length c0_6] 26 (0, 0)) (bk_ BK443.out) hg (Kd.N_ne HO_3.out BK443.out (by decide))); have n1_ := Aside0.mk (hb); have n2_ := Aside0.mk (ho); clear BK443; clear HB; clear HO_3; clear HO492; have BK443 := n0_; have HB := n1_; have HO495 := n2_; clear n0_ n1_ n2_; clear ho hb hg hat; obtain ⟨hcz69_0, hcz69_1, hcz69_2, hcz69_3, hcz69_4, hcz69_5, hcz69_6, hfz69_0, hfz69_1, hfz69_2, hfz69_3, hfz69_4, hfz69_5, hfz69_6⟩ := bf7 BK443.out; have p496 : 0 ≤ ((ji55) : Int) := of_decide_eq_true (by first | (with_reducible assumption) | assumption); have q496 : (ji55) < (l0_6.length : Int) := of_decide_eq_true (by first | (with_reducible assumption) | assumption); obtain ⟨ad496, e496, hx496_0⟩ := Kd.at_int HR0_6.out (ji55) p496 q496; cases e496; replace hx496_0 := up_ HB.out hx496_0; replace p496 := eq_true p496; replace q496 := eq_true q496) | ((with_reducible refine gate_callee (f := 44) rfl ?_); refine goesL_ (some 104) rfl rfl Try.func44 (by kernel_rfl) rfl #[.int .u64 (IntKind.u64.wrap (rd l0_6 (ji55)))] rfl (by (try simp only [List.map_toArray, List.map_cons, List.map_nil]); first | done | (simp only [hji55]; rfl) | rfl | (simp only [List.length_drop, List.length_take]; rfl)) ?_; (with_reducible refine (laminaref01_Encode.calls k4 (IntKind.u64.wrap (rd l0_6 (ji55))) t497 _ A58.out).mono ?_); rintro e w70 ⟨v498, rfl, ho0, hb⟩; refine ⟨_, rfl, ?_⟩; have HO499 := Aside0.mk (Kd.R_lower ho0 (below_size (hb1_ HB.out GE443.out))); replace HO495 := Aside0.mk (Kd.N_elder' (by (with_reducible repeat (first | apply Kd.N_alloc | apply Kd.N_drewN | apply Kd.N_drew)); exact HO495.out) (Kd.R_base ho0) hb); replace BK443 := Aside0.mk (blk_below (bk_ BK443.out) hb); replace HB := Aside0.mk (below_step (hb1_ HB.out GE443.out) hb); (try clear hb); (try clear ho0); obtain ⟨Ao72, co72, eo72⟩ := Kd.R_slice HO499.out; subst eo72) | ((with_reducible refine gate_builtin (b := .append) (xs := #[.tmp 96, .tmp 105]) rfl ?_); at_builtin; refine Kd.N_append (Kd.slice 5 (Kd.int .u8)) (w0 := w) w.heap.size rfl (.tmp 96) (.tmp 105) 65 27 (.slice none 0 0) 24 rfl Try.underlying65 info27 rfl (by decide) (by omega) v494 y493 t497 [.slice Ao72 t497.length co72] (fun k_ => k_ ≠ gb443) (fun k_ => ((fun k_ => k_ ≠ gb443)) k_ ∧ some k_ ≠ (v494 : Value).ownBlock) rfl rfl ?aP (fun _ hk => hk) ?aF ?aO ?aB ?aS ?aL ?_; (case aP => exact (Kd.FK_slice_mk (Kd.R_reads' (Kd.R_mono (ok' := (fun k_ => ((fun k_ => k_ ≠ gb443)) k_ ∧ some k_ ≠ (v494 : Value).ownBlock)) (Kd.R_types (Kd.R_apart' (HO499.out) (Kd.N_typed HO495.out) (by decide)) BK443.out (by decide)) (fun k_ hk => ⟨hk.2, hk.1.2⟩))).2.1 (Kd.R_F (Kd.R_mono (ok' := (fun k_ => ((fun k_ => k_ ≠ gb443)) k_ ∧ some k_ ≠ (v494 : Value).ownBlock)) (Kd.R_types (Kd.R_apart' (HO499.out) (Kd.N_typed HO495.out) (by decide)) BK443.out (by decide)) (fun k_ hk => ⟨hk.2, hk.1.2⟩))))); (case aB => exact (hb1_ HB.out GE443.out)); (case aF => exact (fun k_ hk => Kd.freshB (g := gb443) (o := .cells #[.int .i64 a0_0, .int .i64 a0_1, .slice A0_2 l0_2.length c0_2, .bool a0_3, .slice A0_4 l0_4.length c0_4, .slice (some ad489) l0_5.length c0_5, .slice (some ad496) l0_6.length c0_6] 26 (0, 0)) (bk_ BK443.out) k_ hk)); (case aO => exact (by (with_reducible repeat (first | apply Kd.N_alloc | apply Kd.N_drewN | apply Kd.N_drew)); exact Kd.N_mono HO495.out (fun _ hk => hk.1))); (case aS => exact (below_size (hb1_ HB.out GE443.out))); (case aL => have := LMc59.out; omega); intro v501 w71 ho hb hg hat; rw [← Ny500.out] at ho; have n0_ := Aside0.mk (blk_grown (g := gb443) (o := .cells #[.int .i64 a0_0, .int .i64 a0_1, .slice A0_2 l0_2.length c0_2, .bool a0_3, .slice A0_4 l0_4.length c0_4, .slice (some ad489) l0_5.length c0_5, .slice (some ad496) l0_6.length c0_6] 26 (0, 0)) (bk_ BK443.out) hg (Kd.N_ne HO495.out BK443.out (by decide))); have n1_ := Aside0.mk (hb); have n2_ := Aside0.mk (ho); clear BK443; clear HB; clear HO495; clear HO499; have BK443 := n0_; have HB := n1_; have HO502 := n2_; clear n0_ n1_ n2_; clear ho hb hg hat; obtain ⟨hcz73_0, hcz73_1, hcz73_2, hcz73_3, hcz73_4, hcz73_5, hcz73_6, hfz73_0, hfz73_1, hfz73_2, hfz73_3, hfz73_4, hfz73_5, hfz73_6⟩ := bf7 BK443.out; have p503 : 0 ≤ ((ji60) : Int) := of_decide_eq_true (by first | (with_reducible assumption) | assumption); have q503 : (ji60) < (l0_6.length : Int) := of_decide_eq_true (by first | (with_reducible assumption) | assumption); obtain ⟨ad503, e503, hx503_0⟩ := Kd.at_int HR0_6.out (ji60) p503 q503; obtain rfl : ad496 = ad503 := (by injection e503); replace hx503_0 := up_ HB.out hx503_0; replace p503 := eq_true p503; replace q503 := eq_true q503) | ((with_reducible refine gate_callee (f := 44) rfl ?_); refine goesL_ (some 116) rfl rfl Try.func44 (by kernel_rfl) rfl #[.int .u64 (IntKind.u64.wrap (rd l0_6 (ji60)))] rfl (by (try simp only [List.map_toArray, List.map_cons, List.map_nil]); first | done | (simp only [hji60]; rfl) | rfl | (simp only [List.length_drop, List.length_take]; rfl)) ?_; (with_reducible refine (laminaref01_Encode.calls k4 (IntKind.u64.wrap (rd l0_6 (ji60))) t504 _ A63.out).mono ?_); rintro e w74 ⟨v505, rfl, ho0, hb⟩; refine ⟨_, rfl, ?_⟩; have HO506 := Aside0.mk (Kd.R_lower ho0 (below_size (hb1_ HB.out GE443.out))); replace HO502 := Aside0.mk (Kd.N_elder' (by (with_reducible repeat (first | apply Kd.N_alloc | apply Kd.N_drewN | apply Kd.N_drew)); exact HO502.out) (Kd.R_base ho0) hb); replace BK443 := Aside0.mk (blk_below (bk_ BK443.out) hb); replace HB := Aside0.mk (below_step (hb1_ HB.out GE443.out) hb); (try clear hb); (try clear ho0); obtain ⟨Ao76, co76, eo76⟩ := Kd.R_slice HO506.out; subst eo76) | ((with_reducible refine gate_builtin (b := .append) (xs := #[.tmp 107, .tmp 117]) rfl ?_); at_builtin; refine Kd.N_append (Kd.slice 5 (Kd.int .u8)) (w0 := w) w.heap.size rfl (.tmp 107) (.tmp 117) 65 27 (.slice none 0 0) 24 rfl Try.underlying65 info27 rfl (by decide) (by omega) v501 y500 t504 [.slice Ao76 t504.length co76] (fun k_ => k_ ≠ gb443) (fun k_ => ((fun k_ => k_ ≠ gb443)) k_ ∧ some k_ ≠ (v501 : Value).ownBlock) rfl rfl ?aP (fun _ hk => hk) ?aF ?aO ?aB ?aS ?aL ?_; (case aP => exact (Kd.FK_slice_mk (Kd.R_reads' (Kd.R_mono (ok' := (fun k_ => ((fun k_ => k_ ≠ gb443)) k_ ∧ some k_ ≠ (v501 : Value).ownBlock)) (Kd.R_types (Kd.R_apart' (HO506.out) (Kd.N_typed HO502.out) (by decide)) BK443.out (by decide)) (fun k_ hk => ⟨hk.2, hk.1.2⟩))).2.1 (Kd.R_F (Kd.R_mono (ok' := (fun k_ => ((fun k_ => k_ ≠ gb443)) k_ ∧ some k_ ≠ (v501 : Value).ownBlock)) (Kd.R_types (Kd.R_apart' (HO506.out) (Kd.N_typed HO502.out) (by decide)) BK443.out (by decide)) (fun k_ hk => ⟨hk.2, hk.1.2⟩))))); (case aB => exact (hb1_ HB.out GE443.out)); (case aF => exact (fun k_ hk => Kd.freshB (g := gb443) (o := .cells #[.int .i64 a0_0, .int .i64 a0_1, .slice A0_2 l0_2.length c0_2, .bool a0_3, .slice A0_4 l0_4.length c0_4, .slice (some ad489) l0_5.length c0_5, .slice (some ad496) l0_6.length c0_6] 26 (0, 0)) (bk_ BK443.out) k_ hk)); (case aO => exact (by (with_reducible repeat (first | apply Kd.N_alloc | apply Kd.N_drewN | apply Kd.N_drew)); exact Kd.N_mono HO502.out (fun _ hk => hk.1))); (case aS => exact (below_size (hb1_ HB.out GE443.out))); (case aL => have := LMc64.out; omega); intro v508 w75 ho hb hg hat; rw [← Ny507.out] at ho; have n0_ := Aside0.mk (blk_grown (g := gb443) (o := .cells #[.int .i64 a0_0, .int .i64 a0_1, .slice A0_2 l0_2.length c0_2, .bool a0_3, .slice A0_4 l0_4.length c0_4, .slice (some ad489) l0_5.length c0_5, .slice (some ad496) l0_6.length c0_6] 26 (0, 0)) (bk_ BK443.out) hg (Kd.N_ne HO502.out BK443.out (by decide))); have n1_ := Aside0.mk (hb); have n2_ := Aside0.mk (ho); clear BK443; clear HB; clear HO502; clear HO506; have BK443 := n0_; have HB := n1_; have HO509 := n2_; clear n0_ n1_ n2_; clear ho hb hg hat))
                     go_roundg k4
                     case measure => have := HK1.out; have := HJ23.out; have := HK3.out; have := HK4.out; omega
                     case rel => exact ⟨(y507), (wrap64 (x7_4 + 1)), (by first | rfl | (simp; done) | (simp [*]; done)), H', ⟨by have := HK1.out; have := HJ23.out; have := HK3.out; have := HK4.out; omega⟩, ⟨by (with_reducible repeat (first | apply Kd.N_alloc | apply Kd.N_drewN | apply Kd.N_drew)); exact HO509.out⟩, ⟨by (with_reducible repeat (first | refine blk_drewN ?_ _ | refine blk_drew ?_ | refine blk_alloc ?_ _)); exact BK443.out⟩, ⟨(hb1_ HB.out GE443.out)⟩⟩
                    ·rw [if_neg c64] at H
                     exact absurd H (by simp)
                   ·rw [if_neg c62] at H
                    exact absurd H (by simp)
                  ·rw [if_neg c61] at H
                   exact absurd H (by simp)
                 ·rw [if_neg c59] at H
                  exact absurd H (by simp)
                ·rw [if_neg c57] at H
                 exact absurd H (by simp)
               ·rw [if_neg c56] at H
                exact absurd H (by simp)
              ·rw [if_neg c54] at H
               exact absurd H (by simp)
             ·rw [if_neg c52] at H
              exact absurd H (by simp)
            ·rw [if_neg c51] at H
             have c51b0 : decide (x7_4 < (l0_5.length : Int)) = false := decide_eq_false c51
             clear c51
             replace H := Option.bind_eq_some_iff.mp H
             obtain ⟨t510, A770, H⟩ := H
             replace H : (some t510) = some r := H
             have A77 := Aside0.mk A770
             clear A770
             obtain rfl := Option.some.inj H
             obtain ⟨hcz78_0, hcz78_1, hcz78_2, hcz78_3, hcz78_4, hcz78_5, hcz78_6, hfz78_0, hfz78_1, hfz78_2, hfz78_3, hfz78_4, hfz78_5, hfz78_6⟩ := bf7 BK443.out
             obtain ⟨Ao79, co79, eo79⟩ := Kd.N_slice HO_3.out
             subst eo79
             go_wp2_with (first | ((with_reducible refine gate_callee (f := 46) rfl ?_); refine goesL_ (some 120) rfl rfl Try.func46 (by kernel_rfl) rfl #[.slice Ao79 x3_4.length co79] rfl (by (try simp only [List.map_toArray, List.map_cons, List.map_nil]); first | done | rfl | (simp only [List.length_drop, List.length_take]; rfl) | (simp only [Int.ofNat_lt, Int.ofNat_le, gt_iff_lt, ge_iff_le]; rfl)) ?_; (with_reducible refine (laminaref01_Concat.calls k4 _ _ x3_4 t510 _ ?side1 ?side2 A77.out).mono ?_); (case side1 => repeat (first | exact (Kd.N_reads' HO_3.out).2.2 | (with_reducible refine Kd.C_alloc ?_ _) | (with_reducible refine Kd.C_drewN ?_ _) | (with_reducible refine Kd.C_drew ?_))); (case side2 => exact (Kd.N_reads' HO_3.out).2.1); rintro e w80 ⟨v511, rfl, ho0, hb⟩; refine ⟨_, rfl, ?_⟩; have HO512 := Aside0.mk (Kd.R_lower ho0 (below_size (hb1_ HB.out GE443.out))); replace HO_3 := Aside0.mk (Kd.N_elder' (by (with_reducible repeat (first | apply Kd.N_alloc | apply Kd.N_drewN | apply Kd.N_drew)); exact HO_3.out) (Kd.R_base ho0) hb); replace BK443 := Aside0.mk (blk_below (bk_ BK443.out) hb); replace HB := Aside0.mk (below_step (hb1_ HB.out GE443.out) hb); (try clear hb); (try clear ho0)))
             go_ret
             exact ⟨_, by first | rfl | (simp [errW_none, errW_some] <;> rfl) | (simp [*, errW_none, errW_some] <;> rfl), by (with_reducible repeat (first | apply Kd.R_alloc | apply Kd.R_drewN | apply Kd.R_drew)); exact HO512.out, (hb1_ HB.out GE443.out)⟩
         ·rw [if_neg c46] at H
          exact absurd H (by simp)
end Go.Proofs.Ytackcingpffidaa.P
namespace Go.Proofs.Ytackcingpffidaa.P
open Go.RowKit Go.Proofs.YtackcingpffidaaW.PrintWords Go.Proofs.YtackcingpffidaaW.PrintLast Go.Proofs.YtackcingpffidaaW.PrintMore
set_option linter.unusedVariables false
set_option linter.unusedSimpArgs false
/-- What the statement's run needs: no more than the examples where the sketch is not valid or too large; else both encodings are one, and it is read back where it stands. -/
def EncOk (k : Nat) (a0 a1 : Int) (l2 : List Int) (b3 : Bool) (l4 : List Int) (l5 : List S39) (l6 : List Int) (lb la : List Int) : Prop :=
 laminalaw16_awake.f k = some true ∧ (laminaref16_Valid.f k a0 a1 l2 b3 l4 l5 l6 = some false ∨ (laminaref16_Valid.f k a0 a1 l2 b3 l4 l5 l6 = some true ∧ (2147483647 < a0 ∨ (a0 ≤ 2147483647 ∧ ∃ T t, sketch_Encode.f k a0 a1 l2 b3 l4 l5 l6 = some T ∧ laminaref16_Encode.f k a0 a1 l2 b3 l4 l5 l6 = some T ∧ T.length ≤ 100000000 ∧
  sketch_Decode.f k (lb ++ T ++ la) (lb.length : Int) = some (a0, a1, l2, b3, l4, l5, l6, t, 0) ∧ t = wrap64 ((lb.length : Int) + (T.length : Int))))))
/-- A slice of bytes becomes a string, in a region that draws its order. -/
theorem run_conv {P : Program} {w : World} {oi : Oper} {a : Act} {o : Operand} {src dst e : TypeId} {A : Option Addr} {n c : Nat} {xs : List Int} (hop : oi.op = .convert src dst o) (ho : a.eval o = .slice A n c) (hs : P.underlying src = some (.slice e)) (he : P.underlying e = some (.int .u8)) (hd : P.underlying dst = some .string)
  (h : Kd.C (Kd.int .u8) w A n xs) : (execOp a.eval oi).run P w = .ok (.value (.string (strOfNums xs))) w := by
 have h1 := Kd.C_string (c := c) hs he hd h
 unfold execOp
 rw [hop]
 simp only [ho]
 go_simp
def f3_T4 : Bool × List (List Nat × List Nat) := (true, [([], []), ([0], [0]), ([], []), ([2], [2]), ([3], [3]), ([1, 4], [1, 4])])
def f3_B4 : List Nat := [0, 1, 0, 4, 12, 31]
set_option maxRecDepth 100000 in
theorem f3_tab4 : rtab .any (opsOf Try.f3 4) = f3_T4 := by kernel_rfl
theorem f3_bits4 : waitsOk f3_T4.2 f3_B4 = true := by kernel_rfl
set_option maxHeartbeats 4000000 in
set_option maxRecDepth 100000 in
theorem f3_calls (k : Nat) (a0 a1 : Int) (A2 : Option Addr) (c2 : Nat) (l2 : List Int) (b3 : Bool) (A4 : Option Addr) (c4 : Nat) (l4 : List Int) (A5 : Option Addr) (c5 : Nat) (l5 : List S39) (A6 : Option Addr) (c6 : Nat) (l6 : List Int) (A8 : Option Addr) (c8 : Nat) (lb : List Int) (A9 : Option Addr) (c9 : Nat) (la : List Int) (w : World) (hr2 : Kd.C (Kd.int .u64) w A2 l2.length l2) (hc2 : l2.length ≤ c2) (hr4 : Kd.C (Kd.int .i64) w A4 l4.length l4) (hc4 : l4.length ≤ c4) (hr5 : Kd.C k39 w A5 l5.length l5) (hc5 : l5.length ≤ c5) (hr6 : Kd.C (Kd.int .i64) w A6 l6.length l6) (hc6 : l6.length ≤ c6) (hb8 : Kd.C (Kd.int .u8) w A8 lb.length lb) (hc8 : lb.length ≤ c8) (hb9 : Kd.C (Kd.int .u8) w A9 la.length la) (hc9 : la.length ≤ c9) (hn : lb.length + la.length ≤ 100000000) (h : EncOk k a0 a1 l2 b3 l4 l5 l6 lb la) :
  Calls Try.prog 3 #[.agg #[.int .i64 a0, .int .i64 a1, .slice A2 l2.length c2, .bool b3, .slice A4 l4.length c4, .slice A5 l5.length c5, .slice A6 l6.length c6], .slice A8 lb.length c8, .slice A9 la.length c9] w fun e w' => e = .returned (.bool true) ∧ Below w.heap.size w w' := by
 obtain ⟨hA, h⟩ := h
 have HA := Aside0.mk hA
 have HK : Aside0 (SK w A2 c2 l2 A4 c4 l4 A5 c5 l5 A6 c6 l6) := ⟨hr2, hc2, hr4, hc4, hr5, hc5, hr6, hc6⟩
 have HC8 := Aside0.mk hb8
 have HC9 := Aside0.mk hb9
 have Hc8 := Aside0.mk hc8
 have Hc9 := Aside0.mk hc9
 have HN := Aside0.mk hn
 have HH := Aside0.mk h
 clear h hA hr2 hc2 hr4 hc4 hr5 hc5 hr6 hc6 hb8 hc8 hb9 hc9 hn
 go_enter Try.func3, Try.ntmps3
 go_upto_region 1 with (refine box_ 3 (cs := #[.int .i64 a0, .int .i64 a1, .slice A2 l2.length c2, .bool b3, .slice A4 l4.length c4, .slice A5 l5.length c5, .slice A6 l6.length c6]) (t := 26) (fun g2 hg_ V BB HB => ?_); clear hg_; have B3 := Aside0.mk BB; replace HB := Aside0.mk HB; clear BB)
 replace HK := Aside0.mk (HK.out.below HB.out)
 replace HC8 := Aside0.mk (Kd.C_below HC8.out HB.out)
 replace HC9 := Aside0.mk (Kd.C_below HC9.out HB.out)
 obtain ⟨t0, t1, t2, t3, t4, t5, t6⟩ := bc7 B3.out
 rcases HH.out with hv | ⟨hv, h⟩
 ·have HV := Aside0.mk hv
  clear hv HH
  go_wp2_with (first | (go_at_call 11; refine (un8 (laminaref16_Valid.calls k a0 a1 _ _ _ _ _ _ _ _ _ _ _ _ _ false _) HK.out HV.out).mono ?_; rintro e w5 ⟨rfl, hb⟩; replace HB := Aside0.mk (HB.out.trans (hb.mono HB.out.size)); replace HK := Aside0.mk (HK.out.below hb); replace HC8 := Aside0.mk (Kd.C_below HC8.out hb); replace HC9 := Aside0.mk (Kd.C_below HC9.out hb); replace B3 := Aside0.mk (blk_below B3.out hb); clear hb t0 t1 t2 t3 t4 t5 t6; obtain ⟨t0, t1, t2, t3, t4, t5, t6⟩ := bc7 B3.out) | (go_at_call 12; refine (laminalaw16_awake.calls k true _ HA.out).mono ?_; rintro e w6 ⟨rfl, hb⟩; replace HB := Aside0.mk (HB.out.trans (hb.mono HB.out.size)); replace HK := Aside0.mk (HK.out.below hb); replace HC8 := Aside0.mk (Kd.C_below HC8.out hb); replace HC9 := Aside0.mk (Kd.C_below HC9.out hb); replace B3 := Aside0.mk (blk_below B3.out hb); clear hb t0 t1 t2 t3 t4 t5 t6; obtain ⟨t0, t1, t2, t3, t4, t5, t6⟩ := bc7 B3.out))
  go_ret
  exact ⟨rfl, HB.out⟩
 have HV := Aside0.mk hv
 clear hv HH
 rcases h with h | ⟨hr, T, t, h1, h2, h3, h4, h5⟩
 ·have d1 := decide_eq_true h
  clear h
  go_wp2_with (first | (go_at_call 11; refine (un8 (laminaref16_Valid.calls k a0 a1 _ _ _ _ _ _ _ _ _ _ _ _ _ true _) HK.out HV.out).mono ?_; rintro e w5 ⟨rfl, hb⟩; replace HB := Aside0.mk (HB.out.trans (hb.mono HB.out.size)); replace HK := Aside0.mk (HK.out.below hb); replace HC8 := Aside0.mk (Kd.C_below HC8.out hb); replace HC9 := Aside0.mk (Kd.C_below HC9.out hb); replace B3 := Aside0.mk (blk_below B3.out hb); clear hb t0 t1 t2 t3 t4 t5 t6; obtain ⟨t0, t1, t2, t3, t4, t5, t6⟩ := bc7 B3.out) | (go_at_call 12; refine (laminalaw16_awake.calls k true _ HA.out).mono ?_; rintro e w6 ⟨rfl, hb⟩; replace HB := Aside0.mk (HB.out.trans (hb.mono HB.out.size)); replace HK := Aside0.mk (HK.out.below hb); replace HC8 := Aside0.mk (Kd.C_below HC8.out hb); replace HC9 := Aside0.mk (Kd.C_below HC9.out hb); replace B3 := Aside0.mk (blk_below B3.out hb); clear hb t0 t1 t2 t3 t4 t5 t6; obtain ⟨t0, t1, t2, t3, t4, t5, t6⟩ := bc7 B3.out))
  go_ret
  exact ⟨rfl, HB.out⟩
 have d1 : decide (2147483647 < a0) = false := decide_eq_false (Int.not_lt.mpr hr)
 have H1 := Aside0.mk h1
 have H2 := Aside0.mk h2
 have H3 := Aside0.mk h3
 have H4 := Aside0.mk h4
 have H5 := Aside0.mk h5
 clear hr h1 h2 h3 h4 h5
 go_upto_region 4 with (first | (go_at_call 11; refine (un8 (laminaref16_Valid.calls k a0 a1 _ _ _ _ _ _ _ _ _ _ _ _ _ true _) HK.out HV.out).mono ?_; rintro e w5 ⟨rfl, hb⟩; replace HB := Aside0.mk (HB.out.trans (hb.mono HB.out.size)); replace HK := Aside0.mk (HK.out.below hb); replace HC8 := Aside0.mk (Kd.C_below HC8.out hb); replace HC9 := Aside0.mk (Kd.C_below HC9.out hb); replace B3 := Aside0.mk (blk_below B3.out hb); clear hb t0 t1 t2 t3 t4 t5 t6; obtain ⟨t0, t1, t2, t3, t4, t5, t6⟩ := bc7 B3.out) | (go_at_call 13; refine (un8 (sketch_Encode.calls0 k a0 a1 _ _ _ _ _ _ _ _ _ _ _ _ _ T _) HK.out H1.out).mono ?_; rintro e w6 ⟨v, rfl, ho, hb⟩; obtain ⟨A7, c7, rfl⟩ := Kd.R_slice ho; have HC7 := Aside0.mk (Kd.R_reads' ho).2.2; have Hc7 := Aside0.mk (Kd.R_reads' ho).2.1; clear ho; replace HB := Aside0.mk (HB.out.trans (hb.mono HB.out.size)); replace HK := Aside0.mk (HK.out.below hb); replace HC8 := Aside0.mk (Kd.C_below HC8.out hb); replace HC9 := Aside0.mk (Kd.C_below HC9.out hb); replace B3 := Aside0.mk (blk_below B3.out hb); clear hb t0 t1 t2 t3 t4 t5 t6; obtain ⟨t0, t1, t2, t3, t4, t5, t6⟩ := bc7 B3.out))
 have HBV := HB
 have HKV : Aside0 (∀ W, Below w6.heap.size w6 W → SK W A2 c2 l2 A4 c4 l4 A5 c5 l5 A6 c6 l6) := ⟨fun W hb => HK.out.below hb⟩
 have HS : Aside0 (∀ W, Below w6.heap.size w6 W → sk7 g2 a0 a1 A2 c2 l2 b3 A4 c4 l4 A5 c5 l5 A6 c6 l6 W (Kd.C (Kd.int .u8) W A7 T.length T)) := ⟨fun W hb => sk7_of (blk_below B3.out hb) (Kd.C_below HC7.out hb)⟩
 have HY := Aside0.mk (below_drew1 (Below.refl w6.heap.size w6))
 refine start_ (n := 6) (S := fun W => sk7 g2 a0 a1 A2 c2 l2 b3 A4 c4 l4 A5 c5 l5 A6 c6 l6 W (Kd.C (Kd.int .u8) W A7 T.length T)) (ds := []) #[false, false, false, false, false, false] (by kernel_rfl) rfl rfl (HS.out _ HY.out) (fun hHeld => ?_)
 refine with_tabW f3_tab4 f3_bits4 (fun HT_ HW_ => ?_)
 generalize w6.drew = wd at HY hHeld ⊢
 refine pu_ HT_ 0 (some 23) ?_
 refine tk_ HT_ HW_ 2 (some 25) hHeld ?_
 refine tk_ HT_ HW_ 1 (some 24) hHeld ?_ (hv := fun w' hs => run_conv rfl rfl Try.underlying27 Try.underlying5 Try.underlying9 hs.2.2.2.2.2.2.2)
 refine on_ HT_ 3 (some 26) (fun K hK => ?_)
 refine goes_ Try.func14 (by kernel_rfl) rfl #[.agg #[.int .i64 a0, .int .i64 a1, .slice A2 l2.length c2, .bool b3, .slice A4 l4.length c4, .slice A5 l5.length c5, .slice A6 l6.length c6]] (by rfl) rfl rfl (by first | done | rfl | (simp only [List.map_toArray, List.map_cons, List.map_nil]; rfl)) ?_
 refine (un8 (laminaref16_Encode.calls k a0 a1 _ _ _ _ _ _ _ _ _ _ _ _ _ T _) (HKV.out _ HY.out) H2.out).mono ?_
 rintro e w9 ⟨v, rfl, ho, hb⟩
 obtain ⟨A0, c0, rfl⟩ := Kd.R_slice ho
 refine ⟨_, rfl, ?_⟩
 have HC0 := Aside0.mk (Kd.R_reads' ho).2.2
 replace HY := Aside0.mk (HY.out.trans (hb.mono HY.out.size))
 clear hb ho
 refine hK.out _ _ (HS.out _ HY.out) (fun hHeld => ?_)
 clear hK K
 refine nm_ (some 26) ?_
 refine on_ HT_ 4 (some 27) (fun K hK => ?_)
 refine value_ (by rfl) rfl (run_conv rfl rfl Try.underlying27 Try.underlying5 Try.underlying9 HC0.out) ?_
 refine hK.out _ _ (HS.out _ HY.out) (fun hHeld => ?_)
 clear hK K
 refine nm_ (some 27) ?_
 refine pu_ HT_ 5 (some 28) ?_
 refine done_ (done_of HT_.out (by kernel_rfl)) ?_
 clear HT_ HW_ hHeld
 replace HB := Aside0.mk (HBV.out.trans (HY.out.mono (below_size HBV.out)))
 replace HK := Aside0.mk (HKV.out _ HY.out)
 replace HC7 := Aside0.mk (Kd.C_below HC7.out HY.out)
 replace HC8 := Aside0.mk (Kd.C_below HC8.out HY.out)
 replace HC9 := Aside0.mk (Kd.C_below HC9.out HY.out)
 replace B3 := Aside0.mk (blk_below B3.out HY.out)
 clear HBV HKV HS HY HC0 t0 t1 t2 t3 t4 t5 t6
 have HZ := Aside0.mk (Below.refl w9.heap.size w9)
 go_upto_region 8 with ((with_reducible refine gate_builtin (b := .append) (xs := #[.tmp 29, .tmp 30]) rfl ?_); at_builtin; refine Kd.R_append_rows (Kd.int .u8) (Rr := (Kd.int .u8).K w9) (w0 := w9) w9.heap.size rfl (.tmp 29) (.tmp 30) 27 5 (.int .u8 0) 1 rfl Try.underlying27 info5 rfl (by decide) (by decide) (.slice none 0 0) [] lb A8 lb.length c8 (fun _ => True) (fun _ => False) rfl rfl (Kd.R_nil _ _ _ _ _) HC8.out (fun _ _ h_ => h_) (fun _ h_ => h_.elim) (fun _ _ => trivial) HZ.out HZ.out.size (by have h1_ := HN.out; have h2_ := H3.out; first | omega | (simp only [List.length_nil]; omega)) ?_; intro v1 w10 ho hb hg hat; have HO2 : Aside0 (Kd.R (Kd.int .u8) 5 w10 w9.heap.size (fun _ => True) v1 (lb)) := ⟨ho⟩; have HZ2 := Aside0.mk hb; clear ho hb hg hat)
 obtain ⟨A10, c10, rfl⟩ := Kd.R_slice HO2.out
 have HO := HO2
 replace HZ := HZ2
 clear HO2 HZ2
 go_upto_region 9 with ((with_reducible refine gate_builtin (b := .append) (xs := #[.tmp 32, .tmp 33]) rfl ?_); at_builtin; refine Kd.R_append_rows (Kd.int .u8) (Rr := (Kd.int .u8).K w10) (w0 := w9) w9.heap.size rfl (.tmp 32) (.tmp 33) 27 5 (.int .u8 0) 1 rfl Try.underlying27 info5 rfl (by decide) (by decide) (.slice A10 lb.length c10) lb T A7 T.length c7 (fun _ => True) (fun _ => False) rfl rfl HO.out (Kd.C_below HC7.out HZ.out) (fun _ _ h_ => h_) (fun _ h_ => h_.elim) (fun _ _ => trivial) HZ.out HZ.out.size (by have h1_ := HN.out; have h2_ := H3.out; first | omega | (simp only [List.length_nil]; omega)) ?_; intro v1 w11 ho hb hg hat; have HO2 : Aside0 (Kd.R (Kd.int .u8) 5 w11 w9.heap.size (fun _ => True) v1 (lb ++ T)) := ⟨ho⟩; have HZ2 := Aside0.mk hb; clear ho hb hg hat)
 obtain ⟨L2, hL2⟩ : ∃ L2, L2 = lb ++ T := ⟨_, rfl⟩
 have HL2 := Aside0.mk hL2
 rw [← hL2] at HO2
 obtain ⟨A11, c11, rfl⟩ := Kd.R_slice HO2.out
 clear hL2 HO
 have HO := HO2
 replace HZ := HZ2
 clear HO2 HZ2
 go_upto_region 10 with ((with_reducible refine gate_builtin (b := .append) (xs := #[.tmp 35, .tmp 36]) rfl ?_); at_builtin; refine Kd.R_append_rows (Kd.int .u8) (Rr := (Kd.int .u8).K w11) (w0 := w9) w9.heap.size rfl (.tmp 35) (.tmp 36) 27 5 (.int .u8 0) 1 rfl Try.underlying27 info5 rfl (by decide) (by decide) (.slice A11 L2.length c11) L2 la A9 la.length c9 (fun _ => True) (fun _ => False) rfl rfl HO.out (Kd.C_below HC9.out HZ.out) (fun _ _ h_ => h_) (fun _ h_ => h_.elim) (fun _ _ => trivial) HZ.out HZ.out.size (by have h1_ := HN.out; have h2_ := H3.out; have h3_ := congrArg List.length HL2.out; rw [List.length_append] at h3_; first | omega | (simp only [List.length_nil]; omega)) ?_; intro v1 w12 ho hb hg hat; have HO2 : Aside0 (Kd.R (Kd.int .u8) 5 w12 w9.heap.size (fun _ => True) v1 (L2 ++ la)) := ⟨ho⟩; have HZ2 := Aside0.mk hb; clear ho hb hg hat)
 obtain ⟨L3, hL3⟩ : ∃ L3, L3 = L2 ++ la := ⟨_, rfl⟩
 have HL3 : Aside0 (lb ++ T ++ la = L3) := ⟨by rw [hL3, HL2.out]⟩
 rw [← hL3] at HO2
 obtain ⟨A12, c12, rfl⟩ := Kd.R_slice HO2.out
 clear hL3 HO HL2
 have HO := HO2
 replace HZ := HZ2
 clear HO2 HZ2
 rw [HL3.out] at H4
 have HCL := Aside0.mk (Kd.R_reads' HO.out).2.2
 have HcL := Aside0.mk (Kd.R_reads' HO.out).2.1
 replace HB := Aside0.mk (HB.out.trans (HZ.out.mono (below_size HB.out)))
 replace HK := Aside0.mk (HK.out.below HZ.out)
 replace B3 := Aside0.mk (blk_below B3.out HZ.out)
 clear HO HZ HC7 HC8 HC9 HL3
 go_upto_region 11 with (first | (go_at_call 15; refine (sketch_Decode.calls0 k A12 c12 L3 (lb.length : Int) a0 a1 l2 b3 l4 l5 l6 t 0 _ HCL.out HcL.out H4.out).mono ?_; rintro x w13 ⟨D2, d2, D4, d4, D5, d5, D6, d6, rfl, hk, hb⟩; have HD := Aside0.mk hk; replace HK := Aside0.mk (HK.out.below hb); replace B3 := Aside0.mk (blk_below B3.out hb); replace HB := Aside0.mk (HB.out.trans (hb.mono (below_size HB.out))); clear hk hb) | (refine box_ 9 (cs := #[.int .i64 0, .int .i64 0, .slice none 0 0, .bool false, .slice none 0 0, .slice none 0 0, .slice none 0 0]) (t := 26) (fun g8 hg_ w8 BB hb => ?_); have HG := Aside0.mk hg_; have HB8 := Aside0.mk hb; clear hg_ hb; obtain ⟨e0, e1, e2, e3, e4, e5, e6, z0, z1, z2, z3, z4, z5, z6⟩ := bf7 BB; replace BB := Aside0.mk BB))
 have P7 := put7_blk BB.out (.int .i64 a0) (.int .i64 a1) (.slice D2 l2.length d2) (.bool b3) (.slice D4 l4.length d4) (.slice D5 l5.length d5) (.slice D6 l6.length d6)
 have PB := put7_below HB8.out (Nat.le_of_eq HG.out.symm) (.int .i64 a0) (.int .i64 a1) (.slice D2 l2.length d2) (.bool b3) (.slice D4 l4.length d4) (.slice D5 l5.length d5) (.slice D6 l6.length d6)
 unfold put7 at P7 PB
 clear e0 e1 e2 e3 e4 e5 e6 z0 z1 z2 z3 z4 z5 z6 BB HG HB8
 generalize ((((((w8.setCell ⟨g8, 0, none⟩ (.int .i64 a0)).setCell ⟨g8, 1, none⟩ (.int .i64 a1)).setCell ⟨g8, 2, none⟩ (.slice D2 l2.length d2)).setCell ⟨g8, 3, none⟩ (.bool b3)).setCell ⟨g8, 4, none⟩ (.slice D4 l4.length d4)).setCell ⟨g8, 5, none⟩ (.slice D5 l5.length d5)).setCell ⟨g8, 6, none⟩ (.slice D6 l6.length d6) = U at P7 PB ⊢
 replace HK := Aside0.mk (HK.out.below PB)
 replace HD := Aside0.mk (HD.out.below PB)
 replace B3 := Aside0.mk (blk_below B3.out PB)
 replace HB := Aside0.mk (HB.out.trans (PB.mono (below_size HB.out)))
 obtain ⟨t0, t1, t2, t3, t4, t5, t6⟩ := bc7 B3.out
 obtain ⟨s0, s1, s2, s3, s4, s5, s6⟩ := bc7 P7
 clear P7 PB w8 B3
 have q2 : (t == wrap64 ((lb.length : Int) + (T.length : Int))) = true := by rw [H5.out]; simp
 go_wp2_with (first | (go_at_call 16; refine (eqSK_calls a0 a1 b3 A2 c2 l2 A4 c4 l4 A5 c5 l5 A6 c6 l6 D2 d2 D4 d4 D5 d5 D6 d6 _ HK.out HD.out).mono ?_; rintro x w9 ⟨rfl, hb⟩; replace HB := Aside0.mk (HB.out.trans (hb.mono (below_size HB.out))); clear hb) | (go_at_call 12; refine (laminalaw16_awake.calls k true _ HA.out).mono ?_; rintro x w9 ⟨rfl, hb⟩; replace HB := Aside0.mk (HB.out.trans (hb.mono (below_size HB.out))); clear hb))
 go_ret
 exact ⟨rfl, HB.out⟩
/-- In the row's form. -/
def EncRow (k : Nat) (a0 a1 : Int) (l2 : List Int) (b3 : Bool) (l4 : List Int) (l5 : List S39) (l6 : List Int) (lb la : List Int) (r : Bool) : Prop := r = true ∧ lb.length + la.length ≤ 100000000 ∧ EncOk k a0 a1 l2 b3 l4 l5 l6 lb la
theorem laminalaw16_SketchEncodes.calls (k : Nat) (a0 a1 : Int) (A2 : Option Addr) (c2 : Nat) (l2 : List Int) (b3 : Bool) (A4 : Option Addr) (c4 : Nat) (l4 : List Int) (A5 : Option Addr) (c5 : Nat) (l5 : List S39) (A6 : Option Addr) (c6 : Nat) (l6 : List Int) (A8 : Option Addr) (c8 : Nat) (lb : List Int) (A9 : Option Addr) (c9 : Nat) (la : List Int) (r : Bool) (w : World) (hr2 : Kd.C (Kd.int .u64) w A2 l2.length l2) (hc2 : l2.length ≤ c2) (hr4 : Kd.C (Kd.int .i64) w A4 l4.length l4) (hc4 : l4.length ≤ c4) (hr5 : Kd.C k39 w A5 l5.length l5) (hc5 : l5.length ≤ c5) (hr6 : Kd.C (Kd.int .i64) w A6 l6.length l6) (hc6 : l6.length ≤ c6) (hb8 : Kd.C (Kd.int .u8) w A8 lb.length lb) (hc8 : lb.length ≤ c8) (hb9 : Kd.C (Kd.int .u8) w A9 la.length la) (hc9 : la.length ≤ c9) (h : EncRow k a0 a1 l2 b3 l4 l5 l6 lb la r) :
  Calls Try.prog 3 #[.agg #[.int .i64 a0, .int .i64 a1, .slice A2 l2.length c2, .bool b3, .slice A4 l4.length c4, .slice A5 l5.length c5, .slice A6 l6.length c6], .slice A8 lb.length c8, .slice A9 la.length c9] w fun e w' => e = .returned (.bool r) ∧ Below w.heap.size w w' := by
 obtain ⟨rfl, hn, h⟩ := h
 exact f3_calls k a0 a1 A2 c2 l2 b3 A4 c4 l4 A5 c5 l5 A6 c6 l6 A8 c8 lb A9 c9 la w hr2 hc2 hr4 hc4 hr5 hc5 hr6 hc6 hb8 hc8 hb9 hc9 hn h
end Go.Proofs.Ytackcingpffidaa.P
namespace Go.Proofs.Ytackcingpffidaa.P
open Go.RowKit Go.Proofs.YtackcingpffidaaW.PrintWords Go.Proofs.Ytackcingpffidaa.Reads
/-- A value of type 39 whose numbers fit and whose texts are no longer than the reach. -/
def G39 (x : S39) : Prop := (Lit.int .i64 x.f0).wf = true ∧ (Lit.int .i64 x.f1).wf = true ∧ x.f2.size ≤ 140737488351232
set_option maxRecDepth 100000 in
theorem rd39 : Rd k39 Try.prog 39 G39 :=
 (Rd.struct (fun a => (⟨a.1, a.2.1, a.2.2⟩ : S39)) (fun _ => rfl) Try.underlying39 (by kernel_rfl) (RdF.cons (Rd.int Try.underlying3 (by kernel_rfl)) rfl (RdF.cons (Rd.int Try.underlying2 (by kernel_rfl)) rfl (RdF.one (Rd.string Try.underlying9 (by kernel_rfl)) rfl)))).imp fun _ h => h
/-- A value of type 26 whose numbers fit and whose texts are no longer than the reach. -/
def G26 (x : S26) : Prop := (Lit.int .i64 x.f0).wf = true ∧ (Lit.int .i64 x.f1).wf = true ∧ (x.f2.length * 8 ≤ 140737488351232 ∧ ∀ y ∈ x.f2, (Lit.int .u64 y).wf = true) ∧ True ∧ (x.f4.length * 8 ≤ 140737488351232 ∧ ∀ y ∈ x.f4, (Lit.int .i64 y).wf = true) ∧ (x.f5.length * 32 ≤ 140737488351232 ∧ ∀ y ∈ x.f5, G39 y) ∧ (x.f6.length * 8 ≤ 140737488351232 ∧ ∀ y ∈ x.f6, (Lit.int .i64 y).wf = true)
set_option maxRecDepth 100000 in
theorem rd26 : Rd k26 Try.prog 26 G26 :=
 (Rd.struct (fun a => (⟨a.1, a.2.1, a.2.2.1, a.2.2.2.1, a.2.2.2.2.1, a.2.2.2.2.2.1, a.2.2.2.2.2.2⟩ : S26)) (fun _ => rfl) Try.underlying26 (by kernel_rfl) (RdF.cons (Rd.int Try.underlying3 (by kernel_rfl)) rfl (RdF.cons (Rd.int Try.underlying3 (by kernel_rfl)) rfl (RdF.cons (Rd.slice (Rd.int Try.underlying53 (by kernel_rfl)) Try.underlying22 (by kernel_rfl) (B := 8) (by kernel_rfl)) rfl (RdF.cons (Rd.bool Try.underlying4 (by kernel_rfl)) rfl (RdF.cons (Rd.slice (Rd.int Try.underlying3 (by kernel_rfl)) Try.underlying23 (by kernel_rfl) (B := 8) (by kernel_rfl)) rfl (RdF.cons (Rd.slice rd39 Try.underlying24 (by kernel_rfl) (B := 32) (by kernel_rfl)) rfl (RdF.one (Rd.slice (Rd.int Try.underlying3 (by kernel_rfl)) Try.underlying23 (by kernel_rfl) (B := 8) (by kernel_rfl)) rfl)))))))).imp fun _ h => h
/-- A value of type 41 whose numbers fit and whose texts are no longer than the reach. -/
def G41 (x : S41) : Prop := (Lit.int .i64 x.f0).wf = true ∧ (Lit.int .i64 x.f1).wf = true ∧ G39 x.f2
end Go.Proofs.Ytackcingpffidaa.P
namespace Go.Proofs.Ytackcingpffidaa.P
open Go.RowKit Go.Proofs.YtackcingpffidaaW.PrintWords Go.Proofs.YtackcingpffidaaW.PrintLast Go.Proofs.YtackcingpffidaaW.PrintMore
attribute [local go_sem] max2_int min2_int max_two min_two max_three min_three max_four min_four Go.Proofs.YtackcingpffidaaQ.str_gtr Go.Proofs.YtackcingpffidaaQ.str_leq Go.Proofs.YtackcingpffidaaQ.str_geq   -- for this text's walks alone
set_option linter.unusedVariables false
set_option linter.unusedSimpArgs false
/-! ### laminaref01_UnZigZag: function 127 -/
def laminaref01_UnZigZag.f (a0 : Int) : Option (Int) := if (Int.tmod a0 2) = 0 then (some (wrap64 (IntKind.u64.wrap (Int.tdiv a0 2)))) else (some (wrap64 ((wrap64 (-(wrap64 (IntKind.u64.wrap (Int.tdiv a0 2))))) - 1)))
set_option maxHeartbeats 8000000 in
set_option maxRecDepth 100000 in
theorem laminaref01_UnZigZag.calls (a0 : Int) (r : Int) (w : World) (h : laminaref01_UnZigZag.f a0 = some r) :
  Calls Try.prog 127 #[.int .u64 a0] w fun e w' => e = .returned (.int .i64 r) ∧ Drawn0 w w' := by
 have H : (if (Int.tmod a0 2) = 0 then (some (wrap64 (IntKind.u64.wrap (Int.tdiv a0 2)))) else (some (wrap64 ((wrap64 (-(wrap64 (IntKind.u64.wrap (Int.tdiv a0 2))))) - 1)))) = some r := h
 clear h
 by_cases c2 : (Int.tmod a0 2) = 0
 ·rw [if_pos c2] at H
  have c2b0 : ((Int.tmod a0 2) == 0) = true := beq_iff_eq.mpr c2
  have c2b1 : ((Int.tmod a0 2) != 0) = false := bne_eq_false_iff_eq.mpr c2
  clear c2
  obtain rfl := Option.some.inj H
  go_enter Try.func127, Try.ntmps127
  go_wp2
  go_ret
  exact ⟨by first | rfl | (simp; done) | (simp [*]; done), by repeat (first | exact Drawn0.refl _ | apply Drawn0.step)⟩
 ·rw [if_neg c2] at H
  have c2b0 : ((Int.tmod a0 2) == 0) = false := beq_eq_false_iff_ne.mpr c2
  have c2b1 : ((Int.tmod a0 2) != 0) = true := bne_iff_ne.mpr c2
  obtain rfl := Option.some.inj H
  go_enter Try.func127, Try.ntmps127
  go_wp2
  go_ret
  exact ⟨by first | rfl | (simp; done) | (simp [*]; done), by repeat (first | exact Drawn0.refl _ | apply Drawn0.step)⟩
end Go.Proofs.Ytackcingpffidaa.P
namespace Go.Proofs.Ytackcingpffidaa.P
open Go.RowKit Go.Proofs.YtackcingpffidaaW.PrintWords Go.Proofs.YtackcingpffidaaW.PrintLast
/-- What runs without rounds. -/
theorem Ev.const {α : Type} {g : Option α} {r : α} (h : g = some r) : Ev (fun _ => g) r := ⟨0, fun _ _ => h⟩
/-- A function that counts its rounds down first. -/
theorem Ev.succ {α : Type} {g : Nat → Option α} {r : α} (h : Ev (fun k => g (k + 1)) r) : Ev g r := by
 obtain ⟨K, h⟩ := h
 refine ⟨K + 1, fun k hk => ?_⟩
 obtain ⟨m, rfl⟩ : ∃ m, k = m + 1 := ⟨k - 1, by omega⟩
 exact h m (by omega)
theorem Ev.all {α : Type} {g : Nat → Option α} {r : α} (h : ∀ k, g k = some r) : Ev g r := ⟨0, fun k _ => h k⟩
/-- What is told behind one round. -/
theorem Ev.fin {α : Type} {g : Nat → Option α} {r : α} (h : ∀ k, g (k + 1) = some r) : Ev g r := by
 refine ⟨1, fun k hk => ?_⟩
 obtain ⟨m, rfl⟩ : ∃ m, k = m + 1 := ⟨k - 1, by omega⟩
 exact h m
theorem bytes_nil {s : ByteArray} (h : s.toList = ([] : List UInt8)) : s = ⟨#[]⟩ := by
 rw [Lib.toList_data] at h
 have h2 : s.data = #[] := by simpa using h
 cases s
 simp only at h2
 rw [h2]
def V (a b : Int) (s : ByteArray) : Prop := (a = 0 ∧ b = 0 ∧ s = ⟨#[]⟩) ∨ (a = 1 ∧ (b = 0 ∨ b = 1) ∧ s = ⟨#[]⟩) ∨ (a = 2 ∧ s = ⟨#[]⟩) ∨ (a = 3 ∧ b = 0 ∧ s.size ≤ 4096)
theorem ref_valid_dec (a b : Int) (s : ByteArray) : ∃ t, laminaref04_Valid.f a b s = some t ∧ (t = true ↔ V a b s) := by
 have hs : (s.toList == ([] : List UInt8)) = true ↔ s = ⟨#[]⟩ := by
  constructor
  ·intro h
   exact bytes_nil (by simpa using h)
  ·rintro rfl
   rw [Lib.toList_data]
   rfl
 unfold laminaref04_Valid.f V
 by_cases h0 : a = 0
 ·subst h0
  by_cases h1 : b = 0
  ·subst h1
   refine ⟨(s.toList == ([] : List UInt8)), rfl, hs.trans ?_⟩
   simp
  ·exact ⟨false, by simp [h1], by simp [h1]⟩
 by_cases h1 : a = 1
 ·subst h1
  by_cases h2 : b = 0
  ·subst h2
   refine ⟨(s.toList == ([] : List UInt8)), rfl, hs.trans ?_⟩
   simp
  ·by_cases h3 : b = 1
   ·subst h3
    refine ⟨(s.toList == ([] : List UInt8)), rfl, hs.trans ?_⟩
    simp
   ·exact ⟨false, by simp [h2, h3], by simp [h2, h3]⟩
 by_cases h2 : a = 2
 ·subst h2
  refine ⟨(s.toList == ([] : List UInt8)), rfl, hs.trans ?_⟩
  simp
 by_cases h3 : a = 3
 ·subst h3
  by_cases h4 : b = 0
  ·subst h4
   refine ⟨decide ((s.size : Int) ≤ 4096), rfl, ?_⟩
   simp
   omega
  ·exact ⟨false, by simp [h4], by simp [h4]⟩
 ·exact ⟨false, by simp [h0, h1, h2, h3], by simp [h0, h1, h2, h3]⟩
def sgn (a b : Int) : Int := if a < b then -1 else if b < a then 1 else 0
/-- The order of two values. -/
def vc (a0 a1 : Int) (a2 : ByteArray) (b0 b1 : Int) (b2 : ByteArray) : Int :=
 if a0 = b0 then (if a0 = 3 then Lib.compareBytes a2.data.toList b2.data.toList else if a0 = 1 ∨ a0 = 2 then sgn a1 b1 else 0) else if a0 < b0 then -1 else 1
theorem sign_sgn (a b : Int) : value_sign.f (decide (a < b)) (decide (a > b)) = some (sgn a b) := by
 unfold value_sign.f sgn
 by_cases h : a < b <;> by_cases h2 : b < a <;> simp [h, h2]
theorem ref_sign_sgn (a b : Int) : laminaref04_sign.f (decide (a < b)) (decide (a > b)) = some (sgn a b) := by
 unfold laminaref04_sign.f sgn
 by_cases h : a < b <;> by_cases h2 : b < a <;> simp [h, h2]
theorem compare_vc (a0 a1 : Int) (a2 : ByteArray) (b0 b1 : Int) (b2 : ByteArray) : value_Compare.f a0 a1 a2 b0 b1 b2 = some (vc a0 a1 a2 b0 b1 b2) := by
 unfold value_Compare.f vc
 rw [sign_sgn]
 by_cases h : a0 = b0
 ·subst h
  by_cases h3 : a0 = 3
  ·subst h3; simp [strings_Compare.f]
  ·by_cases h1 : a0 = 1
   ·subst h1; simp
   ·by_cases h2 : a0 = 2
    ·subst h2; simp
    ·simp [h1, h2, h3]
 ·by_cases h2 : a0 < b0 <;> simp [h, h2, value_sign.f]
theorem compareBytes_less : ∀ (x y : List UInt8), Lib.compareBytes x y = if Op.bytesLess x y = true then -1 else if Op.bytesLess y x = true then 1 else 0
 | [], [] => by simp [Lib.compareBytes, Op.bytesLess]
 | [], _ :: _ => by simp [Lib.compareBytes, Op.bytesLess]
 | _ :: _, [] => by simp [Lib.compareBytes, Op.bytesLess]
 | a :: x, b :: y => by
  have ih := compareBytes_less x y
  simp only [Lib.compareBytes, Op.bytesLess]
  rcases Nat.lt_trichotomy a.toNat b.toNat with h | h | h
  ·have h1 : a < b := UInt8.lt_iff_toNat_lt.2 h
   simp [h1]
  ·obtain rfl : a = b := UInt8.toNat_inj.1 h
   have h2 : ¬ a < a := fun e => by have := UInt8.lt_iff_toNat_lt.1 e; omega
   simp [h2, ih]
  ·have h1 : b < a := UInt8.lt_iff_toNat_lt.2 h
   have h2 : ¬ a < b := fun e => by have := UInt8.lt_iff_toNat_lt.1 e; omega
   have h3 : ¬ a = b := fun e => by subst e; omega
   simp [h1, h2, h3]
theorem ref_compare_vc (a0 a1 : Int) (a2 : ByteArray) (b0 b1 : Int) (b2 : ByteArray) (ha : V a0 a1 a2) (hb : V b0 b1 b2) : laminaref04_Compare.f a0 a1 a2 b0 b1 b2 = some (vc a0 a1 a2 b0 b1 b2) := by
 unfold laminaref04_Compare.f vc
 rw [ref_sign_sgn]
 by_cases h : a0 = b0
 ·subst h
  by_cases h3 : a0 = 3
  ·subst h3
   simp only [if_true, compareBytes_less, Lib.toList_data]
   unfold laminaref04_sign.f
   by_cases l : Op.bytesLess a2.data.toList b2.data.toList = true
   ·simp [l]
   ·by_cases l2 : Op.bytesLess b2.data.toList a2.data.toList = true <;> simp [l, l2]
  ·by_cases h1 : a0 = 1
   ·subst h1; simp
   ·by_cases h2 : a0 = 2
    ·subst h2; simp
    ·have ea : a1 = 0 := by unfold V at ha; omega
     have eb : b1 = 0 := by unfold V at hb; omega
     subst ea; subst eb
     simp [h1, h2, h3, sgn]
 ·by_cases h2 : a0 < b0 <;> simp [h, h2, laminaref04_sign.f]
theorem valid_same (a b : Int) (s : ByteArray) : value_Valid.f a b s = laminaref04_Valid.f a b s := by
 unfold value_Valid.f laminaref04_Valid.f
 by_cases h : s.toList = ([] : List UInt8)
 ·have hb : (s.toList == ([] : List UInt8)) = true := by simpa using h
  rw [if_pos h, hb]
  by_cases h1 : b = 1
  ·simp [h1]
  ·have h2 : (b == 1) = false := by simpa using h1
   simp [h1, h2]
 ·have hb : (s.toList == ([] : List UInt8)) = false := by simpa using h
  rw [if_neg h, hb]
  by_cases h1 : b = 1 <;> simp [h1]
theorem rvV_same (x : S39) : rvV x = vV x := by
 unfold rvV vV
 rw [valid_same]
theorem V_of (x : S39) (h : vV x = true) : V x.f0 x.f1 x.f2 := by
 obtain ⟨t, ht, hv⟩ := ref_valid_dec x.f0 x.f1 x.f2
 have h2 := rvV_is x
 rw [ht] at h2
 rw [rvV_same, h] at h2
 exact hv.1 (Option.some.inj h2)
theorem rcV_same (x y : S39) (hx : vV x = true) (hy : vV y = true) : rcV x y = cV x y := by
 unfold rcV cV
 rw [ref_compare_vc _ _ _ _ _ _ (V_of x hx) (V_of y hy), compare_vc]
end Go.Proofs.Ytackcingpffidaa.P
namespace Go.Proofs.Ytackcingpffidaa.P
open Go.RowKit Go.Proofs.YtackcingpffidaaW.PrintWords Go.Proofs.YtackcingpffidaaW.PrintLast Go.Proofs.YtackcingpffidaaW.PrintMore
theorem wrap_small {i : Nat} (h : i < 9223372036854775807) : wrap64 ((i : Int) + 1) = ((i + 1 : Nat) : Int) := by unfold wrap64; omega
theorem drop_at {α : Type} (xs : List α) (i : Nat) (h : i < xs.length) : xs.drop i = xs[i] :: xs.drop (i + 1) := List.drop_eq_getElem_cons h
/-- The encoding of a number. -/
def venc (n : Nat) : List Int := if h : n < 128 then [(n : Int)] else ((n % 128 + 128 : Nat) : Int) :: venc (n / 128)
/-- A number read at the front of a list of bytes, i bytes of it having been read: the number, how many bytes, the error. -/
def vd (i : Nat) : List Int → Nat × Nat × Int
 | [] => (0, 0, 2)
 | c :: l => if i = 9 ∧ c > 1 then (0, 0, 4) else if c ≥ 128 then (if (vd (i + 1) l).2.2 = 0 then ((c - 128).toNat + 128 * (vd (i + 1) l).1, (vd (i + 1) l).2.1 + 1, 0) else (0, 0, (vd (i + 1) l).2.2)) else if c = 0 ∧ 0 < i then (0, 0, 4) else (c.toNat, 1, 0)
def Bytes (l : List Int) : Prop := ∀ c ∈ l, 0 ≤ c ∧ c ≤ 255
theorem vd_ok : ∀ (l : List Int) (i : Nat), Bytes l → i ≤ 9 → (vd i l).2.2 = 0 →
  1 ≤ (vd i l).2.1 ∧ (vd i l).2.1 ≤ l.length ∧ (vd i l).1 * 128 ^ i < 2 ^ 64 ∧ (0 < i → 0 < (vd i l).1) ∧ venc (vd i l).1 = l.take (vd i l).2.1
 | [], i, _, _, h => by simp [vd] at h
 | c :: l, i, hb, hi, h => by
  have hc := hb c List.mem_cons_self
  have hbl : Bytes l := fun x hx => hb x (List.mem_cons_of_mem _ hx)
  simp only [vd] at h ⊢
  by_cases h1 : i = 9 ∧ c > 1
  ·rw [if_pos h1] at h
   exact absurd h (by simp)
  rw [if_neg h1] at h ⊢
  by_cases h2 : c ≥ 128
  ·rw [if_pos h2] at h ⊢
   by_cases h3 : (vd (i + 1) l).2.2 = 0
   ·rw [if_pos h3] at h ⊢
    have hi9 : i ≤ 8 := by omega
    obtain ⟨a1, a2, a3, a4, a5⟩ := vd_ok l (i + 1) hbl (by omega) h3
    have hp := a4 (by omega)
    generalize (vd (i + 1) l).1 = n at *
    generalize (vd (i + 1) l).2.1 = m at *
    have hc2 : (c - 128).toNat < 128 := by omega
    dsimp only
    refine ⟨by omega, by rw [List.length_cons]; omega, ?_, by omega, ?_⟩
    ·have e : 128 ^ (i + 1) = 128 ^ i * 128 := Nat.pow_succ ..
     have hpow : 128 ^ i ≤ 128 ^ 8 := Nat.pow_le_pow_right (by decide) hi9
     rw [e] at a3
     have h64 : ∃ q, 2 ^ 64 = q * (128 ^ i * 128) := by
      refine ⟨2 ^ (64 - 7 * (i + 1)), ?_⟩
      rw [show (128 : Nat) = 2 ^ 7 from rfl, ← Nat.pow_mul, ← Nat.pow_add, ← Nat.pow_add]
      congr 1
      omega
     obtain ⟨q, hq⟩ := h64
     rw [hq] at a3 ⊢
     have hnq : n < q := Nat.lt_of_mul_lt_mul_right a3
     have hpos : 0 < 128 ^ i := Nat.pow_pos (by decide)
     calc ((c - 128).toNat + 128 * n) * 128 ^ i < (128 + 128 * n) * 128 ^ i := Nat.mul_lt_mul_of_pos_right (by omega) hpos
      _ = (n + 1) * (128 ^ i * 128) := by rw [show 128 + 128 * n = (n + 1) * 128 by omega, Nat.mul_assoc, Nat.mul_comm 128]
      _ ≤ q * (128 ^ i * 128) := Nat.mul_le_mul_right _ hnq
    ·rw [List.take_succ_cons, ← a5]
     conv => lhs; unfold venc
     rw [dif_neg (by omega), show ((c - 128).toNat + 128 * n) % 128 = (c - 128).toNat by omega, show ((c - 128).toNat + 128 * n) / 128 = n by omega]
     congr 1
     omega
   ·rw [if_neg h3] at h
    exact absurd h h3
  ·rw [if_neg h2] at h ⊢
   by_cases h3 : c = 0 ∧ 0 < i
   ·rw [if_pos h3] at h
    exact absurd h (by simp)
   rw [if_neg h3]
   dsimp only
   refine ⟨Nat.le_refl _, by simp, ?_, by omega, ?_⟩
   ·by_cases h9 : i = 9
    ·subst h9
     have : c.toNat ≤ 1 := by omega
     calc c.toNat * 128 ^ 9 ≤ 1 * 128 ^ 9 := Nat.mul_le_mul_right _ this
      _ < 2 ^ 64 := by decide
    ·have : 128 ^ i ≤ 128 ^ 8 := Nat.pow_le_pow_right (by decide) (by omega)
     calc c.toNat * 128 ^ i ≤ 128 * 128 ^ 8 := Nat.mul_le_mul (by omega) this
      _ < 2 ^ 64 := by decide
   ·show venc c.toNat = [c]
    unfold venc
    rw [dif_pos (by omega)]
    congr 1
    omega
theorem shl_pow (x : Int) (i : Nat) (hi : i ≤ 9) (h0 : 0 ≤ x) (h : x * 128 ^ i < 2 ^ 64) : shl .u64 x (7 * (i : Int)) = x * 128 ^ i := by
 unfold shl
 have e : (7 * (i : Int)).toNat = 7 * i := by omega
 rw [e, Nat.min_eq_left (by show 7 * i ≤ 64; omega), Int.pow_mul, show (2 : Int) ^ 7 = 128 from rfl]
 have hp : (0 : Int) < 128 ^ i := Int.pow_pos (by decide)
 rw [IntKind.wrap_u64]
 have h1 : 0 ≤ x * 128 ^ i := Int.mul_nonneg h0 (Int.le_of_lt hp)
 exact Int.emod_eq_of_lt h1 h
theorem or_add (n x i : Nat) (hi : i ≤ 9) (hn : n < 128 ^ i) (h : x * 128 ^ i < 2 ^ 64) : Go.bits .or .u64 (n : Int) ((x : Int) * 128 ^ i) = ((n + x * 128 ^ i : Nat) : Int) := by
 have hp : 0 < 128 ^ i := Nat.pow_pos (by decide)
 have hn64 : n < 18446744073709551616 := by
  have : 128 ^ i ≤ 128 ^ 9 := Nat.pow_le_pow_right (by decide) hi
  have e9 : 128 ^ 9 < 18446744073709551616 := by decide
  omega
 have hm := u64_or_nat n (x * 128 ^ i) hn64 (by omega)
 rw [show ((x : Int) * 128 ^ i) = ((x * 128 ^ i : Nat) : Int) by push_cast; rfl, hm]
 congr 1
 rw [show (128 : Nat) ^ i = 2 ^ (7 * i) by rw [Nat.pow_mul]] at *
 rw [Nat.or_comm, Nat.mul_comm, ← Nat.two_pow_add_eq_or_of_lt hn, Nat.add_comm, Nat.mul_comm]
theorem and127 (c : Int) (h0 : 0 ≤ c) (h1 : c ≤ 255) : Go.bits .and .u8 c 127 = c % 128 := by
 have h := u8_and c 127 h0 (by omega) (by decide) (by decide)
 rw [h]
 have e : c.toNat &&& (127 : Int).toNat = c.toNat % 128 := Nat.and_two_pow_sub_one_eq_mod c.toNat 7
 rw [e]
 omega
/-- What a varint's reading tells, from the number and the bytes that are read. -/
def vres (off n i : Nat) (r : Nat × Nat × Int) : Int × Int × Int := if r.2.2 = 0 then (((n + 128 ^ i * r.1 : Nat) : Int), ((off + i + r.2.1 : Nat) : Int), 0) else (0, 0, r.2.2)
theorem wrap_nat {n : Nat} (h : n < 9223372036854775808) : wrap64 (n : Int) = (n : Int) := by unfold wrap64; omega
theorem rd_nat (b : List Int) (i : Nat) (h : i < b.length) : rd b (i : Int) = b[i] := by
 unfold rd
 rw [Int.toNat_natCast, List.getD_eq_getElem?_getD, List.getElem?_eq_getElem h]
 rfl
theorem vres_more (off n i c : Nat) (r : Nat × Nat × Int) (c2 : Nat) (hc : c2 = n + c * 128 ^ i) :
  vres off c2 (i + 1) r = vres off n i (if r.2.2 = 0 then (c + 128 * r.1, r.2.1 + 1, 0) else (0, 0, r.2.2)) := by
 unfold vres
 by_cases h : r.2.2 = 0
 ·simp only [h, if_true]
  subst hc
  refine Prod.ext ?_ (Prod.ext ?_ rfl)
  ·show ((n + c * 128 ^ i + 128 ^ (i + 1) * r.1 : Nat) : Int) = ((n + 128 ^ i * (c + 128 * r.1) : Nat) : Int)
   congr 1
   rw [Nat.pow_succ, Nat.mul_add, Nat.mul_comm c, Nat.add_assoc, Nat.mul_assoc]
  ·show ((off + (i + 1) + r.2.1 : Nat) : Int) = ((off + i + (r.2.1 + 1) : Nat) : Int)
   congr 1
   omega
 ·simp only [h, if_false]
theorem pow_bd {i : Nat} (hi : i ≤ 8) {n c : Nat} (hn : n < 128 ^ i) (hc : c < 128) : n + c * 128 ^ i < 128 ^ (i + 1) ∧ c * 128 ^ i < 2 ^ 64 := by
 have h1 : (c + 1) * 128 ^ i ≤ 128 * 128 ^ i := Nat.mul_le_mul_right _ hc
 have h2 : 128 ^ (i + 1) = 128 * 128 ^ i := by rw [Nat.pow_succ, Nat.mul_comm]
 have h3 : 128 ^ (i + 1) ≤ 128 ^ 9 := Nat.pow_le_pow_right (by decide) (by omega)
 have h4 : 128 ^ 9 < 2 ^ 64 := by decide
 rw [Nat.add_mul, Nat.one_mul] at h1
 omega
/-- The number behind one more byte. -/
theorem or_step (n i : Nat) (hi : i ≤ 9) (hn : n < 128 ^ i) (c : Int) (h0 : 0 ≤ c) (h1 : c ≤ 255) (h9 : i = 9 → c ≤ 1) :
  Go.bits .or .u64 (n : Int) (shl .u64 (IntKind.u64.wrap (Go.bits .and .u8 c 127)) (wrap64 (7 * (i : Int)))) = ((n + (c % 128).toNat * 128 ^ i : Nat) : Int) := by
 have hlt : (c % 128).toNat * 128 ^ i < 2 ^ 64 := by
  by_cases h : i = 9
  ·subst h
   have : (c % 128).toNat ≤ 1 := by have := h9 rfl; omega
   calc (c % 128).toNat * 128 ^ 9 ≤ 1 * 128 ^ 9 := Nat.mul_le_mul_right _ this
    _ < 2 ^ 64 := by decide
  ·exact (pow_bd (by omega) hn (by omega)).2
 rw [and127 c h0 h1, IntKind.wrap_u64, show c % 128 % 18446744073709551616 = ((c % 128).toNat : Int) by omega, show wrap64 (7 * (i : Int)) = 7 * (i : Int) by unfold wrap64; omega, shl_pow _ i hi (by omega) (by have := hlt; exact_mod_cast this)]
 exact or_add n _ i hi hn hlt
theorem dec_loop (b : List Int) (hb : Bytes b) (hl : b.length < 4611686018427387904) (off : Nat) : ∀ (d i n : Nat), off + i + d = b.length → i ≤ 9 → n < 128 ^ i →
  Ev (fun k => varint_Decode.l0 k b (off : Int) (n : Int) (i : Int)) (vres off n i (vd i (b.drop (off + i)))) := by
 intro d
 induction d with
 | zero =>
  intro i n hd hi hn
  refine Ev.fin fun k => ?_
  rw [List.drop_of_length_le (by omega)]
  simp only [varint_Decode.l0]
  rw [if_pos (by omega), show ((off : Int) + (i : Int)) = ((off + i : Nat) : Int) by omega, wrap_nat (by omega), if_pos (by omega)]
  rfl
 | succ d ih =>
  intro i n hd hi hn
  have hlt : off + i < b.length := by omega
  have hc := hb _ (List.getElem_mem hlt)
  rw [drop_at b (off + i) hlt]
  have hone : ∀ k, varint_Decode.l0 (k + 1) b (off : Int) (n : Int) (i : Int) = varint_Decode.j2 k b off n i b[off + i] i (decide (i = 9 ∧ b[off + i] > 1)) := by
   intro k
   simp only [varint_Decode.l0]
   rw [if_pos (by omega), show ((off : Int) + (i : Int)) = ((off + i : Nat) : Int) by omega, wrap_nat (by omega), if_neg (by omega), if_pos (by omega), if_pos (by omega), rd_nat b _ hlt]
   by_cases h9 : i = 9
   ·rw [if_pos (by omega)]
    congr 1
    simp [h9]
   ·rw [if_neg (by omega)]
    congr 1
    simp [h9]
  generalize b[off + i] = c at *
  simp only [vd]
  by_cases h1 : i = 9 ∧ c > 1
  ·rw [if_pos h1]
   refine Ev.succ (Ev.fin fun k => ?_)
   show varint_Decode.l0 (k + 1 + 1) b (off : Int) (n : Int) (i : Int) = _
   rw [hone, decide_eq_true h1]
   simp [varint_Decode.j2, vres]
  ·rw [if_neg h1]
   have hj : ∀ k, varint_Decode.l0 (k + 1 + 1) b (off : Int) (n : Int) (i : Int) = if c ≥ 128 then varint_Decode.l0 k b (off : Int) ((n + (c % 128).toNat * 128 ^ i : Nat) : Int) ((i + 1 : Nat) : Int) else if c = 0 ∧ 0 < i then some (0, 0, 4) else some (((n + (c % 128).toNat * 128 ^ i : Nat) : Int), ((off + i + 1 : Nat) : Int), 0) := by
    intro k
    rw [hone, decide_eq_false h1]
    simp only [varint_Decode.j2]
    have h7 : wrap64 (7 * (i : Int)) = 7 * (i : Int) := by clear ih hone; unfold wrap64; omega
    rw [if_neg (by simp), or_step n i hi hn c hc.1 hc.2 (by omega), if_pos (by rw [h7]; omega), show wrap64 ((i : Int) + 1) = ((i + 1 : Nat) : Int) by unfold wrap64; omega, show ((off : Int) + (i : Int)) = ((off + i : Nat) : Int) by omega, wrap_nat (n := off + i) (by omega), show wrap64 (((off + i : Nat) : Int) + 1) = ((off + i + 1 : Nat) : Int) by unfold wrap64; omega]
    by_cases h2 : c ≥ 128
    ·rw [if_pos h2, if_pos h2]
    ·rw [if_neg h2, if_neg h2]
     by_cases h3 : c = 0
     ·rw [if_pos h3]
      by_cases h4 : 0 < i
      ·rw [if_pos (by omega), if_pos ⟨h3, h4⟩]
      ·rw [if_neg (by omega), if_neg (by omega)]
     ·rw [if_neg h3, if_neg (by omega)]
   by_cases h2 : c ≥ 128
   ·rw [if_pos h2]
    have hi8 : i ≤ 8 := by omega
    have hpb := pow_bd hi8 hn (c := (c % 128).toNat) (by omega)
    have h := ih (i + 1) (n + (c % 128).toNat * 128 ^ i) (by omega) (by omega) hpb.1
    rw [vres_more off n i (c % 128).toNat _ _ rfl] at h
    rw [show (c - 128).toNat = (c % 128).toNat by omega]
    refine Ev.succ (Ev.succ (Ev.congr (f := fun k => varint_Decode.l0 k b (off : Int) ((n + (c % 128).toNat * 128 ^ i : Nat) : Int) ((i + 1 : Nat) : Int)) (fun k => ?_) h))
    show varint_Decode.l0 (k + 1 + 1) b (off : Int) (n : Int) (i : Int) = _
    rw [hj, if_pos h2]
   ·rw [if_neg h2]
    refine Ev.succ (Ev.fin fun k => ?_)
    show varint_Decode.l0 (k + 1 + 1) b (off : Int) (n : Int) (i : Int) = _
    rw [hj, if_neg h2]
    by_cases h3 : c = 0 ∧ 0 < i
    ·rw [if_pos h3, if_pos h3]
     rfl
    ·rw [if_neg h3, if_neg h3]
     unfold vres
     rw [if_pos rfl, show (c % 128).toNat = c.toNat by omega, Nat.mul_comm]
theorem dec_ev (b : List Int) (hb : Bytes b) (hl : b.length < 4611686018427387904) (off : Nat) (ho : off ≤ b.length) : Ev (fun k => varint_Decode.f k b (off : Int)) (vres off 0 0 (vd 0 (b.drop off))) := by
 have h := dec_loop b hb hl off (b.length - off) 0 0 (by omega) (by omega) (by decide)
 rw [Nat.add_zero] at h
 refine Ev.succ (Ev.congr (fun k => ?_) h)
 unfold varint_Decode.f
 rw [if_neg (by omega), decide_eq_false (by omega)]
 simp only [varint_Decode.j0]
 rw [if_neg (by simp)]
 rfl
theorem venc_len : ∀ (i n : Nat), n < 128 ^ i → (venc n).length ≤ max i 1 := by
 intro i
 induction i with
 | zero =>
  intro n hn
  have : n = 0 := by simpa using hn
  subst this
  unfold venc
  simp
 | succ i ih =>
  intro n hn
  unfold venc
  by_cases h : n < 128
  ·rw [dif_pos h]
   simp
  ·rw [dif_neg h, List.length_cons]
   have h1 : n / 128 < 128 ^ i := by
    rw [Nat.pow_succ] at hn
    exact Nat.div_lt_of_lt_mul (by rw [Nat.mul_comm]; exact hn)
   have := ih _ h1
   have h2 : i ≠ 0 := by
    rintro rfl
    simp at h1
    exact h h1
   omega
theorem venc_len64 {n : Nat} (h : n < 18446744073709551616) : (venc n).length ≤ 10 := venc_len 10 n (Nat.lt_trans h (by decide))
theorem or128 (n : Nat) : Go.bits .or .u8 ((n : Int) % 256) 128 = ((n % 128 + 128 : Nat) : Int) := by
 rw [u8_or _ 128 (by omega) (by omega) (by decide) (by decide)]
 congr 1
 have e : ((n : Int) % 256).toNat = n % 256 := by omega
 have hk : 128 + n % 128 = 128 ||| n % 128 := Nat.two_pow_add_eq_or_of_lt (show n % 128 < 2 ^ 7 by omega) 1
 rw [e, show (128 : Int).toNat = 128 from rfl]
 have h1 : n % 256 = n / 128 % 2 * 128 + n % 128 := by omega
 rcases Nat.mod_two_eq_zero_or_one (n / 128) with h | h
 ·rw [h1, h, Nat.zero_mul, Nat.zero_add, Nat.or_comm, ← hk]
  omega
 ·rw [h1, h, Nat.one_mul, hk, Nat.or_comm, ← Nat.or_assoc, Nat.or_self, ← hk]
  omega
theorem enc_loop : ∀ (i n : Nat) (acc : List Int), n < 128 ^ i → acc.length + (venc n).length ≤ 140737488355328 → Ev (fun k => varint_Encode.l0 k (n : Int) acc) (acc ++ venc n) := by
 intro i
 induction i with
 | zero =>
  intro n acc hn hl
  have : n = 0 := by simpa using hn
  subst this
  unfold venc at hl ⊢
  refine Ev.fin fun k => ?_
  simp only [varint_Encode.l0]
  simp at hl
  rw [if_neg (by decide), if_pos (by omega)]
  rfl
 | succ i ih =>
  intro n acc hn hl
  unfold venc at hl ⊢
  by_cases h : n < 128
  ·rw [dif_pos h] at hl ⊢
   refine Ev.fin fun k => ?_
   simp only [varint_Encode.l0]
   simp at hl
   rw [if_neg (by omega), if_pos (by omega), show (n : Int) % 256 = (n : Int) by omega]
  ·rw [dif_neg h] at hl ⊢
   rw [List.length_cons] at hl
   have h1 : n / 128 < 128 ^ i := by
    rw [Nat.pow_succ] at hn
    exact Nat.div_lt_of_lt_mul (by rw [Nat.mul_comm]; exact hn)
   have hr := ih (n / 128) (acc ++ [((n % 128 + 128 : Nat) : Int)]) h1 (by rw [List.length_append]; simp only [List.length_cons, List.length_nil]; omega)
   rw [List.append_assoc] at hr
   refine Ev.step (fun k => ?_) hr
   simp only [varint_Encode.l0]
   rw [if_pos (by omega), if_pos (by omega), or128, show (n : Int) / 128 = ((n / 128 : Nat) : Int) by omega]
theorem enc_ev (n : Nat) (h : n < 18446744073709551616) : Ev (fun k => varint_Encode.f k (n : Int)) (venc n) := by
 have := venc_len64 h
 exact enc_loop 10 n [] (Nat.lt_trans h (by decide)) (by simp; omega)
/-- The zigzag map of a number of 64 bits. -/
def zz (x : Int) : Nat := if 0 ≤ x then (2 * x).toNat else (-2 * x - 1).toNat
theorem zz_lt {x : Int} (h0 : -9223372036854775808 ≤ x) (h1 : x ≤ 9223372036854775807) : zz x < 18446744073709551616 := by unfold zz; split <;> omega
theorem xor_zero (n : Nat) (h : n < 18446744073709551616) : Go.bits .xor .u64 (n : Int) 0 = (n : Int) := by
 have := bits_xor_u64_nat n 0 h (by decide)
 rw [Nat.xor_zero] at this
 exact this
theorem xor_ones (n : Nat) (h : n < 18446744073709551616) : Go.bits .xor .u64 (n : Int) 18446744073709551615 = ((18446744073709551615 - n : Nat) : Int) := by
 have := bits_xor_u64_nat n 18446744073709551615 h (by decide)
 rw [Nat.xor_comm, Lib.xor_ones64 n h] at this
 exact this
theorem zigzag_zz (x : Int) (h0 : -9223372036854775808 ≤ x) (h1 : x ≤ 9223372036854775807) : varint_ZigZag.f x = some (zz x : Int) := by
 unfold varint_ZigZag.f zz
 rw [IntKind.wrap_u64, IntKind.wrap_u64, IntKind.wrap_u64]
 by_cases h : 0 ≤ x
 ·rw [if_pos h, show x / 9223372036854775808 % 18446744073709551616 = 0 by omega, show x % 18446744073709551616 * 2 % 18446744073709551616 = ((2 * x).toNat : Int) by omega, xor_zero _ (by omega)]
 ·rw [if_neg h, show x / 9223372036854775808 % 18446744073709551616 = 18446744073709551615 by omega, show x % 18446744073709551616 * 2 % 18446744073709551616 = ((2 * x + 18446744073709551616).toNat : Int) by omega, xor_ones _ (by omega)]
  congr 2
  omega
theorem i64_bits (x : Nat) (hx : x < 9223372036854775808) : (BitVec.ofInt 64 (x : Int)).toNat = x := by
 rw [BitVec.toNat_ofInt]
 omega
theorem i64_xor_zero (x : Nat) (hx : x < 9223372036854775808) : Go.bits .xor .i64 (x : Int) 0 = (x : Int) := by
 show IntKind.i64.wrap ((BitVec.ofInt 64 (x : Int) ^^^ BitVec.ofInt 64 0).toNat : Int) = _
 rw [BitVec.toNat_xor, i64_bits x hx, show (BitVec.ofInt 64 0).toNat = 0 by decide, Nat.xor_zero, IntKind.wrap_i64]
 omega
theorem i64_xor_ones (x : Nat) (hx : x < 9223372036854775808) : Go.bits .xor .i64 (x : Int) (-1) = -(x : Int) - 1 := by
 show IntKind.i64.wrap ((BitVec.ofInt 64 (x : Int) ^^^ BitVec.ofInt 64 (-1)).toNat : Int) = _
 rw [BitVec.toNat_xor, i64_bits x hx, show (BitVec.ofInt 64 (-1)).toNat = 2 ^ 64 - 1 by decide, Nat.xor_comm, Lib.xor_ones64 x (by omega), IntKind.wrap_i64]
 omega
/-- The inverse. -/
def uz (n : Nat) : Int := if n % 2 = 0 then (n / 2 : Nat) else -((n / 2 : Nat) : Int) - 1
theorem unzigzag_uz (n : Nat) (h : n < 18446744073709551616) : varint_UnZigZag.f (n : Int) = some (uz n) := by
 unfold varint_UnZigZag.f uz
 rw [Lib.u64_and1 _ (by omega) (by omega), show wrap64 ((n : Int) / 2) = ((n / 2 : Nat) : Int) by unfold wrap64; omega]
 by_cases h2 : n % 2 = 0
 ·rw [if_pos h2, show wrap64 (-(wrap64 ((n : Int) % 2))) = 0 by unfold wrap64; omega]
  congr 1
  have e := i64_xor_zero (n / 2) (by omega)
  exact e
 ·rw [if_neg h2, show wrap64 (-(wrap64 ((n : Int) % 2))) = -1 by unfold wrap64; omega]
  congr 1
  have e := i64_xor_ones (n / 2) (by omega)
  exact e
theorem ref_enc_loop : ∀ (i n : Nat) (acc : List Int), n < 128 ^ i → n < 18446744073709551616 → acc.length + (venc n).length ≤ 140737488355328 → Ev (fun k => laminaref01_Encode.l0 k (n : Int) acc) (acc ++ venc n) := by
 intro i
 induction i with
 | zero =>
  intro n acc hn hb hl
  have : n = 0 := by simpa using hn
  subst this
  unfold venc at hl ⊢
  refine Ev.fin fun k => ?_
  simp only [laminaref01_Encode.l0]
  simp at hl
  rw [if_neg (by decide), if_pos (by omega)]
  rfl
 | succ i ih =>
  intro n acc hn hb hl
  unfold venc at hl ⊢
  by_cases h : n < 128
  ·rw [dif_pos h] at hl ⊢
   refine Ev.fin fun k => ?_
   simp only [laminaref01_Encode.l0]
   simp at hl
   rw [if_neg (by omega), if_pos (by omega), show (n : Int) % 256 = (n : Int) by omega]
  ·rw [dif_neg h] at hl ⊢
   rw [List.length_cons] at hl
   have h1 : n / 128 < 128 ^ i := by
    rw [Nat.pow_succ] at hn
    exact Nat.div_lt_of_lt_mul (by rw [Nat.mul_comm]; exact hn)
   have hr := ih (n / 128) (acc ++ [((n % 128 + 128 : Nat) : Int)]) h1 (by omega) (by rw [List.length_append]; simp only [List.length_cons, List.length_nil]; omega)
   rw [List.append_assoc] at hr
   refine Ev.step (fun k => ?_) hr
   simp only [laminaref01_Encode.l0]
   have e1 : Int.tdiv (n : Int) 128 = ((n / 128 : Nat) : Int) := rfl
   have e2 : Int.tmod (n : Int) 128 = ((n % 128 : Nat) : Int) := rfl
   rw [if_pos (by omega), if_pos (by omega), e1, e2, IntKind.wrap_u64, IntKind.wrap_u64, show ((n / 128 : Nat) : Int) % 18446744073709551616 = ((n / 128 : Nat) : Int) by omega, show (128 + ((n % 128 : Nat) : Int)) % 18446744073709551616 % 256 = ((n % 128 + 128 : Nat) : Int) by omega]
theorem ref_enc_ev (n : Nat) (h : n < 18446744073709551616) : Ev (fun k => laminaref01_Encode.f k (n : Int)) (venc n) := by
 have := venc_len64 h
 exact ref_enc_loop 10 n [] (Nat.lt_trans h (by decide)) h (by simp; omega)
theorem ref_zigzag_zz (x : Int) (h0 : -9223372036854775808 ≤ x) (h1 : x ≤ 9223372036854775807) : laminaref01_ZigZag.f x = some (zz x : Int) := by
 unfold laminaref01_ZigZag.f zz
 rw [IntKind.wrap_u64, IntKind.wrap_u64, IntKind.wrap_u64, IntKind.wrap_u64, IntKind.wrap_u64]
 by_cases h : 0 ≤ x
 ·rw [if_pos h, if_pos (by omega)]
  congr 1
  omega
 ·rw [if_neg h, if_neg (by omega)]
  congr 1
  unfold wrap64
  omega
section
variable (xss : List (List Int)) (hn : xss.length < 9223372036854775807) (hl : ∀ (i : Nat) (h : i < xss.length), xss[i].length < 9223372036854775807)
include hn hl
theorem concat_inner (i : Nat) (hi : i < xss.length) (B : Nat) (hB : B < 140737488355328) (rest : List Int) (ih : ∀ acc : List Int, acc.length ≤ B → Ev (fun k => laminaref01_Concat.l0 k xss acc ((i + 1 : Nat) : Int)) (acc ++ rest)) :
  ∀ (e j : Nat) (acc : List Int), j + e = xss[i].length → acc.length + e ≤ B → Ev (fun k => laminaref01_Concat.l1 k xss acc (i : Int) (j : Int)) (acc ++ xss[i].drop j ++ rest) := by
 have hrd : rd_L5 xss (i : Int) = xss[i] := by
  unfold rd_L5
  rw [Int.toNat_natCast, List.getD_eq_getElem?_getD, List.getElem?_eq_getElem hi]
  rfl
 have hli := hl i hi
 intro e
 induction e with
 | zero =>
  intro j acc hj ha
  rw [List.drop_of_length_le (by omega), List.append_nil]
  refine Ev.step (fun k => ?_) (ih acc (by omega))
  simp only [laminaref01_Concat.l1]
  rw [if_pos (by omega), if_pos (by omega), hrd, if_neg (by omega), wrap_small (by omega)]
 | succ e ihe =>
  intro j acc hj ha
  have hjl : j < xss[i].length := by omega
  have h := ihe (j + 1) (acc ++ [xss[i][j]]) (by omega) (by rw [List.length_append]; simp only [List.length_cons, List.length_nil]; omega)
  rw [List.drop_eq_getElem_cons hjl, show acc ++ xss[i][j] :: xss[i].drop (j + 1) ++ rest = acc ++ [xss[i][j]] ++ xss[i].drop (j + 1) ++ rest by simp only [List.append_assoc, List.cons_append, List.nil_append]]
  refine Ev.step (fun k => ?_) h
  simp only [laminaref01_Concat.l1]
  have hr : rd xss[i] (j : Int) = xss[i][j] := by
   unfold rd
   rw [Int.toNat_natCast, List.getD_eq_getElem?_getD, List.getElem?_eq_getElem hjl]
   rfl
  rw [if_pos (by omega), if_pos (by omega), hrd, if_pos (by omega), if_pos (by omega), if_pos (by omega), hr, wrap_small (by omega)]
theorem concat_loop : ∀ (d i : Nat) (acc : List Int), i + d = xss.length → acc.length + (xss.drop i).flatten.length < 140737488355328 → Ev (fun k => laminaref01_Concat.l0 k xss acc (i : Int)) (acc ++ (xss.drop i).flatten) := by
 intro d
 induction d with
 | zero =>
  intro i acc hd _
  rw [List.drop_of_length_le (by omega)]
  refine Ev.fin fun k => ?_
  simp only [laminaref01_Concat.l0]
  rw [if_neg (by omega)]
  simp
 | succ d ih =>
  intro i acc hd ha
  have hi : i < xss.length := by omega
  rw [List.drop_eq_getElem_cons hi, List.flatten_cons] at ha ⊢
  rw [List.length_append] at ha
  have h := concat_inner xss hn hl i hi (acc.length + xss[i].length) (by omega) (xss.drop (i + 1)).flatten (fun a hle => ih (i + 1) a (by omega) (by omega)) xss[i].length 0 acc (by omega) (Nat.le_refl _)
  rw [List.drop_zero] at h
  rw [← List.append_assoc]
  refine Ev.step (fun k => ?_) h
  simp only [laminaref01_Concat.l0]
  rw [if_pos (by omega)]
  rfl
theorem concat_ev (h : xss.flatten.length < 140737488355328) : Ev (fun k => laminaref01_Concat.f k xss) xss.flatten := by
 have := concat_loop xss hn hl xss.length 0 [] (by omega) (by simpa using h)
 exact this
end
theorem concat2 (x y : List Int) (h : x.length + y.length < 140737488355328) : Ev (fun k => laminaref01_Concat.f k [x, y]) (x ++ y) := by
 have h2 := concat_ev [x, y] (by simp) (fun i hi => by
  match i, hi with
  | 0, _ => show x.length < _; omega
  | 1, _ => show y.length < _; omega) (by simpa using h)
 simpa using h2
theorem text_ev9 (s : ByteArray) (h : s.size ≤ 4096) : Ev (fun k => laminaref01_Text.f k s) (venc s.size ++ bytesOf s) := by
 have hb := venc_len64 (n := s.size) (by omega)
 have main : Ev (fun k => (laminaref01_Encode.f k (s.size : Int)).bind fun t => laminaref01_Concat.f k [t, bytesOf s]) (venc s.size ++ bytesOf s) :=
  (ref_enc_ev s.size (by omega)).bind (concat2 _ _ (by rw [bytesOf_length]; omega))
 refine Ev.congr (fun k => ?_) main
 unfold laminaref01_Text.f
 rw [if_pos (by omega)]
/-- The encoding of a value. -/
def enc (a b : Int) (s : ByteArray) : List Int := if a = 1 then [1, b] else if a = 2 then 2 :: venc (zz b) else if a = 3 then 3 :: (venc s.size ++ bytesOf s) else [0]
theorem ref_encode_ev (a b : Int) (s : ByteArray) (hv : V a b s) (hb : -9223372036854775808 ≤ b ∧ b ≤ 9223372036854775807) : Ev (fun k => laminaref04_Encode.f k a b s) (enc a b s) := by
 unfold V at hv
 unfold enc laminaref04_Encode.f
 by_cases k1 : a = 1
 ·rw [if_pos k1]
  refine Ev.all fun k => ?_
  rw [if_pos k1, show b % 256 = b by omega]
 by_cases k2 : a = 2
 ·rw [if_neg k1, if_pos k2]
  have hz := zz_lt hb.1 hb.2
  have hl := venc_len64 hz
  have main : Ev (fun k => (laminaref01_Encode.f k (zz b : Int)).bind fun t => (laminaref01_Concat.f k [[2], t]).bind fun u => some u) (2 :: venc (zz b)) :=
   (ref_enc_ev (zz b) hz).bind ((concat2 [2] (venc (zz b)) (by simp only [List.length_cons, List.length_nil]; omega)).bind (Ev.const rfl))
  refine Ev.congr (fun k => ?_) main
  rw [if_neg k1, if_pos k2, ref_zigzag_zz b hb.1 hb.2]
  rfl
 by_cases k3 : a = 3
 ·rw [if_neg k1, if_neg k2, if_pos k3]
  have hs : s.size ≤ 4096 := by omega
  have hl := venc_len64 (n := s.size) (by omega)
  have main : Ev (fun k => (laminaref01_Text.f k s).bind fun t => (laminaref01_Concat.f k [[3], t]).bind fun u => some u) (3 :: (venc s.size ++ bytesOf s)) :=
   (text_ev9 s hs).bind ((concat2 [3] (venc s.size ++ bytesOf s) (by rw [List.length_append, bytesOf_length]; simp only [List.length_cons, List.length_nil]; omega)).bind (Ev.const rfl))
  refine Ev.congr (fun k => ?_) main
  rw [if_neg k1, if_neg k2, if_pos k3]
 ·rw [if_neg k1, if_neg k2, if_neg k3]
  refine Ev.all fun k => ?_
  rw [if_neg k1, if_neg k2, if_neg k3]
theorem encode_ev (a b : Int) (s : ByteArray) (hv : V a b s) (hb : -9223372036854775808 ≤ b ∧ b ≤ 9223372036854775807) : Ev (fun k => value_Encode.f k a b s) (enc a b s) := by
 unfold V at hv
 unfold enc value_Encode.f
 simp only [Option.bind_some]
 by_cases k1 : a = 1
 ·rw [if_pos k1]
  refine Ev.all fun k => ?_
  rw [if_pos k1, show b % 256 = b by omega, k1]
  rfl
 by_cases k2 : a = 2
 ·rw [if_neg k1, if_pos k2]
  have hz := zz_lt hb.1 hb.2
  have hl := venc_len64 hz
  have main : Ev (fun k => (varint_Encode.f k (zz b : Int)).bind fun t => if ([2] : List Int).length + t.length < 140737488355328 then some (([2] : List Int) ++ t) else none) (2 :: venc (zz b)) := by
   refine (enc_ev (zz b) hz).bind (Ev.const ?_)
   rw [if_pos (by simp only [List.length_cons, List.length_nil]; omega)]
   rfl
  refine Ev.congr (fun k => ?_) main
  rw [if_neg k1, if_pos k2, zigzag_zz b hb.1 hb.2, k2]
  rfl
 by_cases k3 : a = 3
 ·rw [if_neg k1, if_neg k2, if_pos k3]
  have hs : s.size ≤ 4096 := by omega
  have hl := venc_len64 (n := s.size) (by omega)
  have main : Ev (fun k => (varint_Encode.f k (s.size : Int)).bind fun t => if ([3] : List Int).length + t.length < 140737488355328 then ((some (([3] : List Int) ++ t)).bind fun y => if y.length + s.size < 140737488355328 then some (y ++ bytesOf s) else none) else none) (3 :: (venc s.size ++ bytesOf s)) := by
   refine (enc_ev s.size (by omega)).bind (Ev.const ?_)
   rw [if_pos (by simp only [List.length_cons, List.length_nil]; omega), Option.bind_some, if_pos (by rw [List.length_append]; simp only [List.length_cons, List.length_nil]; omega)]
   simp
  refine Ev.congr (fun k => ?_) main
  rw [if_neg k1, if_neg k2, if_pos k3, IntKind.wrap_u64, show (s.size : Int) % 18446744073709551616 = (s.size : Int) by omega, k3]
  rfl
 ·rw [if_neg k1, if_neg k2, if_neg k3]
  refine Ev.all fun k => ?_
  rw [if_neg k1, if_neg k2, if_neg k3, show a % 256 = 0 by omega]
abbrev R5 := Int × Int × ByteArray × Int × Int
def bad (e : Int) : R5 := (0, 0, (⟨#[]⟩ : ByteArray), 0, e)
/-- Reading a value at an offset: what both decoders tell. -/
def dv (b : List Int) (off : Nat) : R5 :=
 if h : off < b.length then
  (if b[off] = 0 then (0, 0, (⟨#[]⟩ : ByteArray), ((off + 1 : Nat) : Int), 0)
  else if b[off] = 1 then (if h1 : off + 1 < b.length then (if b[off + 1] > 1 then bad 4 else (1, b[off + 1], (⟨#[]⟩ : ByteArray), ((off + 2 : Nat) : Int), 0)) else bad 2)
  else if b[off] = 2 then (if (vd 0 (b.drop (off + 1))).2.2 = 0 then (2, uz (vd 0 (b.drop (off + 1))).1, (⟨#[]⟩ : ByteArray), ((off + 1 + (vd 0 (b.drop (off + 1))).2.1 : Nat) : Int), 0) else bad (vd 0 (b.drop (off + 1))).2.2)
  else if b[off] = 3 then (if (vd 0 (b.drop (off + 1))).2.2 = 0 then (if (vd 0 (b.drop (off + 1))).1 > 4096 then bad 3 else if (vd 0 (b.drop (off + 1))).1 > b.length - (off + 1 + (vd 0 (b.drop (off + 1))).2.1) then bad 2 else
    (3, 0, strOfNums ((b.take (off + 1 + (vd 0 (b.drop (off + 1))).2.1 + (vd 0 (b.drop (off + 1))).1)).drop (off + 1 + (vd 0 (b.drop (off + 1))).2.1)), ((off + 1 + (vd 0 (b.drop (off + 1))).2.1 + (vd 0 (b.drop (off + 1))).1 : Nat) : Int), 0)) else bad (vd 0 (b.drop (off + 1))).2.2)
  else bad 4)
 else bad 2
theorem vres0 (off : Nat) (r : Nat × Nat × Int) : vres off 0 0 r = if r.2.2 = 0 then ((r.1 : Int), ((off + r.2.1 : Nat) : Int), 0) else (0, 0, r.2.2) := by
 unfold vres
 rw [Nat.zero_add, Nat.pow_zero, Nat.one_mul, Nat.add_zero]
section
variable (b : List Int) (hb : Bytes b) (hl : b.length < 4611686018427387904) (off : Nat)
include hb hl
theorem text_ev (hlt : off ≤ b.length) : Ev (fun k => value_decodeText.f k b (off : Int))
  (if (vd 0 (b.drop off)).2.2 = 0 then (if (vd 0 (b.drop off)).1 > 4096 then bad 3 else if (vd 0 (b.drop off)).1 > b.length - (off + (vd 0 (b.drop off)).2.1) then bad 2 else
    (3, 0, strOfNums ((b.take (off + (vd 0 (b.drop off)).2.1 + (vd 0 (b.drop off)).1)).drop (off + (vd 0 (b.drop off)).2.1)), ((off + (vd 0 (b.drop off)).2.1 + (vd 0 (b.drop off)).1 : Nat) : Int), 0)) else bad (vd 0 (b.drop off)).2.2) := by
 have hd := dec_ev b hb hl off hlt
 have hok := vd_ok (b.drop off) 0 (fun c hc => hb c (List.mem_of_mem_drop hc)) (by decide)
 rw [vres0] at hd
 generalize vd 0 (b.drop off) = r at *
 unfold value_decodeText.f
 refine hd.bind ?_
 by_cases h : r.2.2 = 0
 ·simp only [h, if_true]
  obtain ⟨h1, h2, h3, _, _⟩ := hok h
  rw [List.length_drop] at h2
  by_cases h4 : r.1 > 4096
  ·rw [if_pos h4]
   exact Ev.const (by rw [if_pos (by omega)]; rfl)
  ·rw [if_neg h4]
   have e1 : wrap64 (r.1 : Int) = (r.1 : Int) := wrap_nat (by omega)
   have e2 : wrap64 ((b.length : Int) - ((off + r.2.1 : Nat) : Int)) = ((b.length - (off + r.2.1) : Nat) : Int) := by unfold wrap64; omega
   have e3 : wrap64 (((off + r.2.1 : Nat) : Int) + (r.1 : Int)) = ((off + r.2.1 + r.1 : Nat) : Int) := by unfold wrap64; omega
   by_cases h5 : r.1 > b.length - (off + r.2.1)
   ·rw [if_pos h5]
    exact Ev.const (by rw [if_neg (by omega), e1, e2, if_pos (by omega)]; rfl)
   ·rw [if_neg h5]
    exact Ev.const (by rw [if_neg (by omega), e1, e2, e3, if_neg (by omega), if_pos (by omega), if_pos (by omega), if_pos (by omega), Int.toNat_natCast, Int.toNat_natCast])
 ·simp only [h, if_false]
  exact Ev.const rfl
theorem decode_one (h : off < b.length) (k : Nat) : value_Decode.j0 (k + 1) b (off : Int) false =
  if b[off] = 0 then some (0, 0, (⟨#[]⟩ : ByteArray), ((off + 1 : Nat) : Int), 0)
  else if b[off] = 1 then (if h1 : off + 1 < b.length then (if b[off + 1] > 1 then some (bad 4) else some (1, b[off + 1], (⟨#[]⟩ : ByteArray), ((off + 2 : Nat) : Int), 0)) else some (bad 2))
  else if b[off] = 2 then (varint_Decode.f k b ((off + 1 : Nat) : Int)).bind fun bt => (if bt.2.2 = 0 then ((varint_UnZigZag.f bt.1).bind fun t116 => (some (2, t116, (⟨#[]⟩ : ByteArray), bt.2.1, 0))) else (some (bad bt.2.2)))
  else if b[off] = 3 then (value_decodeText.f k b ((off + 1 : Nat) : Int)).bind fun bt => some (bt.1, bt.2.1, bt.2.2.1, bt.2.2.2.1, bt.2.2.2.2)
  else some (bad 4) := by
 have hc := hb _ (List.getElem_mem h)
 have e0 : rd b (off : Int) = b[off] := rd_nat b off h
 have e1 : wrap64 ((off : Int) + 1) = ((off + 1 : Nat) : Int) := by unfold wrap64; omega
 have e2 : wrap64 b[off] = b[off] := by unfold wrap64; omega
 simp only [value_Decode.j0, Bool.false_eq_true, if_false]
 rw [if_neg (show ¬ (off : Int) = (b.length : Int) by omega), if_pos (show 0 ≤ (off : Int) by omega), if_pos (show (off : Int) < (b.length : Int) by omega), e0, e1, e2]
 by_cases c0 : b[off] = 0
 ·rw [if_pos c0, if_pos c0]
 rw [if_neg c0, if_neg c0]
 by_cases c1 : b[off] = 1
 ·rw [if_pos c1, if_pos c1]
  by_cases h1 : off + 1 < b.length
  ·have hc1 := hb _ (List.getElem_mem h1)
   have e3 : rd b ((off + 1 : Nat) : Int) = b[off + 1] := rd_nat b _ h1
   have e4 : wrap64 (((off + 1 : Nat) : Int) + 1) = ((off + 2 : Nat) : Int) := by unfold wrap64; omega
   have e5 : wrap64 b[off + 1] = b[off + 1] := by unfold wrap64; omega
   rw [dif_pos h1, if_neg (by omega), if_pos (by omega), if_pos (by omega), e3, e4, e5, c1]
   rfl
  ·rw [dif_neg h1, if_pos (by omega)]
   rfl
 rw [if_neg c1, if_neg c1]
 by_cases c2 : b[off] = 2
 ·rw [if_pos c2, if_pos c2, c2]
  rfl
 rw [if_neg c2, if_neg c2]
 by_cases c3 : b[off] = 3
 ·rw [if_pos c3, if_pos c3]
 ·rw [if_neg c3, if_neg c3]
  rfl
theorem decode_ev (ho : off ≤ b.length) : Ev (fun k => value_Decode.j0 k b (off : Int) false) (dv b off) := by
 unfold dv
 by_cases h : off < b.length
 ·rw [dif_pos h]
  have hone := decode_one b hb hl off h
  by_cases c0 : b[off] = 0
  ·rw [if_pos c0]
   exact Ev.fin fun k => by rw [hone, if_pos c0]
  rw [if_neg c0]
  by_cases c1 : b[off] = 1
  ·rw [if_pos c1]
   refine Ev.fin fun k => ?_
   rw [hone, if_neg c0, if_pos c1]
   by_cases h1 : off + 1 < b.length
   ·rw [dif_pos h1, dif_pos h1]
    by_cases h2 : b[off + 1] > 1
    ·rw [if_pos h2, if_pos h2]
    ·rw [if_neg h2, if_neg h2]
   ·rw [dif_neg h1, dif_neg h1]
  rw [if_neg c1]
  by_cases c2 : b[off] = 2
  ·rw [if_pos c2]
   have hd := dec_ev b hb hl (off + 1) (by omega)
   have hok := vd_ok (b.drop (off + 1)) 0 (fun c hc => hb c (List.mem_of_mem_drop hc)) (by decide)
   rw [vres0] at hd
   generalize vd 0 (b.drop (off + 1)) = r at *
   refine Ev.step (fun k => by rw [hone, if_neg c0, if_neg c1, if_pos c2]) (hd.bind ?_)
   by_cases h2 : r.2.2 = 0
   ·simp only [h2, if_true]
    obtain ⟨_, _, h3, _, _⟩ := hok h2
    rw [unzigzag_uz _ (by simpa using h3)]
    exact Ev.now _
   ·simp only [h2, if_false]
    exact Ev.now _
  rw [if_neg c2]
  by_cases c3 : b[off] = 3
  ·rw [if_pos c3]
   exact Ev.step (fun k => by rw [hone, if_neg c0, if_neg c1, if_neg c2, if_pos c3]) ((text_ev b hb hl (off + 1) (by omega)).bind (f := fun _ bt => some (bt.1, bt.2.1, bt.2.2.1, bt.2.2.2.1, bt.2.2.2.2)) (Ev.now _))
  ·rw [if_neg c3]
   exact Ev.fin fun k => by rw [hone, if_neg c0, if_neg c1, if_neg c2, if_neg c3]
 ·rw [dif_neg h]
  refine Ev.fin fun k => ?_
  simp only [value_Decode.j0, Bool.false_eq_true, if_false]
  rw [if_pos (by omega)]
  rfl
end
section
variable (l : List Int) (hb : Bytes l) (hl : l.length < 4611686018427387904) (t : Nat) (ht : t ≤ l.length)
include hb hl ht
theorem lib_vint (h : (vd 0 (l.drop t)).2.2 = 0) : Ev (fun k => vintS k l (t : Int) 0) (((vd 0 (l.drop t)).1 : Int), ((t + (vd 0 (l.drop t)).2.1 : Nat) : Int), 0) := by
 have h1 := dec_ev l hb hl t ht
 rw [vres0, if_pos h] at h1
 exact Ev.congr (fun k => if_pos rfl) h1
theorem lib_dec : Ev (fun k => value_Decode.f k l (t : Int)) (dv l t) := Ev.congr (fun k => by unfold value_Decode.f; rw [if_neg (by omega), decide_eq_false (by omega)]) (decode_ev l hb (by omega) t ht)
end
end Go.Proofs.Ytackcingpffidaa.P
