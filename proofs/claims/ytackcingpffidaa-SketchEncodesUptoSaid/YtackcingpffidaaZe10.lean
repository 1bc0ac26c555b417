/- What Go functions of the given program return, told as Lean functions, and the walks that show it, with plain facts on them: H22. Conditions: the hypotheses that stand at each theorem. -/
import Derived.Test.YtackcingpffidaaZe0
import Derived.Test.YtackcingpffidaaZe1
import Derived.Test.YtackcingpffidaaZe2
import Derived.Test.YtackcingpffidaaZe3
import Derived.Test.YtackcingpffidaaZe9
namespace Go.Proofs.Ytackcingpffidaa.P
open Go.RowKit Go.Proofs.YtackcingpffidaaW.PrintWords Go.Proofs.YtackcingpffidaaW.PrintLast Go.Proofs.YtackcingpffidaaW.PrintMore
attribute [local go_sem] max2_int min2_int max_two min_two
set_option linter.unusedVariables false
set_option linter.unusedSimpArgs false
def f22_T2 : Bool × List (List Nat × List Nat) := (true, [([], []), ([0], [0]), ([1], [1]), ([2], [2]), ([3], [3]), ([4, 3], [3, 4]), ([3, 5], [3, 5]), ([6, 3], [6]), ([7], [7]), ([8, 7], [7, 8]), ([7], [7]), ([10, 7], [7, 10]), ([11, 7], [7, 11]), ([12, 7], [7, 12]), ([13, 7], [7, 13]), ([9, 14, 7], [7, 9, 14]), ([7, 15], [7, 15]), ([16, 7], [16]), ([17], [17]), ([17], [17]), ([19, 17], [17, 19]), ([20, 17], [17, 20]), ([21, 17], [17, 21]), ([18, 22, 17, 17], [17, 18, 22]), ([23, 17], [17, 23]), ([17, 24], [17, 24]), ([25, 23], [25]), ([26], [26]), ([26], [26]), ([28, 26], [26, 28]), ([26], [26]), ([30, 26], [26, 30]), ([29, 31, 26], [26, 29, 31]), ([32, 26], [26, 32]), ([27, 33, 26, 26], [26, 27, 33]), ([34, 26], [26, 34]), ([26, 35], [26, 35])])
def f22_B2 : List Nat := [0, 1, 3, 7, 15, 31, 63, 127, 255, 511, 255, 1279, 3327, 7423, 15615, 32767, 65535, 131071, 262143, 262143, 786431, 1835007, 3932159, 8388607, 16777215, 33554431, 67108863, 134217727, 134217727, 402653183, 134217727, 1207959551, 4160749567, 8455716863, 17179869183, 34359738367, 68719476735]
set_option maxRecDepth 100000 in
theorem f22_tab2 : rtab .any (opsOf Try.f22 2) = f22_T2 := by kernel_rfl
theorem f22_bits2 : waitsOk f22_T2.2 f22_B2 = true := by kernel_rfl
def f22_T4 : Bool × List (List Nat × List Nat) := (true, [([], []), ([0], [0]), ([], []), ([2], [2]), ([3], [3]), ([1, 4, 4], [1, 4]), ([5], [5]), ([6], [6]), ([6], [6]), ([7, 5, 0, 1, 2, 3, 4, 5, 6, 7], [7]), ([8, 9, 0, 1, 2, 3, 4, 5, 6, 7, 8, 9], [8])])
def f22_B4 : List Nat := [0, 1, 0, 4, 12, 31, 63, 127, 127, 255, 1023]
set_option maxRecDepth 100000 in
theorem f22_tab4 : rtab .any (opsOf Try.f22 4) = f22_T4 := by kernel_rfl
theorem f22_bits4 : waitsOk f22_T4.2 f22_B4 = true := by kernel_rfl
def f22_T7 : Bool × List (List Nat × List Nat) := (true, [([], []), ([], []), ([0, 1], [0, 1]), ([], []), ([], []), ([3, 4, 2], [3, 4]), ([2, 5], [2, 5]), ([5], []), ([6, 7, 0, 1, 2, 3, 4, 5, 6, 7], [6])])
def f22_B7 : List Nat := [0, 0, 3, 0, 0, 31, 63, 63, 255]
set_option maxRecDepth 100000 in
theorem f22_tab7 : rtab .any (opsOf Try.f22 7) = f22_T7 := by kernel_rfl
theorem f22_bits7 : waitsOk f22_T7.2 f22_B7 = true := by kernel_rfl
def f22_T10 : Bool × List (List Nat × List Nat) := (true, [([], []), ([0], [0]), ([], []), ([2], [2]), ([3], [3]), ([1, 4], [1, 4]), ([5], [5]), ([], []), ([7], [7]), ([], []), ([9], [9]), ([8, 10], [8, 10]), ([11], [11]), ([6, 12], [6, 12]), ([13], [13]), ([14, 0, 1, 2, 3, 4, 5, 6, 7, 8, 9, 10, 11, 12, 13, 14], [14])])
def f22_B10 : List Nat := [0, 1, 0, 4, 12, 31, 63, 0, 128, 0, 512, 1920, 3968, 8191, 16383, 32767]
set_option maxRecDepth 100000 in
theorem f22_tab10 : rtab .any (opsOf Try.f22 10) = f22_T10 := by kernel_rfl
theorem f22_bits10 : waitsOk f22_T10.2 f22_B10 = true := by kernel_rfl
def f22_T14 : Bool × List (List Nat × List Nat) := (true, [([], []), ([], []), ([1], [1]), ([], []), ([3], [3]), ([], []), ([], []), ([5, 6], [5, 6]), ([4, 7], [4, 7]), ([2, 8], [2, 8]), ([9], [9]), ([0, 10], [0, 10]), ([11, 7, 0, 1, 2, 3, 4, 5, 6, 7, 8, 9, 10, 11], [0, 11])])
def f22_B14 : List Nat := [0, 0, 2, 0, 8, 0, 0, 96, 248, 510, 1022, 2047, 4095]
set_option maxRecDepth 100000 in
theorem f22_tab14 : rtab .any (opsOf Try.f22 14) = f22_T14 := by kernel_rfl
theorem f22_bits14 : waitsOk f22_T14.2 f22_B14 = true := by kernel_rfl
set_option maxHeartbeats 8000000 in
set_option maxRecDepth 100000 in
theorem f22_calls (k : Nat) (a0 a1 : Int) (A2 : Option Addr) (c2 : Nat) (l2 : List Int) (b3 : Bool) (A4 : Option Addr) (c4 : Nat) (l4 : List Int) (A5 : Option Addr) (c5 : Nat) (l5 : List S39) (A6 : Option Addr) (c6 : Nat) (l6 : List Int) (v : S39) (r1 r2 : Int) (w : World) (hr2 : Kd.C (Kd.int .u64) w A2 l2.length l2) (hc2 : l2.length ≤ c2) (hr4 : Kd.C (Kd.int .i64) w A4 l4.length l4) (hc4 : l4.length ≤ c4) (hr5 : Kd.C k39 w A5 l5.length l5) (hc5 : l5.length ≤ c5) (hr6 : Kd.C (Kd.int .i64) w A6 l6.length l6) (hc6 : l6.length ≤ c6) (h : sketch_CountEqual.f k a0 a1 l2 b3 l4 l5 l6 v.f0 v.f1 v.f2 = some (r1, r2)) :
  Calls Try.prog 22 #[.agg #[.int .i64 a0, .int .i64 a1, .slice A2 l2.length c2, .bool b3, .slice A4 l4.length c4, .slice A5 l5.length c5, .slice A6 l6.length c6], .agg #[.int .i64 v.f0, .int .i64 v.f1, .string v.f2]] w fun e w' => e = .returned (.agg #[.int .i64 r1, .int .i64 r2]) ∧ Below w.heap.size w w' := by
 have HR2 := Aside0.mk hr2
 have HR4 := Aside0.mk hr4
 have HR5 := Aside0.mk hr5
 have HR6 := Aside0.mk hr6
 have HH := Aside0.mk h
 clear hr2 hr4 hr5 hr6 h
 have hl5 : l5.length ≤ 9223372036854775807 := HR5.out.2.1
 go_enter Try.func22, Try.ntmps22
 go_upto_region 1 with (first | ((with_reducible refine gate_dst (N := 2) rfl ?_); refine box_ 2 (cs := #[.int .i64 a0, .int .i64 a1, .slice A2 l2.length c2, .bool b3, .slice A4 l4.length c4, .slice A5 l5.length c5, .slice A6 l6.length c6]) (t := 26) ?_; intro g2 hg_ w1 hbox hb; have BK2 := Aside0.mk hbox; have HB := Aside0.mk hb; have hg2 : g2 = w.heap.size := hg_; have H2L := Aside0.mk hg2; clear hg2 hg_; clear hb hbox) | ((with_reducible refine gate_dst (N := 3) rfl ?_); refine box_ 3 (cs := #[.int .i64 v.f0, .int .i64 v.f1, .string v.f2]) (t := 39) ?_; intro g3 hg_ w2 hbox hb; have BK2b : Aside0 (w2.heap[g2]? = some (.cells #[.int .i64 a0, .int .i64 a1, .slice A2 l2.length c2, .bool b3, .slice A4 l4.length c4, .slice A5 l5.length c5, .slice A6 l6.length c6] 26 (0, 0))) := ⟨blk_below BK2.out hb⟩; have BK3 := Aside0.mk hbox; have HB2 := Aside0.mk (HB.out.trans (hb.mono (below_size HB.out))); clear hg_; clear hb hbox))
 have BK2c := Aside0.mk (blk_alloc BK2b.out (.cells #[.int .i64 0, .int .i64 0] 44))
 have BK3c := Aside0.mk (blk_alloc BK3.out (.cells #[.int .i64 0, .int .i64 0] 44))
 have BK4c := Aside0.mk (heap_alloc_new w2 (.cells #[.int .i64 0, .int .i64 0] 44))
 have HBV := Aside0.mk (below_alloc HB2.out (.cells #[.int .i64 0, .int .i64 0] 44))
 have hw2 := below_size HB2.out
 obtain ⟨V, hV⟩ : ∃ V, w2.alloc (.cells #[.int .i64 0, .int .i64 0] 44) = V := ⟨_, rfl⟩
 rw [hV] at BK2c BK3c BK4c HBV ⊢
 clear hV BK2 BK2b BK3 HB HB2
 generalize w2.heap.size = g4 at *
 clear w2
 have HSB : Aside0 (∀ W, Below V.heap.size V W → (W.cell? ⟨g2, 0, none⟩ = some (.int .i64 a0) ∧ W.cell? ⟨g2, 1, none⟩ = some (.int .i64 a1) ∧ W.cell? ⟨g2, 2, none⟩ = some (.slice A2 l2.length c2) ∧ W.cell? ⟨g2, 3, none⟩ = some (.bool b3) ∧ W.cell? ⟨g2, 4, none⟩ = some (.slice A4 l4.length c4) ∧ W.cell? ⟨g2, 5, none⟩ = some (.slice A5 l5.length c5) ∧ W.cell? ⟨g2, 6, none⟩ = some (.slice A6 l6.length c6) ∧ W.cell? ⟨g3, 0, none⟩ = some (.int .i64 v.f0) ∧ W.cell? ⟨g3, 1, none⟩ = some (.int .i64 v.f1) ∧ W.cell? ⟨g3, 2, none⟩ = some (.string v.f2))) := ⟨fun W hb => by
  have h2 := blk_below BK2c.out hb
  have h3 := blk_below BK3c.out hb
  exact ⟨(blk_cell h2 0).trans rfl, (blk_cell h2 1).trans rfl, (blk_cell h2 2).trans rfl, (blk_cell h2 3).trans rfl, (blk_cell h2 4).trans rfl, (blk_cell h2 5).trans rfl, (blk_cell h2 6).trans rfl, (blk_cell h3 0).trans rfl, (blk_cell h3 1).trans rfl, (blk_cell h3 2).trans rfl⟩⟩
 have b5 : V.cell? ⟨g2, 5, none⟩ = some (.slice A5 l5.length c5) := (blk_cell BK2c.out 5).trans rfl
 go_upto_region 2 with (fail)
 clear b5
 have HY := Aside0.mk (below_drew1 (Below.refl V.heap.size V))
 go_cut [52] (fun v52 wd => v52 = .bool (gateB l5 v) ∧ Aside0 (Below V.heap.size V wd))
 case first =>
  by_cases h1 : v.f0 = 0
  ·have hb1 : (v.f0 == 0) = true := by simp [h1]
   have HGV : Aside0 (gateB l5 v = true) := ⟨by unfold gateB; rw [hb1]; simp⟩
   clear h1
   refine start_ (n := 37) (S := fun w' => w'.cell? ⟨g2, 0, none⟩ = some (.int .i64 a0) ∧ w'.cell? ⟨g2, 1, none⟩ = some (.int .i64 a1) ∧ w'.cell? ⟨g2, 2, none⟩ = some (.slice A2 l2.length c2) ∧ w'.cell? ⟨g2, 3, none⟩ = some (.bool b3) ∧ w'.cell? ⟨g2, 4, none⟩ = some (.slice A4 l4.length c4) ∧ w'.cell? ⟨g2, 5, none⟩ = some (.slice A5 l5.length c5) ∧ w'.cell? ⟨g2, 6, none⟩ = some (.slice A6 l6.length c6) ∧ w'.cell? ⟨g3, 0, none⟩ = some (.int .i64 v.f0) ∧ w'.cell? ⟨g3, 1, none⟩ = some (.int .i64 v.f1) ∧ w'.cell? ⟨g3, 2, none⟩ = some (.string v.f2)) (ds := []) #[false, false, false, false, false, false, false, false, false, false, false, false, false, false, false, false, false, false, false, false, false, false, false, false, false, false, false, false, false, false, false, false, false, false, false, false, false] (by kernel_rfl) rfl rfl (HSB.out _ HY.out) (fun hHeld => ?_)
   refine with_tabW f22_tab2 f22_bits2 (fun HT_ HW_ => ?_)
   generalize V.drew = wd at HY hHeld ⊢
   refine pu_ HT_ 0 (some 16) ?_
   refine tk_ HT_ HW_ 1 (some 17) hHeld ?_
   refine pu_ HT_ 2 (some 18) ?_
   refine pu_ HT_ 3 (some 19) ?_
   refine sk_ HT_ 4 (some 20) ?_
   refine sk_ HT_ 5 (some 21) ?_
   refine pu_ HT_ 6 (some 22) ?_
   refine pu_ HT_ 7 (some 23) ?_
   refine sk_ HT_ 8 (some 24) ?_
   refine sk_ HT_ 9 (some 25) ?_
   refine sk_ HT_ 10 (some 26) ?_
   refine sk_ HT_ 11 (some 27) ?_
   refine sk_ HT_ 12 (some 28) ?_
   refine sk_ HT_ 13 (some 29) ?_
   refine sk_ HT_ 14 (some 30) ?_
   refine sk_ HT_ 15 (some 31) ?_
   refine pu_ HT_ 16 (some 32) ?_
   refine pu_ HT_ 17 (some 33) ?_
   refine sk_ HT_ 18 (some 34) ?_
   refine sk_ HT_ 19 (some 35) ?_
   refine sk_ HT_ 20 (some 36) ?_
   refine sk_ HT_ 21 (some 37) ?_
   refine sk_ HT_ 22 (some 38) ?_
   refine sk_ HT_ 23 (some 39) ?_
   refine sk_ HT_ 24 (some 40) ?_
   refine pu_ HT_ 25 (some 41) ?_
   refine pu_ HT_ 26 (some 42) ?_
   refine sk_ HT_ 27 (some 43) ?_
   refine sk_ HT_ 28 (some 44) ?_
   refine sk_ HT_ 29 (some 45) ?_
   refine sk_ HT_ 30 (some 46) ?_
   refine sk_ HT_ 31 (some 47) ?_
   refine sk_ HT_ 32 (some 48) ?_
   refine sk_ HT_ 33 (some 49) ?_
   refine sk_ HT_ 34 (some 50) ?_
   refine sk_ HT_ 35 (some 51) ?_
   refine pu_ HT_ 36 (some 52) ?_
   refine done_ (done_of HT_.out (by kernel_rfl)) ?_
   clear HT_ HW_ hHeld
   (try go_wp2)
   go_meet
   case rel => exact ⟨by rw [HGV.out], HY⟩
  ·have hb1 : (v.f0 == 0) = false := by simp [h1]
   by_cases hn : l5.length = 0
   ·have hb2 : ((l5.length : Int) == 0) = true := by simp [hn]
    have hb2n : (l5.length == 0) = true := by simp [hn]
    have HGV : Aside0 (gateB l5 v = true) := ⟨by unfold gateB; rw [hb1, hb2n]; simp⟩
    clear h1 hn
    refine start_ (n := 37) (S := fun w' => w'.cell? ⟨g2, 0, none⟩ = some (.int .i64 a0) ∧ w'.cell? ⟨g2, 1, none⟩ = some (.int .i64 a1) ∧ w'.cell? ⟨g2, 2, none⟩ = some (.slice A2 l2.length c2) ∧ w'.cell? ⟨g2, 3, none⟩ = some (.bool b3) ∧ w'.cell? ⟨g2, 4, none⟩ = some (.slice A4 l4.length c4) ∧ w'.cell? ⟨g2, 5, none⟩ = some (.slice A5 l5.length c5) ∧ w'.cell? ⟨g2, 6, none⟩ = some (.slice A6 l6.length c6) ∧ w'.cell? ⟨g3, 0, none⟩ = some (.int .i64 v.f0) ∧ w'.cell? ⟨g3, 1, none⟩ = some (.int .i64 v.f1) ∧ w'.cell? ⟨g3, 2, none⟩ = some (.string v.f2)) (ds := []) #[false, false, false, false, false, false, false, false, false, false, false, false, false, false, false, false, false, false, false, false, false, false, false, false, false, false, false, false, false, false, false, false, false, false, false, false, false] (by kernel_rfl) rfl rfl (HSB.out _ HY.out) (fun hHeld => ?_)
    refine with_tabW f22_tab2 f22_bits2 (fun HT_ HW_ => ?_)
    generalize V.drew = wd at HY hHeld ⊢
    refine pu_ HT_ 0 (some 16) ?_
    refine tk_ HT_ HW_ 1 (some 17) hHeld ?_
    refine pu_ HT_ 2 (some 18) ?_
    refine pu_ HT_ 3 (some 19) ?_
    refine pu_ HT_ 4 (some 20) ?_
    refine pu_ HT_ 5 (some 21) ?_
    refine pu_ HT_ 6 (some 22) ?_
    refine pu_ HT_ 7 (some 23) ?_
    refine sk_ HT_ 8 (some 24) ?_
    refine sk_ HT_ 9 (some 25) ?_
    refine sk_ HT_ 10 (some 26) ?_
    refine sk_ HT_ 11 (some 27) ?_
    refine sk_ HT_ 12 (some 28) ?_
    refine sk_ HT_ 13 (some 29) ?_
    refine sk_ HT_ 14 (some 30) ?_
    refine sk_ HT_ 15 (some 31) ?_
    refine pu_ HT_ 16 (some 32) ?_
    refine pu_ HT_ 17 (some 33) ?_
    refine sk_ HT_ 18 (some 34) ?_
    refine sk_ HT_ 19 (some 35) ?_
    refine sk_ HT_ 20 (some 36) ?_
    refine sk_ HT_ 21 (some 37) ?_
    refine sk_ HT_ 22 (some 38) ?_
    refine sk_ HT_ 23 (some 39) ?_
    refine sk_ HT_ 24 (some 40) ?_
    refine pu_ HT_ 25 (some 41) ?_
    refine pu_ HT_ 26 (some 42) ?_
    refine sk_ HT_ 27 (some 43) ?_
    refine sk_ HT_ 28 (some 44) ?_
    refine sk_ HT_ 29 (some 45) ?_
    refine sk_ HT_ 30 (some 46) ?_
    refine sk_ HT_ 31 (some 47) ?_
    refine sk_ HT_ 32 (some 48) ?_
    refine sk_ HT_ 33 (some 49) ?_
    refine sk_ HT_ 34 (some 50) ?_
    refine sk_ HT_ 35 (some 51) ?_
    refine pu_ HT_ 36 (some 52) ?_
    refine done_ (done_of HT_.out (by kernel_rfl)) ?_
    clear HT_ HW_ hHeld
    (try go_wp2)
    go_meet
    case rel => exact ⟨by rw [HGV.out], HY⟩
   ·have hb2 : ((l5.length : Int) == 0) = false := by simp [hn]
    have hb2n : (l5.length == 0) = false := by simp [hn]
    obtain ⟨ad, rfl, hx0, hx1, hx2⟩ := at_T39 HR5.out 0 (by omega) (by omega)
    obtain ⟨ad1, e1, hy0, hy1, hy2⟩ := at_T39 HR5.out ((l5.length - 1 : Nat) : Int) (by omega) (by omega)
    obtain rfl := Option.some.inj e1
    clear e1
    rw [Int.toNat_natCast] at hy0 hy1 hy2
    obtain ⟨x, hxx⟩ : ∃ x, rd_T39 l5 0 = x := ⟨_, rfl⟩
    obtain ⟨y, hyy⟩ : ∃ x, rd_T39 l5 ((l5.length - 1 : Nat) : Int) = x := ⟨_, rfl⟩
    rw [hxx] at hx0 hx1 hx2
    rw [hyy] at hy0 hy1 hy2
    obtain ⟨b3_, hb3⟩ : ∃ b, (v.f0 != x.f0) = b := ⟨_, rfl⟩
    obtain ⟨cx, hcx⟩ : ∃ c, cV v x = c := ⟨_, rfl⟩
    obtain ⟨cy, hcy⟩ : ∃ c, cV v y = c := ⟨_, rfl⟩
    obtain ⟨b4_, hb4⟩ : ∃ b, decide (cx < 0) = b := ⟨_, rfl⟩
    obtain ⟨b5, hb5⟩ : ∃ b, decide (0 < cy) = b := ⟨_, rfl⟩
    have HGE : Aside0 (gateB l5 v = (b3_ || b4_ || b5)) := ⟨by unfold gateB; rw [hb1, hb2n, hxx, hb3, hcx, hb4, show (l5.length : Int) - 1 = ((l5.length - 1 : Nat) : Int) from by omega, hyy, hcy, hb5]; simp⟩
    have HCX := Aside0.mk hcx
    have HCY := Aside0.mk hcy
    have HS2 : Aside0 (∀ W, Below V.heap.size V W → (W.cell? ⟨g2, 0, none⟩ = some (.int .i64 a0) ∧ W.cell? ⟨g2, 1, none⟩ = some (.int .i64 a1) ∧ W.cell? ⟨g2, 2, none⟩ = some (.slice A2 l2.length c2) ∧ W.cell? ⟨g2, 3, none⟩ = some (.bool b3) ∧ W.cell? ⟨g2, 4, none⟩ = some (.slice A4 l4.length c4) ∧ W.cell? ⟨g2, 5, none⟩ = some (.slice (some ad) l5.length c5) ∧ W.cell? ⟨g2, 6, none⟩ = some (.slice A6 l6.length c6) ∧ W.cell? ⟨g3, 0, none⟩ = some (.int .i64 v.f0) ∧ W.cell? ⟨g3, 1, none⟩ = some (.int .i64 v.f1) ∧ W.cell? ⟨g3, 2, none⟩ = some (.string v.f2) ∧ W.cell? ad = some (.int .i64 x.f0) ∧ W.cell? ⟨ad.block, ad.off + 1, none⟩ = some (.int .i64 x.f1) ∧ W.cell? ⟨ad.block, ad.off + 2, none⟩ = some (.string x.f2) ∧ W.cell? (ad.add ((l5.length - 1) * 3)) = some (.int .i64 y.f0) ∧ W.cell? ⟨(ad.add ((l5.length - 1) * 3)).block, (ad.add ((l5.length - 1) * 3)).off + 1, none⟩ = some (.int .i64 y.f1) ∧ W.cell? ⟨(ad.add ((l5.length - 1) * 3)).block, (ad.add ((l5.length - 1) * 3)).off + 2, none⟩ = some (.string y.f2))) := ⟨fun W hb => by
     have hbw := HBV.out.trans (hb.mono (below_size HBV.out))
     obtain ⟨t0, t1, t2, t3, t4, t5, t6, t7, t8, t9⟩ := HSB.out W hb
     have x0 := (hbw.cell (World.block_lt_of_cell? w _ hx0)).trans hx0
     have x1 := (hbw.cell (World.block_lt_of_cell? w _ hx1)).trans hx1
     have x2 := (hbw.cell (World.block_lt_of_cell? w _ hx2)).trans hx2
     have y0 := (hbw.cell (World.block_lt_of_cell? w _ hy0)).trans hy0
     have y1 := (hbw.cell (World.block_lt_of_cell? w _ hy1)).trans hy1
     have y2 := (hbw.cell (World.block_lt_of_cell? w _ hy2)).trans hy2
     exact ⟨t0, t1, t2, t3, t4, t5, t6, t7, t8, t9, by simpa [Addr.add] using x0, by simpa [Addr.add] using x1, by simpa [Addr.add] using x2, y0, y1, y2⟩⟩
    have hln : 0 < l5.length := by omega
    have hd0 : decide ((0 : Int) < l5.length) = true := decide_eq_true (by omega)
    have hd1 : decide ((l5.length : Int) ≤ 0) = false := decide_eq_false (by omega)
    have hwn : IntKind.i64.wrap ((l5.length : Int) - 1) = ((l5.length - 1 : Nat) : Int) := by rw [i64_w]; unfold wrap64; omega
    have hfn : decide (((l5.length - 1 : Nat) : Int) < l5.length) = true := decide_eq_true (by omega)
    have hfn2 : decide ((l5.length : Int) ≤ ((l5.length - 1 : Nat) : Int)) = false := decide_eq_false (by omega)
    have hfn3 : l5.length - 1 < l5.length := by omega
    clear h1 hn hx0 hx1 hx2 hy0 hy1 hy2 hxx hyy hcx hcy
    refine start_ (n := 37) (S := fun w' => w'.cell? ⟨g2, 0, none⟩ = some (.int .i64 a0) ∧ w'.cell? ⟨g2, 1, none⟩ = some (.int .i64 a1) ∧ w'.cell? ⟨g2, 2, none⟩ = some (.slice A2 l2.length c2) ∧ w'.cell? ⟨g2, 3, none⟩ = some (.bool b3) ∧ w'.cell? ⟨g2, 4, none⟩ = some (.slice A4 l4.length c4) ∧ w'.cell? ⟨g2, 5, none⟩ = some (.slice (some ad) l5.length c5) ∧ w'.cell? ⟨g2, 6, none⟩ = some (.slice A6 l6.length c6) ∧ w'.cell? ⟨g3, 0, none⟩ = some (.int .i64 v.f0) ∧ w'.cell? ⟨g3, 1, none⟩ = some (.int .i64 v.f1) ∧ w'.cell? ⟨g3, 2, none⟩ = some (.string v.f2) ∧ w'.cell? ad = some (.int .i64 x.f0) ∧ w'.cell? ⟨ad.block, ad.off + 1, none⟩ = some (.int .i64 x.f1) ∧ w'.cell? ⟨ad.block, ad.off + 2, none⟩ = some (.string x.f2) ∧ w'.cell? (ad.add ((l5.length - 1) * 3)) = some (.int .i64 y.f0) ∧ w'.cell? ⟨(ad.add ((l5.length - 1) * 3)).block, (ad.add ((l5.length - 1) * 3)).off + 1, none⟩ = some (.int .i64 y.f1) ∧ w'.cell? ⟨(ad.add ((l5.length - 1) * 3)).block, (ad.add ((l5.length - 1) * 3)).off + 2, none⟩ = some (.string y.f2)) (ds := []) #[false, false, false, false, false, false, false, false, false, false, false, false, false, false, false, false, false, false, false, false, false, false, false, false, false, false, false, false, false, false, false, false, false, false, false, false, false] (by kernel_rfl) rfl rfl (HS2.out _ HY.out) (fun hHeld => ?_)
    refine with_tabW f22_tab2 f22_bits2 (fun HT_ HW_ => ?_)
    generalize V.drew = wd at HY hHeld ⊢
    refine pu_ HT_ 0 (some 16) ?_
    refine tk_ HT_ HW_ 1 (some 17) hHeld ?_
    refine pu_ HT_ 2 (some 18) ?_
    refine pu_ HT_ 3 (some 19) ?_
    refine pu_ HT_ 4 (some 20) ?_
    refine pu_ HT_ 5 (some 21) ?_
    refine pu_ HT_ 6 (some 22) ?_
    refine pu_ HT_ 7 (some 23) ?_
    refine pu_ HT_ 8 (some 24) ?_
    refine tk_ HT_ HW_ 9 (some 25) hHeld ?_
    refine pu_ HT_ 10 (some 26) ?_
    refine tk_ HT_ HW_ 11 (some 27) hHeld ?_
    refine tk_ HT_ HW_ 12 (some 28) hHeld ?_
    refine pu_ HT_ 13 (some 29) ?_
    refine tk_ HT_ HW_ 14 (some 30) hHeld ?_
    refine pu_ HT_ 15 (some 31) ?_
    refine pu_ HT_ 16 (some 32) ?_
    cases b3_ with
    | true =>
     have HGV : Aside0 (gateB l5 v = true) := ⟨by rw [HGE.out]; rfl⟩
     refine pu_ HT_ 17 (some 33) ?_
     refine sk_ HT_ 18 (some 34) ?_
     refine sk_ HT_ 19 (some 35) ?_
     refine sk_ HT_ 20 (some 36) ?_
     refine sk_ HT_ 21 (some 37) ?_
     refine sk_ HT_ 22 (some 38) ?_
     refine sk_ HT_ 23 (some 39) ?_
     refine sk_ HT_ 24 (some 40) ?_
     refine pu_ HT_ 25 (some 41) ?_
     refine pu_ HT_ 26 (some 42) ?_
     refine sk_ HT_ 27 (some 43) ?_
     refine sk_ HT_ 28 (some 44) ?_
     refine sk_ HT_ 29 (some 45) ?_
     refine sk_ HT_ 30 (some 46) ?_
     refine sk_ HT_ 31 (some 47) ?_
     refine sk_ HT_ 32 (some 48) ?_
     refine sk_ HT_ 33 (some 49) ?_
     refine sk_ HT_ 34 (some 50) ?_
     refine sk_ HT_ 35 (some 51) ?_
     refine pu_ HT_ 36 (some 52) ?_
     refine done_ (done_of HT_.out (by kernel_rfl)) ?_
     clear HT_ HW_ hHeld
     (try go_wp2)
     go_meet
     case rel => exact ⟨by rw [HGV.out], HY⟩
    | false =>
     refine pu_ HT_ 17 (some 33) ?_
     refine tk_ HT_ HW_ 18 (some 34) hHeld ?_
     refine pu_ HT_ 19 (some 35) ?_
     refine tk_ HT_ HW_ 20 (some 36) hHeld ?_
     refine tk_ HT_ HW_ 21 (some 37) hHeld ?_
     refine tk_ HT_ HW_ 22 (some 38) hHeld ?_
     refine on_ HT_ 23 (some 39) (fun K hK => ?_)
     refine gos_ Try.func53 #[.agg #[.int .i64 v.f0, .int .i64 v.f1, .string v.f2], .agg #[.int .i64 x.f0, .int .i64 x.f1, .string x.f2]] ?_
     refine (cV_calls v x cx HCX.out _).mono ?_
     rintro e w9 ⟨rfl, hb⟩
     refine ⟨_, rfl, ?_⟩
     have HY2 := Aside0.mk (HY.out.trans (hb.mono HY.out.size))
     clear hb
     refine hK.out _ _ (HS2.out _ HY2.out) (fun hHeld => ?_)
     clear hK K
     refine nm_ (some 39) ?_
     refine pu_ HT_ 24 (some 40) ?_
     cases b4_ with
     | true =>
      have HGV : Aside0 (gateB l5 v = true) := ⟨by rw [HGE.out]; rfl⟩
      refine pu_ HT_ 25 (some 41) ?_
      refine pu_ HT_ 26 (some 42) ?_
      refine sk_ HT_ 27 (some 43) ?_
      refine sk_ HT_ 28 (some 44) ?_
      refine sk_ HT_ 29 (some 45) ?_
      refine sk_ HT_ 30 (some 46) ?_
      refine sk_ HT_ 31 (some 47) ?_
      refine sk_ HT_ 32 (some 48) ?_
      refine sk_ HT_ 33 (some 49) ?_
      refine sk_ HT_ 34 (some 50) ?_
      refine sk_ HT_ 35 (some 51) ?_
      refine pu_ HT_ 36 (some 52) ?_
      refine done_ (done_of HT_.out (by kernel_rfl)) ?_
      clear HT_ HW_ hHeld
      (try go_wp2)
      go_meet
      case rel => exact ⟨by rw [HGV.out], HY2⟩
     | false =>
      refine pu_ HT_ 25 (some 41) ?_
      refine pu_ HT_ 26 (some 42) ?_
      refine tk_ HT_ HW_ 27 (some 43) hHeld ?_
      refine pu_ HT_ 28 (some 44) ?_
      refine tk_ HT_ HW_ 29 (some 45) hHeld ?_
      refine pu_ HT_ 30 (some 46) ?_
      refine pu_ HT_ 31 (some 47) ?_
      refine tk_ HT_ HW_ 32 (some 48) hHeld ?_
      refine tk_ HT_ HW_ 33 (some 49) hHeld ?_
      refine on_ HT_ 34 (some 50) (fun K hK => ?_)
      refine gos_ Try.func53 #[.agg #[.int .i64 v.f0, .int .i64 v.f1, .string v.f2], .agg #[.int .i64 y.f0, .int .i64 y.f1, .string y.f2]] ?_
      refine (cV_calls v y cy HCY.out _).mono ?_
      rintro e w9 ⟨rfl, hb⟩
      refine ⟨_, rfl, ?_⟩
      have HY3 := Aside0.mk (HY2.out.trans (hb.mono HY2.out.size))
      clear hb
      refine hK.out _ _ (HS2.out _ HY3.out) (fun hHeld => ?_)
      clear hK K
      refine nm_ (some 50) ?_
      refine pu_ HT_ 35 (some 51) ?_
      refine pu_ HT_ 36 (some 52) ?_
      refine done_ (done_of HT_.out (by kernel_rfl)) ?_
      clear HT_ HW_ hHeld
      have HGV : Aside0 (gateB l5 v = b5) := ⟨by rw [HGE.out]; cases b5 <;> rfl⟩
      (try go_wp2)
      go_meet
      case rel => exact ⟨by rw [HGV.out], HY3⟩
 case rest =>
  obtain ⟨rfl, HY⟩ := hcut
  have hg4 : w.heap.size ≤ g4 := hw2
  cases hg : gateB l5 v with
  | true =>
   have hz : (0, 0) = (r1, r2) := by have h_ := HH.out; unfold sketch_CountEqual.f at h_; rw [if_pos hg] at h_; exact Option.some.inj h_
   obtain ⟨rfl, rfl⟩ := Prod.mk.inj hz
   clear hz hg
   have B4 := blk_below BK4c.out HY.out
   have e0 : wc.cell? ⟨g4, 0, none⟩ = some (.int .i64 0) := (blk_cell B4 0).trans rfl
   have e1 : wc.cell? ⟨g4, 1, none⟩ = some (.int .i64 0) := (blk_cell B4 1).trans rfl
   have z0 := blk_frozen B4 0
   have z1 := blk_frozen B4 1
   go_wp2
   have P2 := put2_blk B4 (.int .i64 0) (.int .i64 0)
   have rB := put2_below (HBV.out.trans (HY.out.mono (below_size HBV.out))) hg4 (.int .i64 0) (.int .i64 0)
   show bodyPost _ _ _ _ _ (put2 wc g4 (.int .i64 0) (.int .i64 0))
   generalize put2 wc g4 (.int .i64 0) (.int .i64 0) = wz at P2 rB ⊢
   have d0 : wz.cell? ⟨g4, 0, none⟩ = some (.int .i64 0) := (blk_cell P2 0).trans rfl
   have d1 : wz.cell? ⟨g4, 1, none⟩ = some (.int .i64 0) := (blk_cell P2 1).trans rfl
   clear P2 B4
   exact bodyPost_ret (v := .agg #[.int .i64 0, .int .i64 0]) (by simp [results, Try.results22, go_sem, d0, d1]) rfl ⟨rfl, rB⟩
  | false =>
   have HH2 := HH.out
   unfold sketch_CountEqual.f at HH2
   rw [if_neg (by rw [show (⟨v.f0, v.f1, v.f2⟩ : S39) = v from rfl, hg]; simp)] at HH2
   obtain ⟨hv, hv1, HH2a⟩ := Option.bind_eq_some_iff.mp HH2
   obtain ⟨⟨ix, fnd⟩, hv2, HH2b⟩ := Option.bind_eq_some_iff.mp HH2a
   have HHV : Aside0 (value_Hash.f k 3 [v] = some hv) := ⟨hv1⟩
   have HIX := Aside0.mk hv2
   have HH3 := Aside0.mk HH2b
   clear hv1 hv2 HH2 HH2a HH2b hg HH
   go_upto_region 4 with (fail)
   have HYd := Aside0.mk (below_drew1 HY.out)
   refine start_ (n := 11) (S := fun w' => w'.cell? ⟨g2, 0, none⟩ = some (.int .i64 a0) ∧ w'.cell? ⟨g2, 1, none⟩ = some (.int .i64 a1) ∧ w'.cell? ⟨g2, 2, none⟩ = some (.slice A2 l2.length c2) ∧ w'.cell? ⟨g2, 3, none⟩ = some (.bool b3) ∧ w'.cell? ⟨g2, 4, none⟩ = some (.slice A4 l4.length c4) ∧ w'.cell? ⟨g2, 5, none⟩ = some (.slice A5 l5.length c5) ∧ w'.cell? ⟨g2, 6, none⟩ = some (.slice A6 l6.length c6) ∧ w'.cell? ⟨g3, 0, none⟩ = some (.int .i64 v.f0) ∧ w'.cell? ⟨g3, 1, none⟩ = some (.int .i64 v.f1) ∧ w'.cell? ⟨g3, 2, none⟩ = some (.string v.f2)) (ds := []) #[false, false, false, false, false, false, false, false, false, false, false] (by kernel_rfl) rfl rfl (HSB.out _ HYd.out) (fun hHeld => ?_)
   refine with_tabW f22_tab4 f22_bits4 (fun HT_ HW_ => ?_)
   generalize wc.drew = wd at HYd hHeld ⊢
   refine pu_ HT_ 0 (some 55) ?_
   refine tk_ HT_ HW_ 1 (some 56) hHeld ?_
   refine tk_ HT_ HW_ 2 (some 57) hHeld ?_
   refine on_ HT_ 3 (some 58) (fun K hK => ?_)
   refine value_ (w1 := ?_) (v := ?_) (by rfl) rfl ?_ ?_
   rotate_left 2
   ·go_simp
    constructor
    ·rfl
    ·rfl
   have HYa := Aside0.mk (below_alloc HYd.out (.cells #[.int .i64 v.f0, .int .i64 v.f1, .string v.f2] 39))
   refine hK.out _ _ (HSB.out _ HYa.out) (fun hHeld => ?_)
   clear hK K
   refine nm_ (some 58) ?_
   refine on_ HT_ 4 (some 59) (fun K hK => ?_)
   refine gos_ Try.func54 #[.int .u64 3, .slice (some ⟨wd.heap.size, 0, none⟩) 1 1] ?_
   refine (hash1 k v hv HHV.out (heap_alloc_new _ _)).mono ?_
   rintro e w9 ⟨rfl, hb⟩
   refine ⟨_, rfl, ?_⟩
   have HYb := Aside0.mk (HYa.out.trans (hb.mono HYa.out.size))
   clear hb
   refine hK.out _ _ (HSB.out _ HYb.out) (fun hHeld => ?_)
   clear hK K
   refine nm_ (some 59) ?_
   refine on_ HT_ 5 (some 60) (fun K hK => ?_)
   refine gos_ Try.func69 #[.slice A2 l2.length c2, .int .u64 hv] ?_
   refine (slices_BinarySearch_uint64_uint64.calls k A2 c2 l2 hv ix fnd _ (Kd.C_below HR2.out (HBV.out.trans (HYb.out.mono (below_size HBV.out)))) hc2 HIX.out).mono ?_
   rintro e w10 ⟨rfl, nd, rfl⟩
   refine ⟨_, rfl, ?_⟩
   have HYc := Aside0.mk (pw_below_drewN HYb.out nd)
   refine hK.out _ _ (HSB.out _ HYc.out) (fun hHeld => ?_)
   clear hK K
   refine nm_ (some 60) ?_
   refine pu_ HT_ 6 (some 54) ?_
   refine pu_ HT_ 7 (some 61) ?_
   refine pu_ HT_ 8 (some 62) ?_
   refine pu_ HT_ 9 (some 6) ?_
   refine pu_ HT_ 10 (some 7) ?_
   refine done_ (done_of HT_.out (by kernel_rfl)) ?_
   clear HT_ HW_ hHeld
   obtain ⟨qb, hqb⟩ : ∃ b, (b3 && !fnd) = b := ⟨_, rfl⟩
   have HQB := Aside0.mk hqb
   clear hqb
   go_upto_region 5 with (fail)
   generalize w9.drewN nd = w5 at HYc ⊢
   have b3c : w5.cell? ⟨g2, 3, none⟩ = some (.bool b3) := (HSB.out _ HYc.out).2.2.2.1
   go_cut [68] (fun v68 wd => v68 = .bool qb ∧ Aside0 (Below V.heap.size V wd))
   case first =>
    clear HR2 HR4 HR5 HR6 HH3 HSB BK2c
    cases b3 with
    | true =>
     go_wp2
     go_meet
     case rel => exact ⟨by rw [← HQB.out]; rfl, HYc⟩
    | false =>
     go_wp2
     go_meet
     case rel => exact ⟨by rw [← HQB.out]; rfl, HYc⟩
   case rest =>
    obtain ⟨rfl, HYe⟩ := hcut
    clear b3c
    cases qb with
    | true =>
     have hz : (0, 0) = (r1, r2) := by have h_ := HH3.out; rw [if_pos HQB.out] at h_; exact Option.some.inj h_
     obtain ⟨rfl, rfl⟩ := Prod.mk.inj hz
     clear hz HY
     have HY := HYe
     have B4 := blk_below BK4c.out HY.out
     have e0 : wc.cell? ⟨g4, 0, none⟩ = some (.int .i64 0) := (blk_cell B4 0).trans rfl
     have e1 : wc.cell? ⟨g4, 1, none⟩ = some (.int .i64 0) := (blk_cell B4 1).trans rfl
     have z0 := blk_frozen B4 0
     have z1 := blk_frozen B4 1
     go_wp2
     have P2 := put2_blk B4 (.int .i64 0) (.int .i64 0)
     have rB := put2_below (HBV.out.trans (HY.out.mono (below_size HBV.out))) hg4 (.int .i64 0) (.int .i64 0)
     show bodyPost _ _ _ _ _ (put2 wc g4 (.int .i64 0) (.int .i64 0))
     generalize put2 wc g4 (.int .i64 0) (.int .i64 0) = wz at P2 rB ⊢
     have d0 : wz.cell? ⟨g4, 0, none⟩ = some (.int .i64 0) := (blk_cell P2 0).trans rfl
     have d1 : wz.cell? ⟨g4, 1, none⟩ = some (.int .i64 0) := (blk_cell P2 1).trans rfl
     clear P2 B4
     exact bodyPost_ret (v := .agg #[.int .i64 0, .int .i64 0]) (by simp [results, Try.results22, go_sem, d0, d1]) rfl ⟨rfl, rB⟩
    | false =>
     have HH2 := HH3.out
     rw [if_neg (by rw [HQB.out]; simp)] at HH2
     obtain ⟨up, hv1, HH2a⟩ := Option.bind_eq_some_iff.mp HH2
     obtain ⟨lo, hv2, HH2b⟩ := Option.bind_eq_some_iff.mp HH2a
     have HUP := Aside0.mk hv1
     have HLO := Aside0.mk hv2
     cases hpb : partB l5 v with
     | false => rw [if_neg (by rw [show (⟨v.f0, v.f1, v.f2⟩ : S39) = v from rfl, hpb]; simp)] at HH2b; exact absurd HH2b (by simp)
     | true =>
     rw [if_pos hpb] at HH2b
     obtain ⟨low, hv3, HH2c⟩ := Option.bind_eq_some_iff.mp HH2b
     obtain ⟨high, hv4, HH2d⟩ := Option.bind_eq_some_iff.mp HH2c
     obtain ⟨rfl, rfl⟩ := Prod.mk.inj (Option.some.inj HH2d)
     have HLOW : Aside0 (lowS l5 l6 v = some low) := ⟨hv3⟩
     have HHI : Aside0 (minsS k v l4 (wrap64 (up - lo)) 0 4 = some high) := ⟨hv4⟩
     obtain ⟨hlen, hpl⟩ := partB_spec hpb
     have HPL := Aside0.mk hpl
     clear hv1 hv2 hv3 hv4 HH2 HH2a HH2b HH2c HH2d HH3 hpb hpl HQB
     go_upto_region 7 with (fail)
     have HYf := Aside0.mk (below_drew1 HYe.out)
     refine start_ (n := 9) (S := fun w' => w'.cell? ⟨g2, 0, none⟩ = some (.int .i64 a0) ∧ w'.cell? ⟨g2, 1, none⟩ = some (.int .i64 a1) ∧ w'.cell? ⟨g2, 2, none⟩ = some (.slice A2 l2.length c2) ∧ w'.cell? ⟨g2, 3, none⟩ = some (.bool b3) ∧ w'.cell? ⟨g2, 4, none⟩ = some (.slice A4 l4.length c4) ∧ w'.cell? ⟨g2, 5, none⟩ = some (.slice A5 l5.length c5) ∧ w'.cell? ⟨g2, 6, none⟩ = some (.slice A6 l6.length c6) ∧ w'.cell? ⟨g3, 0, none⟩ = some (.int .i64 v.f0) ∧ w'.cell? ⟨g3, 1, none⟩ = some (.int .i64 v.f1) ∧ w'.cell? ⟨g3, 2, none⟩ = some (.string v.f2)) (ds := []) #[false, false, false, false, false, false, false, false, false] (by kernel_rfl) rfl rfl (HSB.out _ HYf.out) (fun hHeld => ?_)
     refine with_tabW f22_tab7 f22_bits7 (fun HT_ HW_ => ?_)
     generalize wc.drew = wd at HYf hHeld ⊢
     refine tk_ HT_ HW_ 0 (some 70) hHeld ?_
     refine tk_ HT_ HW_ 1 (some 71) hHeld ?_
     refine tk_ HT_ HW_ 3 (some 73) hHeld ?_
     refine tk_ HT_ HW_ 4 (some 74) hHeld ?_
     refine on_ HT_ 2 (some 72) (fun K hK => ?_)
     refine gos_ Try.func70 #[.agg #[.int .i64 a0, .int .i64 a1, .slice A2 l2.length c2, .bool b3, .slice A4 l4.length c4, .slice A5 l5.length c5, .slice A6 l6.length c6], .agg #[.int .i64 v.f0, .int .i64 v.f1, .string v.f2], .bool false] ?_
     refine (sketch_upper.calls k a0 a1 A2 c2 l2 b3 A4 c4 l4 A5 c5 l5 A6 c6 l6 v.f0 v.f1 v.f2 false up _ (Kd.C_below HR2.out (HBV.out.trans (HYf.out.mono (below_size HBV.out)))) hc2 (Kd.C_below HR4.out (HBV.out.trans (HYf.out.mono (below_size HBV.out)))) hc4 (Kd.C_below HR5.out (HBV.out.trans (HYf.out.mono (below_size HBV.out)))) hc5 (Kd.C_below HR6.out (HBV.out.trans (HYf.out.mono (below_size HBV.out)))) hc6 HUP.out).mono ?_
     rintro e w9 ⟨rfl, hb⟩
     refine ⟨_, rfl, ?_⟩
     have HYg := Aside0.mk (HYf.out.trans (hb.mono HYf.out.size))
     clear hb
     refine hK.out _ _ (HSB.out _ HYg.out) (fun hHeld => ?_)
     clear hK K
     refine nm_ (some 72) ?_
     refine on_ HT_ 5 (some 75) (fun K hK => ?_)
     refine gos_ Try.func71 #[.agg #[.int .i64 a0, .int .i64 a1, .slice A2 l2.length c2, .bool b3, .slice A4 l4.length c4, .slice A5 l5.length c5, .slice A6 l6.length c6], .agg #[.int .i64 v.f0, .int .i64 v.f1, .string v.f2], .bool false] ?_
     refine (sketch_lower.calls k a0 a1 A2 c2 l2 b3 A4 c4 l4 A5 c5 l5 A6 c6 l6 v.f0 v.f1 v.f2 false lo _ (Kd.C_below HR2.out (HBV.out.trans (HYg.out.mono (below_size HBV.out)))) hc2 (Kd.C_below HR4.out (HBV.out.trans (HYg.out.mono (below_size HBV.out)))) hc4 (Kd.C_below HR5.out (HBV.out.trans (HYg.out.mono (below_size HBV.out)))) hc5 (Kd.C_below HR6.out (HBV.out.trans (HYg.out.mono (below_size HBV.out)))) hc6 HLO.out).mono ?_
     rintro e w10 ⟨rfl, hb⟩
     refine ⟨_, rfl, ?_⟩
     have HYh := Aside0.mk (HYg.out.trans (hb.mono HYg.out.size))
     clear hb
     refine hK.out _ _ (HSB.out _ HYh.out) (fun hHeld => ?_)
     clear hK K
     refine nm_ (some 75) ?_
     refine pu_ HT_ 6 (some 76) ?_
     refine pu_ HT_ 7 (some 8) ?_
     refine pu_ HT_ 8 (some 9) ?_
     refine done_ (done_of HT_.out (by kernel_rfl)) ?_
     clear HT_ HW_ hHeld
     obtain ⟨hb_, hhb⟩ : ∃ x, wrap64 (up - lo) = x := ⟨_, rfl⟩
     rw [hhb] at HHI ⊢
     clear hhb HY HYd HYa HYb HYc HYe HYf HYg
     have hpl := partS_le l5 v
     obtain ⟨p, hp⟩ : ∃ n, partS l5 v = n := ⟨_, rfl⟩
     obtain ⟨fb, hfb⟩ : ∃ b, (decide (p < l5.length) && (cV (rd_T39 l5 (p : Int)) v == 0)) = b := ⟨_, rfl⟩
     rw [hp] at hpl HPL
     have HLW : Aside0 ((if fb then (if 2 * p + 1 < l6.length then some (mx 0 (wrap64 (rd l6 ((2 * p + 1 : Nat) : Int) - rd l6 ((2 * p : Nat) : Int)))) else none) else some 0) = some low) := ⟨by have h_ := HLOW.out; unfold lowS at h_; rw [hp, hfb] at h_; exact h_⟩
     have HFB := Aside0.mk hfb
     clear hp hfb HLOW
     obtain ⟨t0, t1, t2, t3, t4, t5, t6, t7, t8, t9⟩ := HSB.out w10 HYh.out
     go_upto_region 9 with (go_at_call 72; have H72 := f72_calls A5 c5 l5 v w10 (Kd.C_below HR5.out (HBV.out.trans (HYh.out.mono (below_size HBV.out)))) hc5 hlen p hpl HPL.out; rw [HFB.out] at H72; refine H72.mono ?_; clear H72; rintro e w11 ⟨rfl, hb⟩; have HYi := Aside0.mk (HYh.out.trans (hb.mono HYh.out.size)); clear hb t0 t1 t2 t3 t4 t5 t6 t7 t8 t9)
     go_upto_if 84 with (fail)
     go_cut [8] (fun v8 wd => v8 = .int .i64 low ∧ Aside0 (Below V.heap.size V wd))
     case first =>
      cases fb with
      | false =>
       have HLV : Aside0 (0 = low) := ⟨Option.some.inj HLW.out⟩
       go_wp2
       go_meet
       case rel => exact ⟨by rw [← HLV.out], HYi⟩
      | true =>
       have hlw := HLW.out
       rw [if_pos rfl] at hlw
       by_cases h6 : 2 * p + 1 < l6.length
       ·rw [if_pos h6] at hlw
        have HLV := Aside0.mk (Option.some.inj hlw)
        clear hlw
        obtain ⟨m0, hm0⟩ : ∃ m : Nat, 2 * p = m := ⟨_, rfl⟩
        obtain ⟨m1, hm1⟩ : ∃ m : Nat, 2 * p + 1 = m := ⟨_, rfl⟩
        rw [hm1, hm0] at HLV
        obtain ⟨ad6, rfl, hx0⟩ := Kd.at_int HR6.out (m1 : Int) (by omega) (by omega)
        obtain ⟨ad7, e7, hy0⟩ := Kd.at_int HR6.out (m0 : Int) (by omega) (by omega)
        obtain rfl := Option.some.inj e7
        clear e7
        rw [Int.toNat_natCast] at hx0 hy0
        obtain ⟨x, hx⟩ : ∃ x, rd l6 (m1 : Int) = x := ⟨_, rfl⟩
        obtain ⟨y, hy⟩ : ∃ x, rd l6 (m0 : Int) = x := ⟨_, rfl⟩
        rw [hx] at hx0 HLV
        rw [hy] at hy0 HLV
        clear hx hy
        obtain ⟨dd, hdd⟩ : ∃ z, wrap64 (x - y) = z := ⟨_, rfl⟩
        rw [hdd] at HLV
        have hw2a : IntKind.i64.wrap (2 * (p : Int)) = (m0 : Int) := by rw [i64_w]; unfold wrap64; omega
        have hw2b : IntKind.i64.wrap ((m0 : Int) + 1) = (m1 : Int) := by rw [i64_w]; unfold wrap64; omega
        have hw2c : wrap64 (2 * (p : Int)) = (m0 : Int) := by unfold wrap64; omega
        have hw2d : wrap64 ((m0 : Int) + 1) = (m1 : Int) := by unfold wrap64; omega
        have hdA : decide ((m0 : Int) < l6.length) = true := decide_eq_true (by omega)
        have hdB : decide ((m1 : Int) < l6.length) = true := decide_eq_true (by omega)
        have hdC : m0 < l6.length := by omega
        have hdD : m1 < l6.length := by omega
        clear hm0 hm1 h6
        go_upto_region 10 with (fail)
        have HYj := Aside0.mk (below_drew1 HYi.out)
        have HS10 : Aside0 (∀ W, Below V.heap.size V W → (W.cell? ⟨g2, 0, none⟩ = some (.int .i64 a0) ∧ W.cell? ⟨g2, 1, none⟩ = some (.int .i64 a1) ∧ W.cell? ⟨g2, 2, none⟩ = some (.slice A2 l2.length c2) ∧ W.cell? ⟨g2, 3, none⟩ = some (.bool b3) ∧ W.cell? ⟨g2, 4, none⟩ = some (.slice A4 l4.length c4) ∧ W.cell? ⟨g2, 5, none⟩ = some (.slice A5 l5.length c5) ∧ W.cell? ⟨g2, 6, none⟩ = some (.slice (some ad6) l6.length c6) ∧ W.cell? ⟨g3, 0, none⟩ = some (.int .i64 v.f0) ∧ W.cell? ⟨g3, 1, none⟩ = some (.int .i64 v.f1) ∧ W.cell? ⟨g3, 2, none⟩ = some (.string v.f2) ∧ W.cell? (ad6.add m1) = some (.int .i64 x) ∧ W.cell? (ad6.add m0) = some (.int .i64 y))) := ⟨fun W hb => by
         have hbw := HBV.out.trans (hb.mono (below_size HBV.out))
         obtain ⟨t0, t1, t2, t3, t4, t5, t6, t7, t8, t9⟩ := HSB.out W hb
         exact ⟨t0, t1, t2, t3, t4, t5, t6, t7, t8, t9, (hbw.cell (World.block_lt_of_cell? w _ hx0)).trans hx0, (hbw.cell (World.block_lt_of_cell? w _ hy0)).trans hy0⟩⟩
        clear hx0 hy0
        refine start_ (n := 16) (S := fun w' => w'.cell? ⟨g2, 0, none⟩ = some (.int .i64 a0) ∧ w'.cell? ⟨g2, 1, none⟩ = some (.int .i64 a1) ∧ w'.cell? ⟨g2, 2, none⟩ = some (.slice A2 l2.length c2) ∧ w'.cell? ⟨g2, 3, none⟩ = some (.bool b3) ∧ w'.cell? ⟨g2, 4, none⟩ = some (.slice A4 l4.length c4) ∧ w'.cell? ⟨g2, 5, none⟩ = some (.slice A5 l5.length c5) ∧ w'.cell? ⟨g2, 6, none⟩ = some (.slice (some ad6) l6.length c6) ∧ w'.cell? ⟨g3, 0, none⟩ = some (.int .i64 v.f0) ∧ w'.cell? ⟨g3, 1, none⟩ = some (.int .i64 v.f1) ∧ w'.cell? ⟨g3, 2, none⟩ = some (.string v.f2) ∧ w'.cell? (ad6.add m1) = some (.int .i64 x) ∧ w'.cell? (ad6.add m0) = some (.int .i64 y)) (ds := []) #[false, false, false, false, false, false, false, false, false, false, false, false, false, false, false, false] (by kernel_rfl) rfl rfl (HS10.out _ HYj.out) (fun hHeld => ?_)
        refine with_tabW f22_tab10 f22_bits10 (fun HT_ HW_ => ?_)
        generalize w11.drew = wd at HYj hHeld ⊢
        refine pu_ HT_ 0 (some 85) ?_
        refine tk_ HT_ HW_ 1 (some 86) hHeld ?_
        refine pu_ HT_ 2 (some 87) ?_
        refine pu_ HT_ 3 (some 88) ?_
        refine pu_ HT_ 4 (some 89) ?_
        refine tk_ HT_ HW_ 5 (some 90) hHeld ?_
        refine tk_ HT_ HW_ 6 (some 91) hHeld ?_
        refine pu_ HT_ 7 (some 92) ?_
        refine tk_ HT_ HW_ 8 (some 93) hHeld ?_
        refine pu_ HT_ 9 (some 94) ?_
        refine pu_ HT_ 10 (some 95) ?_
        refine tk_ HT_ HW_ 11 (some 96) hHeld ?_
        refine tk_ HT_ HW_ 12 (some 97) hHeld ?_
        refine pu_ HT_ 13 (some 98) ?_
        refine pu_ HT_ 14 (some 99) ?_
        refine pu_ HT_ 15 (some 8) ?_
        refine done_ (done_of HT_.out (by kernel_rfl)) ?_
        clear HT_ HW_ hHeld
        go_wp2
        all_goals (go_meet; case rel => exact ⟨by rw [← HLV.out]; unfold mx; split <;> first | rfl | (exfalso; omega), HYj⟩)
       ·rw [if_neg h6] at hlw
        exact absurd hlw (by simp)
     case rest =>
      obtain ⟨rfl, HYk⟩ := hcut
      clear HYi HYh HLW HFB
      go_wp2
      go_loopg [9, 100] 4 (fun kq v9 v100 w' => ∃ (r : Nat) (hi : Int), v100 = .int .i64 r ∧ v9 = .int .i64 hi ∧ r ≤ 4 ∧ Aside0 (kq + r = 4) ∧ Aside0 (minsS k v l4 hi r kq = some high) ∧ Aside0 (Below V.heap.size V w'))
      case atStart => exact ⟨0, _, rfl, rfl, by omega, ⟨rfl⟩, HHI, HYk⟩
      case round =>
       clear HHI HYk
       obtain ⟨r, hi, rfl, rfl, hr4, HK2, HHI, HYk⟩ := hrel
       by_cases hr : r < 4
       ·cases gk with
        | zero => exact absurd HK2.out (by omega)
        | succ k2 =>
         obtain ⟨cl, hcl, hc0, hc64, hcl4, hmn⟩ := minsS_next HHI.out
         have HCE := Aside0.mk hcl
         have HMN := Aside0.mk hmn
         clear hcl hmn HHI
         have hrd : decide ((r : Int) < 4) = true := decide_eq_true (by omega)
         have hwr : IntKind.i64.wrap ((r : Int) + 1) = ((r + 1 : Nat) : Int) := by rw [i64_w]; unfold wrap64; omega
         obtain ⟨m, hm⟩ : ∃ m : Nat, r * 64 + cl.toNat = m := ⟨_, rfl⟩
         rw [hm] at HMN hcl4
         obtain ⟨m0, hm0⟩ : ∃ m : Nat, r * 64 = m := ⟨_, rfl⟩
         obtain ⟨ad4, rfl, hx0⟩ := Kd.at_int HR4.out (m : Int) (by omega) (by omega)
         rw [Int.toNat_natCast] at hx0
         obtain ⟨x, hx⟩ : ∃ x, rd l4 (m : Int) = x := ⟨_, rfl⟩
         rw [hx] at hx0 HMN
         have hw2a : IntKind.i64.wrap ((r : Int) * 64) = (m0 : Int) := by rw [i64_w]; unfold wrap64; omega
         have hw2b : IntKind.i64.wrap ((m0 : Int) + cl) = (m : Int) := by rw [i64_w]; unfold wrap64; omega
         have hw2c : wrap64 ((r : Int) * 64) = (m0 : Int) := by unfold wrap64; omega
         have hw2d : wrap64 ((m0 : Int) + cl) = (m : Int) := by unfold wrap64; omega
         have hdA : decide ((m : Int) < l4.length) = true := decide_eq_true (by omega)
         clear hx hm hm0
         go_upto_region 14 with (fail)
         have HYj := Aside0.mk (below_drew1 HYk.out)
         have HS14 : Aside0 (∀ W, Below V.heap.size V W → (W.cell? ⟨g2, 0, none⟩ = some (.int .i64 a0) ∧ W.cell? ⟨g2, 1, none⟩ = some (.int .i64 a1) ∧ W.cell? ⟨g2, 2, none⟩ = some (.slice A2 l2.length c2) ∧ W.cell? ⟨g2, 3, none⟩ = some (.bool b3) ∧ W.cell? ⟨g2, 4, none⟩ = some (.slice (some ad4) l4.length c4) ∧ W.cell? ⟨g2, 5, none⟩ = some (.slice A5 l5.length c5) ∧ W.cell? ⟨g2, 6, none⟩ = some (.slice A6 l6.length c6) ∧ W.cell? ⟨g3, 0, none⟩ = some (.int .i64 v.f0) ∧ W.cell? ⟨g3, 1, none⟩ = some (.int .i64 v.f1) ∧ W.cell? ⟨g3, 2, none⟩ = some (.string v.f2) ∧ W.cell? (ad4.add m) = some (.int .i64 x))) := ⟨fun W hb => by
          have hbw := HBV.out.trans (hb.mono (below_size HBV.out))
          obtain ⟨t0, t1, t2, t3, t4, t5, t6, t7, t8, t9⟩ := HSB.out W hb
          exact ⟨t0, t1, t2, t3, t4, t5, t6, t7, t8, t9, (hbw.cell (World.block_lt_of_cell? w _ hx0)).trans hx0⟩⟩
         clear hx0
         refine start_ (n := 13) (S := fun w' => w'.cell? ⟨g2, 0, none⟩ = some (.int .i64 a0) ∧ w'.cell? ⟨g2, 1, none⟩ = some (.int .i64 a1) ∧ w'.cell? ⟨g2, 2, none⟩ = some (.slice A2 l2.length c2) ∧ w'.cell? ⟨g2, 3, none⟩ = some (.bool b3) ∧ w'.cell? ⟨g2, 4, none⟩ = some (.slice (some ad4) l4.length c4) ∧ w'.cell? ⟨g2, 5, none⟩ = some (.slice A5 l5.length c5) ∧ w'.cell? ⟨g2, 6, none⟩ = some (.slice A6 l6.length c6) ∧ w'.cell? ⟨g3, 0, none⟩ = some (.int .i64 v.f0) ∧ w'.cell? ⟨g3, 1, none⟩ = some (.int .i64 v.f1) ∧ w'.cell? ⟨g3, 2, none⟩ = some (.string v.f2) ∧ w'.cell? (ad4.add m) = some (.int .i64 x)) (ds := []) #[false, false, false, false, false, false, false, false, false, false, false, false, false] (by kernel_rfl) rfl rfl (HS14.out _ HYj.out) (fun hHeld => ?_)
         refine with_tabW f22_tab14 f22_bits14 (fun HT_ HW_ => ?_)
         generalize wr.drew = wd at HYj hHeld ⊢
         refine pu_ HT_ 0 (some 103) ?_
         refine pu_ HT_ 1 (some 104) ?_
         refine tk_ HT_ HW_ 2 (some 105) hHeld ?_
         refine pu_ HT_ 3 (some 106) ?_
         refine pu_ HT_ 4 (some 107) ?_
         refine pu_ HT_ 5 (some 108) ?_
         refine tk_ HT_ HW_ 6 (some 109) hHeld ?_
         refine on_ HT_ 7 (some 110) (fun K hK => ?_)
         refine gos_ Try.func55 #[.int .i64 (r : Int), .agg #[.int .i64 v.f0, .int .i64 v.f1, .string v.f2]] ?_
         refine (sketch_cell.calls k r v.f0 v.f1 v.f2 cl _ HCE.out).mono ?_
         rintro e w9 ⟨rfl, hb⟩
         refine ⟨_, rfl, ?_⟩
         have HYl := Aside0.mk (HYj.out.trans (hb.mono HYj.out.size))
         clear hb
         refine hK.out _ _ (HS14.out _ HYl.out) (fun hHeld => ?_)
         clear hK K
         refine nm_ (some 110) ?_
         refine pu_ HT_ 8 (some 111) ?_
         refine tk_ HT_ HW_ 9 (some 112) hHeld ?_
         refine tk_ HT_ HW_ 10 (some 113) hHeld ?_
         refine pu_ HT_ 11 (some 114) ?_
         refine pu_ HT_ 12 (some 9) ?_
         refine done_ (done_of HT_.out (by kernel_rfl)) ?_
         clear HT_ HW_ hHeld
         go_wp2
         all_goals (go_roundg k2; (case measure => omega); (case rel => exact ⟨r + 1, mn hi x, int_eq (by omega), by unfold mn; split <;> first | rfl | (exfalso; omega), by omega, ⟨by have := HK2.out; omega⟩, HMN, HYl⟩))
       ·obtain rfl : r = 4 := by omega
        cases gk with
        | succ k2 => exact absurd HK2.out (by omega)
        | zero =>
         obtain rfl : hi = high := Option.some.inj HHI.out
         have hrd : decide ((4 : Int) < 4) = false := rfl
         have HY := HYk
         clear HYk HHI
         have B4 := blk_below BK4c.out HY.out
         go_wp2_with (go_at_call 73; refine (sketch_span.calls low hi low hi _ rfl).mono ?_; rintro e w9 ⟨rfl, hb⟩; have HYz := Aside0.mk (HY.out.trans (hb.mono HY.out.size)); have B5 := blk_below BK4c.out HYz.out; have e0 : w9.cell? ⟨g4, 0, none⟩ = some (.int .i64 0) := (blk_cell B5 0).trans rfl; have e1 : w9.cell? ⟨g4, 1, none⟩ = some (.int .i64 0) := (blk_cell B5 1).trans rfl; have z0 := blk_frozen B5 0; have z1 := blk_frozen B5 1; clear hb)
         have P2 := put2_blk B5 (.int .i64 low) (.int .i64 hi)
         have rB := put2_below (HBV.out.trans (HYz.out.mono (below_size HBV.out))) hg4 (.int .i64 low) (.int .i64 hi)
         show bodyPost _ _ _ _ _ (put2 w9 g4 (.int .i64 low) (.int .i64 hi))
         generalize put2 w9 g4 (.int .i64 low) (.int .i64 hi) = wz at P2 rB ⊢
         have d0 : wz.cell? ⟨g4, 0, none⟩ = some (.int .i64 low) := (blk_cell P2 0).trans rfl
         have d1 : wz.cell? ⟨g4, 1, none⟩ = some (.int .i64 hi) := (blk_cell P2 1).trans rfl
         clear P2 B4
         exact bodyPost_ret (v := .agg #[.int .i64 low, .int .i64 hi]) (by simp [results, Try.results22, go_sem, d0, d1]) rfl ⟨rfl, rB⟩
end Go.Proofs.Ytackcingpffidaa.P
