/- What Go functions of the given program return, told as Lean functions, and the walks that show it, with plain facts on them: B22, U9, HD, HA, H10, varint_Encode, varint_ZigZag, value_Encode, V0, YA, YB, YC, YE, YF, V1, V2. Conditions: the hypotheses that stand at each theorem. -/
import Derived.Laws.BitsAllLaws
import Derived.Lib.Zigzag
import Derived.Test.YtackcingpffidaaZd0
import Derived.Test.YtackcingpffidaaZd1
import Derived.Test.YtackcingpffidaaZd2
import Derived.Test.YtackcingpffidaaZd3
import Derived.Test.YtackcingpffidaaZd8
import Derived.Test.YtackcingpffidaaZd9
import Derived.Test.YtackcingpffidaaZd10
import Derived.Test.YtackcingpffidaaZd11
namespace Go.Proofs.Ytackcingpffidaa.P
open Go.RowKit Go.Proofs.YtackcingpffidaaW.PrintWords Go.Proofs.YtackcingpffidaaW.PrintLast Go.Proofs.YtackcingpffidaaW.PrintMore
set_option linter.unusedVariables false
theorem sketch_CountEqual.calls (k : Nat) (a0_0 : Int) (a0_1 : Int) (A0_2 : Option Addr) (c0_2 : Nat) (l0_2 : List Int) (a0_3 : Bool) (A0_4 : Option Addr) (c0_4 : Nat) (l0_4 : List Int) (A0_5 : Option Addr) (c0_5 : Nat) (l0_5 : List (S39)) (A0_6 : Option Addr) (c0_6 : Nat) (l0_6 : List Int) (a1_0 : Int) (a1_1 : Int) (a1_2 : ByteArray) (r1 : Int) (r2 : Int) (w : World) (hr0_2 : Kd.C (Kd.int .u64) w A0_2 l0_2.length l0_2) (hc0_2 : l0_2.length ≤ c0_2) (hr0_4 : Kd.C (Kd.int .i64) w A0_4 l0_4.length l0_4) (hc0_4 : l0_4.length ≤ c0_4) (hr0_5 : Kd.C k39 w A0_5 l0_5.length l0_5) (hc0_5 : l0_5.length ≤ c0_5) (hr0_6 : Kd.C (Kd.int .i64) w A0_6 l0_6.length l0_6) (hc0_6 : l0_6.length ≤ c0_6) (h : sketch_CountEqual.f k a0_0 a0_1 l0_2 a0_3 l0_4 l0_5 l0_6 a1_0 a1_1 a1_2 = some (r1, r2)) :
  Calls Try.prog 22 #[.agg #[.int .i64 a0_0, .int .i64 a0_1, .slice A0_2 l0_2.length c0_2, .bool a0_3, .slice A0_4 l0_4.length c0_4, .slice A0_5 l0_5.length c0_5, .slice A0_6 l0_6.length c0_6], .agg #[.int .i64 a1_0, .int .i64 a1_1, .string a1_2]] w fun e w' => e = .returned (.agg #[.int .i64 r1, .int .i64 r2]) ∧ Below w.heap.size w w' :=
 f22_calls k a0_0 a0_1 A0_2 c0_2 l0_2 a0_3 A0_4 c0_4 l0_4 A0_5 c0_5 l0_5 A0_6 c0_6 l0_6 ⟨a1_0, a1_1, a1_2⟩ r1 r2 w hr0_2 hc0_2 hr0_4 hc0_4 hr0_5 hc0_5 hr0_6 hc0_6 h
/-- The last fence's number above the first one's. -/
def gapS (F : List S39) : Int := IntKind.u64.wrap (IntKind.u64.wrap (rd_T39 F ((F.length : Int) - 1)).f1 - IntKind.u64.wrap (rd_T39 F 0).f1)
def lowD (M : List Int) (c : Bool) : Int := if c then (M.length : Int) else wrap64 ((M.length : Int) + 1)
def gapB (F : List S39) (n : Int) : Bool := decide (0 < F.length) && (rd_T39 F 0).f0 != 3 && decide (gapS F < IntKind.u64.wrap n)
def sketch_CountDistinct.f (k : Nat) (a0_0 : Int) (a0_1 : Int) (l0_2 : List Int) (a0_3 : Bool) (l0_4 : List Int) (l0_5 : List (S39)) (l0_6 : List Int) : Option (Int × Int) :=
 some (lowD l0_2 a0_3, if gapB l0_5 (wrap64 (a0_0 - a0_1)) then mn (wrap64 (a0_0 - a0_1)) (wrap64 (wrap64 (gapS l0_5) + 1)) else wrap64 (a0_0 - a0_1))
def laminaref16_CountDistinct.f (k : Nat) (a0_0 : Int) (a0_1 : Int) (l0_2 : List Int) (a0_3 : Bool) (l0_4 : List Int) (l0_5 : List (S39)) (l0_6 : List Int) : Option (Int × Int) :=
 some (lowD l0_2 a0_3, if gapB l0_5 (wrap64 (a0_0 - a0_1)) then wrap64 (wrap64 (gapS l0_5) + 1) else wrap64 (a0_0 - a0_1))
theorem sketch_CountDistinct.mono : ∀ a0 a1 a2 a3 a4 a5 a6 k, LeO (sketch_CountDistinct.f k a0 a1 a2 a3 a4 a5 a6) (sketch_CountDistinct.f (k + 1) a0 a1 a2 a3 a4 a5 a6) := fun _ _ _ _ _ _ _ _ => LeO.refl _
theorem laminaref16_CountDistinct.mono : ∀ a0 a1 a2 a3 a4 a5 a6 k, LeO (laminaref16_CountDistinct.f k a0 a1 a2 a3 a4 a5 a6) (laminaref16_CountDistinct.f (k + 1) a0 a1 a2 a3 a4 a5 a6) := fun _ _ _ _ _ _ _ _ => LeO.refl _
end Go.Proofs.Ytackcingpffidaa.P
namespace Go.Proofs.Ytackcingpffidaa.P
open Go.RowKit Go.Proofs.YtackcingpffidaaW.PrintWords Go.Proofs.YtackcingpffidaaW.PrintLast Go.Proofs.YtackcingpffidaaW.PrintMore
attribute [local go_sem] max2_int min2_int max_two min_two
set_option linter.unusedVariables false
set_option linter.unusedSimpArgs false
def f28_T1 : Bool × List (List Nat × List Nat) := (true, [([], []), ([0], [0]), ([1], [1]), ([], []), ([3], [3]), ([2, 4, 4], [2, 4]), ([], []), ([6, 5, 5, 0, 1, 2, 3, 4, 5, 6], [5, 6])])
def f28_B1 : List Nat := [0, 1, 3, 0, 8, 31, 0, 127]
set_option maxRecDepth 100000 in
theorem f28_tab1 : rtab .any (opsOf Try.f28 1) = f28_T1 := by kernel_rfl
theorem f28_bits1 : waitsOk f28_T1.2 f28_B1 = true := by kernel_rfl
def f28_T6 : Bool × List (List Nat × List Nat) := (true, [([], []), ([0], [0]), ([], []), ([2], [2]), ([1, 3], [1, 3]), ([4], [4]), ([5], [5]), ([6], [6]), ([], []), ([8], [8]), ([9], [9]), ([10], [10]), ([11], [11]), ([12], [12]), ([7, 13], [7, 13]), ([14, 0, 1, 2, 3, 4, 5, 6, 7, 8, 9, 10, 11, 12, 13, 14], [14])])
def f28_B6 : List Nat := [0, 1, 0, 4, 15, 31, 63, 127, 0, 256, 768, 1792, 3840, 7936, 16383, 32767]
set_option maxRecDepth 100000 in
theorem f28_tab6 : rtab .any (opsOf Try.f28 6) = f28_T6 := by kernel_rfl
theorem f28_bits6 : waitsOk f28_T6.2 f28_B6 = true := by kernel_rfl
set_option maxHeartbeats 8000000 in
set_option maxRecDepth 100000 in
theorem sketch_CountDistinct.calls0 (k : Nat) (a0 a1 : Int) (A2 : Option Addr) (c2 : Nat) (l2 : List Int) (b3 : Bool) (A4 : Option Addr) (c4 : Nat) (l4 : List Int) (A5 : Option Addr) (c5 : Nat) (l5 : List S39) (A6 : Option Addr) (c6 : Nat) (l6 : List Int) (lo hi : Int) (w : World) (hr2 : Kd.C (Kd.int .u64) w A2 l2.length l2) (hc2 : l2.length ≤ c2) (hr4 : Kd.C (Kd.int .i64) w A4 l4.length l4) (hc4 : l4.length ≤ c4) (hr5 : Kd.C k39 w A5 l5.length l5) (hc5 : l5.length ≤ c5) (hr6 : Kd.C (Kd.int .i64) w A6 l6.length l6) (hc6 : l6.length ≤ c6) (h : sketch_CountDistinct.f k a0 a1 l2 b3 l4 l5 l6 = some (lo, hi)) :
  Calls Try.prog 28 #[.agg #[.int .i64 a0, .int .i64 a1, .slice A2 l2.length c2, .bool b3, .slice A4 l4.length c4, .slice A5 l5.length c5, .slice A6 l6.length c6]] w fun e w' => e = .returned (.agg #[.int .i64 lo, .int .i64 hi]) ∧ Below w.heap.size w w' := by
 have HKw : SK w A2 c2 l2 A4 c4 l4 A5 c5 l5 A6 c6 l6 := ⟨hr2, hc2, hr4, hc4, hr5, hc5, hr6, hc6⟩
 have HR5 := Aside0.mk hr5
 have hl2 : l2.length ≤ 9223372036854775807 := hr2.2.1
 have hl5 : l5.length ≤ 9223372036854775807 := hr5.2.1
 replace HKw := Aside0.mk HKw
 unfold sketch_CountDistinct.f at h
 obtain ⟨n, hn⟩ : ∃ n, wrap64 (a0 - a1) = n := ⟨_, rfl⟩
 rw [hn] at h
 obtain ⟨hlo, hhi⟩ := Prod.mk.inj (Option.some.inj h)
 have HLO := Aside0.mk hlo
 have HHI := Aside0.mk hhi
 have HN : Aside0 (sketch_count.f a0 a1 l2 b3 l4 l5 l6 = some n) := ⟨by unfold sketch_count.f; rw [hn]⟩
 clear hr2 hr4 hr5 hr6 h hn hlo hhi
 go_enter Try.func28, Try.ntmps28
 go_upto_region 1 with (refine box_ 1 (cs := #[.int .i64 a0, .int .i64 a1, .slice A2 l2.length c2, .bool b3, .slice A4 l4.length c4, .slice A5 l5.length c5, .slice A6 l6.length c6]) (t := 26) (fun g2 hg_ w1 BK2 HB => ?_); clear hg_; replace BK2 := Aside0.mk BK2; replace HB := Aside0.mk HB)
 replace BK2 := Aside0.mk (blk_alloc BK2.out (.cells #[.int .i64 0, .int .i64 0] 44))
 have BK4 := Aside0.mk (heap_alloc_new w1 (.cells #[.int .i64 0, .int .i64 0] 44))
 have HBV := Aside0.mk (below_alloc HB.out (.cells #[.int .i64 0, .int .i64 0] 44))
 have hg4 : w.heap.size ≤ w1.heap.size := below_size HB.out
 obtain ⟨V, hV⟩ : ∃ V, w1.alloc (.cells #[.int .i64 0, .int .i64 0] 44) = V := ⟨_, rfl⟩
 rw [hV] at BK2 BK4 HBV ⊢
 clear hV HB
 generalize w1.heap.size = g4 at *
 clear w1
 have HS : Aside0 (∀ W, Below V.heap.size V W → sk7 g2 a0 a1 A2 c2 l2 b3 A4 c4 l4 A5 c5 l5 A6 c6 l6 W (True)) := ⟨fun W hb => sk7_of (blk_below BK2.out hb) trivial⟩
 have HK : Aside0 (∀ W, Below V.heap.size V W → SK W A2 c2 l2 A4 c4 l4 A5 c5 l5 A6 c6 l6) := ⟨fun W hb => HKw.out.below (HBV.out.trans (hb.mono (below_size HBV.out)))⟩
 clear BK2 HKw
 have HY := Aside0.mk (below_drew1 (Below.refl V.heap.size V))
 refine start_ (n := 8) (S := fun W => sk7 g2 a0 a1 A2 c2 l2 b3 A4 c4 l4 A5 c5 l5 A6 c6 l6 W (True)) (ds := []) #[false, false, false, false, false, false, false, false] (by kernel_rfl) rfl rfl (HS.out _ HY.out) (fun hHeld => ?_)
 refine with_tabW f28_tab1 f28_bits1 (fun HT_ HW_ => ?_)
 generalize V.drew = wd at HY hHeld ⊢
 refine pu_ HT_ 0 (some 6) ?_
 refine tk_ HT_ HW_ 1 (some 7) hHeld ?_
 refine pu_ HT_ 2 (some 8) ?_
 refine tk_ HT_ HW_ 3 (some 9) hHeld ?_
 refine join_ (σ := Nat) 1 #[true, true, true, true, true, true, true, false] (fun s_ => [(10, .int .i64 n), (11, .agg #[.int .i64 (l2.length : Int), .int .i64 n]), (3, .pointer (some ⟨s_, 0, none⟩))]) (fun s_ W => sk7 g2 a0 a1 A2 c2 l2 b3 A4 c4 l4 A5 c5 l5 A6 c6 l6 W (True) ∧ W.heap[s_]? = some (.cells #[.int .i64 0, .int .i64 0] 44 (0, 0)) ∧ V.heap.size ≤ s_ ∧ Below V.heap.size V W) ?_ ?_
 rotate_left
 ·intro hCont
  refine tw_ HT_ 4 6 (some 10) (some 3) (fun K hK => ?_) (fun K hK => ?_)
  ·refine ck_ hK Try.func66 (un8 (sketch_count.calls a0 a1 _ _ _ _ _ _ _ _ _ _ _ _ _ n _) (HK.out _ HY.out) HN.out) HY HS (fun w9 HY hb hHeld => ?_)
   clear hb
   refine tw_ HT_ 5 6 (some 11) (some 3) (fun K hK => ?_) (fun K hK => ?_)
   ·refine ck_ hK Try.func73 (sketch_span.calls (l2.length : Int) n (l2.length : Int) n _ rfl) HY HS (fun w9 HY hb hHeld => ?_)
    clear hb
    refine al_ HT_ 6 3 #[.int .i64 0, .int .i64 0] 44 HY HS (fun g8 w9 hgx hg8 BG HY hb hHeld => ?_)
    clear hgx hb
    exact pl_ (hCont g8 _ ⟨hHeld, BG.out, hg8.out, HY.out⟩)
   ·refine ak_ hK 3 #[.int .i64 0, .int .i64 0] 44 HY HS (fun g8 w9 hgx hg8 BG HY hb hHeld => ?_)
    clear hgx hb
    refine on_ HT_ 5 (some 11) (fun K hK => ?_)
    refine ck_ hK Try.func73 (sketch_span.calls (l2.length : Int) n (l2.length : Int) n _ rfl) HY HS (fun w9 HY hb hHeld => ?_)
    replace BG := Aside0.mk (blk_below BG.out hb)
    clear hb
    exact pl_ (hCont g8 _ ⟨hHeld, BG.out, hg8.out, HY.out⟩)
  ·refine ak_ hK 3 #[.int .i64 0, .int .i64 0] 44 HY HS (fun g8 w9 hgx hg8 BG HY hb hHeld => ?_)
   clear hgx hb
   refine on_ HT_ 4 (some 10) (fun K hK => ?_)
   refine ck_ hK Try.func66 (un8 (sketch_count.calls a0 a1 _ _ _ _ _ _ _ _ _ _ _ _ _ n _) (HK.out _ HY.out) HN.out) HY HS (fun w9 HY hb hHeld => ?_)
   replace BG := Aside0.mk (blk_below BG.out hb)
   clear hb
   refine on_ HT_ 5 (some 11) (fun K hK => ?_)
   refine ck_ hK Try.func73 (sketch_span.calls (l2.length : Int) n (l2.length : Int) n _ rfl) HY HS (fun w9 HY hb hHeld => ?_)
   replace BG := Aside0.mk (blk_below BG.out hb)
   clear hb
   exact pl_ (hCont g8 _ ⟨hHeld, BG.out, hg8.out, HY.out⟩)
 rintro g8 w3 ⟨hHeld, BG, hg8, hy⟩
 clear HY
 replace BG := Aside0.mk BG
 have HY := Aside0.mk hy
 clear hy
 refine pr_ ?_
 obtain ⟨e0, e1, z0, z1⟩ := bf2 BG.out
 replace BG := Aside0.mk (put2_blk BG.out (.int .i64 (l2.length : Int)) (.int .i64 n))
 replace HY := Aside0.mk (put2_below HY.out hg8 (.int .i64 (l2.length : Int)) (.int .i64 n))
 refine st_ HT_ 7 (put2 w3 g8 (.int .i64 (l2.length : Int)) (.int .i64 n)) ?_ (HS.out _ HY.out) (fun hHeld => ?_)
 ·unfold put2
  go_simp
 clear e0 e1 z0 z1
 generalize put2 w3 g8 (.int .i64 (l2.length : Int)) (.int .i64 n) = U at BG HY hHeld ⊢
 refine done_ (done_of HT_.out (by kernel_rfl)) ?_
 clear HT_ HW_ hHeld
 replace HLO : Aside0 ((if b3 then (l2.length : Int) else wrap64 ((l2.length : Int) + 1)) = lo) := HLO
 generalize (l2.length : Int) = L at HLO BG ⊢
 clear hl2
 obtain ⟨t0, t1, t2, t3, t4, t5, t6, _⟩ := HS.out U HY.out
 go_upto_if 14 with (fail)
 clear t0 t1 t2 t3 t4 t5 t6
 go_cut [3] (fun v3 W => v3 = .pointer (some ⟨g8, 0, none⟩) ∧ Aside0 (W.heap[g8]? = some (.cells #[.int .i64 lo, .int .i64 n] 44 (0, 0))) ∧ Aside0 (Below V.heap.size V W))
 case first =>
  obtain ⟨t0, t1, t2, t3, t4, t5, t6, _⟩ := HS.out U HY.out
  obtain ⟨e0, e1, z0, z1⟩ := bf2 BG.out
  cases b3 with
  | true =>
   obtain rfl : L = lo := HLO.out
   go_wp2
   go_meet
   case rel => exact ⟨rfl, BG, HY⟩
  | false =>
   have HL2 : Aside0 (wrap64 (L + 1) = lo) := ⟨by have h_ := HLO.out; rwa [if_neg (by decide)] at h_⟩
   go_wp2
   go_meet
   case rel => exact ⟨rfl, ⟨blk_put (cs' := #[.int .i64 lo, .int .i64 n]) BG.out 0 _ (by rw [HL2.out]; rfl)⟩, ⟨HY.out.setCell (p := ⟨g8, 0, none⟩) hg8 _⟩⟩
 case rest =>
 clear BG HY HLO
 obtain ⟨rfl, BG, HY⟩ := hcut
 obtain ⟨e0, e1, z0, z1⟩ := bf2 BG.out
 obtain ⟨t0, t1, t2, t3, t4, t5, t6, _⟩ := HS.out wc HY.out
 by_cases h0 : l5.length = 0
 ·have hd0 : decide ((0 : Int) < l5.length) = false := decide_eq_false (by omega)
  obtain rfl : n = hi := by have h_ := HHI.out; unfold gapB at h_; rwa [show decide (0 < l5.length) = false from decide_eq_false (by omega), Bool.false_and, Bool.false_and, if_neg (by decide)] at h_
  obtain ⟨f0, f1⟩ := bc2 BG.out
  have B4 := blk_below BK4.out HY.out
  obtain ⟨q0, q1, y0, y1⟩ := bf2 B4
  go_wp2
  refine ret2_ (p := fun W => bodyPost _ _ _ _ _ W) B4 (HBV.out.trans (HY.out.mono (below_size HBV.out))) hg4 (.int .i64 lo) (.int .i64 n) (fun W d0 d1 rB => ?_)
  exact bodyPost_ret (v := .agg #[.int .i64 lo, .int .i64 n]) (by simp [results, Try.results28, go_sem, d0, d1]) rfl ⟨rfl, rB⟩
 have hd0 : decide ((0 : Int) < l5.length) = true := decide_eq_true (by omega)
 have hd1 : decide ((l5.length : Int) ≤ 0) = false := decide_eq_false (by omega)
 have hd2 : decide (0 < l5.length) = true := decide_eq_true (by omega)
 have hln : 0 < l5.length := by omega
 obtain ⟨ad, rfl, hx0, hx1, _⟩ := at_T39 HR5.out 0 (by omega) (by omega)
 obtain ⟨ad1, e1, _, hy1, _⟩ := at_T39 HR5.out ((l5.length - 1 : Nat) : Int) (by omega) (by omega)
 obtain rfl := Option.some.inj e1
 clear e1
 rw [Int.toNat_natCast] at hy1
 obtain ⟨x, hxx⟩ : ∃ x, rd_T39 l5 0 = x := ⟨_, rfl⟩
 obtain ⟨y, hyy⟩ : ∃ x, rd_T39 l5 ((l5.length - 1 : Nat) : Int) = x := ⟨_, rfl⟩
 rw [hxx] at hx0 hx1
 rw [hyy] at hy1
 obtain ⟨d, hd⟩ : ∃ d, IntKind.u64.wrap (IntKind.u64.wrap y.f1 - IntKind.u64.wrap x.f1) = d := ⟨_, rfl⟩
 have hgap : gapS l5 = d := by unfold gapS; rw [show (l5.length : Int) - 1 = ((l5.length - 1 : Nat) : Int) from by omega, hyy, hxx, hd]
 have hgb : gapB l5 n = (x.f0 != 3 && decide (d < IntKind.u64.wrap n)) := by unfold gapB; rw [hgap, hxx, hd2, Bool.true_and]
 have hh := HHI.out
 rw [hgb, hgap] at hh
 have HH2 := Aside0.mk hh
 have HDD := Aside0.mk hd
 have hwn : IntKind.i64.wrap ((l5.length : Int) - 1) = ((l5.length - 1 : Nat) : Int) := by rw [i64_w]; unfold wrap64; omega
 have hfn : decide (((l5.length - 1 : Nat) : Int) < l5.length) = true := decide_eq_true (by omega)
 have hfn2 : decide ((l5.length : Int) ≤ ((l5.length - 1 : Nat) : Int)) = false := decide_eq_false (by omega)
 have hfn3 : l5.length - 1 < l5.length := by omega
 have HSX : Aside0 (∀ W, Below V.heap.size V W → sk7 g2 a0 a1 A2 c2 l2 b3 A4 c4 l4 (some ad) c5 l5 A6 c6 l6 W (W.cell? ⟨ad.block, ad.off + 1, none⟩ = some (.int .i64 x.f1) ∧ W.cell? ⟨(ad.add ((l5.length - 1) * 3)).block, (ad.add ((l5.length - 1) * 3)).off + 1, none⟩ = some (.int .i64 y.f1))) := ⟨fun W hb => by
  obtain ⟨t0, t1, t2, t3, t4, t5, t6, _⟩ := HS.out W hb
  have hbw := HBV.out.trans (hb.mono (below_size HBV.out))
  exact ⟨t0, t1, t2, t3, t4, t5, t6, by simpa [Addr.add] using up_ hbw hx1, up_ hbw hy1⟩⟩
 replace hx0 := up_ (HBV.out.trans (HY.out.mono (below_size HBV.out))) hx0
 have hx0' : wc.cell? ad = some (.int .i64 x.f0) := by simpa [Addr.add] using hx0
 clear hxx hyy hgap hgb hh hx0 hx1 hy1 hd2 h0 hd
 obtain ⟨b3_, hb3⟩ : ∃ b, (x.f0 != 3) = b := ⟨_, rfl⟩
 cases b3_ with
 | false =>
  obtain rfl : n = hi := by have h_ := HH2.out; rwa [hb3, Bool.false_and, if_neg (by decide)] at h_
  obtain ⟨f0, f1⟩ := bc2 BG.out
  have B4 := blk_below BK4.out HY.out
  obtain ⟨q0, q1, y0, y1⟩ := bf2 B4
  go_wp2
  refine ret2_ (p := fun W => bodyPost _ _ _ _ _ W) B4 (HBV.out.trans (HY.out.mono (below_size HBV.out))) hg4 (.int .i64 lo) (.int .i64 n) (fun W d0 d1 rB => ?_)
  exact bodyPost_ret (v := .agg #[.int .i64 lo, .int .i64 n]) (by simp [results, Try.results28, go_sem, d0, d1]) rfl ⟨rfl, rB⟩
 | true =>
 go_upto_region 6 with (fail)
 clear t0 t1 t2 t3 t4 t5 t6 hx0'
 replace HY := Aside0.mk (below_drew1 HY.out)
 replace BG := Aside0.mk (blk_drew BG.out)
 clear e0 e1 z0 z1
 refine start_ (n := 16) (S := fun W => sk7 g2 a0 a1 A2 c2 l2 b3 A4 c4 l4 (some ad) c5 l5 A6 c6 l6 W (W.cell? ⟨ad.block, ad.off + 1, none⟩ = some (.int .i64 x.f1) ∧ W.cell? ⟨(ad.add ((l5.length - 1) * 3)).block, (ad.add ((l5.length - 1) * 3)).off + 1, none⟩ = some (.int .i64 y.f1))) (ds := []) #[false, false, false, false, false, false, false, false, false, false, false, false, false, false, false, false] (by kernel_rfl) rfl rfl (HSX.out _ HY.out) (fun hHeld => ?_)
 refine with_tabW f28_tab6 f28_bits6 (fun HT_ HW_ => ?_)
 generalize wc.drew = wg at BG HY hHeld ⊢
 refine pu_ HT_ 0 (some 32) ?_
 refine tk_ HT_ HW_ 1 (some 33) hHeld ?_
 refine pu_ HT_ 2 (some 34) ?_
 refine pu_ HT_ 3 (some 35) ?_
 refine tk_ HT_ HW_ 4 (some 36) hHeld ?_
 refine pu_ HT_ 5 (some 37) ?_
 refine tk_ HT_ HW_ 6 (some 38) hHeld ?_
 refine pu_ HT_ 7 (some 39) ?_
 refine pu_ HT_ 8 (some 40) ?_
 refine tk_ HT_ HW_ 9 (some 41) hHeld ?_
 refine tk_ HT_ HW_ 10 (some 42) hHeld ?_
 refine pu_ HT_ 11 (some 43) ?_
 refine tk_ HT_ HW_ 12 (some 44) hHeld ?_
 refine pu_ HT_ 13 (some 45) ?_
 refine pu_ HT_ 14 (some 46) ?_
 refine pu_ HT_ 15 (some 5) ?_
 refine done_ (done_of HT_.out (by kernel_rfl)) ?_
 clear HT_ HW_ hHeld
 rw [HDD.out]
 clear hd0 hd1 hwn hfn hfn2 hfn3
 by_cases hlt : d < IntKind.u64.wrap n
 ·have hdl : decide (d < IntKind.u64.wrap n) = true := decide_eq_true hlt
  have hh := HH2.out
  rw [hb3, hdl, if_pos (by decide)] at hh
  have HH3 : Aside0 (mn n (wrap64 (wrap64 d + 1)) = hi) := ⟨hh⟩
  clear hlt hh
  obtain ⟨t0, t1, t2, t3, t4, t5, t6, _⟩ := HS.out wg HY.out
  obtain ⟨e0, e1, z0, z1⟩ := bf2 BG.out
  by_cases hm : (wrap64 (wrap64 d + 1)) < n
  ·have hmb : decide ((wrap64 (wrap64 d + 1)) < n) = true := decide_eq_true hm
   obtain rfl : (wrap64 (wrap64 d + 1)) = hi := by rw [← HH3.out]; unfold mn; rw [if_pos hm]
   go_upto_region 9 with (fail)
   replace BG := Aside0.mk (blk_put (cs' := #[.int .i64 lo, .int .i64 (wrap64 (wrap64 d + 1))]) BG.out 1 (.int .i64 (wrap64 (wrap64 d + 1))) rfl)
   replace HY := Aside0.mk (HY.out.setCell (p := ⟨g8, 1, none⟩) hg8 (.int .i64 (wrap64 (wrap64 d + 1))))
   clear e0 e1 z0 z1 t0 t1 t2 t3 t4 t5 t6
   generalize wg.setCell ⟨g8, 1, none⟩ (.int .i64 (wrap64 (wrap64 d + 1))) = Y at BG HY ⊢
   obtain ⟨f0, f1⟩ := bc2 BG.out
   have B4 := blk_below BK4.out HY.out
   obtain ⟨q0, q1, y0, y1⟩ := bf2 B4
   go_wp2
   refine ret2_ (p := fun W => bodyPost _ _ _ _ _ W) B4 (HBV.out.trans (HY.out.mono (below_size HBV.out))) hg4 (.int .i64 lo) (.int .i64 (wrap64 (wrap64 d + 1))) (fun W d0 d1 rB => ?_)
   exact bodyPost_ret (v := .agg #[.int .i64 lo, .int .i64 (wrap64 (wrap64 d + 1))]) (by simp [results, Try.results28, go_sem, d0, d1]) rfl ⟨rfl, rB⟩
  ·have hmb : decide ((wrap64 (wrap64 d + 1)) < n) = false := decide_eq_false hm
   obtain rfl : n = hi := by rw [← HH3.out]; unfold mn; rw [if_neg hm]
   go_upto_region 9 with (fail)
   replace BG := Aside0.mk (blk_put (cs' := #[.int .i64 lo, .int .i64 n]) BG.out 1 (.int .i64 n) rfl)
   replace HY := Aside0.mk (HY.out.setCell (p := ⟨g8, 1, none⟩) hg8 (.int .i64 n))
   clear e0 e1 z0 z1 t0 t1 t2 t3 t4 t5 t6
   generalize wg.setCell ⟨g8, 1, none⟩ (.int .i64 n) = Y at BG HY ⊢
   obtain ⟨f0, f1⟩ := bc2 BG.out
   have B4 := blk_below BK4.out HY.out
   obtain ⟨q0, q1, y0, y1⟩ := bf2 B4
   go_wp2
   refine ret2_ (p := fun W => bodyPost _ _ _ _ _ W) B4 (HBV.out.trans (HY.out.mono (below_size HBV.out))) hg4 (.int .i64 lo) (.int .i64 n) (fun W d0 d1 rB => ?_)
   exact bodyPost_ret (v := .agg #[.int .i64 lo, .int .i64 n]) (by simp [results, Try.results28, go_sem, d0, d1]) rfl ⟨rfl, rB⟩
 ·have hdl : decide (d < IntKind.u64.wrap n) = false := decide_eq_false hlt
  have hh := HH2.out
  rw [hb3, hdl, if_neg (by decide)] at hh
  obtain rfl : n = hi := hh
  clear hlt
  obtain ⟨t0, t1, t2, t3, t4, t5, t6, _⟩ := HS.out wg HY.out
  obtain ⟨f0, f1⟩ := bc2 BG.out
  have B4 := blk_below BK4.out HY.out
  obtain ⟨q0, q1, y0, y1⟩ := bf2 B4
  go_wp2
  refine ret2_ (p := fun W => bodyPost _ _ _ _ _ W) B4 (HBV.out.trans (HY.out.mono (below_size HBV.out))) hg4 (.int .i64 lo) (.int .i64 n) (fun W d0 d1 rB => ?_)
  exact bodyPost_ret (v := .agg #[.int .i64 lo, .int .i64 n]) (by simp [results, Try.results28, go_sem, d0, d1]) rfl ⟨rfl, rB⟩
theorem sketch_CountDistinct.calls (k : Nat) (a0_0 : Int) (a0_1 : Int) (A0_2 : Option Addr) (c0_2 : Nat) (l0_2 : List Int) (a0_3 : Bool) (A0_4 : Option Addr) (c0_4 : Nat) (l0_4 : List Int) (A0_5 : Option Addr) (c0_5 : Nat) (l0_5 : List (S39)) (A0_6 : Option Addr) (c0_6 : Nat) (l0_6 : List Int) (r1 : Int) (r2 : Int) (w : World) (hr0_2 : Kd.C (Kd.int .u64) w A0_2 l0_2.length l0_2) (hc0_2 : l0_2.length ≤ c0_2) (hr0_4 : Kd.C (Kd.int .i64) w A0_4 l0_4.length l0_4) (hc0_4 : l0_4.length ≤ c0_4) (hr0_5 : Kd.C k39 w A0_5 l0_5.length l0_5) (hc0_5 : l0_5.length ≤ c0_5) (hr0_6 : Kd.C (Kd.int .i64) w A0_6 l0_6.length l0_6) (hc0_6 : l0_6.length ≤ c0_6) (h : sketch_CountDistinct.f k a0_0 a0_1 l0_2 a0_3 l0_4 l0_5 l0_6 = some (r1, r2)) :
  Calls Try.prog 28 #[.agg #[.int .i64 a0_0, .int .i64 a0_1, .slice A0_2 l0_2.length c0_2, .bool a0_3, .slice A0_4 l0_4.length c0_4, .slice A0_5 l0_5.length c0_5, .slice A0_6 l0_6.length c0_6]] w fun e w' => e = .returned (.agg #[.int .i64 r1, .int .i64 r2]) ∧ Below w.heap.size w w' :=
 sketch_CountDistinct.calls0 k a0_0 a0_1 A0_2 c0_2 l0_2 a0_3 A0_4 c0_4 l0_4 A0_5 c0_5 l0_5 A0_6 c0_6 l0_6 r1 r2 w hr0_2 hc0_2 hr0_4 hc0_4 hr0_5 hc0_5 hr0_6 hc0_6 h
def f29_T1 : Bool × List (List Nat × List Nat) := (true, [([], []), ([0], [0]), ([1], [1]), ([], []), ([3], [3]), ([2, 4, 0, 1, 2], [2]), ([4, 5, 0, 1, 2, 3, 4, 5], [4])])
def f29_B1 : List Nat := [0, 1, 3, 0, 8, 31, 63]
set_option maxRecDepth 100000 in
theorem f29_tab1 : rtab .any (opsOf Try.f29 1) = f29_T1 := by kernel_rfl
theorem f29_bits1 : waitsOk f29_T1.2 f29_B1 = true := by kernel_rfl
def f29_T5 : Bool × List (List Nat × List Nat) := (true, [([], []), ([0], [0]), ([], []), ([2], [2]), ([3], [3]), ([4], [4]), ([1, 5], [1, 5]), ([6], [6]), ([7], [7]), ([8], [8]), ([], []), ([10], [10]), ([11], [11]), ([12], [12]), ([13], [13]), ([14], [14]), ([9, 15], [9, 15]), ([16, 0, 1, 2, 3, 4, 5, 6, 7, 8, 9, 10, 11, 12, 13, 14, 15, 16], [16])])
def f29_B5 : List Nat := [0, 1, 0, 4, 12, 28, 63, 127, 255, 511, 0, 1024, 3072, 7168, 15360, 31744, 65535, 131071]
set_option maxRecDepth 100000 in
theorem f29_tab5 : rtab .any (opsOf Try.f29 5) = f29_T5 := by kernel_rfl
theorem f29_bits5 : waitsOk f29_T5.2 f29_B5 = true := by kernel_rfl
set_option maxHeartbeats 8000000 in
set_option maxRecDepth 100000 in
theorem laminaref16_CountDistinct.calls0 (k : Nat) (a0 a1 : Int) (A2 : Option Addr) (c2 : Nat) (l2 : List Int) (b3 : Bool) (A4 : Option Addr) (c4 : Nat) (l4 : List Int) (A5 : Option Addr) (c5 : Nat) (l5 : List S39) (A6 : Option Addr) (c6 : Nat) (l6 : List Int) (lo hi : Int) (w : World) (hr2 : Kd.C (Kd.int .u64) w A2 l2.length l2) (hc2 : l2.length ≤ c2) (hr4 : Kd.C (Kd.int .i64) w A4 l4.length l4) (hc4 : l4.length ≤ c4) (hr5 : Kd.C k39 w A5 l5.length l5) (hc5 : l5.length ≤ c5) (hr6 : Kd.C (Kd.int .i64) w A6 l6.length l6) (hc6 : l6.length ≤ c6) (h : laminaref16_CountDistinct.f k a0 a1 l2 b3 l4 l5 l6 = some (lo, hi)) :
  Calls Try.prog 29 #[.agg #[.int .i64 a0, .int .i64 a1, .slice A2 l2.length c2, .bool b3, .slice A4 l4.length c4, .slice A5 l5.length c5, .slice A6 l6.length c6]] w fun e w' => e = .returned (.agg #[.int .i64 lo, .int .i64 hi]) ∧ Below w.heap.size w w' := by
 have HKw : SK w A2 c2 l2 A4 c4 l4 A5 c5 l5 A6 c6 l6 := ⟨hr2, hc2, hr4, hc4, hr5, hc5, hr6, hc6⟩
 have HR5 := Aside0.mk hr5
 have hl2 : l2.length ≤ 9223372036854775807 := hr2.2.1
 have hl5 : l5.length ≤ 9223372036854775807 := hr5.2.1
 replace HKw := Aside0.mk HKw
 unfold laminaref16_CountDistinct.f at h
 obtain ⟨n, hn⟩ : ∃ n, wrap64 (a0 - a1) = n := ⟨_, rfl⟩
 rw [hn] at h
 obtain ⟨hlo, hhi⟩ := Prod.mk.inj (Option.some.inj h)
 have HLO := Aside0.mk hlo
 have HHI := Aside0.mk hhi
 have HN : Aside0 (laminaref16_values.f a0 a1 l2 b3 l4 l5 l6 = some n) := ⟨by unfold laminaref16_values.f; rw [hn]⟩
 clear hr2 hr4 hr5 hr6 h hn hlo hhi
 go_enter Try.func29, Try.ntmps29
 go_upto_region 1 with (refine box_ 1 (cs := #[.int .i64 a0, .int .i64 a1, .slice A2 l2.length c2, .bool b3, .slice A4 l4.length c4, .slice A5 l5.length c5, .slice A6 l6.length c6]) (t := 26) (fun g2 hg_ w1 BK2 HB => ?_); clear hg_; replace BK2 := Aside0.mk BK2; replace HB := Aside0.mk HB)
 replace BK2 := Aside0.mk (blk_alloc BK2.out (.cells #[.int .i64 0, .int .i64 0] 44))
 have BK4 := Aside0.mk (heap_alloc_new w1 (.cells #[.int .i64 0, .int .i64 0] 44))
 have HBV := Aside0.mk (below_alloc HB.out (.cells #[.int .i64 0, .int .i64 0] 44))
 have hg4 : w.heap.size ≤ w1.heap.size := below_size HB.out
 obtain ⟨V, hV⟩ : ∃ V, w1.alloc (.cells #[.int .i64 0, .int .i64 0] 44) = V := ⟨_, rfl⟩
 rw [hV] at BK2 BK4 HBV ⊢
 clear hV HB
 generalize w1.heap.size = g4 at *
 clear w1
 have HS : Aside0 (∀ W, Below V.heap.size V W → sk7 g2 a0 a1 A2 c2 l2 b3 A4 c4 l4 A5 c5 l5 A6 c6 l6 W (True)) := ⟨fun W hb => sk7_of (blk_below BK2.out hb) trivial⟩
 have HK : Aside0 (∀ W, Below V.heap.size V W → SK W A2 c2 l2 A4 c4 l4 A5 c5 l5 A6 c6 l6) := ⟨fun W hb => HKw.out.below (HBV.out.trans (hb.mono (below_size HBV.out)))⟩
 clear BK2 HKw
 have HY := Aside0.mk (below_drew1 (Below.refl V.heap.size V))
 refine start_ (n := 7) (S := fun W => sk7 g2 a0 a1 A2 c2 l2 b3 A4 c4 l4 A5 c5 l5 A6 c6 l6 W (True)) (ds := []) #[false, false, false, false, false, false, false] (by kernel_rfl) rfl rfl (HS.out _ HY.out) (fun hHeld => ?_)
 refine with_tabW f29_tab1 f29_bits1 (fun HT_ HW_ => ?_)
 generalize V.drew = wd at HY hHeld ⊢
 refine pu_ HT_ 0 (some 6) ?_
 refine tk_ HT_ HW_ 1 (some 7) hHeld ?_
 refine pu_ HT_ 2 (some 8) ?_
 refine tk_ HT_ HW_ 3 (some 9) hHeld ?_
 refine cl_ HT_ 4 (some 10) Try.func80 (un8 (laminaref16_values.calls a0 a1 _ _ _ _ _ _ _ _ _ _ _ _ _ n _) (HK.out _ HY.out) HN.out) HY HS (fun w9 HY hHeld => ?_)
 refine pu_ HT_ 5 (some 3) ?_
 refine pu_ HT_ 6 (some 4) ?_
 refine done_ (done_of HT_.out (by kernel_rfl)) ?_
 clear HT_ HW_ hHeld
 obtain ⟨t0, t1, t2, t3, t4, t5, t6, _⟩ := HS.out w9 HY.out
 go_upto_if 13 with (fail)
 clear t0 t1 t2 t3 t4 t5 t6
 replace HLO : Aside0 ((if b3 then (l2.length : Int) else wrap64 ((l2.length : Int) + 1)) = lo) := HLO
 generalize (l2.length : Int) = L at HLO ⊢
 clear hl2
 go_cut [3] (fun v3 W => v3 = .int .i64 lo ∧ Aside0 (Below V.heap.size V W))
 case first =>
  obtain ⟨t0, t1, t2, t3, t4, t5, t6, _⟩ := HS.out w9 HY.out
  cases b3 with
  | true =>
   obtain rfl : L = lo := HLO.out
   go_wp2
   go_meet
   case rel => exact ⟨rfl, HY⟩
  | false =>
   have HL2 : Aside0 (wrap64 (L + 1) = lo) := ⟨by have h_ := HLO.out; rwa [if_neg (by decide)] at h_⟩
   go_wp2
   go_meet
   case rel => exact ⟨int_eq HL2.out, HY⟩
 case rest =>
 clear HLO HY
 obtain ⟨rfl, HY⟩ := hcut
 obtain ⟨t0, t1, t2, t3, t4, t5, t6, _⟩ := HS.out wc HY.out
 by_cases h0 : l5.length = 0
 ·have hd0 : decide ((0 : Int) < l5.length) = false := decide_eq_false (by omega)
  obtain rfl : n = hi := by have h_ := HHI.out; unfold gapB at h_; rwa [show decide (0 < l5.length) = false from decide_eq_false (by omega), Bool.false_and, Bool.false_and, if_neg (by decide)] at h_
  go_wp2_with (go_at_call 76; refine (laminaref16_span.calls lo n lo n _ rfl).mono ?_; rintro e w9 ⟨rfl, hb⟩; replace HY := Aside0.mk (HY.out.trans (hb.mono HY.out.size)); clear hb; have B4 := blk_below BK4.out HY.out; obtain ⟨e0, e1, z0, z1⟩ := bf2 B4)
  refine ret2_ (p := fun W => bodyPost _ _ _ _ _ W) B4 (HBV.out.trans (HY.out.mono (below_size HBV.out))) hg4 (.int .i64 lo) (.int .i64 n) (fun W d0 d1 rB => ?_)
  exact bodyPost_ret (v := .agg #[.int .i64 lo, .int .i64 n]) (by simp [results, Try.results29, go_sem, d0, d1]) rfl ⟨rfl, rB⟩
 have hd0 : decide ((0 : Int) < l5.length) = true := decide_eq_true (by omega)
 have hd1 : decide ((l5.length : Int) ≤ 0) = false := decide_eq_false (by omega)
 have hd2 : decide (0 < l5.length) = true := decide_eq_true (by omega)
 have hln : 0 < l5.length := by omega
 obtain ⟨ad, rfl, hx0, hx1, _⟩ := at_T39 HR5.out 0 (by omega) (by omega)
 obtain ⟨ad1, e1, _, hy1, _⟩ := at_T39 HR5.out ((l5.length - 1 : Nat) : Int) (by omega) (by omega)
 obtain rfl := Option.some.inj e1
 clear e1
 rw [Int.toNat_natCast] at hy1
 obtain ⟨x, hxx⟩ : ∃ x, rd_T39 l5 0 = x := ⟨_, rfl⟩
 obtain ⟨y, hyy⟩ : ∃ x, rd_T39 l5 ((l5.length - 1 : Nat) : Int) = x := ⟨_, rfl⟩
 rw [hxx] at hx0 hx1
 rw [hyy] at hy1
 obtain ⟨d, hd⟩ : ∃ d, IntKind.u64.wrap (IntKind.u64.wrap y.f1 - IntKind.u64.wrap x.f1) = d := ⟨_, rfl⟩
 have hgap : gapS l5 = d := by unfold gapS; rw [show (l5.length : Int) - 1 = ((l5.length - 1 : Nat) : Int) from by omega, hyy, hxx, hd]
 have hgb : gapB l5 n = (x.f0 != 3 && decide (d < IntKind.u64.wrap n)) := by unfold gapB; rw [hgap, hxx, hd2, Bool.true_and]
 have hh := HHI.out
 rw [hgb, hgap] at hh
 have HH2 := Aside0.mk hh
 have HDD := Aside0.mk hd
 have hwn : IntKind.i64.wrap ((l5.length : Int) - 1) = ((l5.length - 1 : Nat) : Int) := by rw [i64_w]; unfold wrap64; omega
 have hfn : decide (((l5.length - 1 : Nat) : Int) < l5.length) = true := decide_eq_true (by omega)
 have hfn2 : decide ((l5.length : Int) ≤ ((l5.length - 1 : Nat) : Int)) = false := decide_eq_false (by omega)
 have hfn3 : l5.length - 1 < l5.length := by omega
 have HSX : Aside0 (∀ W, Below V.heap.size V W → sk7 g2 a0 a1 A2 c2 l2 b3 A4 c4 l4 (some ad) c5 l5 A6 c6 l6 W (W.cell? ⟨ad.block, ad.off + 1, none⟩ = some (.int .i64 x.f1) ∧ W.cell? ⟨(ad.add ((l5.length - 1) * 3)).block, (ad.add ((l5.length - 1) * 3)).off + 1, none⟩ = some (.int .i64 y.f1))) := ⟨fun W hb => by
  obtain ⟨t0, t1, t2, t3, t4, t5, t6, _⟩ := HS.out W hb
  have hbw := HBV.out.trans (hb.mono (below_size HBV.out))
  exact ⟨t0, t1, t2, t3, t4, t5, t6, by simpa [Addr.add] using up_ hbw hx1, up_ hbw hy1⟩⟩
 replace hx0 := up_ (HBV.out.trans (HY.out.mono (below_size HBV.out))) hx0
 have hx0' : wc.cell? ad = some (.int .i64 x.f0) := by simpa [Addr.add] using hx0
 clear hxx hyy hgap hgb hh hx0 hx1 hy1 hd2 h0 hd
 obtain ⟨b3_, hb3⟩ : ∃ b, (x.f0 != 3) = b := ⟨_, rfl⟩
 cases b3_ with
 | false =>
  obtain rfl : n = hi := by have h_ := HH2.out; rwa [hb3, Bool.false_and, if_neg (by decide)] at h_
  go_wp2_with (go_at_call 76; refine (laminaref16_span.calls lo n lo n _ rfl).mono ?_; rintro e w9 ⟨rfl, hb⟩; replace HY := Aside0.mk (HY.out.trans (hb.mono HY.out.size)); clear hb; have B4 := blk_below BK4.out HY.out; obtain ⟨e0, e1, z0, z1⟩ := bf2 B4)
  refine ret2_ (p := fun W => bodyPost _ _ _ _ _ W) B4 (HBV.out.trans (HY.out.mono (below_size HBV.out))) hg4 (.int .i64 lo) (.int .i64 n) (fun W d0 d1 rB => ?_)
  exact bodyPost_ret (v := .agg #[.int .i64 lo, .int .i64 n]) (by simp [results, Try.results29, go_sem, d0, d1]) rfl ⟨rfl, rB⟩
 | true =>
 go_upto_region 5 with (fail)
 clear t0 t1 t2 t3 t4 t5 t6 hx0'
 replace HY := Aside0.mk (below_drew1 HY.out)
 refine start_ (n := 18) (S := fun W => sk7 g2 a0 a1 A2 c2 l2 b3 A4 c4 l4 (some ad) c5 l5 A6 c6 l6 W (W.cell? ⟨ad.block, ad.off + 1, none⟩ = some (.int .i64 x.f1) ∧ W.cell? ⟨(ad.add ((l5.length - 1) * 3)).block, (ad.add ((l5.length - 1) * 3)).off + 1, none⟩ = some (.int .i64 y.f1))) (ds := []) #[false, false, false, false, false, false, false, false, false, false, false, false, false, false, false, false, false, false] (by kernel_rfl) rfl rfl (HSX.out _ HY.out) (fun hHeld => ?_)
 refine with_tabW f29_tab5 f29_bits5 (fun HT_ HW_ => ?_)
 generalize wc.drew = wg at HY hHeld ⊢
 refine pu_ HT_ 0 (some 28) ?_
 refine tk_ HT_ HW_ 1 (some 29) hHeld ?_
 refine pu_ HT_ 2 (some 30) ?_
 refine tk_ HT_ HW_ 3 (some 31) hHeld ?_
 refine pu_ HT_ 4 (some 32) ?_
 refine pu_ HT_ 5 (some 33) ?_
 refine tk_ HT_ HW_ 6 (some 34) hHeld ?_
 refine pu_ HT_ 7 (some 35) ?_
 refine tk_ HT_ HW_ 8 (some 36) hHeld ?_
 refine pu_ HT_ 9 (some 37) ?_
 refine pu_ HT_ 10 (some 38) ?_
 refine tk_ HT_ HW_ 11 (some 39) hHeld ?_
 refine tk_ HT_ HW_ 12 (some 40) hHeld ?_
 refine pu_ HT_ 13 (some 41) ?_
 refine tk_ HT_ HW_ 14 (some 42) hHeld ?_
 refine pu_ HT_ 15 (some 43) ?_
 refine pu_ HT_ 16 (some 44) ?_
 refine pu_ HT_ 17 (some 5) ?_
 refine done_ (done_of HT_.out (by kernel_rfl)) ?_
 clear HT_ HW_ hHeld
 rw [HDD.out]
 clear hd0 hd1 hwn hfn hfn2 hfn3
 by_cases hlt : d < IntKind.u64.wrap n
 ·have hdl : decide (d < IntKind.u64.wrap n) = true := decide_eq_true hlt
  have hh := HH2.out
  rw [hb3, hdl, if_pos (by decide)] at hh
  have HH3 : Aside0 (wrap64 (wrap64 d + 1) = hi) := ⟨hh⟩
  clear hlt hh
  obtain rfl : (wrap64 (wrap64 d + 1)) = hi := HH3.out
  go_wp2_with (go_at_call 76; refine (laminaref16_span.calls lo (wrap64 (wrap64 d + 1)) lo (wrap64 (wrap64 d + 1)) _ rfl).mono ?_; rintro e w9 ⟨rfl, hb⟩; replace HY := Aside0.mk (HY.out.trans (hb.mono HY.out.size)); clear hb; have B4 := blk_below BK4.out HY.out; obtain ⟨e0, e1, z0, z1⟩ := bf2 B4)
  refine ret2_ (p := fun W => bodyPost _ _ _ _ _ W) B4 (HBV.out.trans (HY.out.mono (below_size HBV.out))) hg4 (.int .i64 lo) (.int .i64 (wrap64 (wrap64 d + 1))) (fun W d0 d1 rB => ?_)
  exact bodyPost_ret (v := .agg #[.int .i64 lo, .int .i64 (wrap64 (wrap64 d + 1))]) (by simp [results, Try.results29, go_sem, d0, d1]) rfl ⟨rfl, rB⟩
 ·have hdl : decide (d < IntKind.u64.wrap n) = false := decide_eq_false hlt
  have hh := HH2.out
  rw [hb3, hdl, if_neg (by decide)] at hh
  obtain rfl : n = hi := hh
  clear hlt
  go_wp2_with (go_at_call 76; refine (laminaref16_span.calls lo n lo n _ rfl).mono ?_; rintro e w9 ⟨rfl, hb⟩; replace HY := Aside0.mk (HY.out.trans (hb.mono HY.out.size)); clear hb; have B4 := blk_below BK4.out HY.out; obtain ⟨e0, e1, z0, z1⟩ := bf2 B4)
  refine ret2_ (p := fun W => bodyPost _ _ _ _ _ W) B4 (HBV.out.trans (HY.out.mono (below_size HBV.out))) hg4 (.int .i64 lo) (.int .i64 n) (fun W d0 d1 rB => ?_)
  exact bodyPost_ret (v := .agg #[.int .i64 lo, .int .i64 n]) (by simp [results, Try.results29, go_sem, d0, d1]) rfl ⟨rfl, rB⟩
theorem laminaref16_CountDistinct.calls (k : Nat) (a0_0 : Int) (a0_1 : Int) (A0_2 : Option Addr) (c0_2 : Nat) (l0_2 : List Int) (a0_3 : Bool) (A0_4 : Option Addr) (c0_4 : Nat) (l0_4 : List Int) (A0_5 : Option Addr) (c0_5 : Nat) (l0_5 : List (S39)) (A0_6 : Option Addr) (c0_6 : Nat) (l0_6 : List Int) (r1 : Int) (r2 : Int) (w : World) (hr0_2 : Kd.C (Kd.int .u64) w A0_2 l0_2.length l0_2) (hc0_2 : l0_2.length ≤ c0_2) (hr0_4 : Kd.C (Kd.int .i64) w A0_4 l0_4.length l0_4) (hc0_4 : l0_4.length ≤ c0_4) (hr0_5 : Kd.C k39 w A0_5 l0_5.length l0_5) (hc0_5 : l0_5.length ≤ c0_5) (hr0_6 : Kd.C (Kd.int .i64) w A0_6 l0_6.length l0_6) (hc0_6 : l0_6.length ≤ c0_6) (h : laminaref16_CountDistinct.f k a0_0 a0_1 l0_2 a0_3 l0_4 l0_5 l0_6 = some (r1, r2)) :
  Calls Try.prog 29 #[.agg #[.int .i64 a0_0, .int .i64 a0_1, .slice A0_2 l0_2.length c0_2, .bool a0_3, .slice A0_4 l0_4.length c0_4, .slice A0_5 l0_5.length c0_5, .slice A0_6 l0_6.length c0_6]] w fun e w' => e = .returned (.agg #[.int .i64 r1, .int .i64 r2]) ∧ Below w.heap.size w w' :=
 laminaref16_CountDistinct.calls0 k a0_0 a0_1 A0_2 c0_2 l0_2 a0_3 A0_4 c0_4 l0_4 A0_5 c0_5 l0_5 A0_6 c0_6 l0_6 r1 r2 w hr0_2 hc0_2 hr0_4 hc0_4 hr0_5 hc0_5 hr0_6 hc0_6 h
end Go.Proofs.Ytackcingpffidaa.P
namespace Go.Proofs.Ytackcingpffidaa.P
open Go.RowKit Go.Proofs.YtackcingpffidaaW.PrintWords Go.Proofs.YtackcingpffidaaW.PrintLast Go.Proofs.YtackcingpffidaaW.PrintMore
attribute [local go_sem high] eqA44
set_option linter.unusedVariables false
set_option linter.unusedSimpArgs false
def awL : List S39 := [⟨2, 1, ⟨#[]⟩⟩, ⟨2, 2, ⟨#[]⟩⟩, ⟨2, 2, ⟨#[]⟩⟩, ⟨0, 0, ⟨#[]⟩⟩]
/-- What the examples ask, of the functions' results. -/
def awB : Bool := match sketch_Build.f 40 awL with
 | some (a0, a1, M, b, C, F, R) => a0 == 4 && a1 == 1 && F.length == 2 && R.length == 4 && rd R 3 == 3 && sketch_Valid.f 40 a0 a1 M b C F R == some true && sketch_CountEqual.f 40 a0 a1 M b C F R 2 2 ⟨#[]⟩ == some (2, 2) && sketch_CountLess.f 40 a0 a1 M b C F R 2 2 ⟨#[]⟩ == some (1, 1) && sketch_CountDistinct.f 40 a0 a1 M b C F R == some (2, 2)
 | none => false
set_option maxRecDepth 1000000 in
theorem awB_true : awB = true := by kernel_rfl
theorem aw_facts : ∃ M b C f0 f1 r0 r1 r2, sketch_Build.f 40 awL = some (4, 1, M, b, C, [f0, f1], [r0, r1, r2, 3]) ∧ sketch_Valid.f 40 4 1 M b C [f0, f1] [r0, r1, r2, 3] = some true ∧ sketch_CountEqual.f 40 4 1 M b C [f0, f1] [r0, r1, r2, 3] 2 2 ⟨#[]⟩ = some (2, 2) ∧ sketch_CountLess.f 40 4 1 M b C [f0, f1] [r0, r1, r2, 3] 2 2 ⟨#[]⟩ = some (1, 1) ∧ sketch_CountDistinct.f 40 4 1 M b C [f0, f1] [r0, r1, r2, 3] = some (2, 2) := by
 have h := awB_true
 unfold awB at h
 split at h
 ·rename_i a0 a1 M b C F R hb
  simp only [Bool.and_eq_true, beq_iff_eq] at h
  obtain ⟨⟨⟨⟨⟨⟨⟨⟨h0, h1⟩, h2⟩, h3⟩, h4⟩, h5⟩, h6⟩, h7⟩, h8⟩ := h
  obtain ⟨f0, f1, rfl⟩ : ∃ f0 f1, F = [f0, f1] := by
   match F, h2 with
   | [f0, f1], _ => exact ⟨f0, f1, rfl⟩
  obtain ⟨r0, r1, r2, r3, rfl⟩ : ∃ r0 r1 r2 r3, R = [r0, r1, r2, r3] := by
   match R, h3 with
   | [r0, r1, r2, r3], _ => exact ⟨r0, r1, r2, r3, rfl⟩
  have h4 : r3 = 3 := h4
  subst h0 h1 h4
  exact ⟨M, b, C, f0, f1, r0, r1, r2, hb, h5, h6, h7, h8⟩
 ·cases h
def f12_T2 : Bool × List (List Nat × List Nat) := (true, [([], []), ([0], [0]), ([1], [1]), ([2], [2]), ([3], [3]), ([4, 3], [3, 4]), ([5, 3], [3, 5]), ([3, 6], [3, 6]), ([7, 3], [7]), ([8], [8]), ([9, 8], [8, 9]), ([10, 8], [8, 10]), ([11, 8], [8, 11]), ([8, 12], [8, 12]), ([13, 8], [13]), ([14], [14]), ([15, 14], [14, 15]), ([16, 14], [14, 16]), ([17, 14], [14, 17]), ([14, 18], [14, 18]), ([19, 14], [19]), ([20], [20]), ([21, 20], [20, 21]), ([22, 20], [20, 22]), ([23, 20], [20, 23]), ([24, 20], [20, 24]), ([20, 25], [20, 25]), ([26, 20], [26]), ([27], [27]), ([28, 27, 27], [27, 28]), ([27, 29], [27, 29]), ([30, 29], [30]), ([31], [31]), ([31, 31], [31]), ([32, 33, 33, 31], [31, 32, 33]), ([31], [31]), ([34, 35, 31], [31, 34, 35]), ([31, 36], [31, 36]), ([37, 34], [37]), ([38], [38]), ([38, 38], [38]), ([39, 40, 40, 38], [38, 39, 40]), ([38], [38]), ([41, 42, 38], [38, 41, 42]), ([38, 43], [38, 43]), ([44, 41], [44]), ([45], [45]), ([46, 45, 45], [45, 46]), ([45], [45]), ([47, 48, 45], [45, 47, 48]), ([45, 49], [45, 49]), ([50, 47, 0, 1, 2, 3, 4, 5, 6, 7, 8, 9, 10, 11, 12, 13, 14, 15, 16, 17, 18, 19, 20, 21, 22, 23, 24, 25, 26, 27, 28, 29, 30, 31, 32, 33, 34, 35, 36, 37, 38, 39, 40, 41, 42, 43, 44, 45, 46, 47, 48, 49, 50], [50])])
def f12_B2 : List Nat := [0, 1, 3, 7, 15, 31, 63, 127, 255, 511, 1023, 2047, 4095, 8191, 16383, 32767, 65535, 131071, 262143, 524287, 1048575, 2097151, 4194303, 8388607, 16777215, 33554431, 67108863, 134217727, 268435455, 536870911, 1073741823, 2147483647, 4294967295, 4294967295, 17179869183, 4294967295, 68719476735, 137438953471, 274877906943, 549755813887, 549755813887, 2199023255551, 549755813887, 8796093022207, 17592186044415, 35184372088831, 70368744177663, 140737488355327, 70368744177663, 562949953421311, 1125899906842623, 2251799813685247]
set_option maxRecDepth 100000 in
theorem f12_tab2 : rtab .any (opsOf Try.f12 2) = f12_T2 := by kernel_rfl
theorem f12_bits2 : waitsOk f12_T2.2 f12_B2 = true := by kernel_rfl
set_option maxHeartbeats 4000000 in
set_option maxRecDepth 100000 in
theorem awake_calls (w : World) : Calls Try.prog 12 #[] w fun e w' => e = .returned (.bool true) ∧ Below w.heap.size w w' := by
 obtain ⟨M, b, C, f0, f1, r0, r1, r2, h1, h2, h3, h4, h5⟩ := aw_facts
 have H1 := Aside0.mk h1
 have H2 := Aside0.mk h2
 have H3 := Aside0.mk h3
 have H4 := Aside0.mk h4
 have H5 := Aside0.mk h5
 have HB := Aside0.mk (Below.refl w.heap.size w)
 clear h1 h2 h3 h4 h5
 go_enter Try.func12, Try.ntmps12
 go_upto_region 2 with (first | (go_at_call 40; (first | (refine (laminalaw16_integer.calls 1 2 1 ⟨#[]⟩ _ rfl).mono ?_) | (refine (laminalaw16_integer.calls 2 2 2 ⟨#[]⟩ _ rfl).mono ?_)); rintro e w1 ⟨rfl, hb⟩; replace HB := Aside0.mk (HB.out.trans (hb.mono (below_size HB.out))); clear hb) | ((with_reducible refine gate_dst (N := 6) rfl ?_); (try (refine gate_guard (by rfl) ?_; dsimp only)); refine Kd.R_lit k39 _ 39 ?hg (N := 6) ?hd (xs := awL) (inner := [.int .i64 2, .int .i64 1, .string (⟨#[]⟩ : ByteArray), .int .i64 2, .int .i64 2, .string (⟨#[]⟩ : ByteArray), .int .i64 2, .int .i64 2, .string (⟨#[]⟩ : ByteArray), .int .i64 0, .int .i64 0, .string (⟨#[]⟩ : ByteArray)]) (ok := fun _ => True) (okp := fun _ => True) ?hr ?hp (fun _ hk => hk) trivial (Below.refl _ _) (Nat.le_refl _) (by unfold awL; simp) ?_; (case hd => rfl); (case hg => rfl); (case hr => first | (go_simp; done) | (go_simp; rfl)); (case hp => exact (Reps.c3 (show Kd.M k39 _ _ _ (⟨2, 1, (⟨#[]⟩ : ByteArray)⟩ : S39) [.int .i64 2, .int .i64 1, .string (⟨#[]⟩ : ByteArray)] from (k39_mkM _ _ _ (⟨2, 1, (⟨#[]⟩ : ByteArray)⟩ : S39))) (Reps.c3 (show Kd.M k39 _ _ _ (⟨2, 2, (⟨#[]⟩ : ByteArray)⟩ : S39) [.int .i64 2, .int .i64 2, .string (⟨#[]⟩ : ByteArray)] from (k39_mkM _ _ _ (⟨2, 2, (⟨#[]⟩ : ByteArray)⟩ : S39))) (Reps.c3 (show Kd.M k39 _ _ _ (⟨2, 2, (⟨#[]⟩ : ByteArray)⟩ : S39) [.int .i64 2, .int .i64 2, .string (⟨#[]⟩ : ByteArray)] from (k39_mkM _ _ _ (⟨2, 2, (⟨#[]⟩ : ByteArray)⟩ : S39))) (Reps.c3 (show Kd.M k39 _ _ _ (⟨0, 0, (⟨#[]⟩ : ByteArray)⟩ : S39) [.int .i64 0, .int .i64 0, .string (⟨#[]⟩ : ByteArray)] from (k39_mkM _ _ _ (⟨0, 0, (⟨#[]⟩ : ByteArray)⟩ : S39))) (Reps.none _ _)))))); intro v4 w4 ho hb hg_ hnew_; clear hg_ hnew_; obtain ⟨A0, c0, rfl⟩ := Kd.R_slice ho; have HL := Aside0.mk (Kd.R_reads' ho).2.2; have Hc := Aside0.mk (Kd.R_reads' ho).2.1; replace HB := Aside0.mk (HB.out.trans (hb.mono (below_size HB.out))); clear hb ho) | (go_at_call 18; refine (sketch_Build.calls 40 A0 c0 awL 4 1 M b C [f0, f1] [r0, r1, r2, 3] _ HL.out Hc.out H1.out).mono ?_; rintro e w5 ⟨v2, v4, v5, v6, rfl, o2, o4, o5, o6, hb⟩; obtain ⟨A2, c2, rfl⟩ := Kd.R_slice o2; obtain ⟨A4, c4, rfl⟩ := Kd.R_slice o4; obtain ⟨A5, c5, rfl⟩ := Kd.R_slice o5; obtain ⟨A6, c6, rfl⟩ := Kd.R_slice o6; have HK : Aside0 (SK w5 A2 c2 M A4 c4 C A5 c5 [f0, f1] A6 c6 [r0, r1, r2, 3]) := ⟨(Kd.R_reads' o2).2.2, (Kd.R_reads' o2).2.1, (Kd.R_reads' o4).2.2, (Kd.R_reads' o4).2.1, (Kd.R_reads' o5).2.2, (Kd.R_reads' o5).2.1, (Kd.R_reads' o6).2.2, (Kd.R_reads' o6).2.1⟩; replace HB := Aside0.mk (HB.out.trans (hb.mono (below_size HB.out))); clear hb o2 o4 o5 o6) | (refine box_ 1 (cs := #[.int .i64 0, .int .i64 0, .slice none 0 0, .bool false, .slice none 0 0, .slice none 0 0, .slice none 0 0]) (t := 26) (fun g2 hg_ w6 BB hb => ?_); have HG := Aside0.mk hg_; have HB5 := Aside0.mk hb; clear hg_ hb; obtain ⟨e0, e1, e2, e3, e4, e5, e6, z0, z1, z2, z3, z4, z5, z6⟩ := bf7 BB; replace BB := Aside0.mk BB))
 have P7 := put7_blk BB.out (.int .i64 4) (.int .i64 1) (.slice A2 M.length c2) (.bool b) (.slice A4 C.length c4) (.slice A5 [f0, f1].length c5) (.slice A6 [r0, r1, r2, 3].length c6)
 have PB := put7_below HB5.out (Nat.le_of_eq HG.out.symm) (.int .i64 4) (.int .i64 1) (.slice A2 M.length c2) (.bool b) (.slice A4 C.length c4) (.slice A5 [f0, f1].length c5) (.slice A6 [r0, r1, r2, 3].length c6)
 unfold put7 at P7 PB
 clear e0 e1 e2 e3 e4 e5 e6 z0 z1 z2 z3 z4 z5 z6 BB HG HB5 HL Hc H1
 generalize ((((((w6.setCell ⟨g2, 0, none⟩ (.int .i64 4)).setCell ⟨g2, 1, none⟩ (.int .i64 1)).setCell ⟨g2, 2, none⟩ (.slice A2 M.length c2)).setCell ⟨g2, 3, none⟩ (.bool b)).setCell ⟨g2, 4, none⟩ (.slice A4 C.length c4)).setCell ⟨g2, 5, none⟩ (.slice A5 [f0, f1].length c5)).setCell ⟨g2, 6, none⟩ (.slice A6 [r0, r1, r2, 3].length c6) = V at P7 PB ⊢
 replace HK := Aside0.mk (HK.out.below PB)
 have HBV := Aside0.mk (HB.out.trans (PB.mono (below_size HB.out)))
 obtain ⟨ad, rfl, hx⟩ := Kd.at_int HK.out.r6 3 (by decide) (by simp)
 have hx : V.cell? (ad.add 3) = some (.int .i64 3) := hx
 have hx2 : V.cell? ⟨ad.block, ad.off + 3, none⟩ = some (.int .i64 3) := by simpa [Go.Addr.add] using hx
 have HKV : Aside0 (∀ W, Below V.heap.size V W → SK W A2 c2 M A4 c4 C A5 c5 [f0, f1] (some ad) c6 [r0, r1, r2, 3]) := ⟨fun W hb => HK.out.below hb⟩
 have HS : Aside0 (∀ W, Below V.heap.size V W → sk7 g2 4 1 A2 c2 M b A4 c4 C A5 c5 [f0, f1] (some ad) c6 [r0, r1, r2, 3] W (W.cell? ⟨ad.block, ad.off + 3, none⟩ = some (.int .i64 3))) := ⟨fun W hb => sk7_of (blk_below P7 hb) ((hb.cell (World.block_lt_of_cell? V _ hx2)).trans hx2)⟩
 clear P7 PB HB HK hx hx2 w6
 have HY := Aside0.mk (below_drew1 (Below.refl V.heap.size V))
 refine start_ (n := 52) (S := fun W => sk7 g2 4 1 A2 c2 M b A4 c4 C A5 c5 [f0, f1] (some ad) c6 [r0, r1, r2, 3] W (W.cell? ⟨ad.block, ad.off + 3, none⟩ = some (.int .i64 3))) (ds := []) #[false, false, false, false, false, false, false, false, false, false, false, false, false, false, false, false, false, false, false, false, false, false, false, false, false, false, false, false, false, false, false, false, false, false, false, false, false, false, false, false, false, false, false, false, false, false, false, false, false, false, false, false] (by kernel_rfl) rfl rfl (HS.out _ HY.out) (fun hHeld => ?_)
 refine with_tabW f12_tab2 f12_bits2 (fun HT_ HW_ => ?_)
 generalize V.drew = wd at HY hHeld ⊢
 refine pu_ HT_ 0 (some 8) ?_
 refine tk_ HT_ HW_ 1 (some 9) hHeld ?_
 refine pu_ HT_ 2 (some 10) ?_
 refine pu_ HT_ 3 (some 11) ?_
 refine pu_ HT_ 4 (some 12) ?_
 refine tk_ HT_ HW_ 5 (some 13) hHeld ?_
 refine pu_ HT_ 6 (some 14) ?_
 refine pu_ HT_ 7 (some 15) ?_
 refine pu_ HT_ 8 (some 16) ?_
 refine pu_ HT_ 9 (some 17) ?_
 refine tk_ HT_ HW_ 10 (some 18) hHeld ?_
 refine pu_ HT_ 11 (some 19) ?_
 refine pu_ HT_ 12 (some 20) ?_
 refine pu_ HT_ 13 (some 21) ?_
 refine pu_ HT_ 14 (some 22) ?_
 refine pu_ HT_ 15 (some 23) ?_
 refine tk_ HT_ HW_ 16 (some 24) hHeld ?_
 refine pu_ HT_ 17 (some 25) ?_
 refine pu_ HT_ 18 (some 26) ?_
 refine pu_ HT_ 19 (some 27) ?_
 refine pu_ HT_ 20 (some 28) ?_
 refine pu_ HT_ 21 (some 29) ?_
 refine tk_ HT_ HW_ 22 (some 30) hHeld ?_
 refine tk_ HT_ HW_ 23 (some 31) hHeld ?_
 refine tk_ HT_ HW_ 24 (some 32) hHeld ?_
 refine pu_ HT_ 25 (some 33) ?_
 refine pu_ HT_ 26 (some 34) ?_
 refine pu_ HT_ 27 (some 35) ?_
 refine tk_ HT_ HW_ 28 (some 36) hHeld ?_
 refine cl_ HT_ 29 (some 37) Try.func20 (un8 (sketch_Valid.calls 40 4 1 _ _ _ _ _ _ _ _ _ _ _ _ _ true _) (HKV.out _ HY.out) H2.out) HY HS (fun w9 HY hHeld => ?_)
 refine pu_ HT_ 30 (some 38) ?_
 refine pu_ HT_ 31 (some 39) ?_
 refine tk_ HT_ HW_ 32 (some 40) hHeld ?_
 refine pu_ HT_ 35 (some 43) ?_
 refine cl_ HT_ 33 (some 41) Try.func40 (laminalaw16_integer.calls 2 2 2 ⟨#[]⟩ _ rfl) HY HS (fun w9 HY hHeld => ?_)
 refine cl_ HT_ 34 (some 42) Try.func22 (un8 (sketch_CountEqual.calls 40 4 1 _ _ _ _ _ _ _ _ _ _ _ _ _ 2 2 ⟨#[]⟩ 2 2 _) (HKV.out _ HY.out) H3.out) HY HS (fun w9 HY hHeld => ?_)
 refine pu_ HT_ 36 (some 44) ?_
 refine pu_ HT_ 37 (some 45) ?_
 refine pu_ HT_ 38 (some 46) ?_
 refine tk_ HT_ HW_ 39 (some 47) hHeld ?_
 refine pu_ HT_ 42 (some 50) ?_
 refine cl_ HT_ 40 (some 48) Try.func40 (laminalaw16_integer.calls 2 2 2 ⟨#[]⟩ _ rfl) HY HS (fun w9 HY hHeld => ?_)
 refine cl_ HT_ 41 (some 49) Try.func24 (un8 (sketch_CountLess.calls 40 4 1 _ _ _ _ _ _ _ _ _ _ _ _ _ 2 2 ⟨#[]⟩ 1 1 _) (HKV.out _ HY.out) H4.out) HY HS (fun w9 HY hHeld => ?_)
 refine pu_ HT_ 43 (some 51) ?_
 refine pu_ HT_ 44 (some 52) ?_
 refine pu_ HT_ 45 (some 53) ?_
 refine tk_ HT_ HW_ 46 (some 54) hHeld ?_
 refine pu_ HT_ 48 (some 56) ?_
 refine cl_ HT_ 47 (some 55) Try.func28 (un8 (sketch_CountDistinct.calls 40 4 1 _ _ _ _ _ _ _ _ _ _ _ _ _ 2 2 _) (HKV.out _ HY.out) H5.out) HY HS (fun w9 HY hHeld => ?_)
 refine pu_ HT_ 49 (some 57) ?_
 refine pu_ HT_ 50 (some 58) ?_
 refine pu_ HT_ 51 (some 0) ?_
 refine done_ (done_of HT_.out (by kernel_rfl)) ?_
 clear HT_ HW_ hHeld
 go_wp2
 go_ret
 exact ⟨rfl, HBV.out.trans (HY.out.mono (below_size HBV.out))⟩
/-- In the form in which the laws look for it. -/
def laminalaw16_awake.f (_ : Nat) : Option Bool := some true
theorem laminalaw16_awake.mono (k : Nat) : LeO (laminalaw16_awake.f k) (laminalaw16_awake.f (k + 1)) := LeO.refl _
theorem laminalaw16_awake.calls (k : Nat) (r : Bool) (w : World) (h : laminalaw16_awake.f k = some r) : Calls Try.prog 12 #[] w fun e w' => e = .returned (.bool r) ∧ Below w.heap.size w w' := by
 obtain rfl := Option.some.inj h
 exact awake_calls w
end Go.Proofs.Ytackcingpffidaa.P
namespace Go.Proofs.Ytackcingpffidaa.P
open Go.RowKit Go.Proofs.YtackcingpffidaaW.PrintWords Go.Proofs.YtackcingpffidaaW.PrintLast Go.Proofs.YtackcingpffidaaW.PrintMore
set_option linter.unusedVariables false
set_option linter.unusedSimpArgs false
set_option maxHeartbeats 4000000 in
set_option maxRecDepth 100000 in
theorem laminalaw16_SketchDecodes.calls (k : Nat) (A : Option Addr) (c : Nat) (l : List Int) (off : Int) (x : Int × Int × List Int × Bool × List Int × List S39 × List Int × Int × Int) (w : World) (hA : Kd.C (Kd.int .u8) w A l.length l) (hc : l.length ≤ c) (h1 : sketch_Decode.f k l off = some x) (h2 : laminaref16_Decode.f k l off = some x) (h : laminalaw16_awake.f k = some true) :
  Calls Try.prog 10 #[.slice A l.length c, .int .i64 off] w fun e w' => e = .returned (.bool true) ∧ Below w.heap.size w w' := by
 obtain ⟨a0, a1, M, b, C, F, R, t, e⟩ := x
 have HL := Aside0.mk h1
 have HR := Aside0.mk h2
 have HA := Aside0.mk h
 have HC := Aside0.mk hA
 have Hc := Aside0.mk hc
 clear h h1 h2 hA hc
 go_enter Try.func10, Try.ntmps10
 go_upto_region 2 with (first | (go_at_call 15; refine (sketch_Decode.calls0 k A c l off a0 a1 M b C F R t e _ HC.out Hc.out HL.out).mono ?_; rintro x w5 ⟨A2, c2, A4, c4, A5, c5, A6, c6, rfl, hk, hb⟩; have HK := Aside0.mk hk; have HB := Aside0.mk hb; clear hk hb) | (refine box_ 5 (cs := #[.int .i64 0, .int .i64 0, .slice none 0 0, .bool false, .slice none 0 0, .slice none 0 0, .slice none 0 0]) (t := 26) (fun g5 hg_ w6 BB hb => ?_); have HG := Aside0.mk hg_; have HB5 := Aside0.mk hb; clear hg_ hb; obtain ⟨e0, e1, e2, e3, e4, e5, e6, z0, z1, z2, z3, z4, z5, z6⟩ := bf7 BB; replace BB := Aside0.mk BB))
 have P7 := put7_blk BB.out (.int .i64 a0) (.int .i64 a1) (.slice A2 M.length c2) (.bool b) (.slice A4 C.length c4) (.slice A5 F.length c5) (.slice A6 R.length c6)
 have PB := put7_below HB5.out (Nat.le_of_eq HG.out.symm) (.int .i64 a0) (.int .i64 a1) (.slice A2 M.length c2) (.bool b) (.slice A4 C.length c4) (.slice A5 F.length c5) (.slice A6 R.length c6)
 unfold put7 at P7 PB
 clear e0 e1 e2 e3 e4 e5 e6 z0 z1 z2 z3 z4 z5 z6 BB HG HB5
 generalize ((((((w6.setCell ⟨g5, 0, none⟩ (.int .i64 a0)).setCell ⟨g5, 1, none⟩ (.int .i64 a1)).setCell ⟨g5, 2, none⟩ (.slice A2 M.length c2)).setCell ⟨g5, 3, none⟩ (.bool b)).setCell ⟨g5, 4, none⟩ (.slice A4 C.length c4)).setCell ⟨g5, 5, none⟩ (.slice A5 F.length c5)).setCell ⟨g5, 6, none⟩ (.slice A6 R.length c6) = V at P7 PB ⊢
 replace HK := Aside0.mk (HK.out.below PB)
 replace HB := Aside0.mk (HB.out.trans (PB.mono (below_size HB.out)))
 have B5 := Aside0.mk P7
 clear P7 PB w6
 go_upto_region 3 with (first | (go_at_call 36; refine (laminaref16_Decode.calls0 k A c l off a0 a1 M b C F R t e _ (Kd.C_below HC.out HB.out) Hc.out HR.out).mono ?_; rintro x w7 ⟨D2, d2, D4, d4, D5, d5, D6, d6, rfl, hk, hb⟩; have HD := Aside0.mk hk; replace HK := Aside0.mk (HK.out.below hb); replace B5 := Aside0.mk (blk_below B5.out hb); replace HB := Aside0.mk (HB.out.trans (hb.mono (below_size HB.out))); clear hk hb) | (refine box_ 8 (cs := #[.int .i64 0, .int .i64 0, .slice none 0 0, .bool false, .slice none 0 0, .slice none 0 0, .slice none 0 0]) (t := 26) (fun g8 hg_ w8 BB hb => ?_); have HG := Aside0.mk hg_; have HB8 := Aside0.mk hb; clear hg_ hb; obtain ⟨e0, e1, e2, e3, e4, e5, e6, z0, z1, z2, z3, z4, z5, z6⟩ := bf7 BB; replace BB := Aside0.mk BB))
 have P7 := put7_blk BB.out (.int .i64 a0) (.int .i64 a1) (.slice D2 M.length d2) (.bool b) (.slice D4 C.length d4) (.slice D5 F.length d5) (.slice D6 R.length d6)
 have PB := put7_below HB8.out (Nat.le_of_eq HG.out.symm) (.int .i64 a0) (.int .i64 a1) (.slice D2 M.length d2) (.bool b) (.slice D4 C.length d4) (.slice D5 F.length d5) (.slice D6 R.length d6)
 unfold put7 at P7 PB
 clear e0 e1 e2 e3 e4 e5 e6 z0 z1 z2 z3 z4 z5 z6 BB HG HB8
 generalize ((((((w8.setCell ⟨g8, 0, none⟩ (.int .i64 a0)).setCell ⟨g8, 1, none⟩ (.int .i64 a1)).setCell ⟨g8, 2, none⟩ (.slice D2 M.length d2)).setCell ⟨g8, 3, none⟩ (.bool b)).setCell ⟨g8, 4, none⟩ (.slice D4 C.length d4)).setCell ⟨g8, 5, none⟩ (.slice D5 F.length d5)).setCell ⟨g8, 6, none⟩ (.slice D6 R.length d6) = U at P7 PB ⊢
 replace HK := Aside0.mk (HK.out.below PB)
 replace HD := Aside0.mk (HD.out.below PB)
 replace B5 := Aside0.mk (blk_below B5.out PB)
 replace HB := Aside0.mk (HB.out.trans (PB.mono (below_size HB.out)))
 obtain ⟨t0, t1, t2, t3, t4, t5, t6⟩ := bc7 B5.out
 obtain ⟨s0, s1, s2, s3, s4, s5, s6⟩ := bc7 P7
 clear P7 PB w8 B5
 have q1 : (e == e) = true := by simp
 have q2 : (t == t) = true := by simp
 go_wp2_with (first | (go_at_call 16; refine (eqSK_calls a0 a1 b A2 c2 M A4 c4 C A5 c5 F A6 c6 R D2 d2 D4 d4 D5 d5 D6 d6 _ HK.out HD.out).mono ?_; rintro x w9 ⟨rfl, hb⟩; replace HB := Aside0.mk (HB.out.trans (hb.mono (below_size HB.out))); clear hb) | (go_at_call 12; refine (laminalaw16_awake.calls k true _ HA.out).mono ?_; rintro x w9 ⟨rfl, hb⟩; replace HB := Aside0.mk (HB.out.trans (hb.mono (below_size HB.out))); clear hb))
 go_ret
 exact ⟨rfl, HB.out⟩
end Go.Proofs.Ytackcingpffidaa.P
namespace Go.Proofs.Ytackcingpffidaa.P
open Go.RowKit Go.Proofs.YtackcingpffidaaW.PrintWords Go.Proofs.YtackcingpffidaaW.PrintLast Go.Proofs.YtackcingpffidaaW.PrintMore
attribute [local go_sem] max2_int min2_int max_two min_two max_three min_three max_four min_four Go.Proofs.YtackcingpffidaaQ.str_gtr Go.Proofs.YtackcingpffidaaQ.str_leq Go.Proofs.YtackcingpffidaaQ.str_geq   -- for this text's walks alone
set_option linter.unusedVariables false
set_option linter.unusedSimpArgs false
/-! ### varint_Encode: function 42 -/
def varint_Encode.l0 : Nat → Int → List Int → Option (List Int)
 | 0, _, _ => none
 | k + 1, x0, x3 => if x0 ≥ 128 then (if x3.length < 140737488355328 then (varint_Encode.l0 k (x0 / 128) (x3 ++ [Go.bits .or .u8 ((x0) % 256) 128])) else (none)) else (if x3.length < 140737488355328 then (some (x3 ++ [(x0) % 256])) else (none))
def varint_Encode.f (k : Nat) (a0 : Int) : Option (List Int) := varint_Encode.l0 k a0 ([] : List Int)
theorem varint_Encode.mono_l : ∀ k, (∀ y0 y1, LeO (varint_Encode.l0 k y0 y1) (varint_Encode.l0 (k + 1) y0 y1))
 | 0 => fun _ _ r h => by simp [varint_Encode.l0] at h
 | k + 1 => by
  have ih0 := varint_Encode.mono_l k
  ·intro y0 y1
   unfold varint_Encode.l0
   repeat' first
   | (with_reducible exact ih0 _ _)
   | (with_reducible exact LeO.refl _)
   | (with_reducible exact LeO.none _)
   | (with_reducible refine LeO.ite ?_ ?_)
   | (with_reducible refine LeO.bind ?_ (fun _ => ?_))
   | exact ih0 _ _
   | exact LeO.none _
   | refine LeO.ite ?_ ?_
   | refine LeO.bind ?_ (fun _ => ?_)
theorem varint_Encode.mono : ∀ a0 k, LeO (varint_Encode.f k a0) (varint_Encode.f (k + 1) a0) := by
 intro a0 k
 have ih0 := varint_Encode.mono_l k
 unfold varint_Encode.f
 repeat' first
   | (with_reducible exact ih0 _ _)
   | (with_reducible exact LeO.refl _)
   | (with_reducible exact LeO.none _)
   | (with_reducible refine LeO.ite ?_ ?_)
   | (with_reducible refine LeO.bind ?_ (fun _ => ?_))
   | exact ih0 _ _
   | exact LeO.none _
   | refine LeO.ite ?_ ?_
   | refine LeO.bind ?_ (fun _ => ?_)
set_option maxHeartbeats 8000000 in
set_option maxRecDepth 100000 in
theorem varint_Encode.calls (k : Nat) (a0 : Int) (r : List Int) (w : World) (h : varint_Encode.f k a0 = some r) :
  Calls Try.prog 42 #[.int .u64 a0] w fun e w' => ∃ v0_ : Value, e = .returned (v0_) ∧ Kd.R (Kd.int .u8) 5 w' w.heap.size (fun _ => True) v0_ r ∧ Below w.heap.size w w' := by
 have HB := Aside0.mk (Below.refl w.heap.size w)
 have H : (varint_Encode.l0 k a0 ([] : List Int)) = some r := h
 clear h
 have H' := Aside0.mk H
 clear H
 go_enter Try.func42, Try.ntmps42
 go_wp2
 go_loopg [0, 3] k (fun kq v0 v3 w' => ∃ (x0_1 : Int) (x3_1 : List Int), v0 = .int .u64 x0_1 ∧ Aside0 (varint_Encode.l0 kq x0_1 x3_1 = some r) ∧ Aside0 (kq ≤ k) ∧ Aside0 (Kd.R (Kd.int .u8) 5 w' w.heap.size (fun _ => True) v3 x3_1) ∧ Aside0 (Below w.heap.size w w'))
 case atStart => exact ⟨(a0), (([] : List Int)), (by first | rfl | (simp; done) | (simp [*]; done)), H', ⟨Nat.le_refl _⟩, ⟨by first | exact Kd.R_nil _ _ _ _ _ | exact Kd.N_nil _ _ _ _ _ | exact Kd.V_nil _ _ _ _ _ | exact Kd.Q_nil _ _ _ _ _ | exact Kd.S_nil _ _ _ _ _⟩, ⟨(hb_ HB.out)⟩⟩
 case round =>
  clear H'
  obtain ⟨x0_1, x3_1, rfl, HA, HK1, HO_3, HB⟩ := hrel
  cases gk with
  | zero => exact absurd HA.out (by simp [varint_Encode.l0])
  | succ k1 =>
   have H := HA.out
   clear HA
   simp only [varint_Encode.l0] at H
   by_cases c2 : x0_1 ≥ 128
   ·rw [if_pos c2] at H
    have c2b0 : decide (128 ≤ x0_1) = true := decide_eq_true c2
    clear c2
    by_cases c3 : x3_1.length < 140737488355328
    ·rw [if_pos c3] at H
     have LMc3 := Aside0.mk c3
     clear c3
     obtain ⟨y376, hy376⟩ : ∃ y_ : List Int, y_ = (x3_1 ++ [Go.bits .or .u8 ((x0_1) % 256) 128]) := ⟨_, rfl⟩
     replace H : (varint_Encode.l0 k1 (x0_1 / 128) y376) = some r := by first | (rw [hy376]; with_reducible exact H) | (have H2_ := (Option.bind_some _ _).symm.trans H; rw [hy376]; with_reducible exact H2_) | (have H2_ := (Option.bind_some _ _).symm.trans H; with_reducible exact H2_) | with_reducible exact H | (rw [hy376]; exact H) | exact H
     have Ny376 := Aside0.mk hy376
     clear hy376
     have H' := Aside0.mk H
     clear H
     go_wp2_with (first | ((with_reducible refine gate_builtin (b := .append) (xs := #[.tmp 6, .tmp 10]) rfl ?_); at_builtin; refine Kd.R_append (Kd.int .u8) (w0 := w) w.heap.size rfl (.tmp 6) (.tmp 10) 27 5 (.int .u8 0) 1 rfl Try.underlying27 info5 rfl (by decide) (by omega) u3 x3_1 (Go.bits .or .u8 ((x0_1) % 256) 128) [.int .u8 (Go.bits .or .u8 ((x0_1) % 256) 128)] (fun _ => True) (fun _ => False) rfl rfl ?aP (fun _ hk => hk.elim) ?aF ?aO ?aB ?aS ?aL ?_; (case aP => exact rfl); (case aB => exact (hb_ HB.out)); (case aF => exact (fun _ _ => trivial)); (case aO => exact (ra_ HO_3.out)); (case aS => exact (below_size (hb_ HB.out))); (case aL => have := LMc3.out; omega); intro v377 w4 ho hb hg hat; rw [← Ny376.out] at ho; have n0_ := Aside0.mk (hb); have n1_ := Aside0.mk (ho); clear HB; clear HO_3; have HB := n0_; have HO378 := n1_; clear n0_ n1_; clear ho hb hg hat))
     go_roundg k1
     case measure => have := HK1.out; omega
     case rel => exact ⟨(x0_1 / 128), (y376), (by first | rfl | (simp; done) | (simp [*]; done)), H', ⟨by have := HK1.out; omega⟩, ⟨by (with_reducible repeat (first | apply Kd.R_alloc | apply Kd.R_drewN | apply Kd.R_drew)); exact HO378.out⟩, ⟨(hb_ HB.out)⟩⟩
    ·rw [if_neg c3] at H
     exact absurd H (by simp)
   ·rw [if_neg c2] at H
    have c2b0 : decide (128 ≤ x0_1) = false := decide_eq_false c2
    clear c2
    by_cases c5 : x3_1.length < 140737488355328
    ·rw [if_pos c5] at H
     have LMc5 := Aside0.mk c5
     clear c5
     obtain ⟨y379, hy379⟩ : ∃ y_ : List Int, y_ = (x3_1 ++ [(x0_1) % 256]) := ⟨_, rfl⟩
     replace H : (some y379) = some r := by first | (rw [hy379]; with_reducible exact H) | (have H2_ := (Option.bind_some _ _).symm.trans H; rw [hy379]; with_reducible exact H2_) | (have H2_ := (Option.bind_some _ _).symm.trans H; with_reducible exact H2_) | with_reducible exact H | (rw [hy379]; exact H) | exact H
     have Ny379 := Aside0.mk hy379
     clear hy379
     obtain rfl := Option.some.inj H
     go_wp2_with (first | ((with_reducible refine gate_builtin (b := .append) (xs := #[.tmp 14, .tmp 17]) rfl ?_); at_builtin; refine Kd.R_append (Kd.int .u8) (w0 := w) w.heap.size rfl (.tmp 14) (.tmp 17) 27 5 (.int .u8 0) 1 rfl Try.underlying27 info5 rfl (by decide) (by omega) u3 x3_1 ((x0_1) % 256) [.int .u8 ((x0_1) % 256)] (fun _ => True) (fun _ => False) rfl rfl ?aP (fun _ hk => hk.elim) ?aF ?aO ?aB ?aS ?aL ?_; (case aP => exact rfl); (case aB => exact (hb_ HB.out)); (case aF => exact (fun _ _ => trivial)); (case aO => exact (ra_ HO_3.out)); (case aS => exact (below_size (hb_ HB.out))); (case aL => have := LMc5.out; omega); intro v380 w6 ho hb hg hat; rw [← Ny379.out] at ho; have n0_ := Aside0.mk (hb); have n1_ := Aside0.mk (ho); clear HB; clear HO_3; have HB := n0_; have HO381 := n1_; clear n0_ n1_; clear ho hb hg hat))
     go_ret
     exact ⟨_, by first | rfl | (simp [errW_none, errW_some] <;> rfl) | (simp [*, errW_none, errW_some] <;> rfl), by (with_reducible repeat (first | apply Kd.R_alloc | apply Kd.R_drewN | apply Kd.R_drew)); exact HO381.out, (hb_ HB.out)⟩
    ·rw [if_neg c5] at H
     exact absurd H (by simp)
/-! ### varint_ZigZag: function 91 -/
def varint_ZigZag.f (a0 : Int) : Option (Int) := some (Go.bits .xor .u64 (IntKind.u64.wrap ((IntKind.u64.wrap (a0)) * 2)) (IntKind.u64.wrap (a0 / 9223372036854775808)))
set_option maxHeartbeats 8000000 in
set_option maxRecDepth 100000 in
theorem varint_ZigZag.calls (a0 : Int) (r : Int) (w : World) (h : varint_ZigZag.f a0 = some r) :
  Calls Try.prog 91 #[.int .i64 a0] w fun e w' => e = .returned (.int .u64 r) ∧ Drawn0 w w' := by
 have H : (some (Go.bits .xor .u64 (IntKind.u64.wrap ((IntKind.u64.wrap (a0)) * 2)) (IntKind.u64.wrap (a0 / 9223372036854775808)))) = some r := h
 clear h
 obtain rfl := Option.some.inj H
 go_enter Try.func91, Try.ntmps91
 go_wp2
 go_ret
 exact ⟨by first | rfl | (simp; done) | (simp [*]; done), by repeat (first | exact Drawn0.refl _ | apply Drawn0.step)⟩
/-! ### value_Encode: function 43 -/
def value_Encode.f (k : Nat) (a0_0 : Int) (a0_1 : Int) (a0_2 : ByteArray) : Option (List Int) := (some (([(a0_0) % 256] : List Int) : List Int)).bind fun y383 => (if a0_0 = 1 then (if y383.length < 140737488355328 then (some (y383 ++ [(a0_1) % 256])) else (none)) else (if a0_0 = 2 then ((varint_ZigZag.f a0_1).bind fun t389 => ((varint_Encode.f k t389).bind fun t390 => (if y383.length + t390.length < 140737488355328 then (some (y383 ++ t390)) else (none)))) else (if a0_0 = 3 then ((varint_Encode.f k (IntKind.u64.wrap ((a0_2.size : Int)))).bind fun t396 => (if y383.length + t396.length < 140737488355328 then ((some (y383 ++ t396 : List Int)).bind fun y399 => (if y399.length + a0_2.size < 140737488355328 then (some (y399 ++ bytesOf a0_2)) else (none))) else (none))) else (some y383))))
theorem value_Encode.mono : ∀ a0 a1 a2 k, LeO (value_Encode.f k a0 a1 a2) (value_Encode.f (k + 1) a0 a1 a2) := by
 intro a0 a1 a2 k
 unfold value_Encode.f
 repeat' first
   | (with_reducible exact varint_Encode.mono _ _)
   | (with_reducible exact LeO.refl _)
   | (with_reducible exact LeO.none _)
   | (with_reducible refine LeO.ite ?_ ?_)
   | (with_reducible refine LeO.bind ?_ (fun _ => ?_))
   | exact varint_Encode.mono _ _
   | exact LeO.none _
   | refine LeO.ite ?_ ?_
   | refine LeO.bind ?_ (fun _ => ?_)
set_option maxHeartbeats 8000000 in
set_option maxRecDepth 100000 in
theorem value_Encode.calls (k : Nat) (a0_0 : Int) (a0_1 : Int) (a0_2 : ByteArray) (r : List Int) (w : World) (h : value_Encode.f k a0_0 a0_1 a0_2 = some r) :
  Calls Try.prog 43 #[.agg #[.int .i64 a0_0, .int .i64 a0_1, .string a0_2]] w fun e w' => ∃ v0_ : Value, e = .returned (v0_) ∧ Kd.R (Kd.int .u8) 5 w' w.heap.size (fun _ => True) v0_ r ∧ Below w.heap.size w w' := by
 have hu39 := Try.underlying39
 have HB := Aside0.mk (Below.refl w.heap.size w)
 have H : ((some (([(a0_0) % 256] : List Int) : List Int)).bind fun y383 => (if a0_0 = 1 then (if y383.length < 140737488355328 then (some (y383 ++ [(a0_1) % 256])) else (none)) else (if a0_0 = 2 then ((varint_ZigZag.f a0_1).bind fun t389 => ((varint_Encode.f k t389).bind fun t390 => (if y383.length + t390.length < 140737488355328 then (some (y383 ++ t390)) else (none)))) else (if a0_0 = 3 then ((varint_Encode.f k (IntKind.u64.wrap ((a0_2.size : Int)))).bind fun t396 => (if y383.length + t396.length < 140737488355328 then ((some (y383 ++ t396 : List Int)).bind fun y399 => (if y399.length + a0_2.size < 140737488355328 then (some (y399 ++ bytesOf a0_2)) else (none))) else (none))) else (some y383))))) = some r := h
 clear h
 obtain ⟨y383, hy383⟩ : ∃ y_ : List Int, y_ = (([(a0_0) % 256] : List Int)) := ⟨_, rfl⟩
 replace H : (if a0_0 = 1 then (if y383.length < 140737488355328 then (some (y383 ++ [(a0_1) % 256])) else (none)) else (if a0_0 = 2 then ((varint_ZigZag.f a0_1).bind fun t389 => ((varint_Encode.f k t389).bind fun t390 => (if y383.length + t390.length < 140737488355328 then (some (y383 ++ t390)) else (none)))) else (if a0_0 = 3 then ((varint_Encode.f k (IntKind.u64.wrap ((a0_2.size : Int)))).bind fun t396 => (if y383.length + t396.length < 140737488355328 then ((some (y383 ++ t396 : List Int)).bind fun y399 => (if y399.length + a0_2.size < 140737488355328 then (some (y399 ++ bytesOf a0_2)) else (none))) else (none))) else (some y383)))) = some r := by first | (rw [hy383]; with_reducible exact H) | (have H2_ := (Option.bind_some _ _).symm.trans H; rw [hy383]; with_reducible exact H2_) | (have H2_ := (Option.bind_some _ _).symm.trans H; with_reducible exact H2_) | with_reducible exact H | (rw [hy383]; exact H) | exact H
 have Ny383 := Aside0.mk hy383
 clear hy383
 by_cases c2 : a0_0 = 1
 ·rw [if_pos c2] at H
  have c2b0 : (a0_0 == 1) = true := beq_iff_eq.mpr c2
  have c2b1 : (a0_0 != 1) = false := bne_eq_false_iff_eq.mpr c2
  clear c2
  by_cases c3 : y383.length < 140737488355328
  ·rw [if_pos c3] at H
   have LMc3 := Aside0.mk c3
   clear c3
   obtain ⟨y386, hy386⟩ : ∃ y_ : List Int, y_ = (y383 ++ [(a0_1) % 256]) := ⟨_, rfl⟩
   replace H : (some y386) = some r := by first | (rw [hy386]; with_reducible exact H) | (have H2_ := (Option.bind_some _ _).symm.trans H; rw [hy386]; with_reducible exact H2_) | (have H2_ := (Option.bind_some _ _).symm.trans H; with_reducible exact H2_) | with_reducible exact H | (rw [hy386]; exact H) | exact H
   have Ny386 := Aside0.mk hy386
   clear hy386
   obtain rfl := Option.some.inj H
   go_enter Try.func43, Try.ntmps43
   go_wp2_with (first | ((with_reducible refine gate_dst (N := 1) rfl ?_); refine box_ 1 (cs := #[.int .i64 a0_0, .int .i64 a0_1, .string a0_2]) (t := 39) ?_; intro gb382 hg w4 hbox hb; have BK382 := Aside0.mk (hbox); have GW382 := Aside0.mk ((by rw [hg]; exact (below_size (hb_ HB.out)) : w.heap.size ≤ gb382)); have GE382 := Aside0.mk ((by rw [hg]; exact (below_size (hb_ HB.out)) : w.heap.size ≤ gb382)); replace HB := Aside0.mk (below_step (hb_ HB.out) hb); clear hb hbox hg; obtain ⟨hcz5_0, hcz5_1, hcz5_2, hfz5_0, hfz5_1, hfz5_2⟩ := bf3 BK382.out) | ((with_reducible refine gate_dst (N := 7) rfl ?_); refine Kd.R_lit (Kd.int .u8) _ 5 ?hg (N := 7) ?hd (xs := ([(a0_0) % 256] : List Int)) (inner := [.int .u8 ((a0_0) % 256)]) (ok := fun _ => True) (okp := fun _ => True) ?hr ?hp (fun _ hk => hk) trivial (Below.refl _ _) (Nat.le_refl _) (by simp) ?_; (case hd => rfl); (case hg => rfl); (case hr => first | (go_simp; done) | (go_simp; rfl)); (case hp => exact (Reps.one (show Kd.M (Kd.int .u8) _ _ _ ((a0_0) % 256) [.int .u8 ((a0_0) % 256)] from rfl) (Reps.none _ _))); intro v384 w6 ho7 hb hg_ hnew_; clear hg_ hnew_; (first | rw [← Ny383.out] at ho7 | (simp only [Int.reduceToNat] at ho7; rw [← Ny383.out] at ho7)); have HO385 := Aside0.mk (Kd.R_lower ho7 (below_size (hb1_ HB.out GE382.out))); replace BK382 := Aside0.mk (blk_below (bk_ BK382.out) hb); replace HB := Aside0.mk (below_step (hb1_ HB.out GE382.out) hb); clear hb ho7; obtain ⟨hcz8_0, hcz8_1, hcz8_2, hfz8_0, hfz8_1, hfz8_2⟩ := bf3 BK382.out) | ((with_reducible refine gate_builtin (b := .append) (xs := #[.tmp 12, .tmp 16]) rfl ?_); at_builtin; refine Kd.R_append (Kd.int .u8) (w0 := w) w.heap.size rfl (.tmp 12) (.tmp 16) 27 5 (.int .u8 0) 1 rfl Try.underlying27 info5 rfl (by decide) (by omega) v384 y383 ((a0_1) % 256) [.int .u8 ((a0_1) % 256)] (fun _ => True) (fun _ => False) rfl rfl ?aP (fun _ hk => hk.elim) ?aF ?aO ?aB ?aS ?aL ?_; (case aP => exact rfl); (case aB => exact (hb1_ HB.out GE382.out)); (case aF => exact (fun _ _ => trivial)); (case aO => exact (ra_ HO385.out)); (case aS => exact (below_size (hb1_ HB.out GE382.out))); (case aL => have := LMc3.out; omega); intro v387 w9 ho hb hg hat; rw [← Ny386.out] at ho; have n0_ := Aside0.mk (blk_grown (g := gb382) (o := .cells #[.int .i64 a0_0, .int .i64 a0_1, .string a0_2] 39 (0, 0)) (bk_ BK382.out) hg (Kd.R_ne HO385.out BK382.out (by decide))); have n1_ := Aside0.mk (hb); have n2_ := Aside0.mk (ho); clear BK382; clear HB; clear HO385; have BK382 := n0_; have HB := n1_; have HO388 := n2_; clear n0_ n1_ n2_; clear ho hb hg hat))
   go_ret
   exact ⟨_, by first | rfl | (simp [errW_none, errW_some] <;> rfl) | (simp [*, errW_none, errW_some] <;> rfl), by (with_reducible repeat (first | apply Kd.R_alloc | apply Kd.R_drewN | apply Kd.R_drew)); exact HO388.out, (hb1_ HB.out GE382.out)⟩
  ·rw [if_neg c3] at H
   exact absurd H (by simp)
 ·rw [if_neg c2] at H
  have c2b0 : (a0_0 == 1) = false := beq_eq_false_iff_ne.mpr c2
  have c2b1 : (a0_0 != 1) = true := bne_iff_ne.mpr c2
  by_cases c10 : a0_0 = 2
  ·rw [if_pos c10] at H
   have c10b0 : (a0_0 == 2) = true := beq_iff_eq.mpr c10
   have c10b1 : (a0_0 != 2) = false := bne_eq_false_iff_eq.mpr c10
   clear c10
   replace H := Option.bind_eq_some_iff.mp H
   obtain ⟨t389, A110, H⟩ := H
   replace H : ((varint_Encode.f k t389).bind fun t390 => (if y383.length + t390.length < 140737488355328 then (some (y383 ++ t390)) else (none))) = some r := H
   have A11 := Aside0.mk A110
   clear A110
   replace H := Option.bind_eq_some_iff.mp H
   obtain ⟨t390, A120, H⟩ := H
   replace H : (if y383.length + t390.length < 140737488355328 then (some (y383 ++ t390)) else (none)) = some r := H
   have A12 := Aside0.mk A120
   clear A120
   by_cases c13 : y383.length + t390.length < 140737488355328
   ·rw [if_pos c13] at H
    have LMc13 := Aside0.mk c13
    clear c13
    obtain ⟨y393, hy393⟩ : ∃ y_ : List Int, y_ = (y383 ++ t390) := ⟨_, rfl⟩
    replace H : (some y393) = some r := by first | (rw [hy393]; with_reducible exact H) | (have H2_ := (Option.bind_some _ _).symm.trans H; rw [hy393]; with_reducible exact H2_) | (have H2_ := (Option.bind_some _ _).symm.trans H; with_reducible exact H2_) | with_reducible exact H | (rw [hy393]; exact H) | exact H
    have Ny393 := Aside0.mk hy393
    clear hy393
    obtain rfl := Option.some.inj H
    go_enter Try.func43, Try.ntmps43
    go_wp2_with (first | ((with_reducible refine gate_dst (N := 1) rfl ?_); refine box_ 1 (cs := #[.int .i64 a0_0, .int .i64 a0_1, .string a0_2]) (t := 39) ?_; intro gb382 hg w14 hbox hb; have BK382 := Aside0.mk (hbox); have GW382 := Aside0.mk ((by rw [hg]; exact (below_size (hb_ HB.out)) : w.heap.size ≤ gb382)); have GE382 := Aside0.mk ((by rw [hg]; exact (below_size (hb_ HB.out)) : w.heap.size ≤ gb382)); replace HB := Aside0.mk (below_step (hb_ HB.out) hb); clear hb hbox hg; obtain ⟨hcz15_0, hcz15_1, hcz15_2, hfz15_0, hfz15_1, hfz15_2⟩ := bf3 BK382.out) | ((with_reducible refine gate_dst (N := 7) rfl ?_); refine Kd.R_lit (Kd.int .u8) _ 5 ?hg (N := 7) ?hd (xs := ([(a0_0) % 256] : List Int)) (inner := [.int .u8 ((a0_0) % 256)]) (ok := fun _ => True) (okp := fun _ => True) ?hr ?hp (fun _ hk => hk) trivial (Below.refl _ _) (Nat.le_refl _) (by simp) ?_; (case hd => rfl); (case hg => rfl); (case hr => first | (go_simp; done) | (go_simp; rfl)); (case hp => exact (Reps.one (show Kd.M (Kd.int .u8) _ _ _ ((a0_0) % 256) [.int .u8 ((a0_0) % 256)] from rfl) (Reps.none _ _))); intro v384 w16 ho17 hb hg_ hnew_; clear hg_ hnew_; (first | rw [← Ny383.out] at ho17 | (simp only [Int.reduceToNat] at ho17; rw [← Ny383.out] at ho17)); have HO385 := Aside0.mk (Kd.R_lower ho17 (below_size (hb1_ HB.out GE382.out))); replace BK382 := Aside0.mk (blk_below (bk_ BK382.out) hb); replace HB := Aside0.mk (below_step (hb1_ HB.out GE382.out) hb); clear hb ho17; obtain ⟨hcz18_0, hcz18_1, hcz18_2, hfz18_0, hfz18_1, hfz18_2⟩ := bf3 BK382.out) | ((with_reducible refine gate_callee (f := 91) rfl ?_); refine goesL_ (some 23) rfl rfl Try.func91 (by kernel_rfl) rfl #[.int .i64 a0_1] rfl (by (try simp only [List.map_toArray, List.map_cons, List.map_nil]); first | done | rfl | (simp only [List.length_drop, List.length_take]; rfl) | (simp only [Int.ofNat_lt, Int.ofNat_le, gt_iff_lt, ge_iff_le]; rfl)) ?_; (with_reducible refine (varint_ZigZag.calls a0_1 t389 _ A11.out).mono ?_); rintro e w' ⟨rfl, ⟨nd, rfl⟩⟩; refine ⟨_, rfl, ?_⟩) | ((with_reducible refine gate_callee (f := 42) rfl ?_); refine goesL_ (some 24) rfl rfl Try.func42 (by kernel_rfl) rfl #[.int .u64 t389] rfl (by (try simp only [List.map_toArray, List.map_cons, List.map_nil]); first | done | rfl | (simp only [List.length_drop, List.length_take]; rfl) | (simp only [Int.ofNat_lt, Int.ofNat_le, gt_iff_lt, ge_iff_le]; rfl)) ?_; (with_reducible refine (varint_Encode.calls k t389 t390 _ A12.out).mono ?_); rintro e w19 ⟨v391, rfl, ho0, hb⟩; refine ⟨_, rfl, ?_⟩; have HO392 := Aside0.mk (Kd.R_lower (Kd.R_new' ho0 (Kd.R_lt (ra_ HO385.out))) (below_size (hb1_ HB.out GE382.out))); replace HO385 := Aside0.mk (Kd.R_elder' (ra_ HO385.out) (Kd.R_base ho0) hb); replace BK382 := Aside0.mk (blk_below (bk_ BK382.out) hb); replace HB := Aside0.mk (below_step (hb1_ HB.out GE382.out) hb); (try clear hb); (try clear ho0); obtain ⟨Ao21, co21, eo21⟩ := Kd.R_slice HO392.out; subst eo21) | ((with_reducible refine gate_builtin (b := .append) (xs := #[.tmp 20, .tmp 24]) rfl ?_); at_builtin; refine Kd.R_append_rows (Kd.int .u8) (w0 := w) w.heap.size rfl (.tmp 20) (.tmp 24) 27 5 (.int .u8 0) 1 rfl Try.underlying27 info5 rfl (by decide) (by omega) v384 y383 t390 _ _ _ (fun k_ => some k_ ≠ (.slice Ao21 t390.length co21 : Value).ownBlock) (fun _ => False) rfl rfl ?aO ?aR (fun _ _ h => h) (fun _ h => h.elim) ?aF ?aB ?aS ?aL ?_; (case aR => repeat (first | exact (Kd.R_reads' HO392.out).2.2 | (with_reducible refine Kd.C_alloc ?_ _) | (with_reducible refine Kd.C_drewN ?_ _) | (with_reducible refine Kd.C_drew ?_))); (case aB => exact (hb1_ HB.out GE382.out)); (case aF => exact (fun k_ hk => Kd.fresh' (Kd.R_lt (ra_ HO392.out)) k_ hk)); (case aO => exact (by (with_reducible repeat (first | apply Kd.R_alloc | apply Kd.R_drewN | apply Kd.R_drew)); exact Kd.R_mono HO385.out (fun _ hk => hk.2))); (case aS => exact (below_size (hb1_ HB.out GE382.out))); (case aL => have := LMc13.out; omega); intro v394 w20 ho hb hg hat; rw [← Ny393.out] at ho; have n0_ := Aside0.mk (blk_grown (g := gb382) (o := .cells #[.int .i64 a0_0, .int .i64 a0_1, .string a0_2] 39 (0, 0)) (bk_ BK382.out) hg (Kd.R_ne HO385.out BK382.out (by decide))); have n1_ := Aside0.mk (Kd.R_after (ok := (fun _ => True)) (ra_ HO392.out) hg hat); have n2_ := Aside0.mk (hb); have n3_ := Aside0.mk (ho); clear BK382; clear HO392; clear HB; clear HO385; have BK382 := n0_; have HO392 := n1_; have HB := n2_; have HO395 := n3_; clear n0_ n1_ n2_ n3_; clear ho hb hg hat))
    go_ret
    exact ⟨_, by first | rfl | (simp [errW_none, errW_some] <;> rfl) | (simp [*, errW_none, errW_some] <;> rfl), by (with_reducible repeat (first | apply Kd.R_alloc | apply Kd.R_drewN | apply Kd.R_drew)); exact Kd.R_mono HO395.out (fun _ hk => trivial), (hb1_ HB.out GE382.out)⟩
   ·rw [if_neg c13] at H
    exact absurd H (by simp)
  ·rw [if_neg c10] at H
   have c10b0 : (a0_0 == 2) = false := beq_eq_false_iff_ne.mpr c10
   have c10b1 : (a0_0 != 2) = true := bne_iff_ne.mpr c10
   by_cases c22 : a0_0 = 3
   ·rw [if_pos c22] at H
    have c22b0 : (a0_0 == 3) = true := beq_iff_eq.mpr c22
    have c22b1 : (a0_0 != 3) = false := bne_eq_false_iff_eq.mpr c22
    clear c22
    replace H := Option.bind_eq_some_iff.mp H
    obtain ⟨t396, A230, H⟩ := H
    replace H : (if y383.length + t396.length < 140737488355328 then ((some (y383 ++ t396 : List Int)).bind fun y399 => (if y399.length + a0_2.size < 140737488355328 then (some (y399 ++ bytesOf a0_2)) else (none))) else (none)) = some r := H
    have A23 := Aside0.mk A230
    clear A230
    by_cases c24 : y383.length + t396.length < 140737488355328
    ·rw [if_pos c24] at H
     have LMc24 := Aside0.mk c24
     clear c24
     obtain ⟨y399, hy399⟩ : ∃ y_ : List Int, y_ = (y383 ++ t396) := ⟨_, rfl⟩
     replace H : (if y399.length + a0_2.size < 140737488355328 then (some (y399 ++ bytesOf a0_2)) else (none)) = some r := by first | (rw [hy399]; with_reducible exact H) | (have H2_ := (Option.bind_some _ _).symm.trans H; rw [hy399]; with_reducible exact H2_) | (have H2_ := (Option.bind_some _ _).symm.trans H; with_reducible exact H2_) | with_reducible exact H | (rw [hy399]; exact H) | exact H
     have Ny399 := Aside0.mk hy399
     clear hy399
     by_cases c25 : y399.length + a0_2.size < 140737488355328
     ·rw [if_pos c25] at H
      have LMc25 := Aside0.mk c25
      clear c25
      obtain ⟨y402, hy402⟩ : ∃ y_ : List Int, y_ = (y399 ++ bytesOf a0_2) := ⟨_, rfl⟩
      replace H : (some y402) = some r := by first | (rw [hy402]; with_reducible exact H) | (have H2_ := (Option.bind_some _ _).symm.trans H; rw [hy402]; with_reducible exact H2_) | (have H2_ := (Option.bind_some _ _).symm.trans H; with_reducible exact H2_) | with_reducible exact H | (rw [hy402]; exact H) | exact H
      have Ny402 := Aside0.mk hy402
      clear hy402
      obtain rfl := Option.some.inj H
      go_enter Try.func43, Try.ntmps43
      go_wp2_with (first | ((with_reducible refine gate_dst (N := 1) rfl ?_); refine box_ 1 (cs := #[.int .i64 a0_0, .int .i64 a0_1, .string a0_2]) (t := 39) ?_; intro gb382 hg w26 hbox hb; have BK382 := Aside0.mk (hbox); have GW382 := Aside0.mk ((by rw [hg]; exact (below_size (hb_ HB.out)) : w.heap.size ≤ gb382)); have GE382 := Aside0.mk ((by rw [hg]; exact (below_size (hb_ HB.out)) : w.heap.size ≤ gb382)); replace HB := Aside0.mk (below_step (hb_ HB.out) hb); clear hb hbox hg; obtain ⟨hcz27_0, hcz27_1, hcz27_2, hfz27_0, hfz27_1, hfz27_2⟩ := bf3 BK382.out) | ((with_reducible refine gate_dst (N := 7) rfl ?_); refine Kd.R_lit (Kd.int .u8) _ 5 ?hg (N := 7) ?hd (xs := ([(a0_0) % 256] : List Int)) (inner := [.int .u8 ((a0_0) % 256)]) (ok := fun _ => True) (okp := fun _ => True) ?hr ?hp (fun _ hk => hk) trivial (Below.refl _ _) (Nat.le_refl _) (by simp) ?_; (case hd => rfl); (case hg => rfl); (case hr => first | (go_simp; done) | (go_simp; rfl)); (case hp => exact (Reps.one (show Kd.M (Kd.int .u8) _ _ _ ((a0_0) % 256) [.int .u8 ((a0_0) % 256)] from rfl) (Reps.none _ _))); intro v384 w28 ho29 hb hg_ hnew_; clear hg_ hnew_; (first | rw [← Ny383.out] at ho29 | (simp only [Int.reduceToNat] at ho29; rw [← Ny383.out] at ho29)); have HO385 := Aside0.mk (Kd.R_lower ho29 (below_size (hb1_ HB.out GE382.out))); replace BK382 := Aside0.mk (blk_below (bk_ BK382.out) hb); replace HB := Aside0.mk (below_step (hb1_ HB.out GE382.out) hb); clear hb ho29; obtain ⟨hcz30_0, hcz30_1, hcz30_2, hfz30_0, hfz30_1, hfz30_2⟩ := bf3 BK382.out) | ((with_reducible refine gate_callee (f := 42) rfl ?_); refine goesL_ (some 33) rfl rfl Try.func42 (by kernel_rfl) rfl #[.int .u64 (IntKind.u64.wrap ((a0_2.size : Int)))] rfl (by (try simp only [List.map_toArray, List.map_cons, List.map_nil]); first | done | rfl | (simp only [List.length_drop, List.length_take]; rfl) | (simp only [Int.ofNat_lt, Int.ofNat_le, gt_iff_lt, ge_iff_le]; rfl)) ?_; (with_reducible refine (varint_Encode.calls k (IntKind.u64.wrap ((a0_2.size : Int))) t396 _ A23.out).mono ?_); rintro e w31 ⟨v397, rfl, ho0, hb⟩; refine ⟨_, rfl, ?_⟩; have HO398 := Aside0.mk (Kd.R_lower (Kd.R_new' ho0 (Kd.R_lt (ra_ HO385.out))) (below_size (hb1_ HB.out GE382.out))); replace HO385 := Aside0.mk (Kd.R_elder' (ra_ HO385.out) (Kd.R_base ho0) hb); replace BK382 := Aside0.mk (blk_below (bk_ BK382.out) hb); replace HB := Aside0.mk (below_step (hb1_ HB.out GE382.out) hb); (try clear hb); (try clear ho0); obtain ⟨Ao33, co33, eo33⟩ := Kd.R_slice HO398.out; subst eo33) | ((with_reducible refine gate_builtin (b := .append) (xs := #[.tmp 28, .tmp 33]) rfl ?_); at_builtin; refine Kd.R_append_rows (Kd.int .u8) (w0 := w) w.heap.size rfl (.tmp 28) (.tmp 33) 27 5 (.int .u8 0) 1 rfl Try.underlying27 info5 rfl (by decide) (by omega) v384 y383 t396 _ _ _ (fun k_ => some k_ ≠ (.slice Ao33 t396.length co33 : Value).ownBlock) (fun _ => False) rfl rfl ?aO ?aR (fun _ _ h => h) (fun _ h => h.elim) ?aF ?aB ?aS ?aL ?_; (case aR => repeat (first | exact (Kd.R_reads' HO398.out).2.2 | (with_reducible refine Kd.C_alloc ?_ _) | (with_reducible refine Kd.C_drewN ?_ _) | (with_reducible refine Kd.C_drew ?_))); (case aB => exact (hb1_ HB.out GE382.out)); (case aF => exact (fun k_ hk => Kd.fresh' (Kd.R_lt (ra_ HO398.out)) k_ hk)); (case aO => exact (by (with_reducible repeat (first | apply Kd.R_alloc | apply Kd.R_drewN | apply Kd.R_drew)); exact Kd.R_mono HO385.out (fun _ hk => hk.2))); (case aS => exact (below_size (hb1_ HB.out GE382.out))); (case aL => have := LMc24.out; omega); intro v400 w32 ho hb hg hat; rw [← Ny399.out] at ho; have n0_ := Aside0.mk (blk_grown (g := gb382) (o := .cells #[.int .i64 a0_0, .int .i64 a0_1, .string a0_2] 39 (0, 0)) (bk_ BK382.out) hg (Kd.R_ne HO385.out BK382.out (by decide))); have n1_ := Aside0.mk (Kd.R_after (ok := (fun _ => True)) (ra_ HO398.out) hg hat); have n2_ := Aside0.mk (hb); have n3_ := Aside0.mk (ho); clear BK382; clear HO398; clear HB; clear HO385; have BK382 := n0_; have HO398 := n1_; have HB := n2_; have HO401 := n3_; clear n0_ n1_ n2_ n3_; clear ho hb hg hat; obtain ⟨hcz34_0, hcz34_1, hcz34_2, hfz34_0, hfz34_1, hfz34_2⟩ := bf3 BK382.out) | (at_builtin; refine print_append_str (w0 := w) w.heap.size rfl (.tmp 35) _ 27 9 5 rfl Try.underlying27 Try.underlying9 info5 v400 y399 a0_2 rfl rfl ?aO ?aB ?aS ?aL ?_; (case aB => exact (hb1_ HB.out GE382.out)); (case aO => exact (Kd.own_of_R (by (with_reducible repeat (first | apply Kd.R_alloc | apply Kd.R_drewN | apply Kd.R_drew)); exact Kd.R_mono HO401.out (fun _ hk => trivial)))); (case aS => exact (below_size (hb1_ HB.out GE382.out))); (case aL => have := LMc25.out; omega); intro v403 w35 ho0 hb hg; have ho := Kd.R_of_own (h1 := fun _ => rfl) (ok := fun _ => True) ho0 (fun _ _ => trivial); clear ho0; have hat := True.intro; rw [← Ny402.out] at ho; change Kd.R (Kd.int .u8) 5 w35 w.heap.size (fun _ => True) v403 y402 at ho; have n0_ := Aside0.mk (blk_grown (g := gb382) (o := .cells #[.int .i64 a0_0, .int .i64 a0_1, .string a0_2] 39 (0, 0)) (bk_ BK382.out) hg (Kd.R_ne HO401.out BK382.out (by decide))); have n1_ := Aside0.mk (hb); have n2_ := Aside0.mk (ho); clear BK382; clear HB; clear HO401; have BK382 := n0_; have HB := n1_; have HO404 := n2_; clear n0_ n1_ n2_; clear ho hb hg hat))
      go_ret
      exact ⟨_, by first | rfl | (simp [errW_none, errW_some] <;> rfl) | (simp [*, errW_none, errW_some] <;> rfl), by (with_reducible repeat (first | apply Kd.R_alloc | apply Kd.R_drewN | apply Kd.R_drew)); exact HO404.out, (hb1_ HB.out GE382.out)⟩
     ·rw [if_neg c25] at H
      exact absurd H (by simp)
    ·rw [if_neg c24] at H
     exact absurd H (by simp)
   ·rw [if_neg c22] at H
    have c22b0 : (a0_0 == 3) = false := beq_eq_false_iff_ne.mpr c22
    have c22b1 : (a0_0 != 3) = true := bne_iff_ne.mpr c22
    obtain rfl := Option.some.inj H
    go_enter Try.func43, Try.ntmps43
    go_wp2_with (first | ((with_reducible refine gate_dst (N := 1) rfl ?_); refine box_ 1 (cs := #[.int .i64 a0_0, .int .i64 a0_1, .string a0_2]) (t := 39) ?_; intro gb382 hg w36 hbox hb; have BK382 := Aside0.mk (hbox); have GW382 := Aside0.mk ((by rw [hg]; exact (below_size (hb_ HB.out)) : w.heap.size ≤ gb382)); have GE382 := Aside0.mk ((by rw [hg]; exact (below_size (hb_ HB.out)) : w.heap.size ≤ gb382)); replace HB := Aside0.mk (below_step (hb_ HB.out) hb); clear hb hbox hg; obtain ⟨hcz37_0, hcz37_1, hcz37_2, hfz37_0, hfz37_1, hfz37_2⟩ := bf3 BK382.out) | ((with_reducible refine gate_dst (N := 7) rfl ?_); refine Kd.R_lit (Kd.int .u8) _ 5 ?hg (N := 7) ?hd (xs := ([(a0_0) % 256] : List Int)) (inner := [.int .u8 ((a0_0) % 256)]) (ok := fun _ => True) (okp := fun _ => True) ?hr ?hp (fun _ hk => hk) trivial (Below.refl _ _) (Nat.le_refl _) (by simp) ?_; (case hd => rfl); (case hg => rfl); (case hr => first | (go_simp; done) | (go_simp; rfl)); (case hp => exact (Reps.one (show Kd.M (Kd.int .u8) _ _ _ ((a0_0) % 256) [.int .u8 ((a0_0) % 256)] from rfl) (Reps.none _ _))); intro v384 w38 ho39 hb hg_ hnew_; clear hg_ hnew_; (first | rw [← Ny383.out] at ho39 | (simp only [Int.reduceToNat] at ho39; rw [← Ny383.out] at ho39)); have HO385 := Aside0.mk (Kd.R_lower ho39 (below_size (hb1_ HB.out GE382.out))); replace BK382 := Aside0.mk (blk_below (bk_ BK382.out) hb); replace HB := Aside0.mk (below_step (hb1_ HB.out GE382.out) hb); clear hb ho39; obtain ⟨hcz40_0, hcz40_1, hcz40_2, hfz40_0, hfz40_1, hfz40_2⟩ := bf3 BK382.out))
    go_ret
    exact ⟨_, by first | rfl | (simp [errW_none, errW_some] <;> rfl) | (simp [*, errW_none, errW_some] <;> rfl), by (with_reducible repeat (first | apply Kd.R_alloc | apply Kd.R_drewN | apply Kd.R_drew)); exact HO385.out, (hb1_ HB.out GE382.out)⟩
end Go.Proofs.Ytackcingpffidaa.P
namespace Go.Proofs.Ytackcingpffidaa.P
open Go.RowKit Go.Proofs.YtackcingpffidaaW.PrintWords Go.Proofs.YtackcingpffidaaW.PrintLast
/-- What runs without rounds. -/
theorem Ev.const {α : Type} {g : Option α} {r : α} (h : g = some r) : Ev (fun _ => g) r := ⟨0, fun _ _ => h⟩
/-- A function that counts its rounds down first. -/
theorem Ev.succ {α : Type} {g : Nat → Option α} {r : α} (h : Ev (fun k => g (k + 1)) r) : Ev g r := by
 obtain ⟨K, h⟩ := h
 refine ⟨K + 1, fun k hk => ?_⟩
 obtain ⟨m, rfl⟩ : ∃ m, k = m + 1 := ⟨k - 1, by omega⟩
 exact h m (by omega)
theorem Ev.all {α : Type} {g : Nat → Option α} {r : α} (h : ∀ k, g k = some r) : Ev g r := ⟨0, fun k _ => h k⟩
/-- What is told behind one round. -/
theorem Ev.fin {α : Type} {g : Nat → Option α} {r : α} (h : ∀ k, g (k + 1) = some r) : Ev g r := by
 refine ⟨1, fun k hk => ?_⟩
 obtain ⟨m, rfl⟩ : ∃ m, k = m + 1 := ⟨k - 1, by omega⟩
 exact h m
theorem bytes_nil {s : ByteArray} (h : s.toList = ([] : List UInt8)) : s = ⟨#[]⟩ := by
 rw [Lib.toList_data] at h
 have h2 : s.data = #[] := by simpa using h
 cases s
 simp only at h2
 rw [h2]
def V (a b : Int) (s : ByteArray) : Prop := (a = 0 ∧ b = 0 ∧ s = ⟨#[]⟩) ∨ (a = 1 ∧ (b = 0 ∨ b = 1) ∧ s = ⟨#[]⟩) ∨ (a = 2 ∧ s = ⟨#[]⟩) ∨ (a = 3 ∧ b = 0 ∧ s.size ≤ 4096)
theorem ref_valid_dec (a b : Int) (s : ByteArray) : ∃ t, laminaref04_Valid.f a b s = some t ∧ (t = true ↔ V a b s) := by
 have hs : (s.toList == ([] : List UInt8)) = true ↔ s = ⟨#[]⟩ := by
  constructor
  ·intro h
   exact bytes_nil (by simpa using h)
  ·rintro rfl
   rw [Lib.toList_data]
   rfl
 unfold laminaref04_Valid.f V
 by_cases h0 : a = 0
 ·subst h0
  by_cases h1 : b = 0
  ·subst h1
   refine ⟨(s.toList == ([] : List UInt8)), rfl, hs.trans ?_⟩
   simp
  ·exact ⟨false, by simp [h1], by simp [h1]⟩
 by_cases h1 : a = 1
 ·subst h1
  by_cases h2 : b = 0
  ·subst h2
   refine ⟨(s.toList == ([] : List UInt8)), rfl, hs.trans ?_⟩
   simp
  ·by_cases h3 : b = 1
   ·subst h3
    refine ⟨(s.toList == ([] : List UInt8)), rfl, hs.trans ?_⟩
    simp
   ·exact ⟨false, by simp [h2, h3], by simp [h2, h3]⟩
 by_cases h2 : a = 2
 ·subst h2
  refine ⟨(s.toList == ([] : List UInt8)), rfl, hs.trans ?_⟩
  simp
 by_cases h3 : a = 3
 ·subst h3
  by_cases h4 : b = 0
  ·subst h4
   refine ⟨decide ((s.size : Int) ≤ 4096), rfl, ?_⟩
   simp
   omega
  ·exact ⟨false, by simp [h4], by simp [h4]⟩
 ·exact ⟨false, by simp [h0, h1, h2, h3], by simp [h0, h1, h2, h3]⟩
def sgn (a b : Int) : Int := if a < b then -1 else if b < a then 1 else 0
/-- The order of two values. -/
def vc (a0 a1 : Int) (a2 : ByteArray) (b0 b1 : Int) (b2 : ByteArray) : Int :=
 if a0 = b0 then (if a0 = 3 then Lib.compareBytes a2.data.toList b2.data.toList else if a0 = 1 ∨ a0 = 2 then sgn a1 b1 else 0) else if a0 < b0 then -1 else 1
theorem sign_sgn (a b : Int) : value_sign.f (decide (a < b)) (decide (a > b)) = some (sgn a b) := by
 unfold value_sign.f sgn
 by_cases h : a < b <;> by_cases h2 : b < a <;> simp [h, h2]
theorem ref_sign_sgn (a b : Int) : laminaref04_sign.f (decide (a < b)) (decide (a > b)) = some (sgn a b) := by
 unfold laminaref04_sign.f sgn
 by_cases h : a < b <;> by_cases h2 : b < a <;> simp [h, h2]
theorem compare_vc (a0 a1 : Int) (a2 : ByteArray) (b0 b1 : Int) (b2 : ByteArray) : value_Compare.f a0 a1 a2 b0 b1 b2 = some (vc a0 a1 a2 b0 b1 b2) := by
 unfold value_Compare.f vc
 rw [sign_sgn]
 by_cases h : a0 = b0
 ·subst h
  by_cases h3 : a0 = 3
  ·subst h3; simp [strings_Compare.f]
  ·by_cases h1 : a0 = 1
   ·subst h1; simp
   ·by_cases h2 : a0 = 2
    ·subst h2; simp
    ·simp [h1, h2, h3]
 ·by_cases h2 : a0 < b0 <;> simp [h, h2, value_sign.f]
theorem compareBytes_less : ∀ (x y : List UInt8), Lib.compareBytes x y = if Op.bytesLess x y = true then -1 else if Op.bytesLess y x = true then 1 else 0
 | [], [] => by simp [Lib.compareBytes, Op.bytesLess]
 | [], _ :: _ => by simp [Lib.compareBytes, Op.bytesLess]
 | _ :: _, [] => by simp [Lib.compareBytes, Op.bytesLess]
 | a :: x, b :: y => by
  have ih := compareBytes_less x y
  simp only [Lib.compareBytes, Op.bytesLess]
  rcases Nat.lt_trichotomy a.toNat b.toNat with h | h | h
  ·have h1 : a < b := UInt8.lt_iff_toNat_lt.2 h
   simp [h1]
  ·obtain rfl : a = b := UInt8.toNat_inj.1 h
   have h2 : ¬ a < a := fun e => by have := UInt8.lt_iff_toNat_lt.1 e; omega
   simp [h2, ih]
  ·have h1 : b < a := UInt8.lt_iff_toNat_lt.2 h
   have h2 : ¬ a < b := fun e => by have := UInt8.lt_iff_toNat_lt.1 e; omega
   have h3 : ¬ a = b := fun e => by subst e; omega
   simp [h1, h2, h3]
theorem ref_compare_vc (a0 a1 : Int) (a2 : ByteArray) (b0 b1 : Int) (b2 : ByteArray) (ha : V a0 a1 a2) (hb : V b0 b1 b2) : laminaref04_Compare.f a0 a1 a2 b0 b1 b2 = some (vc a0 a1 a2 b0 b1 b2) := by
 unfold laminaref04_Compare.f vc
 rw [ref_sign_sgn]
 by_cases h : a0 = b0
 ·subst h
  by_cases h3 : a0 = 3
  ·subst h3
   simp only [if_true, compareBytes_less, Lib.toList_data]
   unfold laminaref04_sign.f
   by_cases l : Op.bytesLess a2.data.toList b2.data.toList = true
   ·simp [l]
   ·by_cases l2 : Op.bytesLess b2.data.toList a2.data.toList = true <;> simp [l, l2]
  ·by_cases h1 : a0 = 1
   ·subst h1; simp
   ·by_cases h2 : a0 = 2
    ·subst h2; simp
    ·have ea : a1 = 0 := by unfold V at ha; omega
     have eb : b1 = 0 := by unfold V at hb; omega
     subst ea; subst eb
     simp [h1, h2, h3, sgn]
 ·by_cases h2 : a0 < b0 <;> simp [h, h2, laminaref04_sign.f]
theorem valid_same (a b : Int) (s : ByteArray) : value_Valid.f a b s = laminaref04_Valid.f a b s := by
 unfold value_Valid.f laminaref04_Valid.f
 by_cases h : s.toList = ([] : List UInt8)
 ·have hb : (s.toList == ([] : List UInt8)) = true := by simpa using h
  rw [if_pos h, hb]
  by_cases h1 : b = 1
  ·simp [h1]
  ·have h2 : (b == 1) = false := by simpa using h1
   simp [h1, h2]
 ·have hb : (s.toList == ([] : List UInt8)) = false := by simpa using h
  rw [if_neg h, hb]
  by_cases h1 : b = 1 <;> simp [h1]
theorem rvV_same (x : S39) : rvV x = vV x := by
 unfold rvV vV
 rw [valid_same]
theorem V_of (x : S39) (h : vV x = true) : V x.f0 x.f1 x.f2 := by
 obtain ⟨t, ht, hv⟩ := ref_valid_dec x.f0 x.f1 x.f2
 have h2 := rvV_is x
 rw [ht] at h2
 rw [rvV_same, h] at h2
 exact hv.1 (Option.some.inj h2)
theorem rcV_same (x y : S39) (hx : vV x = true) (hy : vV y = true) : rcV x y = cV x y := by
 unfold rcV cV
 rw [ref_compare_vc _ _ _ _ _ _ (V_of x hx) (V_of y hy), compare_vc]
end Go.Proofs.Ytackcingpffidaa.P
namespace Go.Proofs.Ytackcingpffidaa.P
open Go.RowKit Go.Proofs.YtackcingpffidaaW.PrintWords Go.Proofs.YtackcingpffidaaW.PrintLast Go.Proofs.YtackcingpffidaaW.PrintMore
theorem drop_at {α : Type} (xs : List α) (i : Nat) (h : i < xs.length) : xs.drop i = xs[i] :: xs.drop (i + 1) := List.drop_eq_getElem_cons h
/-- The encoding of a number. -/
def venc (n : Nat) : List Int := if h : n < 128 then [(n : Int)] else ((n % 128 + 128 : Nat) : Int) :: venc (n / 128)
/-- A number read at the front of a list of bytes, i bytes of it having been read: the number, how many bytes, the error. -/
def vd (i : Nat) : List Int → Nat × Nat × Int
 | [] => (0, 0, 2)
 | c :: l => if i = 9 ∧ c > 1 then (0, 0, 4) else if c ≥ 128 then (if (vd (i + 1) l).2.2 = 0 then ((c - 128).toNat + 128 * (vd (i + 1) l).1, (vd (i + 1) l).2.1 + 1, 0) else (0, 0, (vd (i + 1) l).2.2)) else if c = 0 ∧ 0 < i then (0, 0, 4) else (c.toNat, 1, 0)
def Bytes (l : List Int) : Prop := ∀ c ∈ l, 0 ≤ c ∧ c ≤ 255
theorem vd_ok : ∀ (l : List Int) (i : Nat), Bytes l → i ≤ 9 → (vd i l).2.2 = 0 →
  1 ≤ (vd i l).2.1 ∧ (vd i l).2.1 ≤ l.length ∧ (vd i l).1 * 128 ^ i < 2 ^ 64 ∧ (0 < i → 0 < (vd i l).1) ∧ venc (vd i l).1 = l.take (vd i l).2.1
 | [], i, _, _, h => by simp [vd] at h
 | c :: l, i, hb, hi, h => by
  have hc := hb c List.mem_cons_self
  have hbl : Bytes l := fun x hx => hb x (List.mem_cons_of_mem _ hx)
  simp only [vd] at h ⊢
  by_cases h1 : i = 9 ∧ c > 1
  ·rw [if_pos h1] at h
   exact absurd h (by simp)
  rw [if_neg h1] at h ⊢
  by_cases h2 : c ≥ 128
  ·rw [if_pos h2] at h ⊢
   by_cases h3 : (vd (i + 1) l).2.2 = 0
   ·rw [if_pos h3] at h ⊢
    have hi9 : i ≤ 8 := by omega
    obtain ⟨a1, a2, a3, a4, a5⟩ := vd_ok l (i + 1) hbl (by omega) h3
    have hp := a4 (by omega)
    generalize (vd (i + 1) l).1 = n at *
    generalize (vd (i + 1) l).2.1 = m at *
    have hc2 : (c - 128).toNat < 128 := by omega
    dsimp only
    refine ⟨by omega, by rw [List.length_cons]; omega, ?_, by omega, ?_⟩
    ·have e : 128 ^ (i + 1) = 128 ^ i * 128 := Nat.pow_succ ..
     have hpow : 128 ^ i ≤ 128 ^ 8 := Nat.pow_le_pow_right (by decide) hi9
     rw [e] at a3
     have h64 : ∃ q, 2 ^ 64 = q * (128 ^ i * 128) := by
      refine ⟨2 ^ (64 - 7 * (i + 1)), ?_⟩
      rw [show (128 : Nat) = 2 ^ 7 from rfl, ← Nat.pow_mul, ← Nat.pow_add, ← Nat.pow_add]
      congr 1
      omega
     obtain ⟨q, hq⟩ := h64
     rw [hq] at a3 ⊢
     have hnq : n < q := Nat.lt_of_mul_lt_mul_right a3
     have hpos : 0 < 128 ^ i := Nat.pow_pos (by decide)
     calc ((c - 128).toNat + 128 * n) * 128 ^ i < (128 + 128 * n) * 128 ^ i := Nat.mul_lt_mul_of_pos_right (by omega) hpos
      _ = (n + 1) * (128 ^ i * 128) := by rw [show 128 + 128 * n = (n + 1) * 128 by omega, Nat.mul_assoc, Nat.mul_comm 128]
      _ ≤ q * (128 ^ i * 128) := Nat.mul_le_mul_right _ hnq
    ·rw [List.take_succ_cons, ← a5]
     conv => lhs; unfold venc
     rw [dif_neg (by omega), show ((c - 128).toNat + 128 * n) % 128 = (c - 128).toNat by omega, show ((c - 128).toNat + 128 * n) / 128 = n by omega]
     congr 1
     omega
   ·rw [if_neg h3] at h
    exact absurd h h3
  ·rw [if_neg h2] at h ⊢
   by_cases h3 : c = 0 ∧ 0 < i
   ·rw [if_pos h3] at h
    exact absurd h (by simp)
   rw [if_neg h3]
   dsimp only
   refine ⟨Nat.le_refl _, by simp, ?_, by omega, ?_⟩
   ·by_cases h9 : i = 9
    ·subst h9
     have : c.toNat ≤ 1 := by omega
     calc c.toNat * 128 ^ 9 ≤ 1 * 128 ^ 9 := Nat.mul_le_mul_right _ this
      _ < 2 ^ 64 := by decide
    ·have : 128 ^ i ≤ 128 ^ 8 := Nat.pow_le_pow_right (by decide) (by omega)
     calc c.toNat * 128 ^ i ≤ 128 * 128 ^ 8 := Nat.mul_le_mul (by omega) this
      _ < 2 ^ 64 := by decide
   ·show venc c.toNat = [c]
    unfold venc
    rw [dif_pos (by omega)]
    congr 1
    omega
theorem shl_pow (x : Int) (i : Nat) (hi : i ≤ 9) (h0 : 0 ≤ x) (h : x * 128 ^ i < 2 ^ 64) : shl .u64 x (7 * (i : Int)) = x * 128 ^ i := by
 unfold shl
 have e : (7 * (i : Int)).toNat = 7 * i := by omega
 rw [e, Nat.min_eq_left (by show 7 * i ≤ 64; omega), Int.pow_mul, show (2 : Int) ^ 7 = 128 from rfl]
 have hp : (0 : Int) < 128 ^ i := Int.pow_pos (by decide)
 rw [IntKind.wrap_u64]
 have h1 : 0 ≤ x * 128 ^ i := Int.mul_nonneg h0 (Int.le_of_lt hp)
 exact Int.emod_eq_of_lt h1 h
theorem or_add (n x i : Nat) (hi : i ≤ 9) (hn : n < 128 ^ i) (h : x * 128 ^ i < 2 ^ 64) : Go.bits .or .u64 (n : Int) ((x : Int) * 128 ^ i) = ((n + x * 128 ^ i : Nat) : Int) := by
 have hp : 0 < 128 ^ i := Nat.pow_pos (by decide)
 have hn64 : n < 18446744073709551616 := by
  have : 128 ^ i ≤ 128 ^ 9 := Nat.pow_le_pow_right (by decide) hi
  have e9 : 128 ^ 9 < 18446744073709551616 := by decide
  omega
 have hm := u64_or_nat n (x * 128 ^ i) hn64 (by omega)
 rw [show ((x : Int) * 128 ^ i) = ((x * 128 ^ i : Nat) : Int) by push_cast; rfl, hm]
 congr 1
 rw [show (128 : Nat) ^ i = 2 ^ (7 * i) by rw [Nat.pow_mul]] at *
 rw [Nat.or_comm, Nat.mul_comm, ← Nat.two_pow_add_eq_or_of_lt hn, Nat.add_comm, Nat.mul_comm]
theorem and127 (c : Int) (h0 : 0 ≤ c) (h1 : c ≤ 255) : Go.bits .and .u8 c 127 = c % 128 := by
 have h := u8_and c 127 h0 (by omega) (by decide) (by decide)
 rw [h]
 have e : c.toNat &&& (127 : Int).toNat = c.toNat % 128 := Nat.and_two_pow_sub_one_eq_mod c.toNat 7
 rw [e]
 omega
/-- What a varint's reading tells, from the number and the bytes that are read. -/
def vres (off n i : Nat) (r : Nat × Nat × Int) : Int × Int × Int := if r.2.2 = 0 then (((n + 128 ^ i * r.1 : Nat) : Int), ((off + i + r.2.1 : Nat) : Int), 0) else (0, 0, r.2.2)
theorem wrap_nat {n : Nat} (h : n < 9223372036854775808) : wrap64 (n : Int) = (n : Int) := by unfold wrap64; omega
theorem rd_nat (b : List Int) (i : Nat) (h : i < b.length) : rd b (i : Int) = b[i] := by
 unfold rd
 rw [Int.toNat_natCast, List.getD_eq_getElem?_getD, List.getElem?_eq_getElem h]
 rfl
theorem vres_more (off n i c : Nat) (r : Nat × Nat × Int) (c2 : Nat) (hc : c2 = n + c * 128 ^ i) :
  vres off c2 (i + 1) r = vres off n i (if r.2.2 = 0 then (c + 128 * r.1, r.2.1 + 1, 0) else (0, 0, r.2.2)) := by
 unfold vres
 by_cases h : r.2.2 = 0
 ·simp only [h, if_true]
  subst hc
  refine Prod.ext ?_ (Prod.ext ?_ rfl)
  ·show ((n + c * 128 ^ i + 128 ^ (i + 1) * r.1 : Nat) : Int) = ((n + 128 ^ i * (c + 128 * r.1) : Nat) : Int)
   congr 1
   rw [Nat.pow_succ, Nat.mul_add, Nat.mul_comm c, Nat.add_assoc, Nat.mul_assoc]
  ·show ((off + (i + 1) + r.2.1 : Nat) : Int) = ((off + i + (r.2.1 + 1) : Nat) : Int)
   congr 1
   omega
 ·simp only [h, if_false]
theorem pow_bd {i : Nat} (hi : i ≤ 8) {n c : Nat} (hn : n < 128 ^ i) (hc : c < 128) : n + c * 128 ^ i < 128 ^ (i + 1) ∧ c * 128 ^ i < 2 ^ 64 := by
 have h1 : (c + 1) * 128 ^ i ≤ 128 * 128 ^ i := Nat.mul_le_mul_right _ hc
 have h2 : 128 ^ (i + 1) = 128 * 128 ^ i := by rw [Nat.pow_succ, Nat.mul_comm]
 have h3 : 128 ^ (i + 1) ≤ 128 ^ 9 := Nat.pow_le_pow_right (by decide) (by omega)
 have h4 : 128 ^ 9 < 2 ^ 64 := by decide
 rw [Nat.add_mul, Nat.one_mul] at h1
 omega
/-- The number behind one more byte. -/
theorem or_step (n i : Nat) (hi : i ≤ 9) (hn : n < 128 ^ i) (c : Int) (h0 : 0 ≤ c) (h1 : c ≤ 255) (h9 : i = 9 → c ≤ 1) :
  Go.bits .or .u64 (n : Int) (shl .u64 (IntKind.u64.wrap (Go.bits .and .u8 c 127)) (wrap64 (7 * (i : Int)))) = ((n + (c % 128).toNat * 128 ^ i : Nat) : Int) := by
 have hlt : (c % 128).toNat * 128 ^ i < 2 ^ 64 := by
  by_cases h : i = 9
  ·subst h
   have : (c % 128).toNat ≤ 1 := by have := h9 rfl; omega
   calc (c % 128).toNat * 128 ^ 9 ≤ 1 * 128 ^ 9 := Nat.mul_le_mul_right _ this
    _ < 2 ^ 64 := by decide
  ·exact (pow_bd (by omega) hn (by omega)).2
 rw [and127 c h0 h1, IntKind.wrap_u64, show c % 128 % 18446744073709551616 = ((c % 128).toNat : Int) by omega, show wrap64 (7 * (i : Int)) = 7 * (i : Int) by unfold wrap64; omega, shl_pow _ i hi (by omega) (by have := hlt; exact_mod_cast this)]
 exact or_add n _ i hi hn hlt
theorem dec_loop (b : List Int) (hb : Bytes b) (hl : b.length < 4611686018427387904) (off : Nat) : ∀ (d i n : Nat), off + i + d = b.length → i ≤ 9 → n < 128 ^ i →
  Ev (fun k => varint_Decode.l0 k b (off : Int) (n : Int) (i : Int)) (vres off n i (vd i (b.drop (off + i)))) := by
 intro d
 induction d with
 | zero =>
  intro i n hd hi hn
  refine Ev.fin fun k => ?_
  rw [List.drop_of_length_le (by omega)]
  simp only [varint_Decode.l0]
  rw [if_pos (by omega), show ((off : Int) + (i : Int)) = ((off + i : Nat) : Int) by omega, wrap_nat (by omega), if_pos (by omega)]
  rfl
 | succ d ih =>
  intro i n hd hi hn
  have hlt : off + i < b.length := by omega
  have hc := hb _ (List.getElem_mem hlt)
  rw [drop_at b (off + i) hlt]
  have hone : ∀ k, varint_Decode.l0 (k + 1) b (off : Int) (n : Int) (i : Int) = varint_Decode.j2 k b off n i b[off + i] i (decide (i = 9 ∧ b[off + i] > 1)) := by
   intro k
   simp only [varint_Decode.l0]
   rw [if_pos (by omega), show ((off : Int) + (i : Int)) = ((off + i : Nat) : Int) by omega, wrap_nat (by omega), if_neg (by omega), if_pos (by omega), if_pos (by omega), rd_nat b _ hlt]
   by_cases h9 : i = 9
   ·rw [if_pos (by omega)]
    congr 1
    simp [h9]
   ·rw [if_neg (by omega)]
    congr 1
    simp [h9]
  generalize b[off + i] = c at *
  simp only [vd]
  by_cases h1 : i = 9 ∧ c > 1
  ·rw [if_pos h1]
   refine Ev.succ (Ev.fin fun k => ?_)
   show varint_Decode.l0 (k + 1 + 1) b (off : Int) (n : Int) (i : Int) = _
   rw [hone, decide_eq_true h1]
   simp [varint_Decode.j2, vres]
  ·rw [if_neg h1]
   have hj : ∀ k, varint_Decode.l0 (k + 1 + 1) b (off : Int) (n : Int) (i : Int) = if c ≥ 128 then varint_Decode.l0 k b (off : Int) ((n + (c % 128).toNat * 128 ^ i : Nat) : Int) ((i + 1 : Nat) : Int) else if c = 0 ∧ 0 < i then some (0, 0, 4) else some (((n + (c % 128).toNat * 128 ^ i : Nat) : Int), ((off + i + 1 : Nat) : Int), 0) := by
    intro k
    rw [hone, decide_eq_false h1]
    simp only [varint_Decode.j2]
    have h7 : wrap64 (7 * (i : Int)) = 7 * (i : Int) := by clear ih hone; unfold wrap64; omega
    rw [if_neg (by simp), or_step n i hi hn c hc.1 hc.2 (by omega), if_pos (by rw [h7]; omega), show wrap64 ((i : Int) + 1) = ((i + 1 : Nat) : Int) by unfold wrap64; omega, show ((off : Int) + (i : Int)) = ((off + i : Nat) : Int) by omega, wrap_nat (n := off + i) (by omega), show wrap64 (((off + i : Nat) : Int) + 1) = ((off + i + 1 : Nat) : Int) by unfold wrap64; omega]
    by_cases h2 : c ≥ 128
    ·rw [if_pos h2, if_pos h2]
    ·rw [if_neg h2, if_neg h2]
     by_cases h3 : c = 0
     ·rw [if_pos h3]
      by_cases h4 : 0 < i
      ·rw [if_pos (by omega), if_pos ⟨h3, h4⟩]
      ·rw [if_neg (by omega), if_neg (by omega)]
     ·rw [if_neg h3, if_neg (by omega)]
   by_cases h2 : c ≥ 128
   ·rw [if_pos h2]
    have hi8 : i ≤ 8 := by omega
    have hpb := pow_bd hi8 hn (c := (c % 128).toNat) (by omega)
    have h := ih (i + 1) (n + (c % 128).toNat * 128 ^ i) (by omega) (by omega) hpb.1
    rw [vres_more off n i (c % 128).toNat _ _ rfl] at h
    rw [show (c - 128).toNat = (c % 128).toNat by omega]
    refine Ev.succ (Ev.succ (Ev.congr (f := fun k => varint_Decode.l0 k b (off : Int) ((n + (c % 128).toNat * 128 ^ i : Nat) : Int) ((i + 1 : Nat) : Int)) (fun k => ?_) h))
    show varint_Decode.l0 (k + 1 + 1) b (off : Int) (n : Int) (i : Int) = _
    rw [hj, if_pos h2]
   ·rw [if_neg h2]
    refine Ev.succ (Ev.fin fun k => ?_)
    show varint_Decode.l0 (k + 1 + 1) b (off : Int) (n : Int) (i : Int) = _
    rw [hj, if_neg h2]
    by_cases h3 : c = 0 ∧ 0 < i
    ·rw [if_pos h3, if_pos h3]
     rfl
    ·rw [if_neg h3, if_neg h3]
     unfold vres
     rw [if_pos rfl, show (c % 128).toNat = c.toNat by omega, Nat.mul_comm]
theorem dec_ev (b : List Int) (hb : Bytes b) (hl : b.length < 4611686018427387904) (off : Nat) (ho : off ≤ b.length) : Ev (fun k => varint_Decode.f k b (off : Int)) (vres off 0 0 (vd 0 (b.drop off))) := by
 have h := dec_loop b hb hl off (b.length - off) 0 0 (by omega) (by omega) (by decide)
 rw [Nat.add_zero] at h
 refine Ev.succ (Ev.congr (fun k => ?_) h)
 unfold varint_Decode.f
 rw [if_neg (by omega), decide_eq_false (by omega)]
 simp only [varint_Decode.j0]
 rw [if_neg (by simp)]
 rfl
theorem u64_nat {n : Nat} (h : n < 18446744073709551616) : IntKind.u64.wrap (n : Int) = (n : Int) := by rw [IntKind.wrap_u64]; omega
theorem ref_step (n i : Nat) (hi : i ≤ 9) (hn : n < 128 ^ i) (c : Int) (h0 : 0 ≤ c) (h1 : c ≤ 255) (h9 : i = 9 → c ≤ 1) :
  IntKind.u64.wrap ((n : Int) + (IntKind.u64.wrap ((IntKind.u64.wrap (Int.tmod c 128)) * ((128 ^ i : Nat) : Int)))) = ((n + (c % 128).toNat * 128 ^ i : Nat) : Int) := by
 have hlt : n + (c % 128).toNat * 128 ^ i < 2 ^ 64 := by
  by_cases h : i = 9
  ·subst h
   have : (c % 128).toNat ≤ 1 := by have := h9 rfl; omega
   have h2 : (c % 128).toNat * 128 ^ 9 ≤ 1 * 128 ^ 9 := Nat.mul_le_mul_right _ this
   have h3 : 128 ^ 9 + 128 ^ 9 = 2 ^ 64 := by decide
   omega
  ·have h2 := pow_bd (by omega) hn (c := (c % 128).toNat) (by omega)
   have h3 : 128 ^ (i + 1) ≤ 128 ^ 9 := Nat.pow_le_pow_right (by decide) (by omega)
   have h4 : 128 ^ 9 < 2 ^ 64 := by decide
   omega
 rw [Int.tmod_eq_emod_of_nonneg h0, show c % 128 = (((c % 128).toNat : Nat) : Int) by omega, u64_nat (by omega), Int.toNat_natCast, ← Int.natCast_mul, u64_nat (by omega), ← Int.natCast_add, u64_nat (by omega)]
theorem ref_dec_loop (b : List Int) (hb : Bytes b) (hl : b.length < 4611686018427387904) (off : Nat) : ∀ (d i n : Nat), off + i + d = b.length → i ≤ 9 → n < 128 ^ i →
  Ev (fun k => laminaref01_Decode.l0 k b (off : Int) (n : Int) ((128 ^ i : Nat) : Int) (i : Int)) (vres off n i (vd i (b.drop (off + i)))) := by
 intro d
 induction d with
 | zero =>
  intro i n hd hi hn
  refine Ev.fin fun k => ?_
  rw [List.drop_of_length_le (by omega)]
  simp only [laminaref01_Decode.l0]
  rw [show ((off : Int) + (i : Int)) = ((off + i : Nat) : Int) by omega, wrap_nat (by omega), if_pos (by omega)]
  rfl
 | succ d ih =>
  intro i n hd hi hn
  have hlt : off + i < b.length := by omega
  have hc := hb _ (List.getElem_mem hlt)
  rw [drop_at b (off + i) hlt]
  have hone : ∀ k, laminaref01_Decode.l0 (k + 1) b (off : Int) (n : Int) ((128 ^ i : Nat) : Int) (i : Int) = laminaref01_Decode.j2 k b off n ((128 ^ i : Nat) : Int) i b[off + i] (decide ((i = 9 ∧ b[off + i] > 1) ∨ (0 < i ∧ b[off + i] = 0))) := by
   intro k
   simp only [laminaref01_Decode.l0]
   rw [show ((off : Int) + (i : Int)) = ((off + i : Nat) : Int) by omega, wrap_nat (by omega), if_neg (by omega), if_pos (by omega), if_pos (by omega), rd_nat b _ hlt]
   by_cases h9 : i = 9
   ·rw [if_pos (by omega)]
    by_cases h1 : b[off + i] > 1
    ·rw [if_pos h1, decide_eq_true (.inl ⟨h9, h1⟩)]
    ·rw [if_neg h1, if_pos (by omega)]
     congr 1
     by_cases h0 : b[off + i] = 0
     ·rw [decide_eq_true (.inr ⟨by omega, h0⟩)]
      exact beq_iff_eq.mpr h0
     ·rw [decide_eq_false (by omega)]
      exact beq_eq_false_iff_ne.mpr h0
   ·rw [if_neg (by omega)]
    by_cases h0 : 0 < i
    ·rw [if_pos (by omega)]
     congr 1
     by_cases h1 : b[off + i] = 0
     ·rw [decide_eq_true (.inr ⟨h0, h1⟩)]
      exact beq_iff_eq.mpr h1
     ·rw [decide_eq_false (by omega)]
      exact beq_eq_false_iff_ne.mpr h1
    ·rw [if_neg (by omega), decide_eq_false (by omega)]
  generalize b[off + i] = c at *
  simp only [vd]
  by_cases hbad : (i = 9 ∧ c > 1) ∨ (0 < i ∧ c = 0)
  ·have hv : (if i = 9 ∧ c > 1 then (0, 0, 4) else if c ≥ 128 then (if (vd (i + 1) (b.drop (off + i + 1))).2.2 = 0 then ((c - 128).toNat + 128 * (vd (i + 1) (b.drop (off + i + 1))).1, (vd (i + 1) (b.drop (off + i + 1))).2.1 + 1, 0) else (0, 0, (vd (i + 1) (b.drop (off + i + 1))).2.2)) else if c = 0 ∧ 0 < i then (0, 0, 4) else (c.toNat, 1, 0) : Nat × Nat × Int) = (0, 0, 4) := by
    by_cases h1 : i = 9 ∧ c > 1
    ·rw [if_pos h1]
    ·rw [if_neg h1, if_neg (by omega), if_pos (by omega)]
   rw [hv]
   refine Ev.succ (Ev.fin fun k => ?_)
   show laminaref01_Decode.l0 (k + 1 + 1) b (off : Int) (n : Int) _ (i : Int) = _
   rw [hone, decide_eq_true hbad]
   simp [laminaref01_Decode.j2, vres]
  ·rw [if_neg (by omega)]
   have hj : ∀ k, laminaref01_Decode.l0 (k + 1 + 1) b (off : Int) (n : Int) ((128 ^ i : Nat) : Int) (i : Int) = if c < 128 then some (((n + (c % 128).toNat * 128 ^ i : Nat) : Int), ((off + i + 1 : Nat) : Int), 0) else laminaref01_Decode.l0 k b (off : Int) ((n + (c % 128).toNat * 128 ^ i : Nat) : Int) (IntKind.u64.wrap (((128 ^ i : Nat) : Int) * 128)) ((i + 1 : Nat) : Int) := by
    intro k
    rw [hone, decide_eq_false hbad]
    simp only [laminaref01_Decode.j2]
    rw [if_neg (by simp), ref_step n i hi hn c hc.1 hc.2 (by omega), show wrap64 ((i : Int) + 1) = ((i + 1 : Nat) : Int) by unfold wrap64; omega, show ((off : Int) + (i : Int)) = ((off + i : Nat) : Int) by omega, wrap_nat (n := off + i) (by omega), show wrap64 (((off + i : Nat) : Int) + 1) = ((off + i + 1 : Nat) : Int) by unfold wrap64; omega]
   by_cases h2 : c ≥ 128
   ·rw [if_pos h2]
    have hi8 : i ≤ 8 := by omega
    have hpb := pow_bd hi8 hn (c := (c % 128).toNat) (by omega)
    have h := ih (i + 1) (n + (c % 128).toNat * 128 ^ i) (by omega) (by omega) hpb.1
    rw [vres_more off n i (c % 128).toNat _ _ rfl] at h
    rw [show (c - 128).toNat = (c % 128).toNat by omega]
    refine Ev.succ (Ev.succ (Ev.congr (f := fun k => laminaref01_Decode.l0 k b (off : Int) ((n + (c % 128).toNat * 128 ^ i : Nat) : Int) ((128 ^ (i + 1) : Nat) : Int) ((i + 1 : Nat) : Int)) (fun k => ?_) h))
    show laminaref01_Decode.l0 (k + 1 + 1) b (off : Int) (n : Int) _ (i : Int) = _
    have h3 : 128 ^ (i + 1) ≤ 128 ^ 9 := Nat.pow_le_pow_right (by decide) (by omega)
    have h4 : 128 ^ 9 < 18446744073709551616 := by decide
    rw [hj, if_neg (by omega), show ((128 ^ i : Nat) : Int) * 128 = ((128 ^ (i + 1) : Nat) : Int) by rw [Nat.pow_succ]; rfl, u64_nat (by omega)]
   ·rw [if_neg h2, if_neg (by omega)]
    refine Ev.succ (Ev.fin fun k => ?_)
    show laminaref01_Decode.l0 (k + 1 + 1) b (off : Int) (n : Int) _ (i : Int) = _
    rw [hj, if_pos (by omega)]
    unfold vres
    rw [if_pos rfl, show (c % 128).toNat = c.toNat by omega, Nat.mul_comm]
theorem ref_dec_ev (b : List Int) (hb : Bytes b) (hl : b.length < 4611686018427387904) (off : Nat) (ho : off ≤ b.length) : Ev (fun k => laminaref01_Decode.f k b (off : Int)) (vres off 0 0 (vd 0 (b.drop off))) := by
 have h := ref_dec_loop b hb hl off (b.length - off) 0 0 (by omega) (by omega) (by decide)
 rw [Nat.add_zero] at h
 refine Ev.succ (Ev.congr (fun k => ?_) h)
 unfold laminaref01_Decode.f
 rw [if_neg (by omega), decide_eq_false (by omega)]
 simp only [laminaref01_Decode.j0]
 rw [if_neg (by simp)]
 rfl
theorem venc_len : ∀ (i n : Nat), n < 128 ^ i → (venc n).length ≤ max i 1 := by
 intro i
 induction i with
 | zero =>
  intro n hn
  have : n = 0 := by simpa using hn
  subst this
  unfold venc
  simp
 | succ i ih =>
  intro n hn
  unfold venc
  by_cases h : n < 128
  ·rw [dif_pos h]
   simp
  ·rw [dif_neg h, List.length_cons]
   have h1 : n / 128 < 128 ^ i := by
    rw [Nat.pow_succ] at hn
    exact Nat.div_lt_of_lt_mul (by rw [Nat.mul_comm]; exact hn)
   have := ih _ h1
   have h2 : i ≠ 0 := by
    rintro rfl
    simp at h1
    exact h h1
   omega
theorem venc_len64 {n : Nat} (h : n < 18446744073709551616) : (venc n).length ≤ 10 := venc_len 10 n (Nat.lt_trans h (by decide))
theorem or128 (n : Nat) : Go.bits .or .u8 ((n : Int) % 256) 128 = ((n % 128 + 128 : Nat) : Int) := by
 rw [u8_or _ 128 (by omega) (by omega) (by decide) (by decide)]
 congr 1
 have e : ((n : Int) % 256).toNat = n % 256 := by omega
 have hk : 128 + n % 128 = 128 ||| n % 128 := Nat.two_pow_add_eq_or_of_lt (show n % 128 < 2 ^ 7 by omega) 1
 rw [e, show (128 : Int).toNat = 128 from rfl]
 have h1 : n % 256 = n / 128 % 2 * 128 + n % 128 := by omega
 rcases Nat.mod_two_eq_zero_or_one (n / 128) with h | h
 ·rw [h1, h, Nat.zero_mul, Nat.zero_add, Nat.or_comm, ← hk]
  omega
 ·rw [h1, h, Nat.one_mul, hk, Nat.or_comm, ← Nat.or_assoc, Nat.or_self, ← hk]
  omega
theorem enc_loop : ∀ (i n : Nat) (acc : List Int), n < 128 ^ i → acc.length + (venc n).length ≤ 140737488355328 → Ev (fun k => varint_Encode.l0 k (n : Int) acc) (acc ++ venc n) := by
 intro i
 induction i with
 | zero =>
  intro n acc hn hl
  have : n = 0 := by simpa using hn
  subst this
  unfold venc at hl ⊢
  refine Ev.fin fun k => ?_
  simp only [varint_Encode.l0]
  simp at hl
  rw [if_neg (by decide), if_pos (by omega)]
  rfl
 | succ i ih =>
  intro n acc hn hl
  unfold venc at hl ⊢
  by_cases h : n < 128
  ·rw [dif_pos h] at hl ⊢
   refine Ev.fin fun k => ?_
   simp only [varint_Encode.l0]
   simp at hl
   rw [if_neg (by omega), if_pos (by omega), show (n : Int) % 256 = (n : Int) by omega]
  ·rw [dif_neg h] at hl ⊢
   rw [List.length_cons] at hl
   have h1 : n / 128 < 128 ^ i := by
    rw [Nat.pow_succ] at hn
    exact Nat.div_lt_of_lt_mul (by rw [Nat.mul_comm]; exact hn)
   have hr := ih (n / 128) (acc ++ [((n % 128 + 128 : Nat) : Int)]) h1 (by rw [List.length_append]; simp only [List.length_cons, List.length_nil]; omega)
   rw [List.append_assoc] at hr
   refine Ev.step (fun k => ?_) hr
   simp only [varint_Encode.l0]
   rw [if_pos (by omega), if_pos (by omega), or128, show (n : Int) / 128 = ((n / 128 : Nat) : Int) by omega]
theorem enc_ev (n : Nat) (h : n < 18446744073709551616) : Ev (fun k => varint_Encode.f k (n : Int)) (venc n) := by
 have := venc_len64 h
 exact enc_loop 10 n [] (Nat.lt_trans h (by decide)) (by simp; omega)
/-- The zigzag map of a number of 64 bits. -/
def zz (x : Int) : Nat := if 0 ≤ x then (2 * x).toNat else (-2 * x - 1).toNat
theorem xor_zero (n : Nat) (h : n < 18446744073709551616) : Go.bits .xor .u64 (n : Int) 0 = (n : Int) := by
 have := bits_xor_u64_nat n 0 h (by decide)
 rw [Nat.xor_zero] at this
 exact this
theorem xor_ones (n : Nat) (h : n < 18446744073709551616) : Go.bits .xor .u64 (n : Int) 18446744073709551615 = ((18446744073709551615 - n : Nat) : Int) := by
 have := bits_xor_u64_nat n 18446744073709551615 h (by decide)
 rw [Nat.xor_comm, Lib.xor_ones64 n h] at this
 exact this
theorem zigzag_zz (x : Int) (h0 : -9223372036854775808 ≤ x) (h1 : x ≤ 9223372036854775807) : varint_ZigZag.f x = some (zz x : Int) := by
 unfold varint_ZigZag.f zz
 rw [IntKind.wrap_u64, IntKind.wrap_u64, IntKind.wrap_u64]
 by_cases h : 0 ≤ x
 ·rw [if_pos h, show x / 9223372036854775808 % 18446744073709551616 = 0 by omega, show x % 18446744073709551616 * 2 % 18446744073709551616 = ((2 * x).toNat : Int) by omega, xor_zero _ (by omega)]
 ·rw [if_neg h, show x / 9223372036854775808 % 18446744073709551616 = 18446744073709551615 by omega, show x % 18446744073709551616 * 2 % 18446744073709551616 = ((2 * x + 18446744073709551616).toNat : Int) by omega, xor_ones _ (by omega)]
  congr 2
  omega
theorem i64_bits (x : Nat) (hx : x < 9223372036854775808) : (BitVec.ofInt 64 (x : Int)).toNat = x := by
 rw [BitVec.toNat_ofInt]
 omega
theorem i64_xor_zero (x : Nat) (hx : x < 9223372036854775808) : Go.bits .xor .i64 (x : Int) 0 = (x : Int) := by
 show IntKind.i64.wrap ((BitVec.ofInt 64 (x : Int) ^^^ BitVec.ofInt 64 0).toNat : Int) = _
 rw [BitVec.toNat_xor, i64_bits x hx, show (BitVec.ofInt 64 0).toNat = 0 by decide, Nat.xor_zero, IntKind.wrap_i64]
 omega
theorem i64_xor_ones (x : Nat) (hx : x < 9223372036854775808) : Go.bits .xor .i64 (x : Int) (-1) = -(x : Int) - 1 := by
 show IntKind.i64.wrap ((BitVec.ofInt 64 (x : Int) ^^^ BitVec.ofInt 64 (-1)).toNat : Int) = _
 rw [BitVec.toNat_xor, i64_bits x hx, show (BitVec.ofInt 64 (-1)).toNat = 2 ^ 64 - 1 by decide, Nat.xor_comm, Lib.xor_ones64 x (by omega), IntKind.wrap_i64]
 omega
/-- The inverse. -/
def uz (n : Nat) : Int := if n % 2 = 0 then (n / 2 : Nat) else -((n / 2 : Nat) : Int) - 1
theorem uz_bd (n : Nat) (h : n < 18446744073709551616) : -9223372036854775808 ≤ uz n ∧ uz n ≤ 9223372036854775807 := by unfold uz; split <;> omega
theorem zz_uz (n : Nat) : zz (uz n) = n := by
 unfold zz uz
 by_cases h : n % 2 = 0
 ·rw [if_pos h, if_pos (by omega)]
  omega
 ·rw [if_neg h, if_neg (by omega)]
  omega
theorem unzigzag_uz (n : Nat) (h : n < 18446744073709551616) : varint_UnZigZag.f (n : Int) = some (uz n) := by
 unfold varint_UnZigZag.f uz
 rw [Lib.u64_and1 _ (by omega) (by omega), show wrap64 ((n : Int) / 2) = ((n / 2 : Nat) : Int) by unfold wrap64; omega]
 by_cases h2 : n % 2 = 0
 ·rw [if_pos h2, show wrap64 (-(wrap64 ((n : Int) % 2))) = 0 by unfold wrap64; omega]
  congr 1
  have e := i64_xor_zero (n / 2) (by omega)
  exact e
 ·rw [if_neg h2, show wrap64 (-(wrap64 ((n : Int) % 2))) = -1 by unfold wrap64; omega]
  congr 1
  have e := i64_xor_ones (n / 2) (by omega)
  exact e
theorem ref_unzigzag_uz (n : Nat) (h : n < 18446744073709551616) : laminaref01_UnZigZag.f (n : Int) = some (uz n) := by
 unfold laminaref01_UnZigZag.f uz
 rw [Int.tmod_eq_emod_of_nonneg (by omega), Int.tdiv_eq_ediv_of_nonneg (by omega), IntKind.wrap_u64]
 by_cases h2 : n % 2 = 0
 ·rw [if_pos (by omega), if_pos h2]
  congr 1
  unfold wrap64
  omega
 ·rw [if_neg (by omega), if_neg h2]
  congr 1
  unfold wrap64
  omega
abbrev R5 := Int × Int × ByteArray × Int × Int
def bad (e : Int) : R5 := (0, 0, (⟨#[]⟩ : ByteArray), 0, e)
/-- Reading a value at an offset: what both decoders tell. -/
def dv (b : List Int) (off : Nat) : R5 :=
 if h : off < b.length then
  (if b[off] = 0 then (0, 0, (⟨#[]⟩ : ByteArray), ((off + 1 : Nat) : Int), 0)
  else if b[off] = 1 then (if h1 : off + 1 < b.length then (if b[off + 1] > 1 then bad 4 else (1, b[off + 1], (⟨#[]⟩ : ByteArray), ((off + 2 : Nat) : Int), 0)) else bad 2)
  else if b[off] = 2 then (if (vd 0 (b.drop (off + 1))).2.2 = 0 then (2, uz (vd 0 (b.drop (off + 1))).1, (⟨#[]⟩ : ByteArray), ((off + 1 + (vd 0 (b.drop (off + 1))).2.1 : Nat) : Int), 0) else bad (vd 0 (b.drop (off + 1))).2.2)
  else if b[off] = 3 then (if (vd 0 (b.drop (off + 1))).2.2 = 0 then (if (vd 0 (b.drop (off + 1))).1 > 4096 then bad 3 else if (vd 0 (b.drop (off + 1))).1 > b.length - (off + 1 + (vd 0 (b.drop (off + 1))).2.1) then bad 2 else
    (3, 0, strOfNums ((b.take (off + 1 + (vd 0 (b.drop (off + 1))).2.1 + (vd 0 (b.drop (off + 1))).1)).drop (off + 1 + (vd 0 (b.drop (off + 1))).2.1)), ((off + 1 + (vd 0 (b.drop (off + 1))).2.1 + (vd 0 (b.drop (off + 1))).1 : Nat) : Int), 0)) else bad (vd 0 (b.drop (off + 1))).2.2)
  else bad 4)
 else bad 2
theorem vres0 (off : Nat) (r : Nat × Nat × Int) : vres off 0 0 r = if r.2.2 = 0 then ((r.1 : Int), ((off + r.2.1 : Nat) : Int), 0) else (0, 0, r.2.2) := by
 unfold vres
 rw [Nat.zero_add, Nat.pow_zero, Nat.one_mul, Nat.add_zero]
theorem tail_eq (b : List Int) (n p : Nat) (hl : b.length < 4611686018427387904) (hp : p ≤ b.length) :
  (if (n : Int) > 4096 then some (bad 3) else (if (wrap64 ((b.length : Int) - (p : Int))) < (wrap64 (n : Int)) then some (bad 2) else (if 0 ≤ (p : Int) then (if (p : Int) ≤ (wrap64 ((p : Int) + (wrap64 (n : Int)))) then (if (wrap64 ((p : Int) + (wrap64 (n : Int)))) ≤ (b.length : Int) then (some ((3, 0, strOfNums ((b.take ((wrap64 ((p : Int) + (wrap64 (n : Int)))) : Int).toNat).drop (p : Int).toNat), wrap64 ((p : Int) + (wrap64 (n : Int))), 0) : R5)) else (none)) else (none)) else (none)))) =
  some (if n > 4096 then bad 3 else if n > b.length - p then bad 2 else (3, 0, strOfNums ((b.take (p + n)).drop p), ((p + n : Nat) : Int), 0)) := by
 by_cases h4 : n > 4096
 ·rw [if_pos h4, if_pos (by omega)]
 ·have e1 : wrap64 (n : Int) = (n : Int) := wrap_nat (by omega)
  have e2 : wrap64 ((b.length : Int) - (p : Int)) = ((b.length - p : Nat) : Int) := by unfold wrap64; omega
  have e3 : wrap64 ((p : Int) + (n : Int)) = ((p + n : Nat) : Int) := by unfold wrap64; omega
  rw [if_neg h4, if_neg (by omega), e1, e2, e3]
  by_cases h5 : n > b.length - p
  ·rw [if_pos h5, if_pos (by omega)]
  ·rw [if_neg h5, if_neg (by omega), if_pos (by omega), if_pos (by omega), if_pos (by omega), Int.toNat_natCast, Int.toNat_natCast]
section
variable (b : List Int) (hb : Bytes b) (hl : b.length < 4611686018427387904) (off : Nat)
include hb hl
theorem text_ev (hlt : off ≤ b.length) : Ev (fun k => value_decodeText.f k b (off : Int))
  (if (vd 0 (b.drop off)).2.2 = 0 then (if (vd 0 (b.drop off)).1 > 4096 then bad 3 else if (vd 0 (b.drop off)).1 > b.length - (off + (vd 0 (b.drop off)).2.1) then bad 2 else
    (3, 0, strOfNums ((b.take (off + (vd 0 (b.drop off)).2.1 + (vd 0 (b.drop off)).1)).drop (off + (vd 0 (b.drop off)).2.1)), ((off + (vd 0 (b.drop off)).2.1 + (vd 0 (b.drop off)).1 : Nat) : Int), 0)) else bad (vd 0 (b.drop off)).2.2) := by
 have hd := dec_ev b hb hl off hlt
 have hok := vd_ok (b.drop off) 0 (fun c hc => hb c (List.mem_of_mem_drop hc)) (by decide)
 rw [vres0] at hd
 generalize vd 0 (b.drop off) = r at *
 unfold value_decodeText.f
 refine hd.bind ?_
 by_cases h : r.2.2 = 0
 ·simp only [h, if_true]
  obtain ⟨h1, h2, h3, _, _⟩ := hok h
  rw [List.length_drop] at h2
  by_cases h4 : r.1 > 4096
  ·rw [if_pos h4]
   exact Ev.const (by rw [if_pos (by omega)]; rfl)
  ·rw [if_neg h4]
   have e1 : wrap64 (r.1 : Int) = (r.1 : Int) := wrap_nat (by omega)
   have e2 : wrap64 ((b.length : Int) - ((off + r.2.1 : Nat) : Int)) = ((b.length - (off + r.2.1) : Nat) : Int) := by unfold wrap64; omega
   have e3 : wrap64 (((off + r.2.1 : Nat) : Int) + (r.1 : Int)) = ((off + r.2.1 + r.1 : Nat) : Int) := by unfold wrap64; omega
   by_cases h5 : r.1 > b.length - (off + r.2.1)
   ·rw [if_pos h5]
    exact Ev.const (by rw [if_neg (by omega), e1, e2, if_pos (by omega)]; rfl)
   ·rw [if_neg h5]
    exact Ev.const (by rw [if_neg (by omega), e1, e2, e3, if_neg (by omega), if_pos (by omega), if_pos (by omega), if_pos (by omega), Int.toNat_natCast, Int.toNat_natCast])
 ·simp only [h, if_false]
  exact Ev.const rfl
theorem decode_one (h : off < b.length) (k : Nat) : value_Decode.j0 (k + 1) b (off : Int) false =
  if b[off] = 0 then some (0, 0, (⟨#[]⟩ : ByteArray), ((off + 1 : Nat) : Int), 0)
  else if b[off] = 1 then (if h1 : off + 1 < b.length then (if b[off + 1] > 1 then some (bad 4) else some (1, b[off + 1], (⟨#[]⟩ : ByteArray), ((off + 2 : Nat) : Int), 0)) else some (bad 2))
  else if b[off] = 2 then (varint_Decode.f k b ((off + 1 : Nat) : Int)).bind fun bt => (if bt.2.2 = 0 then ((varint_UnZigZag.f bt.1).bind fun t116 => (some (2, t116, (⟨#[]⟩ : ByteArray), bt.2.1, 0))) else (some (bad bt.2.2)))
  else if b[off] = 3 then (value_decodeText.f k b ((off + 1 : Nat) : Int)).bind fun bt => some (bt.1, bt.2.1, bt.2.2.1, bt.2.2.2.1, bt.2.2.2.2)
  else some (bad 4) := by
 have hc := hb _ (List.getElem_mem h)
 have e0 : rd b (off : Int) = b[off] := rd_nat b off h
 have e1 : wrap64 ((off : Int) + 1) = ((off + 1 : Nat) : Int) := by unfold wrap64; omega
 have e2 : wrap64 b[off] = b[off] := by unfold wrap64; omega
 simp only [value_Decode.j0, Bool.false_eq_true, if_false]
 rw [if_neg (show ¬ (off : Int) = (b.length : Int) by omega), if_pos (show 0 ≤ (off : Int) by omega), if_pos (show (off : Int) < (b.length : Int) by omega), e0, e1, e2]
 by_cases c0 : b[off] = 0
 ·rw [if_pos c0, if_pos c0]
 rw [if_neg c0, if_neg c0]
 by_cases c1 : b[off] = 1
 ·rw [if_pos c1, if_pos c1]
  by_cases h1 : off + 1 < b.length
  ·have hc1 := hb _ (List.getElem_mem h1)
   have e3 : rd b ((off + 1 : Nat) : Int) = b[off + 1] := rd_nat b _ h1
   have e4 : wrap64 (((off + 1 : Nat) : Int) + 1) = ((off + 2 : Nat) : Int) := by unfold wrap64; omega
   have e5 : wrap64 b[off + 1] = b[off + 1] := by unfold wrap64; omega
   rw [dif_pos h1, if_neg (by omega), if_pos (by omega), if_pos (by omega), e3, e4, e5, c1]
   rfl
  ·rw [dif_neg h1, if_pos (by omega)]
   rfl
 rw [if_neg c1, if_neg c1]
 by_cases c2 : b[off] = 2
 ·rw [if_pos c2, if_pos c2, c2]
  rfl
 rw [if_neg c2, if_neg c2]
 by_cases c3 : b[off] = 3
 ·rw [if_pos c3, if_pos c3]
 ·rw [if_neg c3, if_neg c3]
  rfl
theorem decode_ev (ho : off ≤ b.length) : Ev (fun k => value_Decode.j0 k b (off : Int) false) (dv b off) := by
 unfold dv
 by_cases h : off < b.length
 ·rw [dif_pos h]
  have hone := decode_one b hb hl off h
  by_cases c0 : b[off] = 0
  ·rw [if_pos c0]
   exact Ev.fin fun k => by rw [hone, if_pos c0]
  rw [if_neg c0]
  by_cases c1 : b[off] = 1
  ·rw [if_pos c1]
   refine Ev.fin fun k => ?_
   rw [hone, if_neg c0, if_pos c1]
   by_cases h1 : off + 1 < b.length
   ·rw [dif_pos h1, dif_pos h1]
    by_cases h2 : b[off + 1] > 1
    ·rw [if_pos h2, if_pos h2]
    ·rw [if_neg h2, if_neg h2]
   ·rw [dif_neg h1, dif_neg h1]
  rw [if_neg c1]
  by_cases c2 : b[off] = 2
  ·rw [if_pos c2]
   have hd := dec_ev b hb hl (off + 1) (by omega)
   have hok := vd_ok (b.drop (off + 1)) 0 (fun c hc => hb c (List.mem_of_mem_drop hc)) (by decide)
   rw [vres0] at hd
   generalize vd 0 (b.drop (off + 1)) = r at *
   refine Ev.step (fun k => by rw [hone, if_neg c0, if_neg c1, if_pos c2]) (hd.bind ?_)
   by_cases h2 : r.2.2 = 0
   ·simp only [h2, if_true]
    obtain ⟨_, _, h3, _, _⟩ := hok h2
    rw [unzigzag_uz _ (by simpa using h3)]
    exact Ev.now _
   ·simp only [h2, if_false]
    exact Ev.now _
  rw [if_neg c2]
  by_cases c3 : b[off] = 3
  ·rw [if_pos c3]
   exact Ev.step (fun k => by rw [hone, if_neg c0, if_neg c1, if_neg c2, if_pos c3]) ((text_ev b hb hl (off + 1) (by omega)).bind (f := fun _ bt => some (bt.1, bt.2.1, bt.2.2.1, bt.2.2.2.1, bt.2.2.2.2)) (Ev.now _))
  ·rw [if_neg c3]
   exact Ev.fin fun k => by rw [hone, if_neg c0, if_neg c1, if_neg c2, if_neg c3]
 ·rw [dif_neg h]
  refine Ev.fin fun k => ?_
  simp only [value_Decode.j0, Bool.false_eq_true, if_false]
  rw [if_pos (by omega)]
  rfl
theorem ref_decode_one (h : off < b.length) (k : Nat) : laminaref04_Decode.j0 (k + 1) b (off : Int) false =
  if b[off] > 3 then some (bad 4)
  else if b[off] = 0 then some (0, 0, (⟨#[]⟩ : ByteArray), ((off + 1 : Nat) : Int), 0)
  else if b[off] = 1 then (if h1 : off + 1 < b.length then (if b[off + 1] > 1 then some (bad 4) else some (1, b[off + 1], (⟨#[]⟩ : ByteArray), ((off + 2 : Nat) : Int), 0)) else some (bad 2))
  else (laminaref01_Decode.f k b ((off + 1 : Nat) : Int)).bind fun bt => (if bt.2.2 = 0 then (if b[off] = 2 then ((laminaref01_UnZigZag.f bt.1).bind fun t => some (2, t, (⟨#[]⟩ : ByteArray), bt.2.1, 0)) else (if bt.1 > 4096 then some (bad 3) else (if (wrap64 ((b.length : Int) - bt.2.1)) < (wrap64 (bt.1)) then some (bad 2) else (if 0 ≤ bt.2.1 then (if bt.2.1 ≤ (wrap64 (bt.2.1 + (wrap64 (bt.1)))) then (if (wrap64 (bt.2.1 + (wrap64 (bt.1)))) ≤ (b.length : Int) then (some (3, 0, strOfNums ((b.take ((wrap64 (bt.2.1 + (wrap64 (bt.1)))) : Int).toNat).drop (bt.2.1 : Int).toNat), wrap64 (bt.2.1 + (wrap64 (bt.1))), 0)) else (none)) else (none)) else (none))))) else some (bad bt.2.2)) := by
 have hc := hb _ (List.getElem_mem h)
 have e0 : rd b (off : Int) = b[off] := rd_nat b off h
 have e1 : wrap64 ((off : Int) + 1) = ((off + 1 : Nat) : Int) := by unfold wrap64; omega
 have e2 : wrap64 b[off] = b[off] := by unfold wrap64; omega
 simp only [laminaref04_Decode.j0, Bool.false_eq_true, if_false]
 rw [if_neg (show ¬ (off : Int) = (b.length : Int) by omega), if_pos (show 0 ≤ (off : Int) by omega), if_pos (show (off : Int) < (b.length : Int) by omega), e0, e1, e2]
 by_cases c4 : b[off] > 3
 ·rw [if_pos c4, if_pos c4]
  rfl
 rw [if_neg c4, if_neg c4]
 by_cases c0 : b[off] = 0
 ·rw [if_pos c0, if_pos c0]
 rw [if_neg c0, if_neg c0]
 by_cases c1 : b[off] = 1
 ·rw [if_pos c1, if_pos c1]
  by_cases h1 : off + 1 < b.length
  ·have hc1 := hb _ (List.getElem_mem h1)
   have e3 : rd b ((off + 1 : Nat) : Int) = b[off + 1] := rd_nat b _ h1
   have e4 : wrap64 ((off : Int) + 2) = ((off + 2 : Nat) : Int) := by unfold wrap64; omega
   rw [dif_pos h1, if_neg (by omega), if_pos (by omega), if_pos (by omega), e3, e4]
   by_cases h2 : b[off + 1] > 1
   ·rw [if_pos h2, if_pos h2]
    rfl
   ·rw [if_neg h2, if_neg h2]
    have h01 : b[off + 1] = 0 ∨ b[off + 1] = 1 := by omega
    rcases h01 with h3 | h3 <;> rw [h3] <;> rfl
  ·rw [dif_neg h1, if_pos (by omega)]
   rfl
 rw [if_neg c1, if_neg c1]
 rfl
theorem ref_decode_ev (ho : off ≤ b.length) : Ev (fun k => laminaref04_Decode.j0 k b (off : Int) false) (dv b off) := by
 unfold dv
 by_cases h : off < b.length
 ·rw [dif_pos h]
  have hone := ref_decode_one b hb hl off h
  have hc := hb _ (List.getElem_mem h)
  by_cases c4 : b[off] > 3
  ·rw [if_neg (by omega), if_neg (by omega), if_neg (by omega), if_neg (by omega)]
   exact Ev.fin fun k => by rw [hone, if_pos c4]
  by_cases c0 : b[off] = 0
  ·rw [if_pos c0]
   exact Ev.fin fun k => by rw [hone, if_neg c4, if_pos c0]
  rw [if_neg c0]
  by_cases c1 : b[off] = 1
  ·rw [if_pos c1]
   refine Ev.fin fun k => ?_
   rw [hone, if_neg c4, if_neg c0, if_pos c1]
   by_cases h1 : off + 1 < b.length
   ·rw [dif_pos h1, dif_pos h1]
    by_cases h2 : b[off + 1] > 1
    ·rw [if_pos h2, if_pos h2]
    ·rw [if_neg h2, if_neg h2]
   ·rw [dif_neg h1, dif_neg h1]
  rw [if_neg c1]
  have hd := ref_dec_ev b hb hl (off + 1) (by omega)
  have hok := vd_ok (b.drop (off + 1)) 0 (fun c hc => hb c (List.mem_of_mem_drop hc)) (by decide)
  rw [vres0] at hd
  have hdl : (b.drop (off + 1)).length = b.length - (off + 1) := List.length_drop
  generalize vd 0 (b.drop (off + 1)) = r at *
  refine Ev.step (fun k => by rw [hone, if_neg c4, if_neg c0, if_neg c1]) (hd.bind ?_)
  by_cases h2 : r.2.2 = 0
  ·obtain ⟨_, hm, h3, _, _⟩ := hok h2
   rw [hdl] at hm
   by_cases c2 : b[off] = 2
   ·simp only [h2, c2, if_true]
    rw [ref_unzigzag_uz _ (by simpa using h3)]
    exact Ev.now _
   ·have c3 : b[off] = 3 := by omega
    simp only [h2, if_true]
    rw [if_neg c2, if_neg c2, if_pos c3]
    refine Ev.all fun k => ?_
    exact tail_eq b r.1 (off + 1 + r.2.1) hl (by omega)
  ·by_cases c2 : b[off] = 2
   ·simp only [h2, c2, if_true, if_false]
    exact Ev.now _
   ·have c3 : b[off] = 3 := by omega
    simp only [h2, if_false]
    rw [if_neg c2, if_pos c3]
    exact Ev.now _
 ·rw [dif_neg h]
  refine Ev.fin fun k => ?_
  simp only [laminaref04_Decode.j0, Bool.false_eq_true, if_false]
  rw [if_pos (by omega)]
  rfl
end
theorem take_drop (l : List Int) (o m : Nat) : (l.take (o + m)).drop o = (l.drop o).take m := by rw [List.drop_take]; congr 1; omega
theorem byte_back (c : Int) (h0 : 0 ≤ c) (h1 : c ≤ 255) : ((UInt8.ofNat c.toNat).toNat : Int) = c := by
 rw [UInt8.toNat_ofNat']
 omega
theorem bytes_back (l : List Int) (h : Bytes l) : bytesOf (strOfNums l) = l := by
 unfold bytesOf
 rw [strOfNums_data, List.map_map]
 conv => rhs; rw [← List.map_id l]
 apply List.map_congr_left
 intro c hc
 exact byte_back c (h c hc).1 (h c hc).2
/-- What is accepted is the encoding of its result. -/
theorem encode_back (b : List Int) (hb : Bytes b) (off : Nat) (h : (dv b off).2.2.2.2 = 0) :
  ∃ a : Nat, (dv b off).2.2.2.1 = (a : Int) ∧ off ≤ a ∧ a ≤ b.length ∧ Ev (fun k => value_Encode.f k (dv b off).1 (dv b off).2.1 (dv b off).2.2.1) ((b.take a).drop off) := by
 unfold dv at h ⊢
 by_cases hlt : off < b.length
 ·rw [dif_pos hlt] at h ⊢
  have hc := hb _ (List.getElem_mem hlt)
  have hdrop := drop_at b off hlt
  by_cases c0 : b[off] = 0
  ·rw [if_pos c0] at h ⊢
   refine ⟨off + 1, rfl, by omega, by omega, Ev.all fun k => ?_⟩
   rw [take_drop, hdrop, c0]
   rfl
  rw [if_neg c0] at h ⊢
  by_cases c1 : b[off] = 1
  ·rw [if_pos c1] at h ⊢
   by_cases h1 : off + 1 < b.length
   ·rw [dif_pos h1] at h ⊢
    have hc1 := hb _ (List.getElem_mem h1)
    by_cases h2 : b[off + 1] > 1
    ·rw [if_pos h2] at h
     exact absurd h (by decide)
    ·rw [if_neg h2] at h ⊢
     refine ⟨off + 2, rfl, by omega, by omega, Ev.all fun k => ?_⟩
     rw [take_drop, hdrop, drop_at b (off + 1) h1, c1]
     simp only [value_Encode.f, Option.bind_some]
     rw [if_pos trivial, if_pos (by decide), show b[off + 1] % 256 = b[off + 1] by omega]
     rfl
   ·rw [dif_neg h1] at h
    exact absurd h (by decide)
  rw [if_neg c1] at h ⊢
  have hok := vd_ok (b.drop (off + 1)) 0 (fun c hc => hb c (List.mem_of_mem_drop hc)) (by decide)
  have hdl : (b.drop (off + 1)).length = b.length - (off + 1) := List.length_drop
  generalize vd 0 (b.drop (off + 1)) = r at *
  by_cases c2 : b[off] = 2
  ·rw [if_pos c2] at h ⊢
   by_cases h2 : r.2.2 = 0
   ·rw [if_pos h2] at h ⊢
    obtain ⟨h3, h4, h5, _, h7⟩ := hok h2
    have hn : r.1 < 18446744073709551616 := by simpa using h5
    have hu := uz_bd r.1 hn
    refine ⟨off + 1 + r.2.1, rfl, by omega, by omega, ?_⟩
    rw [Nat.add_assoc, take_drop, hdrop, Nat.add_comm 1, List.take_succ_cons, ← h7, c2]
    have hlen := venc_len64 hn
    have main : Ev (fun k => (varint_Encode.f k (r.1 : Int)).bind fun t => if ([2] : List Int).length + t.length < 140737488355328 then some (([2] : List Int) ++ t) else none) ((2 : Int) :: venc r.1) := by
     refine (enc_ev r.1 hn).bind (Ev.const ?_)
     rw [if_pos (by simp; omega)]
     rfl
    refine Ev.congr (fun k => ?_) main
    simp only [value_Encode.f, Option.bind_some, zigzag_zz _ hu.1 hu.2, zz_uz]
    rw [if_neg (by decide), if_pos trivial]
    rfl
   ·rw [if_neg h2] at h
    exact absurd h h2
  rw [if_neg c2] at h ⊢
  by_cases c3 : b[off] = 3
  ·rw [if_pos c3] at h ⊢
   by_cases h2 : r.2.2 = 0
   ·rw [if_pos h2] at h ⊢
    by_cases h8 : r.1 > 4096
    ·rw [if_pos h8] at h
     exact absurd h (by decide)
    rw [if_neg h8] at h ⊢
    by_cases h9 : r.1 > b.length - (off + 1 + r.2.1)
    ·rw [if_pos h9] at h
     exact absurd h (by decide)
    rw [if_neg h9] at h ⊢
    obtain ⟨h3, h4, h5, _, h7⟩ := hok h2
    have hn : r.1 < 18446744073709551616 := by omega
    refine ⟨off + 1 + r.2.1 + r.1, rfl, by omega, by omega, ?_⟩
    rw [take_drop b (off + 1 + r.2.1) r.1]
    have e : (b.take (off + 1 + r.2.1 + r.1)).drop off = ((3 : Int) :: venc r.1) ++ (b.drop (off + 1 + r.2.1)).take r.1 := by
     rw [show off + 1 + r.2.1 + r.1 = off + (r.2.1 + r.1 + 1) by omega, take_drop, hdrop, List.take_succ_cons, List.take_add, ← h7, List.drop_drop, c3]
     rfl
    rw [e]
    have hx : Bytes ((b.drop (off + 1 + r.2.1)).take r.1) := fun c hc => hb c (List.mem_of_mem_drop (List.mem_of_mem_take hc))
    have hxl : ((b.drop (off + 1 + r.2.1)).take r.1).length = r.1 := by rw [List.length_take, List.length_drop]; omega
    generalize (b.drop (off + 1 + r.2.1)).take r.1 = x at *
    have hlen := venc_len64 hn
    have main : Ev (fun k => (varint_Encode.f k (r.1 : Int)).bind fun t => if ([3] : List Int).length + t.length < 140737488355328 then ((some (([3] : List Int) ++ t)).bind fun y => if y.length + (strOfNums x).size < 140737488355328 then some (y ++ bytesOf (strOfNums x)) else none) else none) (((3 : Int) :: venc r.1) ++ x) := by
     refine (enc_ev r.1 hn).bind (Ev.const ?_)
     rw [if_pos (by simp; omega), Option.bind_some, strOfNums_size, bytes_back x hx, if_pos (by simp; omega)]
     rfl
    refine Ev.congr (fun k => ?_) main
    simp only [value_Encode.f, Option.bind_some]
    rw [if_neg (by decide), if_neg (by decide), if_pos trivial, strOfNums_size, hxl, IntKind.wrap_u64, show (r.1 : Int) % 18446744073709551616 = (r.1 : Int) by omega]
    rfl
   ·rw [if_neg h2] at h
    exact absurd h h2
  ·rw [if_neg c3] at h
   exact absurd h (by decide)
 ·rw [dif_neg hlt] at h
  exact absurd h (by decide)
/-- Both come to a value, and the values are related. -/
def Both {α β : Type} (A : Nat → Option α) (B : Nat → Option β) (R : α → β → Prop) : Prop := ∃ x y, Ev A x ∧ Ev B y ∧ R x y
theorem Both.bind {α β γ δ : Type} {A : Nat → Option α} {B : Nat → Option β} {R : α → β → Prop} {F : Nat → α → Option γ} {G : Nat → β → Option δ} {Q : γ → δ → Prop} (h : Both A B R) (hf : ∀ x y, R x y → Both (fun k => F k x) (fun k => G k y) Q) : Both (fun k => (A k).bind (F k)) (fun k => (B k).bind (G k)) Q := by
 obtain ⟨x, y, hx, hy, hr⟩ := h
 obtain ⟨u, v, hu, hv, hq⟩ := hf x y hr
 exact ⟨u, v, hx.bind hu, hy.bind hv, hq⟩
theorem Both.mono {α β : Type} {A : Nat → Option α} {B : Nat → Option β} {R Q : α → β → Prop} (h : Both A B R) (hq : ∀ x y, R x y → Q x y) : Both A B Q := by
 obtain ⟨x, y, hx, hy, hr⟩ := h
 exact ⟨x, y, hx, hy, hq x y hr⟩
theorem Both.now {α β : Type} {R : α → β → Prop} (x : α) (y : β) (h : R x y) : Both (fun _ => some x) (fun _ => some y) R := ⟨x, y, Ev.now x, Ev.now y, h⟩
/-- What two readers give: one error; one value and place without an error. -/
def RR {α : Type} (P : α → Prop) (n : Nat) (x y : α × Int × Int) : Prop := (∃ v : α, ∃ t : Nat, P v ∧ t ≤ n ∧ x = (v, (t : Int), 0) ∧ y = (v, (t : Int), 0)) ∨ (x.2.2 = y.2.2 ∧ x.2.2 ≠ 0)
theorem vint_err (k : Nat) (l : List Int) (t e : Int) (h : e ≠ 0) : vintS k l t e = some (0, t, e) := if_neg h
theorem num_err (k : Nat) (l : List Int) (t e : Int) (h : e ≠ 0) : numS k l t e = some (0, t, e) := by unfold numS; rw [vint_err k l t e h, Option.bind_some, if_neg h]
theorem lim_err (k : Nat) (m : Int) (l : List Int) (t e : Int) (h : e ≠ 0) : limS k m l t e = some (0, t, e) := by unfold limS; rw [num_err k l t e h, Option.bind_some, if_neg h]
theorem flag_err (l : List Int) (t e : Int) (h : e ≠ 0) : flagS l t e = some (false, t, e) := if_neg h
theorem cnum_err (k : Nat) (l : List Int) (t e : Int) (h : e ≠ 0) : cnumS k l t e = some (0, t, e) := if_neg h
theorem csmall_err (k : Nat) (l : List Int) (t e : Int) (h : e ≠ 0) : csmallS k l t e = some (0, t, e) := by unfold csmallS; rw [cnum_err k l t e h, Option.bind_some, if_neg (show ¬ (2147483647 : Int) < 0 by decide)]; simp [wrap64]
theorem ccount_err (k : Nat) (m : Int) (hm : 0 ≤ m) (l : List Int) (t e : Int) (h : e ≠ 0) : ccountS k m l t e = some (0, t, e) := by
 unfold ccountS
 rw [csmall_err k l t e h, Option.bind_some, if_neg (show ¬ m < (0 : Int) by omega)]
theorem cval_err (k : Nat) (l : List Int) (t e : Int) (h : e ≠ 0) : cvalS k l t e = some (⟨0, 0, ⟨#[]⟩⟩, t, e) := if_neg h
section
variable (l : List Int) (hb : Bytes l) (hl : l.length < 4611686018427387904) (t : Nat) (ht : t ≤ l.length)
include hb hl ht
theorem vint_ok (h : (vd 0 (l.drop t)).2.2 = 0) : Ev (fun k => vintS k l (t : Int) 0) (((vd 0 (l.drop t)).1 : Int), ((t + (vd 0 (l.drop t)).2.1 : Nat) : Int), 0) ∧ Ev (fun k => cnumS k l (t : Int) 0) (((vd 0 (l.drop t)).1 : Int), ((t + (vd 0 (l.drop t)).2.1 : Nat) : Int), 0) := by
 have h1 := dec_ev l hb hl t ht
 have h2 := ref_dec_ev l hb hl t ht
 rw [vres0, if_pos h] at h1 h2
 exact ⟨Ev.congr (fun k => if_pos rfl) h1, Ev.congr (fun k => if_pos rfl) (h2.bind (Ev.const (if_pos rfl)))⟩
theorem vint_bad (h : (vd 0 (l.drop t)).2.2 ≠ 0) : Ev (fun k => vintS k l (t : Int) 0) (0, 0, (vd 0 (l.drop t)).2.2) ∧ Ev (fun k => cnumS k l (t : Int) 0) (0, (t : Int), (vd 0 (l.drop t)).2.2) := by
 have h1 := dec_ev l hb hl t ht
 have h2 := ref_dec_ev l hb hl t ht
 rw [vres0, if_neg h] at h1 h2
 exact ⟨Ev.congr (fun k => if_pos rfl) h1, Ev.congr (fun k => if_pos rfl) (h2.bind (Ev.const (if_neg h)))⟩
omit hl in
theorem vd_end (h : (vd 0 (l.drop t)).2.2 = 0) : t + (vd 0 (l.drop t)).2.1 ≤ l.length := by
 have hok := vd_ok (l.drop t) 0 (fun c hc => hb c (List.mem_of_mem_drop hc)) (by decide) h
 rw [List.length_drop] at hok
 omega
theorem vint_both : Both (fun k => vintS k l (t : Int) 0) (fun k => cnumS k l (t : Int) 0) (RR (fun _ => True) l.length) := by
 by_cases h : (vd 0 (l.drop t)).2.2 = 0
 ·obtain ⟨h1, h2⟩ := vint_ok l hb hl t ht h
  exact ⟨_, _, h1, h2, Or.inl ⟨_, _, trivial, vd_end l hb t ht h, rfl, rfl⟩⟩
 ·obtain ⟨h1, h2⟩ := vint_bad l hb hl t ht h
  exact ⟨_, _, h1, h2, Or.inr ⟨rfl, h⟩⟩
theorem num_both : Both (fun k => numS k l (t : Int) 0) (fun k => csmallS k l (t : Int) 0) (RR (fun _ => True) l.length) := by
 refine (vint_both l hb hl t ht).bind fun x y hr => ?_
 rcases hr with ⟨v, u, _, hu, rfl, rfl⟩ | ⟨h1, h2⟩
 ·simp only [if_true]
  by_cases hv : 2147483647 < v
  ·simp only [if_pos hv]
   exact Both.now _ _ (Or.inr ⟨rfl, (by decide : (6 : Int) ≠ 0)⟩)
  ·simp only [if_neg hv]
   exact Both.now _ _ (Or.inl ⟨_, u, trivial, hu, rfl, rfl⟩)
 ·have h3 : y.2.2 ≠ 0 := h1 ▸ h2
  simp only [if_neg h2, if_neg h3]
  by_cases hv : 2147483647 < y.1
  ·simp only [if_pos hv]
   exact Both.now _ _ (Or.inr ⟨h1, h2⟩)
  ·simp only [if_neg hv]
   exact Both.now _ _ (Or.inr ⟨h1, h2⟩)
theorem lim_both (m : Int) : Both (fun k => limS k m l (t : Int) 0) (fun k => ccountS k m l (t : Int) 0) (RR (fun v => v ≤ m) l.length) := by
 refine (num_both l hb hl t ht).bind fun x y hr => ?_
 rcases hr with ⟨v, u, _, hu, rfl, rfl⟩ | ⟨h1, h2⟩
 ·simp only [if_true]
  by_cases hv : m < v
  ·simp only [if_pos hv]
   exact Both.now _ _ (Or.inr ⟨rfl, (by decide : (18 : Int) ≠ 0)⟩)
  ·simp only [if_neg hv]
   exact Both.now _ _ (Or.inl ⟨_, u, Int.not_lt.mp hv, hu, rfl, rfl⟩)
 ·have h3 : y.2.2 ≠ 0 := h1 ▸ h2
  simp only [if_neg h2, if_neg h3]
  by_cases hv : m < y.1
  ·simp only [if_pos hv]
   exact Both.now _ _ (Or.inr ⟨h1, h2⟩)
  ·simp only [if_neg hv]
   exact Both.now _ _ (Or.inr ⟨h1, h2⟩)
omit hb hl in
theorem flag_now : ∃ x, flagS l (t : Int) 0 = some x ∧ RR (fun _ => True) l.length x x := by
 unfold flagS
 rw [if_pos rfl]
 by_cases h : (t : Int) = (l.length : Int)
 ·exact ⟨_, if_pos h, Or.inr ⟨rfl, (by decide : (2 : Int) ≠ 0)⟩⟩
 ·rw [if_neg h, if_pos (by omega)]
  by_cases h2 : 1 < rd l (t : Int)
  ·exact ⟨_, if_pos h2, Or.inr ⟨rfl, (by decide : (4 : Int) ≠ 0)⟩⟩
  ·exact ⟨_, if_neg h2, Or.inl ⟨rd l (t : Int) == 1, t + 1, trivial, by omega, by simp, by simp⟩⟩
omit hb hl in
theorem flag_both : Both (fun _ => flagS l (t : Int) 0) (fun _ => flagS l (t : Int) 0) (RR (fun _ => True) l.length) := by
 obtain ⟨x, hx, hr⟩ := flag_now l t ht
 exact ⟨x, x, Ev.const hx, Ev.const hx, hr⟩
theorem lib_dec : Ev (fun k => value_Decode.f k l (t : Int)) (dv l t) := Ev.congr (fun k => by unfold value_Decode.f; rw [if_neg (by omega), decide_eq_false (by omega)]) (decode_ev l hb (by omega) t ht)
theorem ref_dec : Ev (fun k => laminaref04_Decode.f k l (t : Int)) (dv l t) := Ev.congr (fun k => by unfold laminaref04_Decode.f; rw [if_neg (by omega), decide_eq_false (by omega)]) (ref_decode_ev l hb (by omega) t ht)
omit hl ht in
theorem dv_end (h : (dv l t).2.2.2.2 = 0) : ∃ u : Nat, u ≤ l.length ∧ (dv l t).2.2.2.1 = (u : Int) := by
 obtain ⟨a, ha, _, h2, _⟩ := encode_back l hb t h
 exact ⟨a, h2, ha⟩
end
end Go.Proofs.Ytackcingpffidaa.P
namespace Go.Proofs.Ytackcingpffidaa.P
open Go.RowKit Go.Proofs.YtackcingpffidaaW.PrintWords Go.Proofs.YtackcingpffidaaW.PrintLast Go.Proofs.YtackcingpffidaaW.PrintMore
set_option linter.unusedVariables false
set_option maxRecDepth 1000000 in
theorem awake_true : laminalaw16_awake.f 40 = some true := by kernel_rfl
theorem awake_ev : Ev (fun k => laminalaw16_awake.f k) true := Ev.of laminalaw16_awake.mono awake_true
/-! ### the fences -/
theorem allN_iff (p : Nat → Bool) : ∀ m i, allN p i m = true ↔ ∀ j, i ≤ j → j < i + m → p j = true
 | 0, _ => by simp [allN]; intro j h1 h2; omega
 | m + 1, i => by
  simp only [allN, Bool.and_eq_true, allN_iff p m (i + 1)]
  constructor
  ·rintro ⟨h0, h⟩ j h1 h2
   by_cases e : j = i
   ·subst e; exact h0
   ·exact h j (by omega) (by omega)
  ·intro h
   exact ⟨h i (Nat.le_refl _) (by omega), fun j h1 h2 => h j (by omega) (by omega)⟩
theorem rF_fOk (l : List S39) (h : ∀ j, j < l.length → vV (rd_T39 l (j : Nat)) = true) (i : Nat) (hi : i < l.length) : rF l i = fOk l i := by
 unfold rF fOk
 rw [rvV_same]
 by_cases h0 : 0 < i
 ·have h1 := h (i - 1) (by omega)
  rw [show ((i - 1 : Nat) : Int) = (i : Int) - 1 from by omega] at h1
  rw [rcV_same _ _ h1 (h i hi)]
 ·simp [h0]
theorem fences_same (l : List S39) (r : List Int) (n : Int) : rfencesB l r n = fencesB l r n := by
 unfold rfencesB fencesB
 by_cases h17 : 17 < l.length
 ·rw [if_pos h17, if_pos h17]
 rw [if_neg h17, if_neg h17]
 by_cases hk : (l.length = 0) = (n = 0)
 ·rw [if_pos hk, if_pos hk]
  by_cases hr : r.length = 2 * l.length
  ·rw [if_pos hr, if_pos hr]
   rw [Bool.eq_iff_iff]
   simp only [Bool.and_eq_true, allN_iff]
   have hR : ∀ i : Nat, rR r n l.length i = true ↔ (0 ≤ rd r (2 * (i : Int)) ∧ rd r (2 * (i : Int)) ≤ n ∧ 0 ≤ rd r (2 * (i : Int) + 1) ∧ rd r (2 * (i : Int) + 1) ≤ n ∧ (i = 0 → rd r (2 * (i : Int)) = 0) ∧ (i + 1 = l.length → rd r (2 * (i : Int) + 1) = n) ∧ (0 < i → rd r (2 * (i : Int) - 2) ≤ rd r (2 * (i : Int)) ∧ rd r (2 * (i : Int) - 1) ≤ rd r (2 * (i : Int) + 1) ∧ rd r (2 * (i : Int) - 1) ≤ rd r (2 * (i : Int)))) := by
    intro i
    unfold rR
    simp only [Bool.and_eq_true, Bool.not_eq_true', decide_eq_false_iff_not, Bool.and_eq_false_iff, Bool.or_eq_false_iff, beq_eq_false_iff_ne, bne_eq_false_iff_eq, Int.not_lt, ne_eq]
    constructor
    ·rintro ⟨⟨⟨⟨⟨⟨h1, h2⟩, h3⟩, h4⟩, h5⟩, h6⟩, h7⟩
     refine ⟨h1, h2, h3, h4, fun e => ?_, fun e => ?_, fun e => ?_⟩
     ·rcases h5 with h5 | h5
      ·exact absurd e h5
      ·exact h5
     ·rcases h6 with h6 | h6
      ·exact absurd e h6
      ·exact h6
     ·rcases h7 with h7 | h7
      ·exact absurd e h7
      ·exact ⟨h7.1.1, h7.1.2, h7.2⟩
    ·rintro ⟨h1, h2, h3, h4, h5, h6, h7⟩
     refine ⟨⟨⟨⟨⟨⟨h1, h2⟩, h3⟩, h4⟩, ?_⟩, ?_⟩, ?_⟩
     ·by_cases e : i = 0
      ·exact .inr (h5 e)
      ·exact .inl e
     ·by_cases e : i + 1 = l.length
      ·exact .inr (h6 e)
      ·exact .inl e
     ·by_cases e : 0 < i
      ·exact .inr ⟨⟨(h7 e).1, (h7 e).2.1⟩, (h7 e).2.2⟩
      ·exact .inl e
   have hr2 : ∀ i : Nat, rOk r n i = true ↔ (0 ≤ rd r (i : Int) ∧ rd r (i : Int) ≤ n ∧ (2 ≤ i → rd r ((i : Int) - 2) ≤ rd r (i : Int))) := by
    intro i
    unfold rOk
    simp only [Bool.and_eq_true, Bool.not_eq_true', decide_eq_false_iff_not, Bool.and_eq_false_iff, Int.not_lt]
    constructor
    ·rintro ⟨⟨h1, h2⟩, h3⟩
     exact ⟨h1, h2, fun e => h3.resolve_left (fun h => h e)⟩
    ·rintro ⟨h1, h2, h3⟩
     refine ⟨⟨h1, h2⟩, ?_⟩
     by_cases e : 2 ≤ i
     ·exact .inr (h3 e)
     ·exact .inl e
   have ht : ∀ i : Nat, tOk r i = true ↔ rd r (2 * (i : Int) - 1) ≤ rd r (2 * (i : Int)) := by
    intro i
    unfold tOk
    simp
   constructor
   ·intro h
    have hF : ∀ j, j < l.length → rF l j = true ∧ rR r n l.length j = true := fun j hj => by
     have := h j (Nat.zero_le _) (by omega)
     exact this
    have hv : ∀ j, j < l.length → vV (rd_T39 l (j : Nat)) = true := fun j hj => by
     have h1 := (hF j hj).1
     unfold rF at h1
     simp only [Bool.and_eq_true] at h1
     rw [← rvV_same]
     exact h1.1.1.1
    refine ⟨⟨⟨fun j _ hj => ?_, fun j _ hj => ?_⟩, fun j h1 hj => ?_⟩, ?_⟩
    ·rw [← rF_fOk l hv j (by omega)]; exact (hF j (by omega)).1
    ·rw [hr2]
     have h2 := (hR (j / 2)).1 (hF (j / 2) (by omega)).2
     rcases Nat.mod_two_eq_zero_or_one j with e | e
     ·rw [show (j : Int) = 2 * ((j / 2 : Nat) : Int) from by omega]
      exact ⟨h2.1, h2.2.1, fun hj2 => (h2.2.2.2.2.2.2 (by omega)).1⟩
     ·rw [show (j : Int) = 2 * ((j / 2 : Nat) : Int) + 1 from by omega]
      refine ⟨h2.2.2.1, h2.2.2.2.1, fun hj2 => ?_⟩
      rw [show 2 * ((j / 2 : Nat) : Int) + 1 - 2 = 2 * ((j / 2 : Nat) : Int) - 1 from by omega]
      exact (h2.2.2.2.2.2.2 (by omega)).2.1
    ·rw [ht]
     exact (((hR j).1 (hF j (by omega)).2).2.2.2.2.2.2 (by omega)).2.2
    ·by_cases h0 : l.length = 0
     ·simp [h0]
     ·have ha := (hR 0).1 (hF 0 (by omega)).2
      have hb := (hR (l.length - 1)).1 (hF (l.length - 1) (by omega)).2
      have h1 := ha.2.2.2.2.1 rfl
      have h2 := hb.2.2.2.2.2.1 (by omega)
      rw [show 2 * ((l.length - 1 : Nat) : Int) + 1 = 2 * (l.length : Int) - 1 from by omega] at h2
      have h1' : rd r 0 = 0 := by simpa using h1
      simp [h1', h2]
   ·rintro ⟨⟨⟨hF, hr_⟩, ht_⟩, he⟩ j _ hj
    have hv : ∀ j, j < l.length → vV (rd_T39 l (j : Nat)) = true := fun j hj => by
     have h1 := hF j (Nat.zero_le _) (by omega)
     unfold fOk at h1
     simp only [Bool.and_eq_true] at h1
     exact h1.1.1.1
    refine ⟨by rw [rF_fOk l hv j (by omega)]; exact hF j (Nat.zero_le _) hj, ?_⟩
    rw [hR]
    have h0 := (hr2 (2 * j)).1 (hr_ (2 * j) (Nat.zero_le _) (by omega))
    have h1 := (hr2 (2 * j + 1)).1 (hr_ (2 * j + 1) (Nat.zero_le _) (by omega))
    rw [show ((2 * j : Nat) : Int) = 2 * (j : Int) from by omega] at h0
    rw [show ((2 * j + 1 : Nat) : Int) = 2 * (j : Int) + 1 from by omega] at h1
    have he' : rd r 0 = 0 ∧ rd r (2 * (l.length : Int) - 1) = n := by
     simp only [Bool.or_eq_true, beq_iff_eq, Bool.and_eq_true] at he
     rcases he with he | he
     ·omega
     ·exact he
    refine ⟨h0.1, h0.2.1, h1.1, h1.2.1, fun e => ?_, fun e => ?_, fun e => ⟨h0.2.2 (by omega), ?_, ?_⟩⟩
    ·subst e; simpa using he'.1
    ·rw [show 2 * (j : Int) + 1 = 2 * (l.length : Int) - 1 from by omega]; exact he'.2
    ·have := h1.2.2 (by omega)
     rwa [show 2 * (j : Int) + 1 - 2 = 2 * (j : Int) - 1 from by omega] at this
    ·have := (ht j).1 (ht_ j (by omega) (by omega))
     exact this
  ·rw [if_neg hr, if_neg hr]
 ·rw [if_neg hk, if_neg hk]
end Go.Proofs.Ytackcingpffidaa.P
namespace Go.Proofs.Ytackcingpffidaa.P
open Go.RowKit Go.Proofs.YtackcingpffidaaW.PrintWords Go.Proofs.YtackcingpffidaaW.PrintLast Go.Proofs.YtackcingpffidaaW.PrintMore
set_option linter.unusedVariables false
set_option linter.unusedSimpArgs false
theorem Ev_pos {α : Type} {p : Prop} [Decidable p] {a b : Nat → Option α} {r : α} (h : p) (e : Ev a r) : Ev (fun k => if p then a k else b k) r := Ev.congr (fun _ => if_pos h) e
theorem Ev_neg {α : Type} {p : Prop} [Decidable p] {a b : Nat → Option α} {r : α} (h : ¬ p) (e : Ev b r) : Ev (fun k => if p then a k else b k) r := Ev.congr (fun _ => if_neg h) e
theorem wrap64_small {x : Int} (h0 : 0 ≤ x) (h1 : x < 9223372036854775808) : wrap64 x = x := by unfold wrap64; omega
/-! ### counters -/
section
variable (a0 a1 : Int) (M : List Int) (c : Bool) (C : List Int) (F : List S39) (R : List Int)
theorem ref_row (hC : C.length = 256) (r : Nat) (hr : r < 4) (B : Bool) (hB : Ev (fun k => laminaref16_validCounters.l0 k ((r + 1 : Nat) : Int) a0 a1 M c C F R) B) : ∀ (m x : Nat) (left : Int), x + m = 64 →
  Ev (fun k => laminaref16_validCounters.l1 k (r : Int) left (x : Int) a0 a1 M c C F R) (rowB (((C.take ((r + 1) * 64)).drop (r * 64)).drop x) left && B)
 | 0, x, left, h => by
  obtain rfl : x = 64 := by omega
  rw [List.drop_of_length_le (by rw [List.length_drop, List.length_take]; omega)]
  refine Ev.succ ?_
  simp only [laminaref16_validCounters.l1]
  refine Ev_neg (by omega) ?_
  by_cases h0 : left = 0
  ·refine Ev_pos h0 ?_
   subst h0
   rw [wrap64_small (by omega) (by omega)]
   simpa [rowB] using hB
  ·refine Ev_neg h0 ?_
   have : rowB [] left = false := by simp [rowB, h0]
   rw [this]
   exact Ev.now _
 | m + 1, x, left, h => by
  have hd : ((C.take ((r + 1) * 64)).drop (r * 64)).drop x = rd C ((r * 64 + x : Nat) : Int) :: ((C.take ((r + 1) * 64)).drop (r * 64)).drop (x + 1) := by
   rw [List.drop_eq_getElem_cons (by rw [List.length_drop, List.length_take]; omega)]
   congr 1
   unfold rd
   rw [Int.toNat_natCast, List.getD_eq_getElem?_getD, List.getElem?_eq_getElem (by omega), List.getElem_drop, List.getElem_take]
   rfl
  rw [hd]
  have hi : wrap64 (wrap64 ((r : Int) * 64) + (x : Int)) = ((r * 64 + x : Nat) : Int) := by rw [wrap64_small (x := (r : Int) * 64) (by omega) (by omega), wrap64_small (by omega) (by omega)]; omega
  refine Ev.succ ?_
  simp only [laminaref16_validCounters.l1]
  rw [hi]
  refine Ev_pos (by omega) (Ev_pos (by omega) (Ev_pos (by omega) ?_))
  generalize rd C ((r * 64 + x : Nat) : Int) = v
  by_cases h1 : v < 0
  ·refine Ev_pos h1 ?_
   simp only [rowB, if_pos h1, Bool.false_and]
   exact Ev.now _
  ·by_cases h2 : v > left
   ·refine Ev_neg h1 (Ev_pos h2 ?_)
    simp only [rowB, if_neg h1, if_pos (show left < v from h2), Bool.false_and]
    exact Ev.now _
   ·refine Ev_neg h1 (Ev_neg h2 ?_)
    simp only [rowB, if_neg h1, if_neg (show ¬ left < v from h2)]
    rw [wrap64_small (x := (x : Int) + 1) (by omega) (by omega)]
    have := ref_row hC r hr B hB m (x + 1) (wrap64 (left - v)) (by omega)
    simpa using this
theorem ref_cnt (hC : C.length = 256) : ∀ (m r : Nat), r + m = 4 → Ev (fun k => laminaref16_validCounters.l0 k (r : Int) a0 a1 M c C F R) (cntF C (wrap64 (a0 - a1)) m)
 | 0, r, h => by
  obtain rfl : r = 4 := by omega
  refine Ev.succ ?_
  simp only [laminaref16_validCounters.l0]
  exact Ev_neg (by omega) (Ev.now _)
 | m + 1, r, h => by
  refine Ev.succ ?_
  simp only [laminaref16_validCounters.l0, laminaref16_values.f, Option.bind_some]
  refine Ev_pos (by omega) ?_
  have := ref_row a0 a1 M c C F R hC r (by omega) _ (ref_cnt hC m (r + 1) (by omega)) 64 0 (wrap64 (a0 - a1)) rfl
  rw [List.drop_zero] at this
  simp only [cntF]
  rw [show 3 - m = r from by omega]
  exact this
theorem ref_counters : Ev (fun k => laminaref16_validCounters.f k a0 a1 M c C F R) (cntB C (wrap64 (a0 - a1))) := by
 unfold laminaref16_validCounters.f cntB
 by_cases h : C.length = 256
 ·refine Ev.congr (fun k => if_pos (by omega)) ?_
  rw [show (C.length == 256) = true from by simp [h], Bool.true_and]
  exact ref_cnt a0 a1 M c C F R h 4 0 rfl
 ·refine Ev.congr (fun k => if_neg (by omega)) ?_
  rw [show (C.length == 256) = false from by simp [h], Bool.false_and]
  exact Ev.now _
/-! ### hashes -/
def upB (M : List Int) (j : Nat) : Bool := !(decide (rd M (j : Int) ≤ rd M ((j : Int) - 1)))
theorem ref_up (hM : M.length ≤ 4611686018427387904) : ∀ (m i : Nat), 1 ≤ i → M.length - i = m → Ev (fun k => laminaref16_validHashes.l0 k (i : Int) a0 a1 M c C F R) (allN (upB M) i m)
 | 0, i, h1, h => by
  refine Ev.succ ?_
  simp only [laminaref16_validHashes.l0]
  exact Ev_neg (by omega) (Ev.now _)
 | m + 1, i, h1, h => by
  refine Ev.succ ?_
  simp only [laminaref16_validHashes.l0]
  rw [wrap64_small (x := (i : Int) - 1) (by omega) (by omega)]
  refine Ev_pos (by omega) (Ev_pos (by omega) (Ev_pos (by omega) (Ev_pos (by omega) ?_)))
  by_cases h2 : rd M (i : Int) ≤ rd M ((i : Int) - 1)
  ·refine Ev_pos h2 ?_
   rw [allN_bad _ _ _ (by simp [upB, h2])]
   exact Ev.now _
  ·refine Ev_neg h2 ?_
   rw [allN_next _ _ _ (by simp [upB, h2]), wrap64_small (x := (i : Int) + 1) (by omega) (by omega)]
   have := ref_up hM m (i + 1) (by omega) (by omega)
   simpa using this
theorem lib_up (n : Int) (hM : M.length ≤ 4611686018427387904) : ∀ (m i : Nat), 1 ≤ i → M.length - i = m → Ev (fun k => sketch_Valid.l0 k n (i : Int) a0 a1 M c C F R) (allN (upB M) i m && (cntB C n && fencesB F R n))
 | 0, i, h1, h => by
  refine Ev.succ ?_
  simp only [sketch_Valid.l0, sketch_validCounters.f, sketch_validFences.f, Option.bind_some]
  refine Ev_neg (by omega) ?_
  simp only [allN, Bool.true_and]
  cases cntB C n with
  | true => exact Ev.now _
  | false => exact Ev.now _
 | m + 1, i, h1, h => by
  refine Ev.succ ?_
  simp only [sketch_Valid.l0]
  rw [wrap64_small (x := (i : Int) - 1) (by omega) (by omega)]
  refine Ev_pos (by omega) (Ev_pos (by omega) (Ev_pos (by omega) (Ev_pos (by omega) ?_)))
  by_cases h2 : rd M (i : Int) ≤ rd M ((i : Int) - 1)
  ·refine Ev_pos h2 ?_
   rw [allN_bad _ _ _ (by simp [upB, h2])]
   exact Ev.now _
  ·refine Ev_neg h2 ?_
   rw [allN_next _ _ _ (by simp [upB, h2]), wrap64_small (x := (i : Int) + 1) (by omega) (by omega)]
   have := lib_up n hM m (i + 1) (by omega) (by omega)
   simpa using this
/-- The checks of numbers, hashes and completeness that need no loop fail. -/
def badB (a0 a1 n : Int) (len : Nat) (c : Bool) : Bool := decide (a1 < 0) || decide (a0 < a1) || decide (32 < len) || decide (n < (len : Int)) || (decide (0 < n) && decide (len = 0)) || (!c && decide (len < 32))
def validB (a0 a1 : Int) (M : List Int) (c : Bool) (C : List Int) (F : List S39) (R : List Int) : Bool :=
 !badB a0 a1 (wrap64 (a0 - a1)) M.length c && (allN (upB M) 1 (M.length - 1) && (cntB C (wrap64 (a0 - a1)) && fencesB F R (wrap64 (a0 - a1))))
theorem lib_valid (hM : M.length ≤ 4611686018427387904) : Ev (fun k => sketch_Valid.f k a0 a1 M c C F R) (validB a0 a1 M c C F R) := by
 unfold sketch_Valid.f
 simp only [sketch_count.f, Option.bind_some]
 have hj : ∀ b, Ev (fun k => sketch_Valid.j0 k (wrap64 (a0 - a1)) b a0 a1 M c C F R) (!b && (allN (upB M) 1 (M.length - 1) && (cntB C (wrap64 (a0 - a1)) && fencesB F R (wrap64 (a0 - a1))))) := by
  intro b
  refine Ev.succ ?_
  simp only [sketch_Valid.j0]
  cases b with
  | true => exact Ev.now _
  | false => exact lib_up a0 a1 M c C F R _ hM (M.length - 1) 1 (Nat.le_refl _) rfl
 unfold validB
 generalize wrap64 (a0 - a1) = n at *
 generalize hV : (allN (upB M) 1 (M.length - 1) && (cntB C n && fencesB F R n)) = V at *
 have key : ∀ b, badB a0 a1 n M.length c = b → Ev (fun k => sketch_Valid.j0 k n b a0 a1 M c C F R) (!badB a0 a1 n M.length c && V) := fun b h => by rw [h]; exact hj b
 unfold badB at key ⊢
 by_cases h1 : a1 < 0
 ·exact Ev_pos h1 (key true (by simp [h1]))
 by_cases h2 : a1 > a0
 ·exact (Ev_neg h1 (Ev_pos h2 (key true (by simp [show a0 < a1 from h2]))))
 by_cases h3 : (M.length : Int) > mn n 32
 ·refine Ev_neg h1 (Ev_neg h2 (Ev_pos h3 (key true ?_)))
  have : 32 < M.length ∨ n < (M.length : Int) := by unfold mn at h3; split at h3 <;> omega
  rcases this with h | h <;> simp [h]
 have h3a : ¬ 32 < M.length := by unfold mn at h3; split at h3 <;> omega
 have h3b : ¬ n < (M.length : Int) := by unfold mn at h3; split at h3 <;> omega
 by_cases h4 : n > 0
 ·by_cases h5 : (M.length : Int) = 0
  ·have h5' : M.length = 0 := by omega
   exact (Ev_neg h1 (Ev_neg h2 (Ev_neg h3 (Ev_pos h4 (Ev_pos h5 (key true (by simp [show 0 < n from h4, h5'])))))))
  ·have h5' : ¬ M.length = 0 := by omega
   cases c with
   | true => exact (Ev_neg h1 (Ev_neg h2 (Ev_neg h3 (Ev_pos h4 (Ev_neg h5 (Ev_pos rfl (key false (by simp [h1, show ¬ a0 < a1 from h2, h3a, h3b, h5', show ¬ M = [] from fun e => h5' (by simp [e])]))))))))
   | false => exact (Ev_neg h1 (Ev_neg h2 (Ev_neg h3 (Ev_pos h4 (Ev_neg h5 (Ev_neg (by simp) (key _ (by rw [Bool.eq_iff_iff]; simp [h1, show ¬ a0 < a1 from h2, h3a, h3b, h5', show ¬ M = [] from fun e => h5' (by simp [e])] <;> omega))))))))
 ·cases c with
  | true => exact (Ev_neg h1 (Ev_neg h2 (Ev_neg h3 (Ev_neg h4 (Ev_pos rfl (key false (by simp [h1, show ¬ a0 < a1 from h2, h3a, h3b, show ¬ 0 < n from h4])))))))
  | false => exact (Ev_neg h1 (Ev_neg h2 (Ev_neg h3 (Ev_neg h4 (Ev_neg (by simp) (key _ (by rw [Bool.eq_iff_iff]; simp [h1, show ¬ a0 < a1 from h2, h3a, h3b, show ¬ 0 < n from h4] <;> omega)))))))
theorem ref_hashes (hM : M.length ≤ 4611686018427387904) : Ev (fun k => laminaref16_validHashes.f k a0 a1 M c C F R) (!(decide (32 < M.length) || decide (wrap64 (a0 - a1) < (M.length : Int)) || (decide (0 < wrap64 (a0 - a1)) && decide (M.length = 0)) || (!c && decide (M.length < 32))) && allN (upB M) 1 (M.length - 1)) := by
 unfold laminaref16_validHashes.f
 simp only [laminaref16_values.f, Option.bind_some]
 have hj : ∀ b, Ev (fun k => laminaref16_validHashes.j0 k b a0 a1 M c C F R) (!b && allN (upB M) 1 (M.length - 1)) := by
  intro b
  refine Ev.succ ?_
  simp only [laminaref16_validHashes.j0]
  cases b with
  | true => exact Ev.now _
  | false => exact ref_up a0 a1 M c C F R hM (M.length - 1) 1 (Nat.le_refl _) rfl
 generalize wrap64 (a0 - a1) = n at *
 generalize hV : allN (upB M) 1 (M.length - 1) = V at *
 have key : ∀ b, (decide (32 < M.length) || decide (n < (M.length : Int)) || (decide (0 < n) && decide (M.length = 0)) || (!c && decide (M.length < 32))) = b → Ev (fun k => laminaref16_validHashes.j0 k b a0 a1 M c C F R) (!(decide (32 < M.length) || decide (n < (M.length : Int)) || (decide (0 < n) && decide (M.length = 0)) || (!c && decide (M.length < 32))) && V) := fun b h => by rw [h]; exact hj b
 by_cases h3a : (M.length : Int) > 32
 ·have h32 : 32 < M.length := by omega
  exact (Ev_pos h3a (key true (by simp [h32])))
 by_cases h3b : (M.length : Int) > n
 ·exact (Ev_neg h3a (Ev_pos h3b (key true (by simp [show n < (M.length : Int) from h3b]))))
 have h3a' : ¬ 32 < M.length := by omega
 have h3b' : ¬ n < (M.length : Int) := h3b
 by_cases h4 : n > 0
 ·by_cases h5 : (M.length : Int) = 0
  ·have h5' : M.length = 0 := by omega
   exact (Ev_neg h3a (Ev_neg h3b (Ev_pos h4 (Ev_pos h5 (key true (by simp [show 0 < n from h4, h5']))))))
  ·have h5' : ¬ M.length = 0 := by omega
   cases c with
   | true => exact (Ev_neg h3a (Ev_neg h3b (Ev_pos h4 (Ev_neg h5 (Ev_pos rfl (key false (by simp [h3a', h3b', h5', show ¬ M = [] from fun e => h5' (by simp [e])])))))))
   | false => exact (Ev_neg h3a (Ev_neg h3b (Ev_pos h4 (Ev_neg h5 (Ev_neg (by simp) (key _ (by rw [Bool.eq_iff_iff]; simp [h3a', h3b', h5', show ¬ M = [] from fun e => h5' (by simp [e])] <;> omega)))))))
 ·cases c with
  | true => exact (Ev_neg h3a (Ev_neg h3b (Ev_neg h4 (Ev_pos rfl (key false (by simp [h3a', h3b', show ¬ 0 < n from h4]))))))
  | false => exact (Ev_neg h3a (Ev_neg h3b (Ev_neg h4 (Ev_neg (by simp) (key _ (by rw [Bool.eq_iff_iff]; simp [h3a', h3b', show ¬ 0 < n from h4] <;> omega))))))
theorem ref_valid (hM : M.length ≤ 4611686018427387904) : Ev (fun k => laminaref16_Valid.f k a0 a1 M c C F R) (validB a0 a1 M c C F R) := by
 unfold laminaref16_Valid.f validB badB
 have hH := ref_hashes a0 a1 M c C F R hM
 have hC := ref_counters a0 a1 M c C F R
 by_cases h1 : a1 ≥ 0
 ·by_cases h2 : a1 ≤ a0
  ·refine Ev_pos h1 (Ev_pos h2 ?_)
   simp only [laminaref16_validFences.f, Option.bind_some, fences_same]
   have e1 : decide (a1 < 0) = false := decide_eq_false (by omega)
   have e2 : decide (a0 < a1) = false := decide_eq_false (by omega)
   rw [e1, e2, Bool.false_or, Bool.false_or]
   refine Ev.bind (a := _) hH ?_
   generalize (decide (32 < M.length) || decide (wrap64 (a0 - a1) < (M.length : Int)) || (decide (0 < wrap64 (a0 - a1)) && decide (M.length = 0)) || (!c && decide (M.length < 32))) = b
   cases b with
   | true => exact Ev.now _
   | false =>
    cases allN (upB M) 1 (M.length - 1) with
    | false => exact Ev.now _
    | true =>
     refine Ev_pos rfl ?_
     refine Ev.bind (a := _) hC ?_
     cases cntB C (wrap64 (a0 - a1)) with
     | false => exact Ev.now _
     | true => exact Ev.now _
  ·refine Ev_pos h1 (Ev_neg h2 ?_)
   rw [show decide (a0 < a1) = true from decide_eq_true (by omega)]
   simp only [Bool.or_true, Bool.true_or, Bool.not_true, Bool.false_and]
   exact Ev.now _
 ·refine Ev_neg h1 ?_
  rw [show decide (a1 < 0) = true from decide_eq_true (by omega)]
  simp only [Bool.true_or, Bool.not_true, Bool.false_and]
  exact Ev.now _
end
end Go.Proofs.Ytackcingpffidaa.P
