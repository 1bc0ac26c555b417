/- What Go functions of the given program return, told as Lean functions, and the walks that show it, with plain facts on them: B22, U9, HD, HA, laminaref01_Encode, laminaref01_Concat, laminaref01_ZigZag, laminaref01_Text, laminaref04_Encode. Conditions: the hypotheses that stand at each theorem. -/
import Derived.Test.YtackcingpffidaaZe0
import Derived.Test.YtackcingpffidaaZe2
import Derived.Test.YtackcingpffidaaZe3
import Derived.Test.YtackcingpffidaaZe8
import Derived.Test.YtackcingpffidaaZe9
import Derived.Test.YtackcingpffidaaZe10
namespace Go.Proofs.Ytackcingpffidaa.P
open Go.RowKit Go.Proofs.YtackcingpffidaaW.PrintWords Go.Proofs.YtackcingpffidaaW.PrintLast Go.Proofs.YtackcingpffidaaW.PrintMore
set_option linter.unusedVariables false
theorem sketch_CountEqual.calls (k : Nat) (a0_0 : Int) (a0_1 : Int) (A0_2 : Option Addr) (c0_2 : Nat) (l0_2 : List Int) (a0_3 : Bool) (A0_4 : Option Addr) (c0_4 : Nat) (l0_4 : List Int) (A0_5 : Option Addr) (c0_5 : Nat) (l0_5 : List (S39)) (A0_6 : Option Addr) (c0_6 : Nat) (l0_6 : List Int) (a1_0 : Int) (a1_1 : Int) (a1_2 : ByteArray) (r1 : Int) (r2 : Int) (w : World) (hr0_2 : Kd.C (Kd.int .u64) w A0_2 l0_2.length l0_2) (hc0_2 : l0_2.length ≤ c0_2) (hr0_4 : Kd.C (Kd.int .i64) w A0_4 l0_4.length l0_4) (hc0_4 : l0_4.length ≤ c0_4) (hr0_5 : Kd.C k39 w A0_5 l0_5.length l0_5) (hc0_5 : l0_5.length ≤ c0_5) (hr0_6 : Kd.C (Kd.int .i64) w A0_6 l0_6.length l0_6) (hc0_6 : l0_6.length ≤ c0_6) (h : sketch_CountEqual.f k a0_0 a0_1 l0_2 a0_3 l0_4 l0_5 l0_6 a1_0 a1_1 a1_2 = some (r1, r2)) :
  Calls Try.prog 22 #[.agg #[.int .i64 a0_0, .int .i64 a0_1, .slice A0_2 l0_2.length c0_2, .bool a0_3, .slice A0_4 l0_4.length c0_4, .slice A0_5 l0_5.length c0_5, .slice A0_6 l0_6.length c0_6], .agg #[.int .i64 a1_0, .int .i64 a1_1, .string a1_2]] w fun e w' => e = .returned (.agg #[.int .i64 r1, .int .i64 r2]) ∧ Below w.heap.size w w' :=
 f22_calls k a0_0 a0_1 A0_2 c0_2 l0_2 a0_3 A0_4 c0_4 l0_4 A0_5 c0_5 l0_5 A0_6 c0_6 l0_6 ⟨a1_0, a1_1, a1_2⟩ r1 r2 w hr0_2 hc0_2 hr0_4 hc0_4 hr0_5 hc0_5 hr0_6 hc0_6 h
/-- The last fence's number above the first one's. -/
def gapS (F : List S39) : Int := IntKind.u64.wrap (IntKind.u64.wrap (rd_T39 F ((F.length : Int) - 1)).f1 - IntKind.u64.wrap (rd_T39 F 0).f1)
def lowD (M : List Int) (c : Bool) : Int := if c then (M.length : Int) else wrap64 ((M.length : Int) + 1)
def gapB (F : List S39) (n : Int) : Bool := decide (0 < F.length) && (rd_T39 F 0).f0 != 3 && decide (gapS F < IntKind.u64.wrap n)
def sketch_CountDistinct.f (k : Nat) (a0_0 : Int) (a0_1 : Int) (l0_2 : List Int) (a0_3 : Bool) (l0_4 : List Int) (l0_5 : List (S39)) (l0_6 : List Int) : Option (Int × Int) :=
 some (lowD l0_2 a0_3, if gapB l0_5 (wrap64 (a0_0 - a0_1)) then mn (wrap64 (a0_0 - a0_1)) (wrap64 (wrap64 (gapS l0_5) + 1)) else wrap64 (a0_0 - a0_1))
def laminaref16_CountDistinct.f (k : Nat) (a0_0 : Int) (a0_1 : Int) (l0_2 : List Int) (a0_3 : Bool) (l0_4 : List Int) (l0_5 : List (S39)) (l0_6 : List Int) : Option (Int × Int) :=
 some (lowD l0_2 a0_3, if gapB l0_5 (wrap64 (a0_0 - a0_1)) then wrap64 (wrap64 (gapS l0_5) + 1) else wrap64 (a0_0 - a0_1))
end Go.Proofs.Ytackcingpffidaa.P
namespace Go.Proofs.Ytackcingpffidaa.P
open Go.RowKit Go.Proofs.YtackcingpffidaaW.PrintWords Go.Proofs.YtackcingpffidaaW.PrintLast Go.Proofs.YtackcingpffidaaW.PrintMore
attribute [local go_sem] max2_int min2_int max_two min_two
set_option linter.unusedVariables false
set_option linter.unusedSimpArgs false
def f28_T1 : Bool × List (List Nat × List Nat) := (true, [([], []), ([0], [0]), ([1], [1]), ([], []), ([3], [3]), ([2, 4, 4], [2, 4]), ([], []), ([6, 5, 5, 0, 1, 2, 3, 4, 5, 6], [5, 6])])
def f28_B1 : List Nat := [0, 1, 3, 0, 8, 31, 0, 127]
set_option maxRecDepth 100000 in
theorem f28_tab1 : rtab .any (opsOf Try.f28 1) = f28_T1 := by kernel_rfl
theorem f28_bits1 : waitsOk f28_T1.2 f28_B1 = true := by kernel_rfl
def f28_T6 : Bool × List (List Nat × List Nat) := (true, [([], []), ([0], [0]), ([], []), ([2], [2]), ([1, 3], [1, 3]), ([4], [4]), ([5], [5]), ([6], [6]), ([], []), ([8], [8]), ([9], [9]), ([10], [10]), ([11], [11]), ([12], [12]), ([7, 13], [7, 13]), ([14, 0, 1, 2, 3, 4, 5, 6, 7, 8, 9, 10, 11, 12, 13, 14], [14])])
def f28_B6 : List Nat := [0, 1, 0, 4, 15, 31, 63, 127, 0, 256, 768, 1792, 3840, 7936, 16383, 32767]
set_option maxRecDepth 100000 in
theorem f28_tab6 : rtab .any (opsOf Try.f28 6) = f28_T6 := by kernel_rfl
theorem f28_bits6 : waitsOk f28_T6.2 f28_B6 = true := by kernel_rfl
set_option maxHeartbeats 8000000 in
set_option maxRecDepth 100000 in
theorem sketch_CountDistinct.calls0 (k : Nat) (a0 a1 : Int) (A2 : Option Addr) (c2 : Nat) (l2 : List Int) (b3 : Bool) (A4 : Option Addr) (c4 : Nat) (l4 : List Int) (A5 : Option Addr) (c5 : Nat) (l5 : List S39) (A6 : Option Addr) (c6 : Nat) (l6 : List Int) (lo hi : Int) (w : World) (hr2 : Kd.C (Kd.int .u64) w A2 l2.length l2) (hc2 : l2.length ≤ c2) (hr4 : Kd.C (Kd.int .i64) w A4 l4.length l4) (hc4 : l4.length ≤ c4) (hr5 : Kd.C k39 w A5 l5.length l5) (hc5 : l5.length ≤ c5) (hr6 : Kd.C (Kd.int .i64) w A6 l6.length l6) (hc6 : l6.length ≤ c6) (h : sketch_CountDistinct.f k a0 a1 l2 b3 l4 l5 l6 = some (lo, hi)) :
  Calls Try.prog 28 #[.agg #[.int .i64 a0, .int .i64 a1, .slice A2 l2.length c2, .bool b3, .slice A4 l4.length c4, .slice A5 l5.length c5, .slice A6 l6.length c6]] w fun e w' => e = .returned (.agg #[.int .i64 lo, .int .i64 hi]) ∧ Below w.heap.size w w' := by
 have HKw : SK w A2 c2 l2 A4 c4 l4 A5 c5 l5 A6 c6 l6 := ⟨hr2, hc2, hr4, hc4, hr5, hc5, hr6, hc6⟩
 have HR5 := Aside0.mk hr5
 have hl2 : l2.length ≤ 9223372036854775807 := hr2.2.1
 have hl5 : l5.length ≤ 9223372036854775807 := hr5.2.1
 replace HKw := Aside0.mk HKw
 unfold sketch_CountDistinct.f at h
 obtain ⟨n, hn⟩ : ∃ n, wrap64 (a0 - a1) = n := ⟨_, rfl⟩
 rw [hn] at h
 obtain ⟨hlo, hhi⟩ := Prod.mk.inj (Option.some.inj h)
 have HLO := Aside0.mk hlo
 have HHI := Aside0.mk hhi
 have HN : Aside0 (sketch_count.f a0 a1 l2 b3 l4 l5 l6 = some n) := ⟨by unfold sketch_count.f; rw [hn]⟩
 clear hr2 hr4 hr5 hr6 h hn hlo hhi
 go_enter Try.func28, Try.ntmps28
 go_upto_region 1 with (refine box_ 1 (cs := #[.int .i64 a0, .int .i64 a1, .slice A2 l2.length c2, .bool b3, .slice A4 l4.length c4, .slice A5 l5.length c5, .slice A6 l6.length c6]) (t := 26) (fun g2 hg_ w1 BK2 HB => ?_); clear hg_; replace BK2 := Aside0.mk BK2; replace HB := Aside0.mk HB)
 replace BK2 := Aside0.mk (blk_alloc BK2.out (.cells #[.int .i64 0, .int .i64 0] 44))
 have BK4 := Aside0.mk (heap_alloc_new w1 (.cells #[.int .i64 0, .int .i64 0] 44))
 have HBV := Aside0.mk (below_alloc HB.out (.cells #[.int .i64 0, .int .i64 0] 44))
 have hg4 : w.heap.size ≤ w1.heap.size := below_size HB.out
 obtain ⟨V, hV⟩ : ∃ V, w1.alloc (.cells #[.int .i64 0, .int .i64 0] 44) = V := ⟨_, rfl⟩
 rw [hV] at BK2 BK4 HBV ⊢
 clear hV HB
 generalize w1.heap.size = g4 at *
 clear w1
 have HS : Aside0 (∀ W, Below V.heap.size V W → sk7 g2 a0 a1 A2 c2 l2 b3 A4 c4 l4 A5 c5 l5 A6 c6 l6 W (True)) := ⟨fun W hb => sk7_of (blk_below BK2.out hb) trivial⟩
 have HK : Aside0 (∀ W, Below V.heap.size V W → SK W A2 c2 l2 A4 c4 l4 A5 c5 l5 A6 c6 l6) := ⟨fun W hb => HKw.out.below (HBV.out.trans (hb.mono (below_size HBV.out)))⟩
 clear BK2 HKw
 have HY := Aside0.mk (below_drew1 (Below.refl V.heap.size V))
 refine start_ (n := 8) (S := fun W => sk7 g2 a0 a1 A2 c2 l2 b3 A4 c4 l4 A5 c5 l5 A6 c6 l6 W (True)) (ds := []) #[false, false, false, false, false, false, false, false] (by kernel_rfl) rfl rfl (HS.out _ HY.out) (fun hHeld => ?_)
 refine with_tabW f28_tab1 f28_bits1 (fun HT_ HW_ => ?_)
 generalize V.drew = wd at HY hHeld ⊢
 refine pu_ HT_ 0 (some 6) ?_
 refine tk_ HT_ HW_ 1 (some 7) hHeld ?_
 refine pu_ HT_ 2 (some 8) ?_
 refine tk_ HT_ HW_ 3 (some 9) hHeld ?_
 refine join_ (σ := Nat) 1 #[true, true, true, true, true, true, true, false] (fun s_ => [(10, .int .i64 n), (11, .agg #[.int .i64 (l2.length : Int), .int .i64 n]), (3, .pointer (some ⟨s_, 0, none⟩))]) (fun s_ W => sk7 g2 a0 a1 A2 c2 l2 b3 A4 c4 l4 A5 c5 l5 A6 c6 l6 W (True) ∧ W.heap[s_]? = some (.cells #[.int .i64 0, .int .i64 0] 44 (0, 0)) ∧ V.heap.size ≤ s_ ∧ Below V.heap.size V W) ?_ ?_
 rotate_left
 ·intro hCont
  refine tw_ HT_ 4 6 (some 10) (some 3) (fun K hK => ?_) (fun K hK => ?_)
  ·refine ck_ hK Try.func66 (un8 (sketch_count.calls a0 a1 _ _ _ _ _ _ _ _ _ _ _ _ _ n _) (HK.out _ HY.out) HN.out) HY HS (fun w9 HY hb hHeld => ?_)
   clear hb
   refine tw_ HT_ 5 6 (some 11) (some 3) (fun K hK => ?_) (fun K hK => ?_)
   ·refine ck_ hK Try.func73 (sketch_span.calls (l2.length : Int) n (l2.length : Int) n _ rfl) HY HS (fun w9 HY hb hHeld => ?_)
    clear hb
    refine al_ HT_ 6 3 #[.int .i64 0, .int .i64 0] 44 HY HS (fun g8 w9 hgx hg8 BG HY hb hHeld => ?_)
    clear hgx hb
    exact pl_ (hCont g8 _ ⟨hHeld, BG.out, hg8.out, HY.out⟩)
   ·refine ak_ hK 3 #[.int .i64 0, .int .i64 0] 44 HY HS (fun g8 w9 hgx hg8 BG HY hb hHeld => ?_)
    clear hgx hb
    refine on_ HT_ 5 (some 11) (fun K hK => ?_)
    refine ck_ hK Try.func73 (sketch_span.calls (l2.length : Int) n (l2.length : Int) n _ rfl) HY HS (fun w9 HY hb hHeld => ?_)
    replace BG := Aside0.mk (blk_below BG.out hb)
    clear hb
    exact pl_ (hCont g8 _ ⟨hHeld, BG.out, hg8.out, HY.out⟩)
  ·refine ak_ hK 3 #[.int .i64 0, .int .i64 0] 44 HY HS (fun g8 w9 hgx hg8 BG HY hb hHeld => ?_)
   clear hgx hb
   refine on_ HT_ 4 (some 10) (fun K hK => ?_)
   refine ck_ hK Try.func66 (un8 (sketch_count.calls a0 a1 _ _ _ _ _ _ _ _ _ _ _ _ _ n _) (HK.out _ HY.out) HN.out) HY HS (fun w9 HY hb hHeld => ?_)
   replace BG := Aside0.mk (blk_below BG.out hb)
   clear hb
   refine on_ HT_ 5 (some 11) (fun K hK => ?_)
   refine ck_ hK Try.func73 (sketch_span.calls (l2.length : Int) n (l2.length : Int) n _ rfl) HY HS (fun w9 HY hb hHeld => ?_)
   replace BG := Aside0.mk (blk_below BG.out hb)
   clear hb
   exact pl_ (hCont g8 _ ⟨hHeld, BG.out, hg8.out, HY.out⟩)
 rintro g8 w3 ⟨hHeld, BG, hg8, hy⟩
 clear HY
 replace BG := Aside0.mk BG
 have HY := Aside0.mk hy
 clear hy
 refine pr_ ?_
 obtain ⟨e0, e1, z0, z1⟩ := bf2 BG.out
 replace BG := Aside0.mk (put2_blk BG.out (.int .i64 (l2.length : Int)) (.int .i64 n))
 replace HY := Aside0.mk (put2_below HY.out hg8 (.int .i64 (l2.length : Int)) (.int .i64 n))
 refine st_ HT_ 7 (put2 w3 g8 (.int .i64 (l2.length : Int)) (.int .i64 n)) ?_ (HS.out _ HY.out) (fun hHeld => ?_)
 ·unfold put2
  go_simp
 clear e0 e1 z0 z1
 generalize put2 w3 g8 (.int .i64 (l2.length : Int)) (.int .i64 n) = U at BG HY hHeld ⊢
 refine done_ (done_of HT_.out (by kernel_rfl)) ?_
 clear HT_ HW_ hHeld
 replace HLO : Aside0 ((if b3 then (l2.length : Int) else wrap64 ((l2.length : Int) + 1)) = lo) := HLO
 generalize (l2.length : Int) = L at HLO BG ⊢
 clear hl2
 obtain ⟨t0, t1, t2, t3, t4, t5, t6, _⟩ := HS.out U HY.out
 go_upto_if 14 with (fail)
 clear t0 t1 t2 t3 t4 t5 t6
 go_cut [3] (fun v3 W => v3 = .pointer (some ⟨g8, 0, none⟩) ∧ Aside0 (W.heap[g8]? = some (.cells #[.int .i64 lo, .int .i64 n] 44 (0, 0))) ∧ Aside0 (Below V.heap.size V W))
 case first =>
  obtain ⟨t0, t1, t2, t3, t4, t5, t6, _⟩ := HS.out U HY.out
  obtain ⟨e0, e1, z0, z1⟩ := bf2 BG.out
  cases b3 with
  | true =>
   obtain rfl : L = lo := HLO.out
   go_wp2
   go_meet
   case rel => exact ⟨rfl, BG, HY⟩
  | false =>
   have HL2 : Aside0 (wrap64 (L + 1) = lo) := ⟨by have h_ := HLO.out; rwa [if_neg (by decide)] at h_⟩
   go_wp2
   go_meet
   case rel => exact ⟨rfl, ⟨blk_put (cs' := #[.int .i64 lo, .int .i64 n]) BG.out 0 _ (by rw [HL2.out]; rfl)⟩, ⟨HY.out.setCell (p := ⟨g8, 0, none⟩) hg8 _⟩⟩
 case rest =>
 clear BG HY HLO
 obtain ⟨rfl, BG, HY⟩ := hcut
 obtain ⟨e0, e1, z0, z1⟩ := bf2 BG.out
 obtain ⟨t0, t1, t2, t3, t4, t5, t6, _⟩ := HS.out wc HY.out
 by_cases h0 : l5.length = 0
 ·have hd0 : decide ((0 : Int) < l5.length) = false := decide_eq_false (by omega)
  obtain rfl : n = hi := by have h_ := HHI.out; unfold gapB at h_; rwa [show decide (0 < l5.length) = false from decide_eq_false (by omega), Bool.false_and, Bool.false_and, if_neg (by decide)] at h_
  obtain ⟨f0, f1⟩ := bc2 BG.out
  have B4 := blk_below BK4.out HY.out
  obtain ⟨q0, q1, y0, y1⟩ := bf2 B4
  go_wp2
  refine ret2_ (p := fun W => bodyPost _ _ _ _ _ W) B4 (HBV.out.trans (HY.out.mono (below_size HBV.out))) hg4 (.int .i64 lo) (.int .i64 n) (fun W d0 d1 rB => ?_)
  exact bodyPost_ret (v := .agg #[.int .i64 lo, .int .i64 n]) (by simp [results, Try.results28, go_sem, d0, d1]) rfl ⟨rfl, rB⟩
 have hd0 : decide ((0 : Int) < l5.length) = true := decide_eq_true (by omega)
 have hd1 : decide ((l5.length : Int) ≤ 0) = false := decide_eq_false (by omega)
 have hd2 : decide (0 < l5.length) = true := decide_eq_true (by omega)
 have hln : 0 < l5.length := by omega
 obtain ⟨ad, rfl, hx0, hx1, _⟩ := at_T39 HR5.out 0 (by omega) (by omega)
 obtain ⟨ad1, e1, _, hy1, _⟩ := at_T39 HR5.out ((l5.length - 1 : Nat) : Int) (by omega) (by omega)
 obtain rfl := Option.some.inj e1
 clear e1
 rw [Int.toNat_natCast] at hy1
 obtain ⟨x, hxx⟩ : ∃ x, rd_T39 l5 0 = x := ⟨_, rfl⟩
 obtain ⟨y, hyy⟩ : ∃ x, rd_T39 l5 ((l5.length - 1 : Nat) : Int) = x := ⟨_, rfl⟩
 rw [hxx] at hx0 hx1
 rw [hyy] at hy1
 obtain ⟨d, hd⟩ : ∃ d, IntKind.u64.wrap (IntKind.u64.wrap y.f1 - IntKind.u64.wrap x.f1) = d := ⟨_, rfl⟩
 have hgap : gapS l5 = d := by unfold gapS; rw [show (l5.length : Int) - 1 = ((l5.length - 1 : Nat) : Int) from by omega, hyy, hxx, hd]
 have hgb : gapB l5 n = (x.f0 != 3 && decide (d < IntKind.u64.wrap n)) := by unfold gapB; rw [hgap, hxx, hd2, Bool.true_and]
 have hh := HHI.out
 rw [hgb, hgap] at hh
 have HH2 := Aside0.mk hh
 have HDD := Aside0.mk hd
 have hwn : IntKind.i64.wrap ((l5.length : Int) - 1) = ((l5.length - 1 : Nat) : Int) := by rw [i64_w]; unfold wrap64; omega
 have hfn : decide (((l5.length - 1 : Nat) : Int) < l5.length) = true := decide_eq_true (by omega)
 have hfn2 : decide ((l5.length : Int) ≤ ((l5.length - 1 : Nat) : Int)) = false := decide_eq_false (by omega)
 have hfn3 : l5.length - 1 < l5.length := by omega
 have HSX : Aside0 (∀ W, Below V.heap.size V W → sk7 g2 a0 a1 A2 c2 l2 b3 A4 c4 l4 (some ad) c5 l5 A6 c6 l6 W (W.cell? ⟨ad.block, ad.off + 1, none⟩ = some (.int .i64 x.f1) ∧ W.cell? ⟨(ad.add ((l5.length - 1) * 3)).block, (ad.add ((l5.length - 1) * 3)).off + 1, none⟩ = some (.int .i64 y.f1))) := ⟨fun W hb => by
  obtain ⟨t0, t1, t2, t3, t4, t5, t6, _⟩ := HS.out W hb
  have hbw := HBV.out.trans (hb.mono (below_size HBV.out))
  exact ⟨t0, t1, t2, t3, t4, t5, t6, by simpa [Addr.add] using up_ hbw hx1, up_ hbw hy1⟩⟩
 replace hx0 := up_ (HBV.out.trans (HY.out.mono (below_size HBV.out))) hx0
 have hx0' : wc.cell? ad = some (.int .i64 x.f0) := by simpa [Addr.add] using hx0
 clear hxx hyy hgap hgb hh hx0 hx1 hy1 hd2 h0 hd
 obtain ⟨b3_, hb3⟩ : ∃ b, (x.f0 != 3) = b := ⟨_, rfl⟩
 cases b3_ with
 | false =>
  obtain rfl : n = hi := by have h_ := HH2.out; rwa [hb3, Bool.false_and, if_neg (by decide)] at h_
  obtain ⟨f0, f1⟩ := bc2 BG.out
  have B4 := blk_below BK4.out HY.out
  obtain ⟨q0, q1, y0, y1⟩ := bf2 B4
  go_wp2
  refine ret2_ (p := fun W => bodyPost _ _ _ _ _ W) B4 (HBV.out.trans (HY.out.mono (below_size HBV.out))) hg4 (.int .i64 lo) (.int .i64 n) (fun W d0 d1 rB => ?_)
  exact bodyPost_ret (v := .agg #[.int .i64 lo, .int .i64 n]) (by simp [results, Try.results28, go_sem, d0, d1]) rfl ⟨rfl, rB⟩
 | true =>
 go_upto_region 6 with (fail)
 clear t0 t1 t2 t3 t4 t5 t6 hx0'
 replace HY := Aside0.mk (below_drew1 HY.out)
 replace BG := Aside0.mk (blk_drew BG.out)
 clear e0 e1 z0 z1
 refine start_ (n := 16) (S := fun W => sk7 g2 a0 a1 A2 c2 l2 b3 A4 c4 l4 (some ad) c5 l5 A6 c6 l6 W (W.cell? ⟨ad.block, ad.off + 1, none⟩ = some (.int .i64 x.f1) ∧ W.cell? ⟨(ad.add ((l5.length - 1) * 3)).block, (ad.add ((l5.length - 1) * 3)).off + 1, none⟩ = some (.int .i64 y.f1))) (ds := []) #[false, false, false, false, false, false, false, false, false, false, false, false, false, false, false, false] (by kernel_rfl) rfl rfl (HSX.out _ HY.out) (fun hHeld => ?_)
 refine with_tabW f28_tab6 f28_bits6 (fun HT_ HW_ => ?_)
 generalize wc.drew = wg at BG HY hHeld ⊢
 refine pu_ HT_ 0 (some 32) ?_
 refine tk_ HT_ HW_ 1 (some 33) hHeld ?_
 refine pu_ HT_ 2 (some 34) ?_
 refine pu_ HT_ 3 (some 35) ?_
 refine tk_ HT_ HW_ 4 (some 36) hHeld ?_
 refine pu_ HT_ 5 (some 37) ?_
 refine tk_ HT_ HW_ 6 (some 38) hHeld ?_
 refine pu_ HT_ 7 (some 39) ?_
 refine pu_ HT_ 8 (some 40) ?_
 refine tk_ HT_ HW_ 9 (some 41) hHeld ?_
 refine tk_ HT_ HW_ 10 (some 42) hHeld ?_
 refine pu_ HT_ 11 (some 43) ?_
 refine tk_ HT_ HW_ 12 (some 44) hHeld ?_
 refine pu_ HT_ 13 (some 45) ?_
 refine pu_ HT_ 14 (some 46) ?_
 refine pu_ HT_ 15 (some 5) ?_
 refine done_ (done_of HT_.out (by kernel_rfl)) ?_
 clear HT_ HW_ hHeld
 rw [HDD.out]
 clear hd0 hd1 hwn hfn hfn2 hfn3
 by_cases hlt : d < IntKind.u64.wrap n
 ·have hdl : decide (d < IntKind.u64.wrap n) = true := decide_eq_true hlt
  have hh := HH2.out
  rw [hb3, hdl, if_pos (by decide)] at hh
  have HH3 : Aside0 (mn n (wrap64 (wrap64 d + 1)) = hi) := ⟨hh⟩
  clear hlt hh
  obtain ⟨t0, t1, t2, t3, t4, t5, t6, _⟩ := HS.out wg HY.out
  obtain ⟨e0, e1, z0, z1⟩ := bf2 BG.out
  by_cases hm : (wrap64 (wrap64 d + 1)) < n
  ·have hmb : decide ((wrap64 (wrap64 d + 1)) < n) = true := decide_eq_true hm
   obtain rfl : (wrap64 (wrap64 d + 1)) = hi := by rw [← HH3.out]; unfold mn; rw [if_pos hm]
   go_upto_region 9 with (fail)
   replace BG := Aside0.mk (blk_put (cs' := #[.int .i64 lo, .int .i64 (wrap64 (wrap64 d + 1))]) BG.out 1 (.int .i64 (wrap64 (wrap64 d + 1))) rfl)
   replace HY := Aside0.mk (HY.out.setCell (p := ⟨g8, 1, none⟩) hg8 (.int .i64 (wrap64 (wrap64 d + 1))))
   clear e0 e1 z0 z1 t0 t1 t2 t3 t4 t5 t6
   generalize wg.setCell ⟨g8, 1, none⟩ (.int .i64 (wrap64 (wrap64 d + 1))) = Y at BG HY ⊢
   obtain ⟨f0, f1⟩ := bc2 BG.out
   have B4 := blk_below BK4.out HY.out
   obtain ⟨q0, q1, y0, y1⟩ := bf2 B4
   go_wp2
   refine ret2_ (p := fun W => bodyPost _ _ _ _ _ W) B4 (HBV.out.trans (HY.out.mono (below_size HBV.out))) hg4 (.int .i64 lo) (.int .i64 (wrap64 (wrap64 d + 1))) (fun W d0 d1 rB => ?_)
   exact bodyPost_ret (v := .agg #[.int .i64 lo, .int .i64 (wrap64 (wrap64 d + 1))]) (by simp [results, Try.results28, go_sem, d0, d1]) rfl ⟨rfl, rB⟩
  ·have hmb : decide ((wrap64 (wrap64 d + 1)) < n) = false := decide_eq_false hm
   obtain rfl : n = hi := by rw [← HH3.out]; unfold mn; rw [if_neg hm]
   go_upto_region 9 with (fail)
   replace BG := Aside0.mk (blk_put (cs' := #[.int .i64 lo, .int .i64 n]) BG.out 1 (.int .i64 n) rfl)
   replace HY := Aside0.mk (HY.out.setCell (p := ⟨g8, 1, none⟩) hg8 (.int .i64 n))
   clear e0 e1 z0 z1 t0 t1 t2 t3 t4 t5 t6
   generalize wg.setCell ⟨g8, 1, none⟩ (.int .i64 n) = Y at BG HY ⊢
   obtain ⟨f0, f1⟩ := bc2 BG.out
   have B4 := blk_below BK4.out HY.out
   obtain ⟨q0, q1, y0, y1⟩ := bf2 B4
   go_wp2
   refine ret2_ (p := fun W => bodyPost _ _ _ _ _ W) B4 (HBV.out.trans (HY.out.mono (below_size HBV.out))) hg4 (.int .i64 lo) (.int .i64 n) (fun W d0 d1 rB => ?_)
   exact bodyPost_ret (v := .agg #[.int .i64 lo, .int .i64 n]) (by simp [results, Try.results28, go_sem, d0, d1]) rfl ⟨rfl, rB⟩
 ·have hdl : decide (d < IntKind.u64.wrap n) = false := decide_eq_false hlt
  have hh := HH2.out
  rw [hb3, hdl, if_neg (by decide)] at hh
  obtain rfl : n = hi := hh
  clear hlt
  obtain ⟨t0, t1, t2, t3, t4, t5, t6, _⟩ := HS.out wg HY.out
  obtain ⟨f0, f1⟩ := bc2 BG.out
  have B4 := blk_below BK4.out HY.out
  obtain ⟨q0, q1, y0, y1⟩ := bf2 B4
  go_wp2
  refine ret2_ (p := fun W => bodyPost _ _ _ _ _ W) B4 (HBV.out.trans (HY.out.mono (below_size HBV.out))) hg4 (.int .i64 lo) (.int .i64 n) (fun W d0 d1 rB => ?_)
  exact bodyPost_ret (v := .agg #[.int .i64 lo, .int .i64 n]) (by simp [results, Try.results28, go_sem, d0, d1]) rfl ⟨rfl, rB⟩
theorem sketch_CountDistinct.calls (k : Nat) (a0_0 : Int) (a0_1 : Int) (A0_2 : Option Addr) (c0_2 : Nat) (l0_2 : List Int) (a0_3 : Bool) (A0_4 : Option Addr) (c0_4 : Nat) (l0_4 : List Int) (A0_5 : Option Addr) (c0_5 : Nat) (l0_5 : List (S39)) (A0_6 : Option Addr) (c0_6 : Nat) (l0_6 : List Int) (r1 : Int) (r2 : Int) (w : World) (hr0_2 : Kd.C (Kd.int .u64) w A0_2 l0_2.length l0_2) (hc0_2 : l0_2.length ≤ c0_2) (hr0_4 : Kd.C (Kd.int .i64) w A0_4 l0_4.length l0_4) (hc0_4 : l0_4.length ≤ c0_4) (hr0_5 : Kd.C k39 w A0_5 l0_5.length l0_5) (hc0_5 : l0_5.length ≤ c0_5) (hr0_6 : Kd.C (Kd.int .i64) w A0_6 l0_6.length l0_6) (hc0_6 : l0_6.length ≤ c0_6) (h : sketch_CountDistinct.f k a0_0 a0_1 l0_2 a0_3 l0_4 l0_5 l0_6 = some (r1, r2)) :
  Calls Try.prog 28 #[.agg #[.int .i64 a0_0, .int .i64 a0_1, .slice A0_2 l0_2.length c0_2, .bool a0_3, .slice A0_4 l0_4.length c0_4, .slice A0_5 l0_5.length c0_5, .slice A0_6 l0_6.length c0_6]] w fun e w' => e = .returned (.agg #[.int .i64 r1, .int .i64 r2]) ∧ Below w.heap.size w w' :=
 sketch_CountDistinct.calls0 k a0_0 a0_1 A0_2 c0_2 l0_2 a0_3 A0_4 c0_4 l0_4 A0_5 c0_5 l0_5 A0_6 c0_6 l0_6 r1 r2 w hr0_2 hc0_2 hr0_4 hc0_4 hr0_5 hc0_5 hr0_6 hc0_6 h
def f29_T1 : Bool × List (List Nat × List Nat) := (true, [([], []), ([0], [0]), ([1], [1]), ([], []), ([3], [3]), ([2, 4, 0, 1, 2], [2]), ([4, 5, 0, 1, 2, 3, 4, 5], [4])])
def f29_B1 : List Nat := [0, 1, 3, 0, 8, 31, 63]
set_option maxRecDepth 100000 in
theorem f29_tab1 : rtab .any (opsOf Try.f29 1) = f29_T1 := by kernel_rfl
theorem f29_bits1 : waitsOk f29_T1.2 f29_B1 = true := by kernel_rfl
def f29_T5 : Bool × List (List Nat × List Nat) := (true, [([], []), ([0], [0]), ([], []), ([2], [2]), ([3], [3]), ([4], [4]), ([1, 5], [1, 5]), ([6], [6]), ([7], [7]), ([8], [8]), ([], []), ([10], [10]), ([11], [11]), ([12], [12]), ([13], [13]), ([14], [14]), ([9, 15], [9, 15]), ([16, 0, 1, 2, 3, 4, 5, 6, 7, 8, 9, 10, 11, 12, 13, 14, 15, 16], [16])])
def f29_B5 : List Nat := [0, 1, 0, 4, 12, 28, 63, 127, 255, 511, 0, 1024, 3072, 7168, 15360, 31744, 65535, 131071]
set_option maxRecDepth 100000 in
theorem f29_tab5 : rtab .any (opsOf Try.f29 5) = f29_T5 := by kernel_rfl
theorem f29_bits5 : waitsOk f29_T5.2 f29_B5 = true := by kernel_rfl
set_option maxHeartbeats 8000000 in
set_option maxRecDepth 100000 in
theorem laminaref16_CountDistinct.calls0 (k : Nat) (a0 a1 : Int) (A2 : Option Addr) (c2 : Nat) (l2 : List Int) (b3 : Bool) (A4 : Option Addr) (c4 : Nat) (l4 : List Int) (A5 : Option Addr) (c5 : Nat) (l5 : List S39) (A6 : Option Addr) (c6 : Nat) (l6 : List Int) (lo hi : Int) (w : World) (hr2 : Kd.C (Kd.int .u64) w A2 l2.length l2) (hc2 : l2.length ≤ c2) (hr4 : Kd.C (Kd.int .i64) w A4 l4.length l4) (hc4 : l4.length ≤ c4) (hr5 : Kd.C k39 w A5 l5.length l5) (hc5 : l5.length ≤ c5) (hr6 : Kd.C (Kd.int .i64) w A6 l6.length l6) (hc6 : l6.length ≤ c6) (h : laminaref16_CountDistinct.f k a0 a1 l2 b3 l4 l5 l6 = some (lo, hi)) :
  Calls Try.prog 29 #[.agg #[.int .i64 a0, .int .i64 a1, .slice A2 l2.length c2, .bool b3, .slice A4 l4.length c4, .slice A5 l5.length c5, .slice A6 l6.length c6]] w fun e w' => e = .returned (.agg #[.int .i64 lo, .int .i64 hi]) ∧ Below w.heap.size w w' := by
 have HKw : SK w A2 c2 l2 A4 c4 l4 A5 c5 l5 A6 c6 l6 := ⟨hr2, hc2, hr4, hc4, hr5, hc5, hr6, hc6⟩
 have HR5 := Aside0.mk hr5
 have hl2 : l2.length ≤ 9223372036854775807 := hr2.2.1
 have hl5 : l5.length ≤ 9223372036854775807 := hr5.2.1
 replace HKw := Aside0.mk HKw
 unfold laminaref16_CountDistinct.f at h
 obtain ⟨n, hn⟩ : ∃ n, wrap64 (a0 - a1) = n := ⟨_, rfl⟩
 rw [hn] at h
 obtain ⟨hlo, hhi⟩ := Prod.mk.inj (Option.some.inj h)
 have HLO := Aside0.mk hlo
 have HHI := Aside0.mk hhi
 have HN : Aside0 (laminaref16_values.f a0 a1 l2 b3 l4 l5 l6 = some n) := ⟨by unfold laminaref16_values.f; rw [hn]⟩
 clear hr2 hr4 hr5 hr6 h hn hlo hhi
 go_enter Try.func29, Try.ntmps29
 go_upto_region 1 with (refine box_ 1 (cs := #[.int .i64 a0, .int .i64 a1, .slice A2 l2.length c2, .bool b3, .slice A4 l4.length c4, .slice A5 l5.length c5, .slice A6 l6.length c6]) (t := 26) (fun g2 hg_ w1 BK2 HB => ?_); clear hg_; replace BK2 := Aside0.mk BK2; replace HB := Aside0.mk HB)
 replace BK2 := Aside0.mk (blk_alloc BK2.out (.cells #[.int .i64 0, .int .i64 0] 44))
 have BK4 := Aside0.mk (heap_alloc_new w1 (.cells #[.int .i64 0, .int .i64 0] 44))
 have HBV := Aside0.mk (below_alloc HB.out (.cells #[.int .i64 0, .int .i64 0] 44))
 have hg4 : w.heap.size ≤ w1.heap.size := below_size HB.out
 obtain ⟨V, hV⟩ : ∃ V, w1.alloc (.cells #[.int .i64 0, .int .i64 0] 44) = V := ⟨_, rfl⟩
 rw [hV] at BK2 BK4 HBV ⊢
 clear hV HB
 generalize w1.heap.size = g4 at *
 clear w1
 have HS : Aside0 (∀ W, Below V.heap.size V W → sk7 g2 a0 a1 A2 c2 l2 b3 A4 c4 l4 A5 c5 l5 A6 c6 l6 W (True)) := ⟨fun W hb => sk7_of (blk_below BK2.out hb) trivial⟩
 have HK : Aside0 (∀ W, Below V.heap.size V W → SK W A2 c2 l2 A4 c4 l4 A5 c5 l5 A6 c6 l6) := ⟨fun W hb => HKw.out.below (HBV.out.trans (hb.mono (below_size HBV.out)))⟩
 clear BK2 HKw
 have HY := Aside0.mk (below_drew1 (Below.refl V.heap.size V))
 refine start_ (n := 7) (S := fun W => sk7 g2 a0 a1 A2 c2 l2 b3 A4 c4 l4 A5 c5 l5 A6 c6 l6 W (True)) (ds := []) #[false, false, false, false, false, false, false] (by kernel_rfl) rfl rfl (HS.out _ HY.out) (fun hHeld => ?_)
 refine with_tabW f29_tab1 f29_bits1 (fun HT_ HW_ => ?_)
 generalize V.drew = wd at HY hHeld ⊢
 refine pu_ HT_ 0 (some 6) ?_
 refine tk_ HT_ HW_ 1 (some 7) hHeld ?_
 refine pu_ HT_ 2 (some 8) ?_
 refine tk_ HT_ HW_ 3 (some 9) hHeld ?_
 refine cl_ HT_ 4 (some 10) Try.func80 (un8 (laminaref16_values.calls a0 a1 _ _ _ _ _ _ _ _ _ _ _ _ _ n _) (HK.out _ HY.out) HN.out) HY HS (fun w9 HY hHeld => ?_)
 refine pu_ HT_ 5 (some 3) ?_
 refine pu_ HT_ 6 (some 4) ?_
 refine done_ (done_of HT_.out (by kernel_rfl)) ?_
 clear HT_ HW_ hHeld
 obtain ⟨t0, t1, t2, t3, t4, t5, t6, _⟩ := HS.out w9 HY.out
 go_upto_if 13 with (fail)
 clear t0 t1 t2 t3 t4 t5 t6
 replace HLO : Aside0 ((if b3 then (l2.length : Int) else wrap64 ((l2.length : Int) + 1)) = lo) := HLO
 generalize (l2.length : Int) = L at HLO ⊢
 clear hl2
 go_cut [3] (fun v3 W => v3 = .int .i64 lo ∧ Aside0 (Below V.heap.size V W))
 case first =>
  obtain ⟨t0, t1, t2, t3, t4, t5, t6, _⟩ := HS.out w9 HY.out
  cases b3 with
  | true =>
   obtain rfl : L = lo := HLO.out
   go_wp2
   go_meet
   case rel => exact ⟨rfl, HY⟩
  | false =>
   have HL2 : Aside0 (wrap64 (L + 1) = lo) := ⟨by have h_ := HLO.out; rwa [if_neg (by decide)] at h_⟩
   go_wp2
   go_meet
   case rel => exact ⟨int_eq HL2.out, HY⟩
 case rest =>
 clear HLO HY
 obtain ⟨rfl, HY⟩ := hcut
 obtain ⟨t0, t1, t2, t3, t4, t5, t6, _⟩ := HS.out wc HY.out
 by_cases h0 : l5.length = 0
 ·have hd0 : decide ((0 : Int) < l5.length) = false := decide_eq_false (by omega)
  obtain rfl : n = hi := by have h_ := HHI.out; unfold gapB at h_; rwa [show decide (0 < l5.length) = false from decide_eq_false (by omega), Bool.false_and, Bool.false_and, if_neg (by decide)] at h_
  go_wp2_with (go_at_call 76; refine (laminaref16_span.calls lo n lo n _ rfl).mono ?_; rintro e w9 ⟨rfl, hb⟩; replace HY := Aside0.mk (HY.out.trans (hb.mono HY.out.size)); clear hb; have B4 := blk_below BK4.out HY.out; obtain ⟨e0, e1, z0, z1⟩ := bf2 B4)
  refine ret2_ (p := fun W => bodyPost _ _ _ _ _ W) B4 (HBV.out.trans (HY.out.mono (below_size HBV.out))) hg4 (.int .i64 lo) (.int .i64 n) (fun W d0 d1 rB => ?_)
  exact bodyPost_ret (v := .agg #[.int .i64 lo, .int .i64 n]) (by simp [results, Try.results29, go_sem, d0, d1]) rfl ⟨rfl, rB⟩
 have hd0 : decide ((0 : Int) < l5.length) = true := decide_eq_true (by omega)
 have hd1 : decide ((l5.length : Int) ≤ 0) = false := decide_eq_false (by omega)
 have hd2 : decide (0 < l5.length) = true := decide_eq_true (by omega)
 have hln : 0 < l5.length := by omega
 obtain ⟨ad, rfl, hx0, hx1, _⟩ := at_T39 HR5.out 0 (by omega) (by omega)
 obtain ⟨ad1, e1, _, hy1, _⟩ := at_T39 HR5.out ((l5.length - 1 : Nat) : Int) (by omega) (by omega)
 obtain rfl := Option.some.inj e1
 clear e1
 rw [Int.toNat_natCast] at hy1
 obtain ⟨x, hxx⟩ : ∃ x, rd_T39 l5 0 = x := ⟨_, rfl⟩
 obtain ⟨y, hyy⟩ : ∃ x, rd_T39 l5 ((l5.length - 1 : Nat) : Int) = x := ⟨_, rfl⟩
 rw [hxx] at hx0 hx1
 rw [hyy] at hy1
 obtain ⟨d, hd⟩ : ∃ d, IntKind.u64.wrap (IntKind.u64.wrap y.f1 - IntKind.u64.wrap x.f1) = d := ⟨_, rfl⟩
 have hgap : gapS l5 = d := by unfold gapS; rw [show (l5.length : Int) - 1 = ((l5.length - 1 : Nat) : Int) from by omega, hyy, hxx, hd]
 have hgb : gapB l5 n = (x.f0 != 3 && decide (d < IntKind.u64.wrap n)) := by unfold gapB; rw [hgap, hxx, hd2, Bool.true_and]
 have hh := HHI.out
 rw [hgb, hgap] at hh
 have HH2 := Aside0.mk hh
 have HDD := Aside0.mk hd
 have hwn : IntKind.i64.wrap ((l5.length : Int) - 1) = ((l5.length - 1 : Nat) : Int) := by rw [i64_w]; unfold wrap64; omega
 have hfn : decide (((l5.length - 1 : Nat) : Int) < l5.length) = true := decide_eq_true (by omega)
 have hfn2 : decide ((l5.length : Int) ≤ ((l5.length - 1 : Nat) : Int)) = false := decide_eq_false (by omega)
 have hfn3 : l5.length - 1 < l5.length := by omega
 have HSX : Aside0 (∀ W, Below V.heap.size V W → sk7 g2 a0 a1 A2 c2 l2 b3 A4 c4 l4 (some ad) c5 l5 A6 c6 l6 W (W.cell? ⟨ad.block, ad.off + 1, none⟩ = some (.int .i64 x.f1) ∧ W.cell? ⟨(ad.add ((l5.length - 1) * 3)).block, (ad.add ((l5.length - 1) * 3)).off + 1, none⟩ = some (.int .i64 y.f1))) := ⟨fun W hb => by
  obtain ⟨t0, t1, t2, t3, t4, t5, t6, _⟩ := HS.out W hb
  have hbw := HBV.out.trans (hb.mono (below_size HBV.out))
  exact ⟨t0, t1, t2, t3, t4, t5, t6, by simpa [Addr.add] using up_ hbw hx1, up_ hbw hy1⟩⟩
 replace hx0 := up_ (HBV.out.trans (HY.out.mono (below_size HBV.out))) hx0
 have hx0' : wc.cell? ad = some (.int .i64 x.f0) := by simpa [Addr.add] using hx0
 clear hxx hyy hgap hgb hh hx0 hx1 hy1 hd2 h0 hd
 obtain ⟨b3_, hb3⟩ : ∃ b, (x.f0 != 3) = b := ⟨_, rfl⟩
 cases b3_ with
 | false =>
  obtain rfl : n = hi := by have h_ := HH2.out; rwa [hb3, Bool.false_and, if_neg (by decide)] at h_
  go_wp2_with (go_at_call 76; refine (laminaref16_span.calls lo n lo n _ rfl).mono ?_; rintro e w9 ⟨rfl, hb⟩; replace HY := Aside0.mk (HY.out.trans (hb.mono HY.out.size)); clear hb; have B4 := blk_below BK4.out HY.out; obtain ⟨e0, e1, z0, z1⟩ := bf2 B4)
  refine ret2_ (p := fun W => bodyPost _ _ _ _ _ W) B4 (HBV.out.trans (HY.out.mono (below_size HBV.out))) hg4 (.int .i64 lo) (.int .i64 n) (fun W d0 d1 rB => ?_)
  exact bodyPost_ret (v := .agg #[.int .i64 lo, .int .i64 n]) (by simp [results, Try.results29, go_sem, d0, d1]) rfl ⟨rfl, rB⟩
 | true =>
 go_upto_region 5 with (fail)
 clear t0 t1 t2 t3 t4 t5 t6 hx0'
 replace HY := Aside0.mk (below_drew1 HY.out)
 refine start_ (n := 18) (S := fun W => sk7 g2 a0 a1 A2 c2 l2 b3 A4 c4 l4 (some ad) c5 l5 A6 c6 l6 W (W.cell? ⟨ad.block, ad.off + 1, none⟩ = some (.int .i64 x.f1) ∧ W.cell? ⟨(ad.add ((l5.length - 1) * 3)).block, (ad.add ((l5.length - 1) * 3)).off + 1, none⟩ = some (.int .i64 y.f1))) (ds := []) #[false, false, false, false, false, false, false, false, false, false, false, false, false, false, false, false, false, false] (by kernel_rfl) rfl rfl (HSX.out _ HY.out) (fun hHeld => ?_)
 refine with_tabW f29_tab5 f29_bits5 (fun HT_ HW_ => ?_)
 generalize wc.drew = wg at HY hHeld ⊢
 refine pu_ HT_ 0 (some 28) ?_
 refine tk_ HT_ HW_ 1 (some 29) hHeld ?_
 refine pu_ HT_ 2 (some 30) ?_
 refine tk_ HT_ HW_ 3 (some 31) hHeld ?_
 refine pu_ HT_ 4 (some 32) ?_
 refine pu_ HT_ 5 (some 33) ?_
 refine tk_ HT_ HW_ 6 (some 34) hHeld ?_
 refine pu_ HT_ 7 (some 35) ?_
 refine tk_ HT_ HW_ 8 (some 36) hHeld ?_
 refine pu_ HT_ 9 (some 37) ?_
 refine pu_ HT_ 10 (some 38) ?_
 refine tk_ HT_ HW_ 11 (some 39) hHeld ?_
 refine tk_ HT_ HW_ 12 (some 40) hHeld ?_
 refine pu_ HT_ 13 (some 41) ?_
 refine tk_ HT_ HW_ 14 (some 42) hHeld ?_
 refine pu_ HT_ 15 (some 43) ?_
 refine pu_ HT_ 16 (some 44) ?_
 refine pu_ HT_ 17 (some 5) ?_
 refine done_ (done_of HT_.out (by kernel_rfl)) ?_
 clear HT_ HW_ hHeld
 rw [HDD.out]
 clear hd0 hd1 hwn hfn hfn2 hfn3
 by_cases hlt : d < IntKind.u64.wrap n
 ·have hdl : decide (d < IntKind.u64.wrap n) = true := decide_eq_true hlt
  have hh := HH2.out
  rw [hb3, hdl, if_pos (by decide)] at hh
  have HH3 : Aside0 (wrap64 (wrap64 d + 1) = hi) := ⟨hh⟩
  clear hlt hh
  obtain rfl : (wrap64 (wrap64 d + 1)) = hi := HH3.out
  go_wp2_with (go_at_call 76; refine (laminaref16_span.calls lo (wrap64 (wrap64 d + 1)) lo (wrap64 (wrap64 d + 1)) _ rfl).mono ?_; rintro e w9 ⟨rfl, hb⟩; replace HY := Aside0.mk (HY.out.trans (hb.mono HY.out.size)); clear hb; have B4 := blk_below BK4.out HY.out; obtain ⟨e0, e1, z0, z1⟩ := bf2 B4)
  refine ret2_ (p := fun W => bodyPost _ _ _ _ _ W) B4 (HBV.out.trans (HY.out.mono (below_size HBV.out))) hg4 (.int .i64 lo) (.int .i64 (wrap64 (wrap64 d + 1))) (fun W d0 d1 rB => ?_)
  exact bodyPost_ret (v := .agg #[.int .i64 lo, .int .i64 (wrap64 (wrap64 d + 1))]) (by simp [results, Try.results29, go_sem, d0, d1]) rfl ⟨rfl, rB⟩
 ·have hdl : decide (d < IntKind.u64.wrap n) = false := decide_eq_false hlt
  have hh := HH2.out
  rw [hb3, hdl, if_neg (by decide)] at hh
  obtain rfl : n = hi := hh
  clear hlt
  go_wp2_with (go_at_call 76; refine (laminaref16_span.calls lo n lo n _ rfl).mono ?_; rintro e w9 ⟨rfl, hb⟩; replace HY := Aside0.mk (HY.out.trans (hb.mono HY.out.size)); clear hb; have B4 := blk_below BK4.out HY.out; obtain ⟨e0, e1, z0, z1⟩ := bf2 B4)
  refine ret2_ (p := fun W => bodyPost _ _ _ _ _ W) B4 (HBV.out.trans (HY.out.mono (below_size HBV.out))) hg4 (.int .i64 lo) (.int .i64 n) (fun W d0 d1 rB => ?_)
  exact bodyPost_ret (v := .agg #[.int .i64 lo, .int .i64 n]) (by simp [results, Try.results29, go_sem, d0, d1]) rfl ⟨rfl, rB⟩
theorem laminaref16_CountDistinct.calls (k : Nat) (a0_0 : Int) (a0_1 : Int) (A0_2 : Option Addr) (c0_2 : Nat) (l0_2 : List Int) (a0_3 : Bool) (A0_4 : Option Addr) (c0_4 : Nat) (l0_4 : List Int) (A0_5 : Option Addr) (c0_5 : Nat) (l0_5 : List (S39)) (A0_6 : Option Addr) (c0_6 : Nat) (l0_6 : List Int) (r1 : Int) (r2 : Int) (w : World) (hr0_2 : Kd.C (Kd.int .u64) w A0_2 l0_2.length l0_2) (hc0_2 : l0_2.length ≤ c0_2) (hr0_4 : Kd.C (Kd.int .i64) w A0_4 l0_4.length l0_4) (hc0_4 : l0_4.length ≤ c0_4) (hr0_5 : Kd.C k39 w A0_5 l0_5.length l0_5) (hc0_5 : l0_5.length ≤ c0_5) (hr0_6 : Kd.C (Kd.int .i64) w A0_6 l0_6.length l0_6) (hc0_6 : l0_6.length ≤ c0_6) (h : laminaref16_CountDistinct.f k a0_0 a0_1 l0_2 a0_3 l0_4 l0_5 l0_6 = some (r1, r2)) :
  Calls Try.prog 29 #[.agg #[.int .i64 a0_0, .int .i64 a0_1, .slice A0_2 l0_2.length c0_2, .bool a0_3, .slice A0_4 l0_4.length c0_4, .slice A0_5 l0_5.length c0_5, .slice A0_6 l0_6.length c0_6]] w fun e w' => e = .returned (.agg #[.int .i64 r1, .int .i64 r2]) ∧ Below w.heap.size w w' :=
 laminaref16_CountDistinct.calls0 k a0_0 a0_1 A0_2 c0_2 l0_2 a0_3 A0_4 c0_4 l0_4 A0_5 c0_5 l0_5 A0_6 c0_6 l0_6 r1 r2 w hr0_2 hc0_2 hr0_4 hc0_4 hr0_5 hc0_5 hr0_6 hc0_6 h
end Go.Proofs.Ytackcingpffidaa.P
namespace Go.Proofs.Ytackcingpffidaa.P
open Go.RowKit Go.Proofs.YtackcingpffidaaW.PrintWords Go.Proofs.YtackcingpffidaaW.PrintLast Go.Proofs.YtackcingpffidaaW.PrintMore
attribute [local go_sem high] eqA44
set_option linter.unusedVariables false
set_option linter.unusedSimpArgs false
def awL : List S39 := [⟨2, 1, ⟨#[]⟩⟩, ⟨2, 2, ⟨#[]⟩⟩, ⟨2, 2, ⟨#[]⟩⟩, ⟨0, 0, ⟨#[]⟩⟩]
/-- What the examples ask, of the functions' results. -/
def awB : Bool := match sketch_Build.f 40 awL with
 | some (a0, a1, M, b, C, F, R) => a0 == 4 && a1 == 1 && F.length == 2 && R.length == 4 && rd R 3 == 3 && sketch_Valid.f 40 a0 a1 M b C F R == some true && sketch_CountEqual.f 40 a0 a1 M b C F R 2 2 ⟨#[]⟩ == some (2, 2) && sketch_CountLess.f 40 a0 a1 M b C F R 2 2 ⟨#[]⟩ == some (1, 1) && sketch_CountDistinct.f 40 a0 a1 M b C F R == some (2, 2)
 | none => false
set_option maxRecDepth 1000000 in
theorem awB_true : awB = true := by kernel_rfl
theorem aw_facts : ∃ M b C f0 f1 r0 r1 r2, sketch_Build.f 40 awL = some (4, 1, M, b, C, [f0, f1], [r0, r1, r2, 3]) ∧ sketch_Valid.f 40 4 1 M b C [f0, f1] [r0, r1, r2, 3] = some true ∧ sketch_CountEqual.f 40 4 1 M b C [f0, f1] [r0, r1, r2, 3] 2 2 ⟨#[]⟩ = some (2, 2) ∧ sketch_CountLess.f 40 4 1 M b C [f0, f1] [r0, r1, r2, 3] 2 2 ⟨#[]⟩ = some (1, 1) ∧ sketch_CountDistinct.f 40 4 1 M b C [f0, f1] [r0, r1, r2, 3] = some (2, 2) := by
 have h := awB_true
 unfold awB at h
 split at h
 ·rename_i a0 a1 M b C F R hb
  simp only [Bool.and_eq_true, beq_iff_eq] at h
  obtain ⟨⟨⟨⟨⟨⟨⟨⟨h0, h1⟩, h2⟩, h3⟩, h4⟩, h5⟩, h6⟩, h7⟩, h8⟩ := h
  obtain ⟨f0, f1, rfl⟩ : ∃ f0 f1, F = [f0, f1] := by
   match F, h2 with
   | [f0, f1], _ => exact ⟨f0, f1, rfl⟩
  obtain ⟨r0, r1, r2, r3, rfl⟩ : ∃ r0 r1 r2 r3, R = [r0, r1, r2, r3] := by
   match R, h3 with
   | [r0, r1, r2, r3], _ => exact ⟨r0, r1, r2, r3, rfl⟩
  have h4 : r3 = 3 := h4
  subst h0 h1 h4
  exact ⟨M, b, C, f0, f1, r0, r1, r2, hb, h5, h6, h7, h8⟩
 ·cases h
def f12_T2 : Bool × List (List Nat × List Nat) := (true, [([], []), ([0], [0]), ([1], [1]), ([2], [2]), ([3], [3]), ([4, 3], [3, 4]), ([5, 3], [3, 5]), ([3, 6], [3, 6]), ([7, 3], [7]), ([8], [8]), ([9, 8], [8, 9]), ([10, 8], [8, 10]), ([11, 8], [8, 11]), ([8, 12], [8, 12]), ([13, 8], [13]), ([14], [14]), ([15, 14], [14, 15]), ([16, 14], [14, 16]), ([17, 14], [14, 17]), ([14, 18], [14, 18]), ([19, 14], [19]), ([20], [20]), ([21, 20], [20, 21]), ([22, 20], [20, 22]), ([23, 20], [20, 23]), ([24, 20], [20, 24]), ([20, 25], [20, 25]), ([26, 20], [26]), ([27], [27]), ([28, 27, 27], [27, 28]), ([27, 29], [27, 29]), ([30, 29], [30]), ([31], [31]), ([31, 31], [31]), ([32, 33, 33, 31], [31, 32, 33]), ([31], [31]), ([34, 35, 31], [31, 34, 35]), ([31, 36], [31, 36]), ([37, 34], [37]), ([38], [38]), ([38, 38], [38]), ([39, 40, 40, 38], [38, 39, 40]), ([38], [38]), ([41, 42, 38], [38, 41, 42]), ([38, 43], [38, 43]), ([44, 41], [44]), ([45], [45]), ([46, 45, 45], [45, 46]), ([45], [45]), ([47, 48, 45], [45, 47, 48]), ([45, 49], [45, 49]), ([50, 47, 0, 1, 2, 3, 4, 5, 6, 7, 8, 9, 10, 11, 12, 13, 14, 15, 16, 17, 18, 19, 20, 21, 22, 23, 24, 25, 26, 27, 28, 29, 30, 31, 32, 33, 34, 35, 36, 37, 38, 39, 40, 41, 42, 43, 44, 45, 46, 47, 48, 49, 50], [50])])
def f12_B2 : List Nat := [0, 1, 3, 7, 15, 31, 63, 127, 255, 511, 1023, 2047, 4095, 8191, 16383, 32767, 65535, 131071, 262143, 524287, 1048575, 2097151, 4194303, 8388607, 16777215, 33554431, 67108863, 134217727, 268435455, 536870911, 1073741823, 2147483647, 4294967295, 4294967295, 17179869183, 4294967295, 68719476735, 137438953471, 274877906943, 549755813887, 549755813887, 2199023255551, 549755813887, 8796093022207, 17592186044415, 35184372088831, 70368744177663, 140737488355327, 70368744177663, 562949953421311, 1125899906842623, 2251799813685247]
set_option maxRecDepth 100000 in
theorem f12_tab2 : rtab .any (opsOf Try.f12 2) = f12_T2 := by kernel_rfl
theorem f12_bits2 : waitsOk f12_T2.2 f12_B2 = true := by kernel_rfl
set_option maxHeartbeats 4000000 in
set_option maxRecDepth 100000 in
theorem awake_calls (w : World) : Calls Try.prog 12 #[] w fun e w' => e = .returned (.bool true) ∧ Below w.heap.size w w' := by
 obtain ⟨M, b, C, f0, f1, r0, r1, r2, h1, h2, h3, h4, h5⟩ := aw_facts
 have H1 := Aside0.mk h1
 have H2 := Aside0.mk h2
 have H3 := Aside0.mk h3
 have H4 := Aside0.mk h4
 have H5 := Aside0.mk h5
 have HB := Aside0.mk (Below.refl w.heap.size w)
 clear h1 h2 h3 h4 h5
 go_enter Try.func12, Try.ntmps12
 go_upto_region 2 with (first | (go_at_call 40; (first | (refine (laminalaw16_integer.calls 1 2 1 ⟨#[]⟩ _ rfl).mono ?_) | (refine (laminalaw16_integer.calls 2 2 2 ⟨#[]⟩ _ rfl).mono ?_)); rintro e w1 ⟨rfl, hb⟩; replace HB := Aside0.mk (HB.out.trans (hb.mono (below_size HB.out))); clear hb) | ((with_reducible refine gate_dst (N := 6) rfl ?_); (try (refine gate_guard (by rfl) ?_; dsimp only)); refine Kd.R_lit k39 _ 39 ?hg (N := 6) ?hd (xs := awL) (inner := [.int .i64 2, .int .i64 1, .string (⟨#[]⟩ : ByteArray), .int .i64 2, .int .i64 2, .string (⟨#[]⟩ : ByteArray), .int .i64 2, .int .i64 2, .string (⟨#[]⟩ : ByteArray), .int .i64 0, .int .i64 0, .string (⟨#[]⟩ : ByteArray)]) (ok := fun _ => True) (okp := fun _ => True) ?hr ?hp (fun _ hk => hk) trivial (Below.refl _ _) (Nat.le_refl _) (by unfold awL; simp) ?_; (case hd => rfl); (case hg => rfl); (case hr => first | (go_simp; done) | (go_simp; rfl)); (case hp => exact (Reps.c3 (show Kd.M k39 _ _ _ (⟨2, 1, (⟨#[]⟩ : ByteArray)⟩ : S39) [.int .i64 2, .int .i64 1, .string (⟨#[]⟩ : ByteArray)] from (k39_mkM _ _ _ (⟨2, 1, (⟨#[]⟩ : ByteArray)⟩ : S39))) (Reps.c3 (show Kd.M k39 _ _ _ (⟨2, 2, (⟨#[]⟩ : ByteArray)⟩ : S39) [.int .i64 2, .int .i64 2, .string (⟨#[]⟩ : ByteArray)] from (k39_mkM _ _ _ (⟨2, 2, (⟨#[]⟩ : ByteArray)⟩ : S39))) (Reps.c3 (show Kd.M k39 _ _ _ (⟨2, 2, (⟨#[]⟩ : ByteArray)⟩ : S39) [.int .i64 2, .int .i64 2, .string (⟨#[]⟩ : ByteArray)] from (k39_mkM _ _ _ (⟨2, 2, (⟨#[]⟩ : ByteArray)⟩ : S39))) (Reps.c3 (show Kd.M k39 _ _ _ (⟨0, 0, (⟨#[]⟩ : ByteArray)⟩ : S39) [.int .i64 0, .int .i64 0, .string (⟨#[]⟩ : ByteArray)] from (k39_mkM _ _ _ (⟨0, 0, (⟨#[]⟩ : ByteArray)⟩ : S39))) (Reps.none _ _)))))); intro v4 w4 ho hb hg_ hnew_; clear hg_ hnew_; obtain ⟨A0, c0, rfl⟩ := Kd.R_slice ho; have HL := Aside0.mk (Kd.R_reads' ho).2.2; have Hc := Aside0.mk (Kd.R_reads' ho).2.1; replace HB := Aside0.mk (HB.out.trans (hb.mono (below_size HB.out))); clear hb ho) | (go_at_call 18; refine (sketch_Build.calls 40 A0 c0 awL 4 1 M b C [f0, f1] [r0, r1, r2, 3] _ HL.out Hc.out H1.out).mono ?_; rintro e w5 ⟨v2, v4, v5, v6, rfl, o2, o4, o5, o6, hb⟩; obtain ⟨A2, c2, rfl⟩ := Kd.R_slice o2; obtain ⟨A4, c4, rfl⟩ := Kd.R_slice o4; obtain ⟨A5, c5, rfl⟩ := Kd.R_slice o5; obtain ⟨A6, c6, rfl⟩ := Kd.R_slice o6; have HK : Aside0 (SK w5 A2 c2 M A4 c4 C A5 c5 [f0, f1] A6 c6 [r0, r1, r2, 3]) := ⟨(Kd.R_reads' o2).2.2, (Kd.R_reads' o2).2.1, (Kd.R_reads' o4).2.2, (Kd.R_reads' o4).2.1, (Kd.R_reads' o5).2.2, (Kd.R_reads' o5).2.1, (Kd.R_reads' o6).2.2, (Kd.R_reads' o6).2.1⟩; replace HB := Aside0.mk (HB.out.trans (hb.mono (below_size HB.out))); clear hb o2 o4 o5 o6) | (refine box_ 1 (cs := #[.int .i64 0, .int .i64 0, .slice none 0 0, .bool false, .slice none 0 0, .slice none 0 0, .slice none 0 0]) (t := 26) (fun g2 hg_ w6 BB hb => ?_); have HG := Aside0.mk hg_; have HB5 := Aside0.mk hb; clear hg_ hb; obtain ⟨e0, e1, e2, e3, e4, e5, e6, z0, z1, z2, z3, z4, z5, z6⟩ := bf7 BB; replace BB := Aside0.mk BB))
 have P7 := put7_blk BB.out (.int .i64 4) (.int .i64 1) (.slice A2 M.length c2) (.bool b) (.slice A4 C.length c4) (.slice A5 [f0, f1].length c5) (.slice A6 [r0, r1, r2, 3].length c6)
 have PB := put7_below HB5.out (Nat.le_of_eq HG.out.symm) (.int .i64 4) (.int .i64 1) (.slice A2 M.length c2) (.bool b) (.slice A4 C.length c4) (.slice A5 [f0, f1].length c5) (.slice A6 [r0, r1, r2, 3].length c6)
 unfold put7 at P7 PB
 clear e0 e1 e2 e3 e4 e5 e6 z0 z1 z2 z3 z4 z5 z6 BB HG HB5 HL Hc H1
 generalize ((((((w6.setCell ⟨g2, 0, none⟩ (.int .i64 4)).setCell ⟨g2, 1, none⟩ (.int .i64 1)).setCell ⟨g2, 2, none⟩ (.slice A2 M.length c2)).setCell ⟨g2, 3, none⟩ (.bool b)).setCell ⟨g2, 4, none⟩ (.slice A4 C.length c4)).setCell ⟨g2, 5, none⟩ (.slice A5 [f0, f1].length c5)).setCell ⟨g2, 6, none⟩ (.slice A6 [r0, r1, r2, 3].length c6) = V at P7 PB ⊢
 replace HK := Aside0.mk (HK.out.below PB)
 have HBV := Aside0.mk (HB.out.trans (PB.mono (below_size HB.out)))
 obtain ⟨ad, rfl, hx⟩ := Kd.at_int HK.out.r6 3 (by decide) (by simp)
 have hx : V.cell? (ad.add 3) = some (.int .i64 3) := hx
 have hx2 : V.cell? ⟨ad.block, ad.off + 3, none⟩ = some (.int .i64 3) := by simpa [Go.Addr.add] using hx
 have HKV : Aside0 (∀ W, Below V.heap.size V W → SK W A2 c2 M A4 c4 C A5 c5 [f0, f1] (some ad) c6 [r0, r1, r2, 3]) := ⟨fun W hb => HK.out.below hb⟩
 have HS : Aside0 (∀ W, Below V.heap.size V W → sk7 g2 4 1 A2 c2 M b A4 c4 C A5 c5 [f0, f1] (some ad) c6 [r0, r1, r2, 3] W (W.cell? ⟨ad.block, ad.off + 3, none⟩ = some (.int .i64 3))) := ⟨fun W hb => sk7_of (blk_below P7 hb) ((hb.cell (World.block_lt_of_cell? V _ hx2)).trans hx2)⟩
 clear P7 PB HB HK hx hx2 w6
 have HY := Aside0.mk (below_drew1 (Below.refl V.heap.size V))
 refine start_ (n := 52) (S := fun W => sk7 g2 4 1 A2 c2 M b A4 c4 C A5 c5 [f0, f1] (some ad) c6 [r0, r1, r2, 3] W (W.cell? ⟨ad.block, ad.off + 3, none⟩ = some (.int .i64 3))) (ds := []) #[false, false, false, false, false, false, false, false, false, false, false, false, false, false, false, false, false, false, false, false, false, false, false, false, false, false, false, false, false, false, false, false, false, false, false, false, false, false, false, false, false, false, false, false, false, false, false, false, false, false, false, false] (by kernel_rfl) rfl rfl (HS.out _ HY.out) (fun hHeld => ?_)
 refine with_tabW f12_tab2 f12_bits2 (fun HT_ HW_ => ?_)
 generalize V.drew = wd at HY hHeld ⊢
 refine pu_ HT_ 0 (some 8) ?_
 refine tk_ HT_ HW_ 1 (some 9) hHeld ?_
 refine pu_ HT_ 2 (some 10) ?_
 refine pu_ HT_ 3 (some 11) ?_
 refine pu_ HT_ 4 (some 12) ?_
 refine tk_ HT_ HW_ 5 (some 13) hHeld ?_
 refine pu_ HT_ 6 (some 14) ?_
 refine pu_ HT_ 7 (some 15) ?_
 refine pu_ HT_ 8 (some 16) ?_
 refine pu_ HT_ 9 (some 17) ?_
 refine tk_ HT_ HW_ 10 (some 18) hHeld ?_
 refine pu_ HT_ 11 (some 19) ?_
 refine pu_ HT_ 12 (some 20) ?_
 refine pu_ HT_ 13 (some 21) ?_
 refine pu_ HT_ 14 (some 22) ?_
 refine pu_ HT_ 15 (some 23) ?_
 refine tk_ HT_ HW_ 16 (some 24) hHeld ?_
 refine pu_ HT_ 17 (some 25) ?_
 refine pu_ HT_ 18 (some 26) ?_
 refine pu_ HT_ 19 (some 27) ?_
 refine pu_ HT_ 20 (some 28) ?_
 refine pu_ HT_ 21 (some 29) ?_
 refine tk_ HT_ HW_ 22 (some 30) hHeld ?_
 refine tk_ HT_ HW_ 23 (some 31) hHeld ?_
 refine tk_ HT_ HW_ 24 (some 32) hHeld ?_
 refine pu_ HT_ 25 (some 33) ?_
 refine pu_ HT_ 26 (some 34) ?_
 refine pu_ HT_ 27 (some 35) ?_
 refine tk_ HT_ HW_ 28 (some 36) hHeld ?_
 refine cl_ HT_ 29 (some 37) Try.func20 (un8 (sketch_Valid.calls 40 4 1 _ _ _ _ _ _ _ _ _ _ _ _ _ true _) (HKV.out _ HY.out) H2.out) HY HS (fun w9 HY hHeld => ?_)
 refine pu_ HT_ 30 (some 38) ?_
 refine pu_ HT_ 31 (some 39) ?_
 refine tk_ HT_ HW_ 32 (some 40) hHeld ?_
 refine pu_ HT_ 35 (some 43) ?_
 refine cl_ HT_ 33 (some 41) Try.func40 (laminalaw16_integer.calls 2 2 2 ⟨#[]⟩ _ rfl) HY HS (fun w9 HY hHeld => ?_)
 refine cl_ HT_ 34 (some 42) Try.func22 (un8 (sketch_CountEqual.calls 40 4 1 _ _ _ _ _ _ _ _ _ _ _ _ _ 2 2 ⟨#[]⟩ 2 2 _) (HKV.out _ HY.out) H3.out) HY HS (fun w9 HY hHeld => ?_)
 refine pu_ HT_ 36 (some 44) ?_
 refine pu_ HT_ 37 (some 45) ?_
 refine pu_ HT_ 38 (some 46) ?_
 refine tk_ HT_ HW_ 39 (some 47) hHeld ?_
 refine pu_ HT_ 42 (some 50) ?_
 refine cl_ HT_ 40 (some 48) Try.func40 (laminalaw16_integer.calls 2 2 2 ⟨#[]⟩ _ rfl) HY HS (fun w9 HY hHeld => ?_)
 refine cl_ HT_ 41 (some 49) Try.func24 (un8 (sketch_CountLess.calls 40 4 1 _ _ _ _ _ _ _ _ _ _ _ _ _ 2 2 ⟨#[]⟩ 1 1 _) (HKV.out _ HY.out) H4.out) HY HS (fun w9 HY hHeld => ?_)
 refine pu_ HT_ 43 (some 51) ?_
 refine pu_ HT_ 44 (some 52) ?_
 refine pu_ HT_ 45 (some 53) ?_
 refine tk_ HT_ HW_ 46 (some 54) hHeld ?_
 refine pu_ HT_ 48 (some 56) ?_
 refine cl_ HT_ 47 (some 55) Try.func28 (un8 (sketch_CountDistinct.calls 40 4 1 _ _ _ _ _ _ _ _ _ _ _ _ _ 2 2 _) (HKV.out _ HY.out) H5.out) HY HS (fun w9 HY hHeld => ?_)
 refine pu_ HT_ 49 (some 57) ?_
 refine pu_ HT_ 50 (some 58) ?_
 refine pu_ HT_ 51 (some 0) ?_
 refine done_ (done_of HT_.out (by kernel_rfl)) ?_
 clear HT_ HW_ hHeld
 go_wp2
 go_ret
 exact ⟨rfl, HBV.out.trans (HY.out.mono (below_size HBV.out))⟩
/-- In the form in which the laws look for it. -/
def laminalaw16_awake.f (_ : Nat) : Option Bool := some true
theorem laminalaw16_awake.mono (k : Nat) : LeO (laminalaw16_awake.f k) (laminalaw16_awake.f (k + 1)) := LeO.refl _
theorem laminalaw16_awake.calls (k : Nat) (r : Bool) (w : World) (h : laminalaw16_awake.f k = some r) : Calls Try.prog 12 #[] w fun e w' => e = .returned (.bool r) ∧ Below w.heap.size w w' := by
 obtain rfl := Option.some.inj h
 exact awake_calls w
end Go.Proofs.Ytackcingpffidaa.P
namespace Go.Proofs.Ytackcingpffidaa.P
open Go.RowKit Go.Proofs.YtackcingpffidaaW.PrintWords Go.Proofs.YtackcingpffidaaW.PrintLast Go.Proofs.YtackcingpffidaaW.PrintMore
attribute [local go_sem] max2_int min2_int max_two min_two max_three min_three max_four min_four Go.Proofs.YtackcingpffidaaQ.str_gtr Go.Proofs.YtackcingpffidaaQ.str_leq Go.Proofs.YtackcingpffidaaQ.str_geq   -- for this text's walks alone
set_option linter.unusedVariables false
set_option linter.unusedSimpArgs false
/-! ### laminaref01_Encode: function 44 -/
def laminaref01_Encode.l0 : Nat → Int → List Int → Option (List Int)
 | 0, _, _ => none
 | k + 1, x0, x3 => if x0 > 127 then (if x3.length < 140737488355328 then (laminaref01_Encode.l0 k (IntKind.u64.wrap (Int.tdiv x0 128)) (x3 ++ [(IntKind.u64.wrap (128 + (Int.tmod x0 128))) % 256])) else (none)) else (if x3.length < 140737488355328 then (some (x3 ++ [(x0) % 256])) else (none))
def laminaref01_Encode.f (k : Nat) (a0 : Int) : Option (List Int) := laminaref01_Encode.l0 k a0 ([] : List Int)
set_option maxHeartbeats 8000000 in
set_option maxRecDepth 100000 in
theorem laminaref01_Encode.calls (k : Nat) (a0 : Int) (r : List Int) (w : World) (h : laminaref01_Encode.f k a0 = some r) :
  Calls Try.prog 44 #[.int .u64 a0] w fun e w' => ∃ v0_ : Value, e = .returned (v0_) ∧ Kd.R (Kd.int .u8) 5 w' w.heap.size (fun _ => True) v0_ r ∧ Below w.heap.size w w' := by
 have HB := Aside0.mk (Below.refl w.heap.size w)
 have H : (laminaref01_Encode.l0 k a0 ([] : List Int)) = some r := h
 clear h
 have H' := Aside0.mk H
 clear H
 go_enter Try.func44, Try.ntmps44
 go_wp2
 go_loopg [0, 3] k (fun kq v0 v3 w' => ∃ (x0_1 : Int) (x3_1 : List Int), v0 = .int .u64 x0_1 ∧ Aside0 (laminaref01_Encode.l0 kq x0_1 x3_1 = some r) ∧ Aside0 (kq ≤ k) ∧ Aside0 (Kd.R (Kd.int .u8) 5 w' w.heap.size (fun _ => True) v3 x3_1) ∧ Aside0 (Below w.heap.size w w'))
 case atStart => exact ⟨(a0), (([] : List Int)), (by first | rfl | (simp; done) | (simp [*]; done)), H', ⟨Nat.le_refl _⟩, ⟨by first | exact Kd.R_nil _ _ _ _ _ | exact Kd.N_nil _ _ _ _ _ | exact Kd.V_nil _ _ _ _ _ | exact Kd.Q_nil _ _ _ _ _ | exact Kd.S_nil _ _ _ _ _⟩, ⟨(hb_ HB.out)⟩⟩
 case round =>
  clear H'
  obtain ⟨x0_1, x3_1, rfl, HA, HK1, HO_3, HB⟩ := hrel
  cases gk with
  | zero => exact absurd HA.out (by simp [laminaref01_Encode.l0])
  | succ k1 =>
   have H := HA.out
   clear HA
   simp only [laminaref01_Encode.l0] at H
   by_cases c2 : x0_1 > 127
   ·rw [if_pos c2] at H
    have c2b0 : decide (127 < x0_1) = true := decide_eq_true c2
    clear c2
    by_cases c3 : x3_1.length < 140737488355328
    ·rw [if_pos c3] at H
     have LMc3 := Aside0.mk c3
     clear c3
     obtain ⟨y165, hy165⟩ : ∃ y_ : List Int, y_ = (x3_1 ++ [(IntKind.u64.wrap (128 + (Int.tmod x0_1 128))) % 256]) := ⟨_, rfl⟩
     replace H : (laminaref01_Encode.l0 k1 (IntKind.u64.wrap (Int.tdiv x0_1 128)) y165) = some r := by first | (rw [hy165]; with_reducible exact H) | (have H2_ := (Option.bind_some _ _).symm.trans H; rw [hy165]; with_reducible exact H2_) | (have H2_ := (Option.bind_some _ _).symm.trans H; with_reducible exact H2_) | with_reducible exact H | (rw [hy165]; exact H) | exact H
     have Ny165 := Aside0.mk hy165
     clear hy165
     have H' := Aside0.mk H
     clear H
     go_wp2_with (first | ((with_reducible refine gate_builtin (b := .append) (xs := #[.tmp 6, .tmp 11]) rfl ?_); at_builtin; refine Kd.R_append (Kd.int .u8) (w0 := w) w.heap.size rfl (.tmp 6) (.tmp 11) 27 5 (.int .u8 0) 1 rfl Try.underlying27 info5 rfl (by decide) (by omega) u3 x3_1 ((IntKind.u64.wrap (128 + (Int.tmod x0_1 128))) % 256) [.int .u8 ((IntKind.u64.wrap (128 + (Int.tmod x0_1 128))) % 256)] (fun _ => True) (fun _ => False) rfl rfl ?aP (fun _ hk => hk.elim) ?aF ?aO ?aB ?aS ?aL ?_; (case aP => exact rfl); (case aB => exact (hb_ HB.out)); (case aF => exact (fun _ _ => trivial)); (case aO => exact (ra_ HO_3.out)); (case aS => exact (below_size (hb_ HB.out))); (case aL => have := LMc3.out; omega); intro v166 w4 ho hb hg hat; rw [← Ny165.out] at ho; have n0_ := Aside0.mk (hb); have n1_ := Aside0.mk (ho); clear HB; clear HO_3; have HB := n0_; have HO167 := n1_; clear n0_ n1_; clear ho hb hg hat))
     go_roundg k1
     case measure => have := HK1.out; omega
     case rel => exact ⟨(IntKind.u64.wrap (Int.tdiv x0_1 128)), (y165), (by first | rfl | (simp; done) | (simp [*]; done)), H', ⟨by have := HK1.out; omega⟩, ⟨by (with_reducible repeat (first | apply Kd.R_alloc | apply Kd.R_drewN | apply Kd.R_drew)); exact HO167.out⟩, ⟨(hb_ HB.out)⟩⟩
    ·rw [if_neg c3] at H
     exact absurd H (by simp)
   ·rw [if_neg c2] at H
    have c2b0 : decide (127 < x0_1) = false := decide_eq_false c2
    clear c2
    by_cases c5 : x3_1.length < 140737488355328
    ·rw [if_pos c5] at H
     have LMc5 := Aside0.mk c5
     clear c5
     obtain ⟨y168, hy168⟩ : ∃ y_ : List Int, y_ = (x3_1 ++ [(x0_1) % 256]) := ⟨_, rfl⟩
     replace H : (some y168) = some r := by first | (rw [hy168]; with_reducible exact H) | (have H2_ := (Option.bind_some _ _).symm.trans H; rw [hy168]; with_reducible exact H2_) | (have H2_ := (Option.bind_some _ _).symm.trans H; with_reducible exact H2_) | with_reducible exact H | (rw [hy168]; exact H) | exact H
     have Ny168 := Aside0.mk hy168
     clear hy168
     obtain rfl := Option.some.inj H
     go_wp2_with (first | ((with_reducible refine gate_builtin (b := .append) (xs := #[.tmp 15, .tmp 18]) rfl ?_); at_builtin; refine Kd.R_append (Kd.int .u8) (w0 := w) w.heap.size rfl (.tmp 15) (.tmp 18) 27 5 (.int .u8 0) 1 rfl Try.underlying27 info5 rfl (by decide) (by omega) u3 x3_1 ((x0_1) % 256) [.int .u8 ((x0_1) % 256)] (fun _ => True) (fun _ => False) rfl rfl ?aP (fun _ hk => hk.elim) ?aF ?aO ?aB ?aS ?aL ?_; (case aP => exact rfl); (case aB => exact (hb_ HB.out)); (case aF => exact (fun _ _ => trivial)); (case aO => exact (ra_ HO_3.out)); (case aS => exact (below_size (hb_ HB.out))); (case aL => have := LMc5.out; omega); intro v169 w6 ho hb hg hat; rw [← Ny168.out] at ho; have n0_ := Aside0.mk (hb); have n1_ := Aside0.mk (ho); clear HB; clear HO_3; have HB := n0_; have HO170 := n1_; clear n0_ n1_; clear ho hb hg hat))
     go_ret
     exact ⟨_, by first | rfl | (simp [errW_none, errW_some] <;> rfl) | (simp [*, errW_none, errW_some] <;> rfl), by (with_reducible repeat (first | apply Kd.R_alloc | apply Kd.R_drewN | apply Kd.R_drew)); exact HO170.out, (hb_ HB.out)⟩
    ·rw [if_neg c5] at H
     exact absurd H (by simp)
/-! ### laminaref01_Concat: function 46 -/
mutual
def laminaref01_Concat.l0 : Nat → List (List Int) → List Int → Int → Option (List Int)
 | 0, _, _, _ => none
 | k + 1, x0, x3, x4 => if x4 < (x0.length : Int) then (laminaref01_Concat.l1 k x0 x3 x4 0) else (some x3)
def laminaref01_Concat.l1 : Nat → List (List Int) → List Int → Int → Int → Option (List Int)
 | 0, _, _, _, _ => none
 | k + 1, x0, x3, x4, x5 => if 0 ≤ x4 then (if x4 < (x0.length : Int) then (if x5 < ((rd_L5 x0 x4).length : Int) then (if 0 ≤ x5 then (if x3.length < 140737488355328 then (laminaref01_Concat.l1 k x0 (x3 ++ [rd (rd_L5 x0 x4) x5]) x4 (wrap64 (x5 + 1))) else (none)) else (none)) else (laminaref01_Concat.l0 k x0 x3 (wrap64 (x4 + 1)))) else (none)) else (none)
end
def laminaref01_Concat.f (k : Nat) (l0 : List (List Int)) : Option (List Int) := laminaref01_Concat.l0 k l0 ([] : List Int) 0
set_option maxHeartbeats 8000000 in
set_option maxRecDepth 100000 in
theorem laminaref01_Concat.calls (k : Nat) (A0 : Option Addr) (c0 : Nat) (l0 : List (List Int)) (r : List Int) (w : World) (hr0 : Kd.C (Kd.slice 5 (Kd.int .u8)) w A0 l0.length l0) (hc0 : l0.length ≤ c0) (h : laminaref01_Concat.f k l0 = some r) :
  Calls Try.prog 46 #[.slice A0 l0.length c0] w fun e w' => ∃ v0_ : Value, e = .returned (v0_) ∧ Kd.R (Kd.int .u8) 5 w' w.heap.size (fun _ => True) v0_ r ∧ Below w.heap.size w w' := by
 have HR0 := Aside0.mk hr0
 have HC0 := Aside0.mk hc0
 clear hr0 hc0
 have HB := Aside0.mk (Below.refl w.heap.size w)
 have H : (laminaref01_Concat.l0 k l0 ([] : List Int) 0) = some r := h
 clear h
 have H' := Aside0.mk H
 clear H
 go_enter Try.func46, Try.ntmps46
 go_wp2
 go_loopg [3, 4] k (fun kq v3 v4 w' => ∃ (x3_1 : List Int) (x4_1 : Int), v4 = .int .i64 x4_1 ∧ Aside0 (laminaref01_Concat.l0 kq l0 x3_1 x4_1 = some r) ∧ Aside0 (kq ≤ k) ∧ Aside0 (Kd.R (Kd.int .u8) 5 w' w.heap.size (fun _ => True) v3 x3_1) ∧ Aside0 (Below w.heap.size w w'))
 case atStart => exact ⟨(([] : List Int)), (0), (by first | rfl | (simp; done) | (simp [*]; done)), H', ⟨Nat.le_refl _⟩, ⟨by first | exact Kd.R_nil _ _ _ _ _ | exact Kd.N_nil _ _ _ _ _ | exact Kd.V_nil _ _ _ _ _ | exact Kd.Q_nil _ _ _ _ _ | exact Kd.S_nil _ _ _ _ _⟩, ⟨(hb_ HB.out)⟩⟩
 case round =>
  clear H'
  obtain ⟨x3_1, x4_1, rfl, HA, HK1, HO_3, HB⟩ := hrel
  cases gk with
  | zero => exact absurd HA.out (by simp [laminaref01_Concat.l0])
  | succ k1 =>
   have H := HA.out
   clear HA
   simp only [laminaref01_Concat.l0] at H
   by_cases c2 : x4_1 < (l0.length : Int)
   ·rw [if_pos c2] at H
    have c2b0 : decide (x4_1 < (l0.length : Int)) = true := decide_eq_true c2
    clear c2
    have H' := Aside0.mk H
    clear H
    go_wp2
    go_loopg [3, 5] k1 (fun kq v3 v5 w' => ∃ (x3_2 : List Int) (x5_2 : Int), v5 = .int .i64 x5_2 ∧ Aside0 (laminaref01_Concat.l1 kq l0 x3_2 x4_1 x5_2 = some r) ∧ Aside0 (kq ≤ k1) ∧ Aside0 (Kd.R (Kd.int .u8) 5 w' w.heap.size (fun _ => True) v3 x3_2) ∧ Aside0 (Below w.heap.size w w'))
    case atStart => exact ⟨(x3_1), (0), (by first | rfl | (simp; done) | (simp [*]; done)), H', ⟨Nat.le_refl _⟩, ⟨by (with_reducible repeat (first | apply Kd.R_alloc | apply Kd.R_drewN | apply Kd.R_drew)); exact HO_3.out⟩, ⟨(hb_ HB.out)⟩⟩
    case round =>
     clear H'
     try clear c2
     try clear c2b0
     try clear p2
     obtain ⟨x3_2, x5_2, rfl, HA, HK2, HO_3, HB⟩ := hrel
     cases gk with
     | zero => exact absurd HA.out (by simp [laminaref01_Concat.l1])
     | succ k2 =>
      have H := HA.out
      clear HA
      simp only [laminaref01_Concat.l1] at H
      by_cases c3 : 0 ≤ x4_1
      ·rw [if_pos c3] at H
       have c3b0 : decide (0 ≤ x4_1) = true := decide_eq_true c3
       clear c3
       by_cases c4 : x4_1 < (l0.length : Int)
       ·rw [if_pos c4] at H
        have c4b0 : decide (x4_1 < (l0.length : Int)) = true := decide_eq_true c4
        clear c4
        by_cases c5 : x5_2 < ((rd_L5 l0 x4_1).length : Int)
        ·rw [if_pos c5] at H
         have c5b0 : decide (x5_2 < ((rd_L5 l0 x4_1).length : Int)) = true := decide_eq_true c5
         clear c5
         by_cases c6 : 0 ≤ x5_2
         ·rw [if_pos c6] at H
          have c6b0 : decide (0 ≤ x5_2) = true := decide_eq_true c6
          clear c6
          by_cases c7 : x3_2.length < 140737488355328
          ·rw [if_pos c7] at H
           have LMc7 := Aside0.mk c7
           clear c7
           obtain ⟨y174, hy174⟩ : ∃ y_ : List Int, y_ = (x3_2 ++ [rd (rd_L5 l0 x4_1) x5_2]) := ⟨_, rfl⟩
           replace H : (laminaref01_Concat.l1 k2 l0 y174 x4_1 (wrap64 (x5_2 + 1))) = some r := by first | (rw [hy174]; with_reducible exact H) | (have H2_ := (Option.bind_some _ _).symm.trans H; rw [hy174]; with_reducible exact H2_) | (have H2_ := (Option.bind_some _ _).symm.trans H; with_reducible exact H2_) | with_reducible exact H | (rw [hy174]; exact H) | exact H
           have Ny174 := Aside0.mk hy174
           clear hy174
           have H' := Aside0.mk H
           clear H
           have p171 : 0 ≤ (x4_1 : Int) := of_decide_eq_true (by first | (with_reducible assumption) | assumption)
           have q171 : x4_1 < (l0.length : Int) := of_decide_eq_true (by first | (with_reducible assumption) | assumption)
           obtain ⟨ad171, A171_0, c171_0, e171, hx171_0, hl171_0, hi171_0⟩ := at_L5 HR0.out x4_1 p171 q171
           cases e171
           replace hx171_0 := up_ HB.out hx171_0
           have HR171_0 := Aside0.mk hi171_0
           have HC171_0 := Aside0.mk hl171_0
           clear hi171_0 hl171_0
           replace p171 := eq_true p171
           replace q171 := eq_true q171
           have p172 : 0 ≤ (x4_1 : Int) := of_decide_eq_true (by first | (with_reducible assumption) | assumption)
           have q172 : x4_1 < (l0.length : Int) := of_decide_eq_true (by first | (with_reducible assumption) | assumption)
           obtain ⟨ad172, A172_0, c172_0, e172, hx172_0, hl172_0, hi172_0⟩ := at_L5 HR0.out x4_1 p172 q172
           obtain rfl : ad171 = ad172 := (by injection e172)
           replace hx172_0 := up_ HB.out hx172_0
           have HR172_0 := Aside0.mk hi172_0
           have HC172_0 := Aside0.mk hl172_0
           clear hi172_0 hl172_0
           replace p172 := eq_true p172
           replace q172 := eq_true q172
           have ea_ := Option.some.inj (hx171_0.symm.trans hx172_0)
           injection ea_ with ea_ en_ ec_
           subst ea_
           subst ec_
           clear en_
           have p173 : 0 ≤ (x5_2 : Int) := of_decide_eq_true (by first | (with_reducible assumption) | assumption)
           have q173 : x5_2 < ((rd_L5 l0 x4_1).length : Int) := of_decide_eq_true (by first | (with_reducible assumption) | assumption)
           obtain ⟨ad173, e173, hx173_0⟩ := Kd.at_int HR172_0.out x5_2 p173 q173
           cases e173
           replace hx173_0 := up_ HB.out hx173_0
           replace p173 := eq_true p173
           replace q173 := eq_true q173
           go_wp2_with (first | ((with_reducible refine gate_builtin (b := .append) (xs := #[.tmp 21, .tmp 29]) rfl ?_); at_builtin; refine Kd.R_append (Kd.int .u8) (w0 := w) w.heap.size rfl (.tmp 21) (.tmp 29) 27 5 (.int .u8 0) 1 rfl Try.underlying27 info5 rfl (by decide) (by omega) u3 x3_2 (rd (rd_L5 l0 x4_1) x5_2) [.int .u8 (rd (rd_L5 l0 x4_1) x5_2)] (fun _ => True) (fun _ => False) rfl rfl ?aP (fun _ hk => hk.elim) ?aF ?aO ?aB ?aS ?aL ?_; (case aP => exact rfl); (case aB => exact (hb_ HB.out)); (case aF => exact (fun _ _ => trivial)); (case aO => exact (ra_ HO_3.out)); (case aS => exact (below_size (hb_ HB.out))); (case aL => have := LMc7.out; omega); intro v175 w8 ho hb hg hat; rw [← Ny174.out] at ho; have n0_ := Aside0.mk (hb); have n1_ := Aside0.mk (ho); clear HB; clear HO_3; have HB := n0_; have HO176 := n1_; clear n0_ n1_; clear ho hb hg hat))
           go_roundg k2
           case measure => have := HK1.out; have := HK2.out; omega
           case rel => exact ⟨(y174), (wrap64 (x5_2 + 1)), (by first | rfl | (simp; done) | (simp [*]; done)), H', ⟨by have := HK1.out; have := HK2.out; omega⟩, ⟨by (with_reducible repeat (first | apply Kd.R_alloc | apply Kd.R_drewN | apply Kd.R_drew)); exact HO176.out⟩, ⟨(hb_ HB.out)⟩⟩
          ·rw [if_neg c7] at H
           exact absurd H (by simp)
         ·rw [if_neg c6] at H
          exact absurd H (by simp)
        ·rw [if_neg c5] at H
         have c5b0 : decide (x5_2 < ((rd_L5 l0 x4_1).length : Int)) = false := decide_eq_false c5
         clear c5
         have H' := Aside0.mk H
         clear H
         have p171 : 0 ≤ (x4_1 : Int) := of_decide_eq_true (by first | (with_reducible assumption) | assumption)
         have q171 : x4_1 < (l0.length : Int) := of_decide_eq_true (by first | (with_reducible assumption) | assumption)
         obtain ⟨ad171, A171_0, c171_0, e171, hx171_0, hl171_0, hi171_0⟩ := at_L5 HR0.out x4_1 p171 q171
         cases e171
         replace hx171_0 := up_ HB.out hx171_0
         have HR171_0 := Aside0.mk hi171_0
         have HC171_0 := Aside0.mk hl171_0
         clear hi171_0 hl171_0
         replace p171 := eq_true p171
         replace q171 := eq_true q171
         go_wp2
         go_roundg k2
         case measure => have := HK1.out; have := HK2.out; omega
         case rel => exact ⟨(x3_2), (wrap64 (x4_1 + 1)), (by first | rfl | (simp; done) | (simp [*]; done)), H', ⟨by have := HK1.out; have := HK2.out; omega⟩, ⟨by (with_reducible repeat (first | apply Kd.R_alloc | apply Kd.R_drewN | apply Kd.R_drew)); exact HO_3.out⟩, ⟨(hb_ HB.out)⟩⟩
       ·rw [if_neg c4] at H
        exact absurd H (by simp)
      ·rw [if_neg c3] at H
       exact absurd H (by simp)
   ·rw [if_neg c2] at H
    have c2b0 : decide (x4_1 < (l0.length : Int)) = false := decide_eq_false c2
    clear c2
    obtain rfl := Option.some.inj H
    go_wp2
    go_ret
    exact ⟨_, by first | rfl | (simp [errW_none, errW_some] <;> rfl) | (simp [*, errW_none, errW_some] <;> rfl), by (with_reducible repeat (first | apply Kd.R_alloc | apply Kd.R_drewN | apply Kd.R_drew)); exact HO_3.out, (hb_ HB.out)⟩
/-! ### laminaref01_ZigZag: function 92 -/
def laminaref01_ZigZag.f (a0 : Int) : Option (Int) := if a0 ≥ 0 then (some (IntKind.u64.wrap (2 * (IntKind.u64.wrap (a0))))) else (some (IntKind.u64.wrap ((IntKind.u64.wrap (2 * (IntKind.u64.wrap (wrap64 (-(wrap64 (a0 + 1))))))) + 1)))
set_option maxHeartbeats 8000000 in
set_option maxRecDepth 100000 in
theorem laminaref01_ZigZag.calls (a0 : Int) (r : Int) (w : World) (h : laminaref01_ZigZag.f a0 = some r) :
  Calls Try.prog 92 #[.int .i64 a0] w fun e w' => e = .returned (.int .u64 r) ∧ Drawn0 w w' := by
 have H : (if a0 ≥ 0 then (some (IntKind.u64.wrap (2 * (IntKind.u64.wrap (a0))))) else (some (IntKind.u64.wrap ((IntKind.u64.wrap (2 * (IntKind.u64.wrap (wrap64 (-(wrap64 (a0 + 1))))))) + 1)))) = some r := h
 clear h
 by_cases c2 : a0 ≥ 0
 ·rw [if_pos c2] at H
  have c2b0 : decide (0 ≤ a0) = true := decide_eq_true c2
  clear c2
  obtain rfl := Option.some.inj H
  go_enter Try.func92, Try.ntmps92
  go_wp2
  go_ret
  exact ⟨by first | rfl | (simp; done) | (simp [*]; done), by repeat (first | exact Drawn0.refl _ | apply Drawn0.step)⟩
 ·rw [if_neg c2] at H
  have c2b0 : decide (0 ≤ a0) = false := decide_eq_false c2
  clear c2
  obtain rfl := Option.some.inj H
  go_enter Try.func92, Try.ntmps92
  go_wp2
  go_ret
  exact ⟨by first | rfl | (simp; done) | (simp [*]; done), by repeat (first | exact Drawn0.refl _ | apply Drawn0.step)⟩
/-! ### laminaref01_Text: function 93 -/
def laminaref01_Text.f (k : Nat) (a0 : ByteArray) : Option (List Int) := if a0.size ≤ 9223372036854775807 then (laminaref01_Encode.f k (a0.size : Int)).bind fun t => laminaref01_Concat.f k [t, bytesOf a0] else none
set_option maxHeartbeats 1000000 in
set_option maxRecDepth 100000 in
theorem laminaref01_Text.calls (k : Nat) (a0 : ByteArray) (r : List Int) (w : World) (h : laminaref01_Text.f k a0 = some r) :
  Calls Try.prog 93 #[.string a0] w fun e w' => ∃ v0_ : Value, e = .returned (v0_) ∧ Kd.R (Kd.int .u8) 5 w' w.heap.size (fun _ => True) v0_ r ∧ Below w.heap.size w w' := by
 unfold laminaref01_Text.f at h
 by_cases hl : a0.size ≤ 9223372036854775807
 ·rw [if_pos hl] at h
  obtain ⟨t, h1, h2⟩ := Option.bind_eq_some_iff.mp h
  have A1 := Aside0.mk h1
  have A2 := Aside0.mk h2
  clear h h1 h2
  obtain ⟨y, hy⟩ : ∃ y_ : List (List Int), y_ = [t, bytesOf a0] := ⟨_, rfl⟩
  rw [← hy] at A2
  have Ny := Aside0.mk hy
  clear hy
  have HB := Aside0.mk (Below.refl w.heap.size w)
  have kb := fun W => print_bytes (P := Try.prog) 9 27 5 Try.underlying9 Try.underlying27 Try.underlying5 a0 W
  go_enter Try.func93, Try.ntmps93
  go_wp2_with (first
   | ((with_reducible refine gate_callee (f := 44) rfl ?_); refine goesL_ (some 6) rfl rfl Try.func44 (by kernel_rfl) rfl #[.int .u64 (a0.size : Int)] rfl (by (try simp only [List.map_toArray, List.map_cons, List.map_nil]); rfl) ?_; (with_reducible refine (laminaref01_Encode.calls k _ t _ A1.out).mono ?_); rintro e w1 ⟨v1, rfl, ho0, hb⟩; refine ⟨_, rfl, ?_⟩; have HO1 := Aside0.mk ho0; replace HB := Aside0.mk (below_step HB.out hb); clear ho0 hb)
   | ((with_reducible refine gate_dst (N := 9) rfl ?_); have hb2 := bytes_below (Below.refl w1.heap.size w1) (Nat.le_refl _) 5 a0; have HC2 := Aside0.mk (Kd.C_of_reads (d := (0 : Int)) (h1 := fun _ => rfl) (bytes_reads w1 5 a0 hl)); have n0_ := Aside0.mk (Kd.R_below HO1.out hb2); have n1_ := Aside0.mk (below_step HB.out hb2); clear HB HO1; have HO1 := n0_; have HB := n1_; clear n0_ n1_ hb2; obtain ⟨Ao1, co1, eo1⟩ := Kd.R_slice HO1.out; subst eo1; refine Kd.N_lit (Kd.slice 5 (Kd.int .u8)) _ 27 ?hg (N' := 9) ?hd (xs := ([t, bytesOf a0] : List (List Int))) (inner := [.slice Ao1 t.length co1, .slice (some ⟨w1.heap.size, 0, none⟩) a0.size (grownCap w1 a0.size 0 5)]) (ok := fun _ => True) (okp := fun _ => True) ?hr ?hp (fun _ hk => hk) trivial (Below.refl _ _) (Nat.le_refl _) (by simp) ?_; (case hd => rfl); (case hg => rfl); (case hr => first | (go_simp; done) | (go_simp; rfl)); (case hp => exact (Reps.one (show Kd.FK (Kd.slice 5 (Kd.int .u8)) _ _ t [.slice Ao1 t.length co1] from (Kd.FK_slice_mk (Kd.R_reads' HO1.out).2.1 (Kd.F_mono (Kd.R_F HO1.out) (fun _ _ => trivial)))) (Reps.one (show Kd.FK (Kd.slice 5 (Kd.int .u8)) _ _ (bytesOf a0) [.slice (some ⟨w1.heap.size, 0, none⟩) a0.size (grownCap w1 a0.size 0 5)] from (by rw [← bytesOf_length a0]; exact Kd.FK_slice_mk (by rw [bytesOf_length]; exact grownCap_ge w1 a0.size 0 5) (by rw [bytesOf_length]; exact Kd.F_mono (Kd.C_F (Kd.heap_int .u8) HC2.out) (fun _ _ => trivial)))) (Reps.none _ _)))); intro v3 w3 ho3 hb3 hg_ hnew_; clear hg_ hnew_; rw [← Ny.out] at ho3; have n1_ := Aside0.mk (below_step HB.out hb3); have n0_ := Aside0.mk ho3; clear HB HO1 HC2; have HB := n1_; have HO3 := n0_; clear n0_ n1_ hb3 ho3; obtain ⟨Ao3, co3, eo3⟩ := Kd.N_slice HO3.out; subst eo3)
   | ((with_reducible refine gate_callee (f := 46) rfl ?_); refine goesL_ (some 10) rfl rfl Try.func46 (by kernel_rfl) rfl #[.slice Ao3 y.length co3] rfl (by (try simp only [List.map_toArray, List.map_cons, List.map_nil]); rfl) ?_; (with_reducible refine (laminaref01_Concat.calls k _ _ y r _ ?side1 ?side2 A2.out).mono ?_); (case side1 => exact (Kd.N_reads' HO3.out).2.2); (case side2 => exact (Kd.N_reads' HO3.out).2.1); rintro e w4 ⟨v4, rfl, ho4, hb4⟩; refine ⟨_, rfl, ?_⟩; have n0_ := Aside0.mk (Kd.R_lower ho4 (below_size HB.out)); have n1_ := Aside0.mk (below_step HB.out hb4); clear HB; have HO4 := n0_; have HB := n1_; clear n0_ n1_ ho4 hb4))
  go_ret
  exact ⟨_, rfl, HO4.out, HB.out⟩
 ·rw [if_neg hl] at h
  exact absurd h (by simp)
/-! ### laminaref04_Encode: function 45 -/
def laminaref04_Encode.f (k : Nat) (a0_0 : Int) (a0_1 : Int) (a0_2 : ByteArray) : Option (List Int) := if a0_0 = 1 then (some (([1, (a0_1) % 256] : List Int))) else (if a0_0 = 2 then ((laminaref01_ZigZag.f a0_1).bind fun t184 => ((laminaref01_Encode.f k t184).bind fun t185 => ((laminaref01_Concat.f k (([(([2] : List Int)), t185] : List (List Int)))).bind fun t191 => (some t191)))) else (if a0_0 = 3 then ((laminaref01_Text.f k a0_2).bind fun t197 => ((laminaref01_Concat.f k (([(([3] : List Int)), t197] : List (List Int)))).bind fun t203 => (some t203))) else (some (([0] : List Int)))))
set_option maxHeartbeats 8000000 in
set_option maxRecDepth 100000 in
theorem laminaref04_Encode.calls (k : Nat) (a0_0 : Int) (a0_1 : Int) (a0_2 : ByteArray) (r : List Int) (w : World) (h : laminaref04_Encode.f k a0_0 a0_1 a0_2 = some r) :
  Calls Try.prog 45 #[.agg #[.int .i64 a0_0, .int .i64 a0_1, .string a0_2]] w fun e w' => ∃ v0_ : Value, e = .returned (v0_) ∧ Kd.R (Kd.int .u8) 5 w' w.heap.size (fun _ => True) v0_ r ∧ Below w.heap.size w w' := by
 have hu39 := Try.underlying39
 have HB := Aside0.mk (Below.refl w.heap.size w)
 have H : (if a0_0 = 1 then (some (([1, (a0_1) % 256] : List Int))) else (if a0_0 = 2 then ((laminaref01_ZigZag.f a0_1).bind fun t184 => ((laminaref01_Encode.f k t184).bind fun t185 => ((laminaref01_Concat.f k (([(([2] : List Int)), t185] : List (List Int)))).bind fun t191 => (some t191)))) else (if a0_0 = 3 then ((laminaref01_Text.f k a0_2).bind fun t197 => ((laminaref01_Concat.f k (([(([3] : List Int)), t197] : List (List Int)))).bind fun t203 => (some t203))) else (some (([0] : List Int)))))) = some r := h
 clear h
 by_cases c2 : a0_0 = 1
 ·rw [if_pos c2] at H
  have c2b0 : (a0_0 == 1) = true := beq_iff_eq.mpr c2
  have c2b1 : (a0_0 != 1) = false := bne_eq_false_iff_eq.mpr c2
  clear c2
  obtain ⟨y178, hy178⟩ : ∃ y_ : List Int, y_ = (([1, (a0_1) % 256] : List Int)) := ⟨_, rfl⟩
  replace H : (some y178) = some r := by first | (rw [hy178]; with_reducible exact H) | (have H2_ := (Option.bind_some _ _).symm.trans H; rw [hy178]; with_reducible exact H2_) | (have H2_ := (Option.bind_some _ _).symm.trans H; with_reducible exact H2_) | with_reducible exact H | (rw [hy178]; exact H) | exact H
  have Ny178 := Aside0.mk hy178
  clear hy178
  obtain rfl := Option.some.inj H
  go_enter Try.func45, Try.ntmps45
  go_wp2_with (first | ((with_reducible refine gate_dst (N := 1) rfl ?_); refine box_ 1 (cs := #[.int .i64 a0_0, .int .i64 a0_1, .string a0_2]) (t := 39) ?_; intro gb177 hg w3 hbox hb; have BK177 := Aside0.mk (hbox); have GW177 := Aside0.mk ((by rw [hg]; exact (below_size (hb_ HB.out)) : w.heap.size ≤ gb177)); have GE177 := Aside0.mk ((by rw [hg]; exact (below_size (hb_ HB.out)) : w.heap.size ≤ gb177)); replace HB := Aside0.mk (below_step (hb_ HB.out) hb); clear hb hbox hg; obtain ⟨hcz4_0, hcz4_1, hcz4_2, hfz4_0, hfz4_1, hfz4_2⟩ := bf3 BK177.out) | ((with_reducible refine gate_dst (N := 10) rfl ?_); refine Kd.R_lit (Kd.int .u8) _ 5 ?hg (N := 10) ?hd (xs := ([1, (a0_1) % 256] : List Int)) (inner := [.int .u8 1, .int .u8 ((a0_1) % 256)]) (ok := fun _ => True) (okp := fun _ => True) ?hr ?hp (fun _ hk => hk) trivial (Below.refl _ _) (Nat.le_refl _) (by simp) ?_; (case hd => rfl); (case hg => rfl); (case hr => first | (go_simp; done) | (go_simp; rfl)); (case hp => exact (Reps.one (show Kd.M (Kd.int .u8) _ _ _ 1 [.int .u8 1] from rfl) (Reps.one (show Kd.M (Kd.int .u8) _ _ _ ((a0_1) % 256) [.int .u8 ((a0_1) % 256)] from rfl) (Reps.none _ _)))); intro v179 w5 ho6 hb hg_ hnew_; clear hg_ hnew_; (first | rw [← Ny178.out] at ho6 | (simp only [Int.reduceToNat] at ho6; rw [← Ny178.out] at ho6)); have HO180 := Aside0.mk (Kd.R_lower ho6 (below_size (hb1_ HB.out GE177.out))); replace BK177 := Aside0.mk (blk_below (bk_ BK177.out) hb); replace HB := Aside0.mk (below_step (hb1_ HB.out GE177.out) hb); clear hb ho6))
  go_ret
  exact ⟨_, by first | rfl | (simp [errW_none, errW_some] <;> rfl) | (simp [*, errW_none, errW_some] <;> rfl), by (with_reducible repeat (first | apply Kd.R_alloc | apply Kd.R_drewN | apply Kd.R_drew)); exact HO180.out, (hb1_ HB.out GE177.out)⟩
 ·rw [if_neg c2] at H
  have c2b0 : (a0_0 == 1) = false := beq_eq_false_iff_ne.mpr c2
  have c2b1 : (a0_0 != 1) = true := bne_iff_ne.mpr c2
  by_cases c7 : a0_0 = 2
  ·rw [if_pos c7] at H
   have c7b0 : (a0_0 == 2) = true := beq_iff_eq.mpr c7
   have c7b1 : (a0_0 != 2) = false := bne_eq_false_iff_eq.mpr c7
   clear c7
   obtain ⟨y181, hy181⟩ : ∃ y_ : List Int, y_ = (([2] : List Int)) := ⟨_, rfl⟩
   replace H : ((laminaref01_ZigZag.f a0_1).bind fun t184 => ((laminaref01_Encode.f k t184).bind fun t185 => ((laminaref01_Concat.f k (([y181, t185] : List (List Int)))).bind fun t191 => (some t191)))) = some r := by first | (rw [hy181]; with_reducible exact H) | (have H2_ := (Option.bind_some _ _).symm.trans H; rw [hy181]; with_reducible exact H2_) | (have H2_ := (Option.bind_some _ _).symm.trans H; with_reducible exact H2_) | with_reducible exact H | (rw [hy181]; exact H) | exact H
   have Ny181 := Aside0.mk hy181
   clear hy181
   replace H := Option.bind_eq_some_iff.mp H
   obtain ⟨t184, A80, H⟩ := H
   replace H : ((laminaref01_Encode.f k t184).bind fun t185 => ((laminaref01_Concat.f k (([y181, t185] : List (List Int)))).bind fun t191 => (some t191))) = some r := H
   have A8 := Aside0.mk A80
   clear A80
   replace H := Option.bind_eq_some_iff.mp H
   obtain ⟨t185, A90, H⟩ := H
   replace H : ((laminaref01_Concat.f k (([y181, t185] : List (List Int)))).bind fun t191 => (some t191)) = some r := H
   have A9 := Aside0.mk A90
   clear A90
   obtain ⟨y188, hy188⟩ : ∃ y_ : List (List Int), y_ = (([y181, t185] : List (List Int))) := ⟨_, rfl⟩
   replace H : ((laminaref01_Concat.f k y188).bind fun t191 => (some t191)) = some r := by first | (rw [hy188]; with_reducible exact H) | (have H2_ := (Option.bind_some _ _).symm.trans H; rw [hy188]; with_reducible exact H2_) | (have H2_ := (Option.bind_some _ _).symm.trans H; with_reducible exact H2_) | with_reducible exact H | (rw [hy188]; exact H) | exact H
   have Ny188 := Aside0.mk hy188
   clear hy188
   replace H := Option.bind_eq_some_iff.mp H
   obtain ⟨t191, A100, H⟩ := H
   replace H : (some t191) = some r := H
   have A10 := Aside0.mk A100
   clear A100
   obtain rfl := Option.some.inj H
   go_enter Try.func45, Try.ntmps45
   go_wp2_with (first | ((with_reducible refine gate_dst (N := 1) rfl ?_); refine box_ 1 (cs := #[.int .i64 a0_0, .int .i64 a0_1, .string a0_2]) (t := 39) ?_; intro gb177 hg w11 hbox hb; have BK177 := Aside0.mk (hbox); have GW177 := Aside0.mk ((by rw [hg]; exact (below_size (hb_ HB.out)) : w.heap.size ≤ gb177)); have GE177 := Aside0.mk ((by rw [hg]; exact (below_size (hb_ HB.out)) : w.heap.size ≤ gb177)); replace HB := Aside0.mk (below_step (hb_ HB.out) hb); clear hb hbox hg; obtain ⟨hcz12_0, hcz12_1, hcz12_2, hfz12_0, hfz12_1, hfz12_2⟩ := bf3 BK177.out) | ((with_reducible refine gate_dst (N := 13) rfl ?_); refine Kd.R_lit (Kd.int .u8) _ 5 ?hg (N := 13) ?hd (xs := ([2] : List Int)) (inner := [.int .u8 2]) (ok := fun _ => True) (okp := fun _ => True) ?hr ?hp (fun _ hk => hk) trivial (Below.refl _ _) (Nat.le_refl _) (by simp) ?_; (case hd => rfl); (case hg => rfl); (case hr => first | (go_simp; done) | (go_simp; rfl)); (case hp => exact (Reps.one (show Kd.M (Kd.int .u8) _ _ _ 2 [.int .u8 2] from rfl) (Reps.none _ _))); intro v182 w13 ho14 hb hg_ hnew_; clear hg_ hnew_; (first | rw [← Ny181.out] at ho14 | (simp only [Int.reduceToNat] at ho14; rw [← Ny181.out] at ho14)); have HO183 := Aside0.mk (Kd.R_lower ho14 (below_size (hb1_ HB.out GE177.out))); replace BK177 := Aside0.mk (blk_below (bk_ BK177.out) hb); replace HB := Aside0.mk (below_step (hb1_ HB.out GE177.out) hb); clear hb ho14; obtain ⟨hcz15_0, hcz15_1, hcz15_2, hfz15_0, hfz15_1, hfz15_2⟩ := bf3 BK177.out) | ((with_reducible refine gate_callee (f := 92) rfl ?_); refine goesL_ (some 16) rfl rfl Try.func92 (by kernel_rfl) rfl #[.int .i64 a0_1] rfl (by (try simp only [List.map_toArray, List.map_cons, List.map_nil]); first | done | rfl | (simp only [List.length_drop, List.length_take]; rfl) | (simp only [Int.ofNat_lt, Int.ofNat_le, gt_iff_lt, ge_iff_le]; rfl)) ?_; (with_reducible refine (laminaref01_ZigZag.calls a0_1 t184 _ A8.out).mono ?_); rintro e w' ⟨rfl, ⟨nd, rfl⟩⟩; refine ⟨_, rfl, ?_⟩) | ((with_reducible refine gate_callee (f := 44) rfl ?_); refine goesL_ (some 17) rfl rfl Try.func44 (by kernel_rfl) rfl #[.int .u64 t184] rfl (by (try simp only [List.map_toArray, List.map_cons, List.map_nil]); first | done | rfl | (simp only [List.length_drop, List.length_take]; rfl) | (simp only [Int.ofNat_lt, Int.ofNat_le, gt_iff_lt, ge_iff_le]; rfl)) ?_; (with_reducible refine (laminaref01_Encode.calls k t184 t185 _ A9.out).mono ?_); rintro e w16 ⟨v186, rfl, ho0, hb⟩; refine ⟨_, rfl, ?_⟩; have HO187 := Aside0.mk (Kd.R_lower (Kd.R_new' ho0 (Kd.R_lt (ra_ HO183.out))) (below_size (hb1_ HB.out GE177.out))); replace HO183 := Aside0.mk (Kd.R_elder' (ra_ HO183.out) (Kd.R_base ho0) hb); replace BK177 := Aside0.mk (blk_below (bk_ BK177.out) hb); replace HB := Aside0.mk (below_step (hb1_ HB.out GE177.out) hb); (try clear hb); (try clear ho0); obtain ⟨Ao17, co17, eo17⟩ := Kd.R_slice HO183.out; subst eo17; obtain ⟨Ao18, co18, eo18⟩ := Kd.R_slice HO187.out; subst eo18) | ((with_reducible refine gate_dst (N := 18) rfl ?_); refine Kd.N_lit (Kd.slice 5 (Kd.int .u8)) _ 27 ?hg (N' := 18) ?hd (xs := ([y181, t185] : List (List Int))) (inner := [.slice Ao17 y181.length co17, .slice Ao18 t185.length co18]) (ok := (fun k_ => k_ ≠ gb177)) (okp := (fun k_ => k_ ≠ gb177)) ?hr ?hp (fun _ hk => hk) ((show ∀ k_, w16.heap.size ≤ k_ → (fun k_ => k_ ≠ gb177) k_ from fun k_ hk => Kd.freshB (g := gb177) (o := .cells #[.int .i64 a0_0, .int .i64 a0_1, .string a0_2] 39 (0, 0)) (bk_ BK177.out) k_ hk) _ (Nat.le_refl _)) (Below.refl _ _) (Nat.le_refl _) (by simp) ?_; (case hd => rfl); (case hg => rfl); (case hr => first | (go_simp; done) | (go_simp; rfl)); (case hp => exact (Reps.one (show Kd.FK (Kd.slice 5 (Kd.int .u8)) _ _ y181 [.slice Ao17 y181.length co17] from (Kd.FK_slice_mk (Kd.R_reads' (Kd.R_mono (ok' := (fun k_ => k_ ≠ gb177)) (Kd.R_types (HO183.out) BK177.out (by decide)) (fun k_ hk => hk.2))).2.1 (Kd.R_F (Kd.R_mono (ok' := (fun k_ => k_ ≠ gb177)) (Kd.R_types (HO183.out) BK177.out (by decide)) (fun k_ hk => hk.2))))) (Reps.one (show Kd.FK (Kd.slice 5 (Kd.int .u8)) _ _ t185 [.slice Ao18 t185.length co18] from (Kd.FK_slice_mk (Kd.R_reads' (Kd.R_mono (ok' := (fun k_ => k_ ≠ gb177)) (Kd.R_types (HO187.out) BK177.out (by decide)) (fun k_ hk => hk.2))).2.1 (Kd.R_F (Kd.R_mono (ok' := (fun k_ => k_ ≠ gb177)) (Kd.R_types (HO187.out) BK177.out (by decide)) (fun k_ hk => hk.2))))) (Reps.none _ _)))); intro v189 w19 ho20 hb hg_ hnew_; clear hg_ hnew_; (first | rw [← Ny188.out] at ho20 | (simp only [Int.reduceToNat] at ho20; rw [← Ny188.out] at ho20)); have n0_ := Aside0.mk (Kd.N_lower ho20 (below_size (hb1_ HB.out GE177.out))); have n1_ := Aside0.mk (blk_below (bk_ BK177.out) hb); have n2_ := Aside0.mk (below_step (hb1_ HB.out GE177.out) hb); clear BK177; clear HB; clear HO183; clear HO187; have HO190 := n0_; have BK177 := n1_; have HB := n2_; clear n0_ n1_ n2_; clear hb ho20; obtain ⟨Ao21, co21, eo21⟩ := Kd.N_slice HO190.out; subst eo21) | ((with_reducible refine gate_callee (f := 46) rfl ?_); refine goesL_ (some 19) rfl rfl Try.func46 (by kernel_rfl) rfl #[.slice Ao21 y188.length co21] rfl (by (try simp only [List.map_toArray, List.map_cons, List.map_nil]); first | done | rfl | (simp only [List.length_drop, List.length_take]; rfl) | (simp only [Int.ofNat_lt, Int.ofNat_le, gt_iff_lt, ge_iff_le]; rfl)) ?_; (with_reducible refine (laminaref01_Concat.calls k _ _ y188 t191 _ ?side1 ?side2 A10.out).mono ?_); (case side1 => repeat (first | exact (Kd.N_reads' HO190.out).2.2 | (with_reducible refine Kd.C_alloc ?_ _) | (with_reducible refine Kd.C_drewN ?_ _) | (with_reducible refine Kd.C_drew ?_))); (case side2 => exact (Kd.N_reads' HO190.out).2.1); rintro e w22 ⟨v192, rfl, ho0, hb⟩; refine ⟨_, rfl, ?_⟩; have HO193 := Aside0.mk (Kd.R_lower ho0 (below_size (hb1_ HB.out GE177.out))); replace HO190 := Aside0.mk (Kd.N_elder' (by (with_reducible repeat (first | apply Kd.N_alloc | apply Kd.N_drewN | apply Kd.N_drew)); exact HO190.out) (Kd.R_base ho0) hb); replace BK177 := Aside0.mk (blk_below (bk_ BK177.out) hb); replace HB := Aside0.mk (below_step (hb1_ HB.out GE177.out) hb); (try clear hb); (try clear ho0)))
   go_ret
   exact ⟨_, by first | rfl | (simp [errW_none, errW_some] <;> rfl) | (simp [*, errW_none, errW_some] <;> rfl), by (with_reducible repeat (first | apply Kd.R_alloc | apply Kd.R_drewN | apply Kd.R_drew)); exact HO193.out, (hb1_ HB.out GE177.out)⟩
  ·rw [if_neg c7] at H
   have c7b0 : (a0_0 == 2) = false := beq_eq_false_iff_ne.mpr c7
   have c7b1 : (a0_0 != 2) = true := bne_iff_ne.mpr c7
   by_cases c23 : a0_0 = 3
   ·rw [if_pos c23] at H
    have c23b0 : (a0_0 == 3) = true := beq_iff_eq.mpr c23
    have c23b1 : (a0_0 != 3) = false := bne_eq_false_iff_eq.mpr c23
    clear c23
    obtain ⟨y194, hy194⟩ : ∃ y_ : List Int, y_ = (([3] : List Int)) := ⟨_, rfl⟩
    replace H : ((laminaref01_Text.f k a0_2).bind fun t197 => ((laminaref01_Concat.f k (([y194, t197] : List (List Int)))).bind fun t203 => (some t203))) = some r := by first | (rw [hy194]; with_reducible exact H) | (have H2_ := (Option.bind_some _ _).symm.trans H; rw [hy194]; with_reducible exact H2_) | (have H2_ := (Option.bind_some _ _).symm.trans H; with_reducible exact H2_) | with_reducible exact H | (rw [hy194]; exact H) | exact H
    have Ny194 := Aside0.mk hy194
    clear hy194
    replace H := Option.bind_eq_some_iff.mp H
    obtain ⟨t197, A240, H⟩ := H
    replace H : ((laminaref01_Concat.f k (([y194, t197] : List (List Int)))).bind fun t203 => (some t203)) = some r := H
    have A24 := Aside0.mk A240
    clear A240
    obtain ⟨y200, hy200⟩ : ∃ y_ : List (List Int), y_ = (([y194, t197] : List (List Int))) := ⟨_, rfl⟩
    replace H : ((laminaref01_Concat.f k y200).bind fun t203 => (some t203)) = some r := by first | (rw [hy200]; with_reducible exact H) | (have H2_ := (Option.bind_some _ _).symm.trans H; rw [hy200]; with_reducible exact H2_) | (have H2_ := (Option.bind_some _ _).symm.trans H; with_reducible exact H2_) | with_reducible exact H | (rw [hy200]; exact H) | exact H
    have Ny200 := Aside0.mk hy200
    clear hy200
    replace H := Option.bind_eq_some_iff.mp H
    obtain ⟨t203, A250, H⟩ := H
    replace H : (some t203) = some r := H
    have A25 := Aside0.mk A250
    clear A250
    obtain rfl := Option.some.inj H
    go_enter Try.func45, Try.ntmps45
    go_wp2_with (first | ((with_reducible refine gate_dst (N := 1) rfl ?_); refine box_ 1 (cs := #[.int .i64 a0_0, .int .i64 a0_1, .string a0_2]) (t := 39) ?_; intro gb177 hg w26 hbox hb; have BK177 := Aside0.mk (hbox); have GW177 := Aside0.mk ((by rw [hg]; exact (below_size (hb_ HB.out)) : w.heap.size ≤ gb177)); have GE177 := Aside0.mk ((by rw [hg]; exact (below_size (hb_ HB.out)) : w.heap.size ≤ gb177)); replace HB := Aside0.mk (below_step (hb_ HB.out) hb); clear hb hbox hg; obtain ⟨hcz27_0, hcz27_1, hcz27_2, hfz27_0, hfz27_1, hfz27_2⟩ := bf3 BK177.out) | ((with_reducible refine gate_dst (N := 22) rfl ?_); refine Kd.R_lit (Kd.int .u8) _ 5 ?hg (N := 22) ?hd (xs := ([3] : List Int)) (inner := [.int .u8 3]) (ok := fun _ => True) (okp := fun _ => True) ?hr ?hp (fun _ hk => hk) trivial (Below.refl _ _) (Nat.le_refl _) (by simp) ?_; (case hd => rfl); (case hg => rfl); (case hr => first | (go_simp; done) | (go_simp; rfl)); (case hp => exact (Reps.one (show Kd.M (Kd.int .u8) _ _ _ 3 [.int .u8 3] from rfl) (Reps.none _ _))); intro v195 w28 ho29 hb hg_ hnew_; clear hg_ hnew_; (first | rw [← Ny194.out] at ho29 | (simp only [Int.reduceToNat] at ho29; rw [← Ny194.out] at ho29)); have HO196 := Aside0.mk (Kd.R_lower ho29 (below_size (hb1_ HB.out GE177.out))); replace BK177 := Aside0.mk (blk_below (bk_ BK177.out) hb); replace HB := Aside0.mk (below_step (hb1_ HB.out GE177.out) hb); clear hb ho29; obtain ⟨hcz30_0, hcz30_1, hcz30_2, hfz30_0, hfz30_1, hfz30_2⟩ := bf3 BK177.out) | ((with_reducible refine gate_callee (f := 93) rfl ?_); refine goesL_ (some 25) rfl rfl Try.func93 (by kernel_rfl) rfl #[.string a0_2] rfl (by (try simp only [List.map_toArray, List.map_cons, List.map_nil]); first | done | rfl | (simp only [List.length_drop, List.length_take]; rfl) | (simp only [Int.ofNat_lt, Int.ofNat_le, gt_iff_lt, ge_iff_le]; rfl)) ?_; (with_reducible refine (laminaref01_Text.calls k a0_2 t197 _ A24.out).mono ?_); rintro e w31 ⟨v198, rfl, ho0, hb⟩; refine ⟨_, rfl, ?_⟩; have HO199 := Aside0.mk (Kd.R_lower (Kd.R_new' ho0 (Kd.R_lt (ra_ HO196.out))) (below_size (hb1_ HB.out GE177.out))); replace HO196 := Aside0.mk (Kd.R_elder' (ra_ HO196.out) (Kd.R_base ho0) hb); replace BK177 := Aside0.mk (blk_below (bk_ BK177.out) hb); replace HB := Aside0.mk (below_step (hb1_ HB.out GE177.out) hb); (try clear hb); (try clear ho0); obtain ⟨Ao32, co32, eo32⟩ := Kd.R_slice HO196.out; subst eo32; obtain ⟨Ao33, co33, eo33⟩ := Kd.R_slice HO199.out; subst eo33) | ((with_reducible refine gate_dst (N := 26) rfl ?_); refine Kd.N_lit (Kd.slice 5 (Kd.int .u8)) _ 27 ?hg (N' := 26) ?hd (xs := ([y194, t197] : List (List Int))) (inner := [.slice Ao32 y194.length co32, .slice Ao33 t197.length co33]) (ok := (fun k_ => k_ ≠ gb177)) (okp := (fun k_ => k_ ≠ gb177)) ?hr ?hp (fun _ hk => hk) ((show ∀ k_, w31.heap.size ≤ k_ → (fun k_ => k_ ≠ gb177) k_ from fun k_ hk => Kd.freshB (g := gb177) (o := .cells #[.int .i64 a0_0, .int .i64 a0_1, .string a0_2] 39 (0, 0)) (bk_ BK177.out) k_ hk) _ (Nat.le_refl _)) (Below.refl _ _) (Nat.le_refl _) (by simp) ?_; (case hd => rfl); (case hg => rfl); (case hr => first | (go_simp; done) | (go_simp; rfl)); (case hp => exact (Reps.one (show Kd.FK (Kd.slice 5 (Kd.int .u8)) _ _ y194 [.slice Ao32 y194.length co32] from (Kd.FK_slice_mk (Kd.R_reads' (Kd.R_mono (ok' := (fun k_ => k_ ≠ gb177)) (Kd.R_types (HO196.out) BK177.out (by decide)) (fun k_ hk => hk.2))).2.1 (Kd.R_F (Kd.R_mono (ok' := (fun k_ => k_ ≠ gb177)) (Kd.R_types (HO196.out) BK177.out (by decide)) (fun k_ hk => hk.2))))) (Reps.one (show Kd.FK (Kd.slice 5 (Kd.int .u8)) _ _ t197 [.slice Ao33 t197.length co33] from (Kd.FK_slice_mk (Kd.R_reads' (Kd.R_mono (ok' := (fun k_ => k_ ≠ gb177)) (Kd.R_types (HO199.out) BK177.out (by decide)) (fun k_ hk => hk.2))).2.1 (Kd.R_F (Kd.R_mono (ok' := (fun k_ => k_ ≠ gb177)) (Kd.R_types (HO199.out) BK177.out (by decide)) (fun k_ hk => hk.2))))) (Reps.none _ _)))); intro v201 w34 ho35 hb hg_ hnew_; clear hg_ hnew_; (first | rw [← Ny200.out] at ho35 | (simp only [Int.reduceToNat] at ho35; rw [← Ny200.out] at ho35)); have n0_ := Aside0.mk (Kd.N_lower ho35 (below_size (hb1_ HB.out GE177.out))); have n1_ := Aside0.mk (blk_below (bk_ BK177.out) hb); have n2_ := Aside0.mk (below_step (hb1_ HB.out GE177.out) hb); clear BK177; clear HB; clear HO196; clear HO199; have HO202 := n0_; have BK177 := n1_; have HB := n2_; clear n0_ n1_ n2_; clear hb ho35; obtain ⟨Ao36, co36, eo36⟩ := Kd.N_slice HO202.out; subst eo36) | ((with_reducible refine gate_callee (f := 46) rfl ?_); refine goesL_ (some 27) rfl rfl Try.func46 (by kernel_rfl) rfl #[.slice Ao36 y200.length co36] rfl (by (try simp only [List.map_toArray, List.map_cons, List.map_nil]); first | done | rfl | (simp only [List.length_drop, List.length_take]; rfl) | (simp only [Int.ofNat_lt, Int.ofNat_le, gt_iff_lt, ge_iff_le]; rfl)) ?_; (with_reducible refine (laminaref01_Concat.calls k _ _ y200 t203 _ ?side1 ?side2 A25.out).mono ?_); (case side1 => repeat (first | exact (Kd.N_reads' HO202.out).2.2 | (with_reducible refine Kd.C_alloc ?_ _) | (with_reducible refine Kd.C_drewN ?_ _) | (with_reducible refine Kd.C_drew ?_))); (case side2 => exact (Kd.N_reads' HO202.out).2.1); rintro e w37 ⟨v204, rfl, ho0, hb⟩; refine ⟨_, rfl, ?_⟩; have HO205 := Aside0.mk (Kd.R_lower ho0 (below_size (hb1_ HB.out GE177.out))); replace HO202 := Aside0.mk (Kd.N_elder' (by (with_reducible repeat (first | apply Kd.N_alloc | apply Kd.N_drewN | apply Kd.N_drew)); exact HO202.out) (Kd.R_base ho0) hb); replace BK177 := Aside0.mk (blk_below (bk_ BK177.out) hb); replace HB := Aside0.mk (below_step (hb1_ HB.out GE177.out) hb); (try clear hb); (try clear ho0)))
    go_ret
    exact ⟨_, by first | rfl | (simp [errW_none, errW_some] <;> rfl) | (simp [*, errW_none, errW_some] <;> rfl), by (with_reducible repeat (first | apply Kd.R_alloc | apply Kd.R_drewN | apply Kd.R_drew)); exact HO205.out, (hb1_ HB.out GE177.out)⟩
   ·rw [if_neg c23] at H
    have c23b0 : (a0_0 == 3) = false := beq_eq_false_iff_ne.mpr c23
    have c23b1 : (a0_0 != 3) = true := bne_iff_ne.mpr c23
    obtain ⟨y206, hy206⟩ : ∃ y_ : List Int, y_ = (([0] : List Int)) := ⟨_, rfl⟩
    replace H : (some y206) = some r := by first | (rw [hy206]; with_reducible exact H) | (have H2_ := (Option.bind_some _ _).symm.trans H; rw [hy206]; with_reducible exact H2_) | (have H2_ := (Option.bind_some _ _).symm.trans H; with_reducible exact H2_) | with_reducible exact H | (rw [hy206]; exact H) | exact H
    have Ny206 := Aside0.mk hy206
    clear hy206
    obtain rfl := Option.some.inj H
    go_enter Try.func45, Try.ntmps45
    go_wp2_with (first | ((with_reducible refine gate_dst (N := 1) rfl ?_); refine box_ 1 (cs := #[.int .i64 a0_0, .int .i64 a0_1, .string a0_2]) (t := 39) ?_; intro gb177 hg w38 hbox hb; have BK177 := Aside0.mk (hbox); have GW177 := Aside0.mk ((by rw [hg]; exact (below_size (hb_ HB.out)) : w.heap.size ≤ gb177)); have GE177 := Aside0.mk ((by rw [hg]; exact (below_size (hb_ HB.out)) : w.heap.size ≤ gb177)); replace HB := Aside0.mk (below_step (hb_ HB.out) hb); clear hb hbox hg; obtain ⟨hcz39_0, hcz39_1, hcz39_2, hfz39_0, hfz39_1, hfz39_2⟩ := bf3 BK177.out) | ((with_reducible refine gate_dst (N := 28) rfl ?_); refine Kd.R_lit (Kd.int .u8) _ 5 ?hg (N := 28) ?hd (xs := ([0] : List Int)) (inner := [.int .u8 0]) (ok := fun _ => True) (okp := fun _ => True) ?hr ?hp (fun _ hk => hk) trivial (Below.refl _ _) (Nat.le_refl _) (by simp) ?_; (case hd => rfl); (case hg => rfl); (case hr => first | (go_simp; done) | (go_simp; rfl)); (case hp => exact (Reps.one (show Kd.M (Kd.int .u8) _ _ _ 0 [.int .u8 0] from rfl) (Reps.none _ _))); intro v207 w40 ho41 hb hg_ hnew_; clear hg_ hnew_; (first | rw [← Ny206.out] at ho41 | (simp only [Int.reduceToNat] at ho41; rw [← Ny206.out] at ho41)); have HO208 := Aside0.mk (Kd.R_lower ho41 (below_size (hb1_ HB.out GE177.out))); replace BK177 := Aside0.mk (blk_below (bk_ BK177.out) hb); replace HB := Aside0.mk (below_step (hb1_ HB.out GE177.out) hb); clear hb ho41))
    go_ret
    exact ⟨_, by first | rfl | (simp [errW_none, errW_some] <;> rfl) | (simp [*, errW_none, errW_some] <;> rfl), by (with_reducible repeat (first | apply Kd.R_alloc | apply Kd.R_drewN | apply Kd.R_drew)); exact HO208.out, (hb1_ HB.out GE177.out)⟩
-- NOT PRINTED: function 14 (laminaref16_Encode)
-- NOT PRINTED: function 16 (laminaref16_Equal)
end Go.Proofs.Ytackcingpffidaa.P
