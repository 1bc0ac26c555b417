/- What Go functions of the given program return, told as Lean functions, and the walks that show it, with plain facts on them: B22, H26, H27, H53, Sh, S18, S19, S20, slices_insertionSortOrdered_uint64, H103, S16, S17, H56. Conditions: the hypotheses that stand at each theorem. -/
import Derived.Sort.Grow
import Derived.Shelf.SlSortCmp.WholeK
import Derived.Shelf.SlicesE.Compact
import Derived.Sort.AssemblyPlain
import Derived.Shelf.SlSortCmp.NoneTotal
import Derived.LoopN
import Derived.Test.YtackcingpffidaaZa0
import Derived.Test.YtackcingpffidaaZa1
import Derived.Test.YtackcingpffidaaZa2
import Derived.Test.YtackcingpffidaaZa3
import Derived.Test.YtackcingpffidaaZa4
namespace Go.Proofs.Ytackcingpffidaa.P
open Go.RowKit Go.Proofs.YtackcingpffidaaW.PrintWords Go.Proofs.YtackcingpffidaaW.PrintLast Go.Proofs.YtackcingpffidaaW.PrintMore
set_option linter.unusedVariables false
theorem sketch_CountEqual.calls (k : Nat) (a0_0 : Int) (a0_1 : Int) (A0_2 : Option Addr) (c0_2 : Nat) (l0_2 : List Int) (a0_3 : Bool) (A0_4 : Option Addr) (c0_4 : Nat) (l0_4 : List Int) (A0_5 : Option Addr) (c0_5 : Nat) (l0_5 : List (S39)) (A0_6 : Option Addr) (c0_6 : Nat) (l0_6 : List Int) (a1_0 : Int) (a1_1 : Int) (a1_2 : ByteArray) (r1 : Int) (r2 : Int) (w : World) (hr0_2 : Kd.C (Kd.int .u64) w A0_2 l0_2.length l0_2) (hc0_2 : l0_2.length ≤ c0_2) (hr0_4 : Kd.C (Kd.int .i64) w A0_4 l0_4.length l0_4) (hc0_4 : l0_4.length ≤ c0_4) (hr0_5 : Kd.C k39 w A0_5 l0_5.length l0_5) (hc0_5 : l0_5.length ≤ c0_5) (hr0_6 : Kd.C (Kd.int .i64) w A0_6 l0_6.length l0_6) (hc0_6 : l0_6.length ≤ c0_6) (h : sketch_CountEqual.f k a0_0 a0_1 l0_2 a0_3 l0_4 l0_5 l0_6 a1_0 a1_1 a1_2 = some (r1, r2)) :
    Calls Try.prog 22 #[.agg #[.int .i64 a0_0, .int .i64 a0_1, .slice A0_2 l0_2.length c0_2, .bool a0_3, .slice A0_4 l0_4.length c0_4, .slice A0_5 l0_5.length c0_5, .slice A0_6 l0_6.length c0_6], .agg #[.int .i64 a1_0, .int .i64 a1_1, .string a1_2]] w fun e w' => e = .returned (.agg #[.int .i64 r1, .int .i64 r2]) ∧ Below w.heap.size w w' :=
  f22_calls k a0_0 a0_1 A0_2 c0_2 l0_2 a0_3 A0_4 c0_4 l0_4 A0_5 c0_5 l0_5 A0_6 c0_6 l0_6 ⟨a1_0, a1_1, a1_2⟩ r1 r2 w hr0_2 hc0_2 hr0_4 hc0_4 hr0_5 hc0_5 hr0_6 hc0_6 h
end Go.Proofs.Ytackcingpffidaa.P
namespace Go.Proofs.Ytackcingpffidaa.P
open Go.RowKit Go.Proofs.YtackcingpffidaaW.PrintWords Go.Proofs.YtackcingpffidaaW.PrintLast Go.Proofs.YtackcingpffidaaW.PrintMore
set_option linter.unusedVariables false
set_option linter.unusedSimpArgs false
set_option maxHeartbeats 800000 in
set_option maxRecDepth 100000 in
theorem f79_calls (n b0 b1 : Int) (g : Nat) (w : World) (hc : w.cell? ⟨g, 0, none⟩ = some (.int .i64 n)) :
    Calls Try.prog 79 #[.agg #[.int .i64 b0, .int .i64 b1], .pointer (some ⟨g, 0, none⟩)] w fun e w' => e = .returned (.agg #[.int .i64 (wrap64 (n - b1)), .int .i64 (wrap64 (n - b0))]) ∧ Below w.heap.size w w' := by
  have HC := Aside0.mk hc
  clear hc
  go_enter Try.func79, Try.ntmps79
  go_upto_region 1 with (refine box_ 2 (cs := #[.int .i64 b0, .int .i64 b1]) (t := 44) (fun g2 hg_ w1 BK2 HB => ?_); clear hg_)
  replace BK2 := blk_alloc BK2 (.cells #[.int .i64 0, .int .i64 0] 44)
  have BK4 := heap_alloc_new w1 (.cells #[.int .i64 0, .int .i64 0] 44)
  have HBV := Aside0.mk (below_alloc HB (.cells #[.int .i64 0, .int .i64 0] 44))
  have hg4 : w.heap.size ≤ w1.heap.size := below_size HB
  obtain ⟨V, hV⟩ : ∃ V, w1.alloc (.cells #[.int .i64 0, .int .i64 0] 44) = V := ⟨_, rfl⟩
  rw [hV] at BK2 BK4 HBV ⊢
  clear hV HB
  generalize w1.heap.size = g4 at *
  clear w1
  have hc : V.cell? ⟨g, 0, none⟩ = some (.int .i64 n) := (HBV.out.cell (World.block_lt_of_cell? w _ HC.out)).trans HC.out
  obtain ⟨t0, t1⟩ := bc2 BK2
  obtain ⟨e0, e1, z0, z1⟩ := bf2 BK4
  go_wp2
  refine ret2_ (p := fun W => bodyPost _ _ _ _ _ W) BK4 HBV.out hg4 (.int .i64 (wrap64 (n - b1))) (.int .i64 (wrap64 (n - b0))) (fun W d0 d1 rB => ?_)
  exact bodyPost_ret (v := .agg #[.int .i64 (wrap64 (n - b1)), .int .i64 (wrap64 (n - b0))]) (by simp [results, Try.results79, go_sem, d0, d1]) rfl ⟨rfl, rB⟩
def f26_T1 : Bool × List (List Nat × List Nat) := (true, [([], []), ([0], [0]), ([], []), ([2], [2]), ([], []), ([], []), ([4, 1, 1, 0, 1, 4, 5], [1, 4]), ([5, 3, 6, 0, 1, 2, 3, 4, 5, 6], [3, 5])])
def f26_B1 : List Nat := [0, 1, 0, 4, 0, 0, 51, 127]
set_option maxRecDepth 100000 in
theorem f26_tab1 : rtab .any (opsOf Try.f26 1) = f26_T1 := by kernel_rfl
theorem f26_bits1 : waitsOk f26_T1.2 f26_B1 = true := by kernel_rfl
def f26_T8 : Bool × List (List Nat × List Nat) := (true, [([], []), ([0], [0]), ([1], [1]), ([2], [2]), ([3, 2], [2, 3]), ([4, 2], [2, 4]), ([2, 5], [2, 5]), ([6, 2], [6]), ([7], [7]), ([8, 7], [7, 8]), ([7], [7]), ([10, 7], [7, 10]), ([11, 7], [7, 11]), ([12, 7], [7, 12]), ([13, 7], [7, 13]), ([9, 14, 7], [7, 9, 14]), ([7, 15], [7, 15])])
def f26_B8 : List Nat := [0, 1, 3, 7, 15, 31, 63, 127, 255, 511, 255, 1279, 3327, 7423, 15615, 32767, 65535]
set_option maxRecDepth 100000 in
theorem f26_tab8 : rtab .any (opsOf Try.f26 8) = f26_T8 := by kernel_rfl
theorem f26_bits8 : waitsOk f26_T8.2 f26_B8 = true := by kernel_rfl
def f26_T10 : Bool × List (List Nat × List Nat) := (true, [([], []), ([], []), ([0, 1], [0, 1]), ([], []), ([], []), ([3, 4, 2], [3, 4]), ([2, 5, 5], [2, 5]), ([], []), ([7, 6, 6, 0, 1, 2, 3, 4, 5, 6, 7], [6, 7])])
def f26_B10 : List Nat := [0, 0, 3, 0, 0, 31, 63, 0, 255]
set_option maxRecDepth 100000 in
theorem f26_tab10 : rtab .any (opsOf Try.f26 10) = f26_T10 := by kernel_rfl
theorem f26_bits10 : waitsOk f26_T10.2 f26_B10 = true := by kernel_rfl
def f26_T11 : Bool × List (List Nat × List Nat) := (true, [([], []), ([], []), ([0, 1], [0, 1]), ([], []), ([], []), ([3, 4, 2], [3, 4]), ([2, 5, 5], [2, 5]), ([], []), ([7, 6, 6, 0, 1, 2, 3, 4, 5, 6, 7], [6, 7])])
def f26_B11 : List Nat := [0, 0, 3, 0, 0, 31, 63, 0, 255]
set_option maxRecDepth 100000 in
theorem f26_tab11 : rtab .any (opsOf Try.f26 11) = f26_T11 := by kernel_rfl
theorem f26_bits11 : waitsOk f26_T11.2 f26_B11 = true := by kernel_rfl
set_option maxHeartbeats 8000000 in
set_option maxRecDepth 100000 in
theorem f26_calls (k : Nat) (a0 a1 : Int) (A2 : Option Addr) (c2 : Nat) (l2 : List Int) (b3 : Bool) (A4 : Option Addr) (c4 : Nat) (l4 : List Int) (A5 : Option Addr) (c5 : Nat) (l5 : List S39) (A6 : Option Addr) (c6 : Nat) (l6 : List Int) (p0 op : Int) (v : S39) (r1 r2 : Int) (w : World) (hr2 : Kd.C (Kd.int .u64) w A2 l2.length l2) (hc2 : l2.length ≤ c2) (hr4 : Kd.C (Kd.int .i64) w A4 l4.length l4) (hc4 : l4.length ≤ c4) (hr5 : Kd.C k39 w A5 l5.length l5) (hc5 : l5.length ≤ c5) (hr6 : Kd.C (Kd.int .i64) w A6 l6.length l6) (hc6 : l6.length ≤ c6) (h : sketch_CountMatching.f k a0 a1 l2 b3 l4 l5 l6 p0 op v.f0 v.f1 v.f2 = some (r1, r2)) :
    Calls Try.prog 26 #[.agg #[.int .i64 a0, .int .i64 a1, .slice A2 l2.length c2, .bool b3, .slice A4 l4.length c4, .slice A5 l5.length c5, .slice A6 l6.length c6], .agg #[.int .i64 p0, .int .i64 op, .int .i64 v.f0, .int .i64 v.f1, .string v.f2]] w fun e w' => e = .returned (.agg #[.int .i64 r1, .int .i64 r2]) ∧ Below w.heap.size w w' := by
  unfold sketch_CountMatching.f at h
  obtain ⟨n, hn⟩ : ∃ n, wrap64 (a0 - a1) = n := ⟨_, rfl⟩
  rw [hn] at h
  have HN : Aside0 (sketch_count.f a0 a1 l2 b3 l4 l5 l6 = some n) := ⟨by unfold sketch_count.f; rw [hn]⟩
  have HH := Aside0.mk h
  have hl5 : l5.length ≤ 9223372036854775807 := hr5.2.1
  clear h hn
  have HK0 : SK w A2 c2 l2 A4 c4 l4 A5 c5 l5 A6 c6 l6 := ⟨hr2, hc2, hr4, hc4, hr5, hc5, hr6, hc6⟩
  have HR5 := Aside0.mk hr5
  have HR6 := Aside0.mk hr6
  have HR4 := Aside0.mk hr4
  have HKw := Aside0.mk HK0
  clear HK0 hr2 hr4 hr5 hr6
  go_enter Try.func26, Try.ntmps26
  go_upto_region 1 with (first | (refine box_ 2 (cs := #[.int .i64 a0, .int .i64 a1, .slice A2 l2.length c2, .bool b3, .slice A4 l4.length c4, .slice A5 l5.length c5, .slice A6 l6.length c6]) (t := 26) (fun g2 hg_ w1 BK2 HB => ?_); clear hg_; replace BK2 := Aside0.mk BK2; replace HB := Aside0.mk HB) | (refine box_ 3 (cs := #[.int .i64 p0, .int .i64 op, .int .i64 v.f0, .int .i64 v.f1, .string v.f2]) (t := 41) (fun g3 hg_ w2 BK3 hb => ?_); clear hg_; replace BK2 := Aside0.mk (blk_below BK2.out hb); replace BK3 := Aside0.mk BK3; replace HB := Aside0.mk (HB.out.trans (hb.mono (below_size HB.out))); clear hb))
  replace BK2 := Aside0.mk (blk_alloc BK2.out (.cells #[.int .i64 0, .int .i64 0] 44))
  replace BK3 := Aside0.mk (blk_alloc BK3.out (.cells #[.int .i64 0, .int .i64 0] 44))
  have BK4 := Aside0.mk (heap_alloc_new w2 (.cells #[.int .i64 0, .int .i64 0] 44))
  have HBV := Aside0.mk (below_alloc HB.out (.cells #[.int .i64 0, .int .i64 0] 44))
  have hg4 : w.heap.size ≤ w2.heap.size := below_size HB.out
  obtain ⟨V, hV⟩ : ∃ V, w2.alloc (.cells #[.int .i64 0, .int .i64 0] 44) = V := ⟨_, rfl⟩
  rw [hV] at BK2 BK3 BK4 HBV ⊢
  clear hV HB
  generalize w2.heap.size = g4 at *
  clear w2
  have HS : Aside0 (∀ W, Below V.heap.size V W → sk7 g2 a0 a1 A2 c2 l2 b3 A4 c4 l4 A5 c5 l5 A6 c6 l6 W (p5 g3 p0 op v W (True))) := ⟨fun W hb => sk7_of (blk_below BK2.out hb) (p5_of (blk_below BK3.out hb) trivial)⟩
  have HK : Aside0 (∀ W, Below V.heap.size V W → SK W A2 c2 l2 A4 c4 l4 A5 c5 l5 A6 c6 l6) := ⟨fun W hb => HKw.out.below (HBV.out.trans (hb.mono (below_size HBV.out)))⟩
  clear BK2 BK3 HKw
  have HY := Aside0.mk (below_drew1 (Below.refl V.heap.size V))
  refine start_ (n := 8) (S := fun W => sk7 g2 a0 a1 A2 c2 l2 b3 A4 c4 l4 A5 c5 l5 A6 c6 l6 W (p5 g3 p0 op v W (True))) (ds := []) #[false, false, false, false, false, false, false, false] (by kernel_rfl) rfl rfl (HS.out _ HY.out) (fun hHeld => ?_)
  refine with_tabW f26_tab1 f26_bits1 (fun HT_ HW_ => ?_)
  generalize V.drew = wd at HY hHeld ⊢
  refine tk_ HT_ HW_ 0 (some 10) hHeld ?_
  refine pu_ HT_ 2 (some 12) ?_
  refine tk_ HT_ HW_ 3 (some 13) hHeld ?_
  refine join_ (σ := Nat × Nat) 2 #[true, true, true, true, true, true, false, false] (fun s_ => [(11, .int .i64 n), (5, .pointer (some ⟨s_.1, 0, none⟩)), (6, .pointer (some ⟨s_.2, 0, none⟩))]) (fun s_ W => sk7 g2 a0 a1 A2 c2 l2 b3 A4 c4 l4 A5 c5 l5 A6 c6 l6 W (p5 g3 p0 op v W (True)) ∧ W.heap[s_.1]? = some (.cells #[.int .i64 0] 3 (0, 0)) ∧ W.heap[s_.2]? = some (.cells #[.int .i64 0, .int .i64 0, .string ⟨#[]⟩] 39 (0, 0)) ∧ V.heap.size ≤ s_.1 ∧ V.heap.size ≤ s_.2 ∧ s_.1 ≠ s_.2 ∧ Below V.heap.size V W) ?_ ?_
  rotate_left
  · intro hCont
    refine th_ HT_ 1 4 5 (some 11) (some 5) (some 6) (fun K hK => ?_) (fun K hK => ?_) (fun K hK => ?_)
    · refine ck_ hK Try.func66 (un8 (sketch_count.calls a0 a1 _ _ _ _ _ _ _ _ _ _ _ _ _ n _) (HK.out _ HY.out) HN.out) HY HS (fun w9 HY hb hHeld => ?_)
      clear hb
      refine tw_ HT_ 4 5 (some 5) (some 6) (fun K hK => ?_) (fun K hK => ?_)
      · refine ak_ hK 5 #[.int .i64 0] 3 HY HS (fun g5 w9 hgx hg5 BA HY hb hHeld => ?_)
        clear hgx hb
        refine al_ HT_ 5 6 #[.int .i64 0, .int .i64 0, .string ⟨#[]⟩] 39 HY HS (fun g6 w9 hgx hg6 BB HY hb hHeld => ?_)
        have HNE : Aside0 (g5 ≠ g6) := ⟨by rw [hgx]; exact Nat.ne_of_lt (blk_lt BA.out)⟩
        replace BA := Aside0.mk (blk_below BA.out hb)
        clear hgx hb
        exact pl_ (hCont (g5, g6) _ ⟨hHeld, BA.out, BB.out, hg5.out, hg6.out, HNE.out, HY.out⟩)
      · refine ak_ hK 6 #[.int .i64 0, .int .i64 0, .string ⟨#[]⟩] 39 HY HS (fun g6 w9 hgx hg6 BB HY hb hHeld => ?_)
        clear hgx hb
        refine al_ HT_ 4 5 #[.int .i64 0] 3 HY HS (fun g5 w9 hgx hg5 BA HY hb hHeld => ?_)
        have HNE : Aside0 (g5 ≠ g6) := ⟨by rw [hgx]; exact Nat.ne_of_gt (blk_lt BB.out)⟩
        replace BB := Aside0.mk (blk_below BB.out hb)
        clear hgx hb
        exact pl_ (hCont (g5, g6) _ ⟨hHeld, BA.out, BB.out, hg5.out, hg6.out, HNE.out, HY.out⟩)
    · refine ak_ hK 5 #[.int .i64 0] 3 HY HS (fun g5 w9 hgx hg5 BA HY hb hHeld => ?_)
      clear hgx hb
      refine tw_ HT_ 1 5 (some 11) (some 6) (fun K hK => ?_) (fun K hK => ?_)
      · refine ck_ hK Try.func66 (un8 (sketch_count.calls a0 a1 _ _ _ _ _ _ _ _ _ _ _ _ _ n _) (HK.out _ HY.out) HN.out) HY HS (fun w9 HY hb hHeld => ?_)
        replace BA := Aside0.mk (blk_below BA.out hb)
        clear hb
        refine al_ HT_ 5 6 #[.int .i64 0, .int .i64 0, .string ⟨#[]⟩] 39 HY HS (fun g6 w9 hgx hg6 BB HY hb hHeld => ?_)
        have HNE : Aside0 (g5 ≠ g6) := ⟨by rw [hgx]; exact Nat.ne_of_lt (blk_lt BA.out)⟩
        replace BA := Aside0.mk (blk_below BA.out hb)
        clear hgx hb
        exact pl_ (hCont (g5, g6) _ ⟨hHeld, BA.out, BB.out, hg5.out, hg6.out, HNE.out, HY.out⟩)
      · refine ak_ hK 6 #[.int .i64 0, .int .i64 0, .string ⟨#[]⟩] 39 HY HS (fun g6 w9 hgx hg6 BB HY hb hHeld => ?_)
        have HNE : Aside0 (g5 ≠ g6) := ⟨by rw [hgx]; exact Nat.ne_of_lt (blk_lt BA.out)⟩
        replace BA := Aside0.mk (blk_below BA.out hb)
        clear hgx hb
        refine on_ HT_ 1 (some 11) (fun K hK => ?_)
        refine ck_ hK Try.func66 (un8 (sketch_count.calls a0 a1 _ _ _ _ _ _ _ _ _ _ _ _ _ n _) (HK.out _ HY.out) HN.out) HY HS (fun w9 HY hb hHeld => ?_)
        replace BA := Aside0.mk (blk_below BA.out hb)
        replace BB := Aside0.mk (blk_below BB.out hb)
        clear hb
        exact pl_ (hCont (g5, g6) _ ⟨hHeld, BA.out, BB.out, hg5.out, hg6.out, HNE.out, HY.out⟩)
    · refine ak_ hK 6 #[.int .i64 0, .int .i64 0, .string ⟨#[]⟩] 39 HY HS (fun g6 w9 hgx hg6 BB HY hb hHeld => ?_)
      clear hgx hb
      refine tw_ HT_ 1 4 (some 11) (some 5) (fun K hK => ?_) (fun K hK => ?_)
      · refine ck_ hK Try.func66 (un8 (sketch_count.calls a0 a1 _ _ _ _ _ _ _ _ _ _ _ _ _ n _) (HK.out _ HY.out) HN.out) HY HS (fun w9 HY hb hHeld => ?_)
        replace BB := Aside0.mk (blk_below BB.out hb)
        clear hb
        refine al_ HT_ 4 5 #[.int .i64 0] 3 HY HS (fun g5 w9 hgx hg5 BA HY hb hHeld => ?_)
        have HNE : Aside0 (g5 ≠ g6) := ⟨by rw [hgx]; exact Nat.ne_of_gt (blk_lt BB.out)⟩
        replace BB := Aside0.mk (blk_below BB.out hb)
        clear hgx hb
        exact pl_ (hCont (g5, g6) _ ⟨hHeld, BA.out, BB.out, hg5.out, hg6.out, HNE.out, HY.out⟩)
      · refine ak_ hK 5 #[.int .i64 0] 3 HY HS (fun g5 w9 hgx hg5 BA HY hb hHeld => ?_)
        have HNE : Aside0 (g5 ≠ g6) := ⟨by rw [hgx]; exact Nat.ne_of_gt (blk_lt BB.out)⟩
        replace BB := Aside0.mk (blk_below BB.out hb)
        clear hgx hb
        refine on_ HT_ 1 (some 11) (fun K hK => ?_)
        refine ck_ hK Try.func66 (un8 (sketch_count.calls a0 a1 _ _ _ _ _ _ _ _ _ _ _ _ _ n _) (HK.out _ HY.out) HN.out) HY HS (fun w9 HY hb hHeld => ?_)
        replace BB := Aside0.mk (blk_below BB.out hb)
        replace BA := Aside0.mk (blk_below BA.out hb)
        clear hb
        exact pl_ (hCont (g5, g6) _ ⟨hHeld, BA.out, BB.out, hg5.out, hg6.out, HNE.out, HY.out⟩)
  rintro ⟨g5, g6⟩ w3 ⟨hHeld, BA, BB, hg5, hg6, HNE, hy⟩
  dsimp only at BA BB hg5 hg6 HNE
  clear HY
  replace BA := Aside0.mk BA
  replace BB := Aside0.mk BB
  replace HNE := Aside0.mk HNE
  have HY := Aside0.mk hy
  clear hy
  refine pr_ ?_
  have e0 : w3.cell? ⟨g5, 0, none⟩ = some (.int .i64 0) := bc1 BA.out
  have z0 := blk_frozen BA.out 0
  replace BB := Aside0.mk (blk_far BB.out (p := ⟨g5, 0, none⟩) (Ne.symm HNE.out) (.int .i64 n))
  replace BA := Aside0.mk (blk_put (cs' := #[.int .i64 n]) BA.out 0 (.int .i64 n) rfl)
  replace HY := Aside0.mk (HY.out.setCell (p := ⟨g5, 0, none⟩) hg5 (.int .i64 n))
  refine st_ HT_ 6 (w3.setCell ⟨g5, 0, none⟩ (.int .i64 n)) ?_ (HS.out _ HY.out) (fun hHeld => ?_)
  · go_simp
  clear e0 z0
  generalize w3.setCell ⟨g5, 0, none⟩ (.int .i64 n) = w4 at BA BB HY hHeld ⊢
  obtain ⟨e0, e1, e2, z0, z1, z2⟩ := bf3 BB.out
  replace BA : Aside0 ((put3 w4 g6 (.int .i64 v.f0) (.int .i64 v.f1) (.string v.f2)).heap[g5]? = some (.cells #[.int .i64 n] 3 (0, 0))) := ⟨blk_far (blk_far (blk_far BA.out (p := ⟨g6, 0, none⟩) HNE.out (.int .i64 v.f0)) (p := ⟨g6, 1, none⟩) HNE.out (.int .i64 v.f1)) (p := ⟨g6, 2, none⟩) HNE.out (.string v.f2)⟩
  replace BB := Aside0.mk (put3_blk BB.out (.int .i64 v.f0) (.int .i64 v.f1) (.string v.f2))
  replace HY := Aside0.mk (put3_below HY.out hg6 (.int .i64 v.f0) (.int .i64 v.f1) (.string v.f2))
  refine st_ HT_ 7 (put3 w4 g6 (.int .i64 v.f0) (.int .i64 v.f1) (.string v.f2)) ?_ (HS.out _ HY.out) (fun hHeld => ?_)
  · unfold put3
    go_simp
  clear e0 e1 e2 z0 z1 z2
  generalize put3 w4 g6 (.int .i64 v.f0) (.int .i64 v.f1) (.string v.f2) = U at BA BB HY hHeld ⊢
  refine done_ (done_of HT_.out (by kernel_rfl)) ?_
  clear HT_ HW_ hHeld
  have HSU : Aside0 (∀ W, Below U.heap.size U W → sk7 g2 a0 a1 A2 c2 l2 b3 A4 c4 l4 A5 c5 l5 A6 c6 l6 W (p5 g3 p0 op v W (v3 g6 v W (W.cell? ⟨g5, 0, none⟩ = some (.int .i64 n) ∧ True)))) := ⟨fun W hb => by
    obtain ⟨t0, t1, t2, t3, t4, t5, t6, t7, t8, t9, t10, t11, _⟩ := HS.out W (HY.out.trans (hb.mono (below_size HY.out)))
    exact ⟨t0, t1, t2, t3, t4, t5, t6, t7, t8, t9, t10, t11, v3_of (blk_below BB.out hb) ⟨bc1 (blk_below BA.out hb), trivial⟩⟩⟩
  have HKU : Aside0 (∀ W, Below U.heap.size U W → SK W A2 c2 l2 A4 c4 l4 A5 c5 l5 A6 c6 l6) := ⟨fun W hb => HK.out W (HY.out.trans (hb.mono (below_size HY.out)))⟩
  have HBU := Aside0.mk (HBV.out.trans (HY.out.mono (below_size HBV.out)))
  have BKU := Aside0.mk (blk_below BK4.out HY.out)
  clear HS HK HBV BK4 BA BB HY hg5 hg6 HNE
  have HY := Aside0.mk (Below.refl U.heap.size U)
  obtain ⟨t0, t1, t2, t3, t4, t5, t6, t7, t8, t9, t10, t11, t12, t13, t14, t15, _⟩ := HSU.out U HY.out
  by_cases h20 : op = 20
  · subst h20
    have hz : (a1, a1) = (r1, r2) := Option.some.inj (by have h_ := HH.out; rwa [if_pos rfl] at h_)
    obtain ⟨rfl, rfl⟩ := Prod.mk.inj hz
    clear HH hz
    go_wp2_with (go_at_call 73; refine (sketch_span.calls a1 a1 a1 a1 _ rfl).mono ?_; rintro e w9 ⟨rfl, hb⟩; replace HY := Aside0.mk (HY.out.trans (hb.mono HY.out.size)); clear hb; have B4 := blk_below BKU.out HY.out; obtain ⟨e0, e1, z0, z1⟩ := bf2 B4)
    refine ret2_ (p := fun W => bodyPost _ _ _ _ _ W) B4 (HBU.out.trans (HY.out.mono (below_size HBU.out))) hg4 (.int .i64 a1) (.int .i64 a1) (fun W d0 d1 rB => ?_)
    exact bodyPost_ret (v := .agg #[.int .i64 a1, .int .i64 a1]) (by simp [results, Try.results26, go_sem, d0, d1]) rfl ⟨rfl, rB⟩
  have HH2 := HH.out
  rw [if_neg h20] at HH2
  by_cases h21 : op = 21
  · subst h21
    have hz : (n, n) = (r1, r2) := Option.some.inj (by rwa [if_pos rfl] at HH2)
    obtain ⟨e1_, e2_⟩ := Prod.mk.inj hz
    clear HH HH2 hz h20
    subst e1_
    subst e2_
    go_wp2_with (go_at_call 73; refine (sketch_span.calls n n n n _ rfl).mono ?_; rintro e w9 ⟨rfl, hb⟩; replace HY := Aside0.mk (HY.out.trans (hb.mono HY.out.size)); clear hb; have B4 := blk_below BKU.out HY.out; obtain ⟨e0, e1, z0, z1⟩ := bf2 B4)
    refine ret2_ (p := fun W => bodyPost _ _ _ _ _ W) B4 (HBU.out.trans (HY.out.mono (below_size HBU.out))) hg4 (.int .i64 n) (.int .i64 n) (fun W d0 d1 rB => ?_)
    exact bodyPost_ret (v := .agg #[.int .i64 n, .int .i64 n]) (by simp [results, Try.results26, go_sem, d0, d1]) rfl ⟨rfl, rB⟩
  rw [if_neg h21] at HH2
  have HH3 := Aside0.mk HH2
  have hb20 : (op == 20) = false := by simp [h20]
  have hb21 : (op == 21) = false := by simp [h21]
  clear HH HH2 h20 h21
  go_upto_region 8 with (fail)
  clear HY hb20 hb21
  have HY := Aside0.mk (below_drew1 (Below.refl U.heap.size U))
  clear t0 t1 t2 t3 t4 t5 t6 t7 t8 t9 t10 t11 t12 t13 t14 t15
  by_cases hn0 : n = 0
  · have hbn : (n == 0) = true := by simp [hn0]
    have hz : (0, 0) = (r1, r2) := Option.some.inj (by have h_ := HH3.out; rwa [if_pos hn0] at h_)
    obtain ⟨rfl, rfl⟩ := Prod.mk.inj hz
    clear HH3 hz hn0
    refine start_ (n := 17) (S := fun W => sk7 g2 a0 a1 A2 c2 l2 b3 A4 c4 l4 A5 c5 l5 A6 c6 l6 W (p5 g3 p0 op v W (v3 g6 v W (W.cell? ⟨g5, 0, none⟩ = some (.int .i64 n) ∧ True)))) (ds := []) #[false, false, false, false, false, false, false, false, false, false, false, false, false, false, false, false, false] (by kernel_rfl) rfl rfl (HSU.out _ HY.out) (fun hHeld => ?_)
    refine with_tabW f26_tab8 f26_bits8 (fun HT_ HW_ => ?_)
    generalize U.drew = wd at HY hHeld ⊢
    refine tk_ HT_ HW_ 0 (some 29) hHeld ?_
    refine pu_ HT_ 1 (some 30) ?_
    refine pu_ HT_ 2 (some 31) ?_
    refine sk_ HT_ 3 (some 32) ?_
    refine sk_ HT_ 4 (some 33) ?_
    refine sk_ HT_ 5 (some 34) ?_
    refine pu_ HT_ 6 (some 35) ?_
    refine pu_ HT_ 7 (some 36) ?_
    refine sk_ HT_ 8 (some 37) ?_
    refine sk_ HT_ 9 (some 38) ?_
    refine sk_ HT_ 10 (some 39) ?_
    refine sk_ HT_ 11 (some 40) ?_
    refine sk_ HT_ 12 (some 41) ?_
    refine sk_ HT_ 13 (some 42) ?_
    refine sk_ HT_ 14 (some 43) ?_
    refine sk_ HT_ 15 (some 44) ?_
    refine pu_ HT_ 16 (some 45) ?_
    refine done_ (done_of HT_.out (by kernel_rfl)) ?_
    clear HT_ HW_ hHeld
    have B4 := blk_below BKU.out HY.out
    obtain ⟨e0, e1, z0, z1⟩ := bf2 B4
    go_wp2
    refine ret2_ (p := fun W => bodyPost _ _ _ _ _ W) B4 (HBU.out.trans (HY.out.mono (below_size HBU.out))) hg4 (.int .i64 0) (.int .i64 0) (fun W d0 d1 rB => ?_)
    exact bodyPost_ret (v := .agg #[.int .i64 0, .int .i64 0]) (by simp [results, Try.results26, go_sem, d0, d1]) rfl ⟨rfl, rB⟩
  have hbn : (n == 0) = false := by simp [hn0]
  have HH4 := HH3.out
  rw [if_neg hn0] at HH4
  clear hn0 HH3
  by_cases hv0 : v.f0 = 0
  · have hbv : (v.f0 == 0) = true := by simp [hv0]
    have hz : (0, 0) = (r1, r2) := Option.some.inj (by rwa [if_pos hv0] at HH4)
    obtain ⟨rfl, rfl⟩ := Prod.mk.inj hz
    clear HH4 hz hv0
    refine start_ (n := 17) (S := fun W => sk7 g2 a0 a1 A2 c2 l2 b3 A4 c4 l4 A5 c5 l5 A6 c6 l6 W (p5 g3 p0 op v W (v3 g6 v W (W.cell? ⟨g5, 0, none⟩ = some (.int .i64 n) ∧ True)))) (ds := []) #[false, false, false, false, false, false, false, false, false, false, false, false, false, false, false, false, false] (by kernel_rfl) rfl rfl (HSU.out _ HY.out) (fun hHeld => ?_)
    refine with_tabW f26_tab8 f26_bits8 (fun HT_ HW_ => ?_)
    generalize U.drew = wd at HY hHeld ⊢
    refine tk_ HT_ HW_ 0 (some 29) hHeld ?_
    refine pu_ HT_ 1 (some 30) ?_
    refine pu_ HT_ 2 (some 31) ?_
    refine pu_ HT_ 3 (some 32) ?_
    refine tk_ HT_ HW_ 4 (some 33) hHeld ?_
    refine pu_ HT_ 5 (some 34) ?_
    refine pu_ HT_ 6 (some 35) ?_
    refine pu_ HT_ 7 (some 36) ?_
    refine sk_ HT_ 8 (some 37) ?_
    refine sk_ HT_ 9 (some 38) ?_
    refine sk_ HT_ 10 (some 39) ?_
    refine sk_ HT_ 11 (some 40) ?_
    refine sk_ HT_ 12 (some 41) ?_
    refine sk_ HT_ 13 (some 42) ?_
    refine sk_ HT_ 14 (some 43) ?_
    refine sk_ HT_ 15 (some 44) ?_
    refine pu_ HT_ 16 (some 45) ?_
    refine done_ (done_of HT_.out (by kernel_rfl)) ?_
    clear HT_ HW_ hHeld
    have B4 := blk_below BKU.out HY.out
    obtain ⟨e0, e1, z0, z1⟩ := bf2 B4
    go_wp2
    refine ret2_ (p := fun W => bodyPost _ _ _ _ _ W) B4 (HBU.out.trans (HY.out.mono (below_size HBU.out))) hg4 (.int .i64 0) (.int .i64 0) (fun W d0 d1 rB => ?_)
    exact bodyPost_ret (v := .agg #[.int .i64 0, .int .i64 0]) (by simp [results, Try.results26, go_sem, d0, d1]) rfl ⟨rfl, rB⟩
  have hbv : (v.f0 == 0) = false := by simp [hv0]
  rw [if_neg hv0] at HH4
  clear hv0
  by_cases hl0 : l5.length = 0
  · rw [if_pos hl0] at HH4
    exact absurd HH4 (by simp)
  rw [if_neg hl0] at HH4
  obtain ⟨ad, rfl, hx0, hx1, hx2⟩ := at_T39 HR5.out 0 (by omega) (by omega)
  clear hx1 hx2
  obtain ⟨x, hxx⟩ : ∃ x, rd_T39 l5 0 = x := ⟨_, rfl⟩
  rw [hxx] at hx0 HH4
  have HSX : Aside0 (∀ W, Below U.heap.size U W → sk7 g2 a0 a1 A2 c2 l2 b3 A4 c4 l4 (some ad) c5 l5 A6 c6 l6 W (p5 g3 p0 op v W (v3 g6 v W (W.cell? ⟨g5, 0, none⟩ = some (.int .i64 n) ∧ W.cell? ad = some (.int .i64 x.f0))))) := ⟨fun W hb => by
    obtain ⟨t0, t1, t2, t3, t4, t5, t6, t7, t8, t9, t10, t11, t12, t13, t14, t15, _⟩ := HSU.out W hb
    exact ⟨t0, t1, t2, t3, t4, t5, t6, t7, t8, t9, t10, t11, t12, t13, t14, t15, by simpa [Addr.add] using up_ (HBU.out.trans (hb.mono (below_size HBU.out))) hx0⟩⟩
  have hd0 : decide ((0 : Int) < l5.length) = true := decide_eq_true (by omega)
  have hd1 : decide ((l5.length : Int) ≤ 0) = false := decide_eq_false (by omega)
  have hln : 0 < l5.length := by omega
  clear hx0 hxx
  by_cases hk : v.f0 = x.f0
  rotate_left
  · have hbk : (v.f0 != x.f0) = true := by simp [hk]
    have hz : (0, 0) = (r1, r2) := Option.some.inj (by rwa [if_neg hk] at HH4)
    obtain ⟨rfl, rfl⟩ := Prod.mk.inj hz
    clear HH4 hz hk
    refine start_ (n := 17) (S := fun W => sk7 g2 a0 a1 A2 c2 l2 b3 A4 c4 l4 (some ad) c5 l5 A6 c6 l6 W (p5 g3 p0 op v W (v3 g6 v W (W.cell? ⟨g5, 0, none⟩ = some (.int .i64 n) ∧ W.cell? ad = some (.int .i64 x.f0))))) (ds := []) #[false, false, false, false, false, false, false, false, false, false, false, false, false, false, false, false, false] (by kernel_rfl) rfl rfl (HSX.out _ HY.out) (fun hHeld => ?_)
    refine with_tabW f26_tab8 f26_bits8 (fun HT_ HW_ => ?_)
    generalize U.drew = wd at HY hHeld ⊢
    refine tk_ HT_ HW_ 0 (some 29) hHeld ?_
    refine pu_ HT_ 1 (some 30) ?_
    refine pu_ HT_ 2 (some 31) ?_
    refine pu_ HT_ 3 (some 32) ?_
    refine tk_ HT_ HW_ 4 (some 33) hHeld ?_
    refine pu_ HT_ 5 (some 34) ?_
    refine pu_ HT_ 6 (some 35) ?_
    refine pu_ HT_ 7 (some 36) ?_
    refine pu_ HT_ 8 (some 37) ?_
    refine tk_ HT_ HW_ 9 (some 38) hHeld ?_
    refine pu_ HT_ 10 (some 39) ?_
    refine tk_ HT_ HW_ 11 (some 40) hHeld ?_
    refine tk_ HT_ HW_ 12 (some 41) hHeld ?_
    refine pu_ HT_ 13 (some 42) ?_
    refine tk_ HT_ HW_ 14 (some 43) hHeld ?_
    refine pu_ HT_ 15 (some 44) ?_
    refine pu_ HT_ 16 (some 45) ?_
    refine done_ (done_of HT_.out (by kernel_rfl)) ?_
    clear HT_ HW_ hHeld
    have B4 := blk_below BKU.out HY.out
    obtain ⟨e0, e1, z0, z1⟩ := bf2 B4
    go_wp2
    refine ret2_ (p := fun W => bodyPost _ _ _ _ _ W) B4 (HBU.out.trans (HY.out.mono (below_size HBU.out))) hg4 (.int .i64 0) (.int .i64 0) (fun W d0 d1 rB => ?_)
    exact bodyPost_ret (v := .agg #[.int .i64 0, .int .i64 0]) (by simp [results, Try.results26, go_sem, d0, d1]) rfl ⟨rfl, rB⟩
  have hbk : (v.f0 != x.f0) = false := by simp [hk]
  rw [if_pos hk] at HH4
  obtain ⟨lf, hv1, HH5⟩ := Option.bind_eq_some_iff.mp HH4
  obtain ⟨ut, hv2, HH6⟩ := Option.bind_eq_some_iff.mp HH5
  obtain ⟨lt, hv3, HH7⟩ := Option.bind_eq_some_iff.mp HH6
  obtain ⟨uf, hv4, HH8⟩ := Option.bind_eq_some_iff.mp HH7
  have Hlf := Aside0.mk hv1
  have Hut := Aside0.mk hv2
  have Hlt := Aside0.mk hv3
  have Huf := Aside0.mk hv4
  have HSW := Aside0.mk HH8
  clear HH4 HH5 HH6 HH7 HH8 hv1 hv2 hv3 hv4 hk
  refine start_ (n := 17) (S := fun W => sk7 g2 a0 a1 A2 c2 l2 b3 A4 c4 l4 (some ad) c5 l5 A6 c6 l6 W (p5 g3 p0 op v W (v3 g6 v W (W.cell? ⟨g5, 0, none⟩ = some (.int .i64 n) ∧ W.cell? ad = some (.int .i64 x.f0))))) (ds := []) #[false, false, false, false, false, false, false, false, false, false, false, false, false, false, false, false, false] (by kernel_rfl) rfl rfl (HSX.out _ HY.out) (fun hHeld => ?_)
  refine with_tabW f26_tab8 f26_bits8 (fun HT_ HW_ => ?_)
  generalize U.drew = wd at HY hHeld ⊢
  refine tk_ HT_ HW_ 0 (some 29) hHeld ?_
  refine pu_ HT_ 1 (some 30) ?_
  refine pu_ HT_ 2 (some 31) ?_
  refine pu_ HT_ 3 (some 32) ?_
  refine tk_ HT_ HW_ 4 (some 33) hHeld ?_
  refine pu_ HT_ 5 (some 34) ?_
  refine pu_ HT_ 6 (some 35) ?_
  refine pu_ HT_ 7 (some 36) ?_
  refine pu_ HT_ 8 (some 37) ?_
  refine tk_ HT_ HW_ 9 (some 38) hHeld ?_
  refine pu_ HT_ 10 (some 39) ?_
  refine tk_ HT_ HW_ 11 (some 40) hHeld ?_
  refine tk_ HT_ HW_ 12 (some 41) hHeld ?_
  refine pu_ HT_ 13 (some 42) ?_
  refine tk_ HT_ HW_ 14 (some 43) hHeld ?_
  refine pu_ HT_ 15 (some 44) ?_
  refine pu_ HT_ 16 (some 45) ?_
  refine done_ (done_of HT_.out (by kernel_rfl)) ?_
  clear HT_ HW_ hHeld
  clear hbn hbv hbk hd0 hd1 hln hl0 HSX
  go_upto_region 10 with (fail)
  replace HY := Aside0.mk (below_drew1 HY.out)
  refine start_ (n := 9) (S := fun W => sk7 g2 a0 a1 A2 c2 l2 b3 A4 c4 l4 (some ad) c5 l5 A6 c6 l6 W (p5 g3 p0 op v W (v3 g6 v W (W.cell? ⟨g5, 0, none⟩ = some (.int .i64 n) ∧ True)))) (ds := []) #[false, false, false, false, false, false, false, false, false] (by kernel_rfl) rfl rfl (HSU.out _ HY.out) (fun hHeld => ?_)
  refine with_tabW f26_tab10 f26_bits10 (fun HT_ HW_ => ?_)
  generalize wd.drew = wd at HY hHeld ⊢
  refine tk_ HT_ HW_ 0 (some 47) hHeld ?_
  refine tk_ HT_ HW_ 1 (some 48) hHeld ?_
  refine tk_ HT_ HW_ 3 (some 50) hHeld ?_
  refine tk_ HT_ HW_ 4 (some 51) hHeld ?_
  refine join_ (σ := Nat) 1 #[true, true, true, true, true, true, true, true, false] (fun s_ => [(49, .int .i64 lf), (52, .int .i64 ut), (53, .agg #[.int .i64 lf, .int .i64 ut]), (8, .pointer (some ⟨s_, 0, none⟩))]) (fun s_ W => sk7 g2 a0 a1 A2 c2 l2 b3 A4 c4 l4 (some ad) c5 l5 A6 c6 l6 W (p5 g3 p0 op v W (v3 g6 v W (W.cell? ⟨g5, 0, none⟩ = some (.int .i64 n) ∧ True))) ∧ W.heap[s_]? = some (.cells #[.int .i64 0, .int .i64 0] 44 (0, 0)) ∧ U.heap.size ≤ s_ ∧ Below U.heap.size U W) ?_ ?_
  rotate_left
  · intro hCont
    refine tw_ HT_ 2 7 (some 49) (some 8) (fun K hK => ?_) (fun K hK => ?_)
    · refine ck_ hK Try.func71 (un8 (sketch_lower.calls k a0 a1 _ _ _ _ _ _ _ _ _ _ _ _ _ v.f0 v.f1 v.f2 false lf _) (HKU.out _ HY.out) Hlf.out) HY HSU (fun w9 HY hb hHeld => ?_)
      clear hb
      refine tw_ HT_ 5 7 (some 52) (some 8) (fun K hK => ?_) (fun K hK => ?_)
      · refine ck_ hK Try.func70 (un8 (sketch_upper.calls k a0 a1 _ _ _ _ _ _ _ _ _ _ _ _ _ v.f0 v.f1 v.f2 true ut _) (HKU.out _ HY.out) Hut.out) HY HSU (fun w9 HY hb hHeld => ?_)
        clear hb
        refine tw_ HT_ 6 7 (some 53) (some 8) (fun K hK => ?_) (fun K hK => ?_)
        · refine ck_ hK Try.func73 (sketch_span.calls lf ut lf ut _ rfl) HY HSU (fun w9 HY hb hHeld => ?_)
          clear hb
          refine al_ HT_ 7 8 #[.int .i64 0, .int .i64 0] 44 HY HSU (fun g8 w9 hgx hg8 BG HY hb hHeld => ?_)
          clear hgx hb
          exact pl_ (hCont g8 _ ⟨hHeld, BG.out, hg8.out, HY.out⟩)
        · refine ak_ hK 8 #[.int .i64 0, .int .i64 0] 44 HY HSU (fun g8 w9 hgx hg8 BG HY hb hHeld => ?_)
          clear hgx hb
          refine on_ HT_ 6 (some 53) (fun K hK => ?_)
          refine ck_ hK Try.func73 (sketch_span.calls lf ut lf ut _ rfl) HY HSU (fun w9 HY hb hHeld => ?_)
          replace BG := Aside0.mk (blk_below BG.out hb)
          clear hb
          exact pl_ (hCont g8 _ ⟨hHeld, BG.out, hg8.out, HY.out⟩)
      · refine ak_ hK 8 #[.int .i64 0, .int .i64 0] 44 HY HSU (fun g8 w9 hgx hg8 BG HY hb hHeld => ?_)
        clear hgx hb
        refine on_ HT_ 5 (some 52) (fun K hK => ?_)
        refine ck_ hK Try.func70 (un8 (sketch_upper.calls k a0 a1 _ _ _ _ _ _ _ _ _ _ _ _ _ v.f0 v.f1 v.f2 true ut _) (HKU.out _ HY.out) Hut.out) HY HSU (fun w9 HY hb hHeld => ?_)
        replace BG := Aside0.mk (blk_below BG.out hb)
        clear hb
        refine on_ HT_ 6 (some 53) (fun K hK => ?_)
        refine ck_ hK Try.func73 (sketch_span.calls lf ut lf ut _ rfl) HY HSU (fun w9 HY hb hHeld => ?_)
        replace BG := Aside0.mk (blk_below BG.out hb)
        clear hb
        exact pl_ (hCont g8 _ ⟨hHeld, BG.out, hg8.out, HY.out⟩)
    · refine ak_ hK 8 #[.int .i64 0, .int .i64 0] 44 HY HSU (fun g8 w9 hgx hg8 BG HY hb hHeld => ?_)
      clear hgx hb
      refine on_ HT_ 2 (some 49) (fun K hK => ?_)
      refine ck_ hK Try.func71 (un8 (sketch_lower.calls k a0 a1 _ _ _ _ _ _ _ _ _ _ _ _ _ v.f0 v.f1 v.f2 false lf _) (HKU.out _ HY.out) Hlf.out) HY HSU (fun w9 HY hb hHeld => ?_)
      replace BG := Aside0.mk (blk_below BG.out hb)
      clear hb
      refine on_ HT_ 5 (some 52) (fun K hK => ?_)
      refine ck_ hK Try.func70 (un8 (sketch_upper.calls k a0 a1 _ _ _ _ _ _ _ _ _ _ _ _ _ v.f0 v.f1 v.f2 true ut _) (HKU.out _ HY.out) Hut.out) HY HSU (fun w9 HY hb hHeld => ?_)
      replace BG := Aside0.mk (blk_below BG.out hb)
      clear hb
      refine on_ HT_ 6 (some 53) (fun K hK => ?_)
      refine ck_ hK Try.func73 (sketch_span.calls lf ut lf ut _ rfl) HY HSU (fun w9 HY hb hHeld => ?_)
      replace BG := Aside0.mk (blk_below BG.out hb)
      clear hb
      exact pl_ (hCont g8 _ ⟨hHeld, BG.out, hg8.out, HY.out⟩)
  rintro g8 w3 ⟨hHeld, BG, hg8, hy⟩
  clear HY
  replace BG := Aside0.mk BG
  have HY := Aside0.mk hy
  clear hy
  refine pr_ ?_
  obtain ⟨e0, e1, z0, z1⟩ := bf2 BG.out
  replace BG := Aside0.mk (put2_blk BG.out (.int .i64 lf) (.int .i64 ut))
  replace HY := Aside0.mk (put2_below HY.out hg8 (.int .i64 lf) (.int .i64 ut))
  refine st_ HT_ 8 (put2 w3 g8 (.int .i64 lf) (.int .i64 ut)) ?_ (HSU.out _ HY.out) (fun hHeld => ?_)
  · unfold put2
    go_simp
  clear e0 e1 z0 z1
  generalize put2 w3 g8 (.int .i64 lf) (.int .i64 ut) = U_ at BG HY hHeld ⊢
  refine done_ (done_of HT_.out (by kernel_rfl)) ?_
  clear HT_ HW_ hHeld
  have HS8 : Aside0 (∀ W, Below U_.heap.size U_ W → sk7 g2 a0 a1 A2 c2 l2 b3 A4 c4 l4 (some ad) c5 l5 A6 c6 l6 W (p5 g3 p0 op v W (v3 g6 v W (W.cell? ⟨g5, 0, none⟩ = some (.int .i64 n) ∧ i2 g8 lf ut W True)))) := ⟨fun W hb => by
    obtain ⟨t0, t1, t2, t3, t4, t5, t6, t7, t8, t9, t10, t11, t12, t13, t14, t15, _⟩ := HSU.out W (HY.out.trans (hb.mono (below_size HY.out)))
    exact ⟨t0, t1, t2, t3, t4, t5, t6, t7, t8, t9, t10, t11, t12, t13, t14, t15, i2_of (blk_below BG.out hb) trivial⟩⟩
  have HK8 : Aside0 (∀ W, Below U_.heap.size U_ W → SK W A2 c2 l2 A4 c4 l4 (some ad) c5 l5 A6 c6 l6) := ⟨fun W hb => HKU.out W (HY.out.trans (hb.mono (below_size HY.out)))⟩
  have HB8 := Aside0.mk (HBU.out.trans (HY.out.mono (below_size HBU.out)))
  have BK8 := Aside0.mk (blk_below BKU.out HY.out)
  clear HSU HKU HY
  have HY := Aside0.mk (below_drew1 (Below.refl U_.heap.size U_))
  go_upto_region 11 with (fail)
  refine start_ (n := 9) (S := fun W => sk7 g2 a0 a1 A2 c2 l2 b3 A4 c4 l4 (some ad) c5 l5 A6 c6 l6 W (p5 g3 p0 op v W (v3 g6 v W (W.cell? ⟨g5, 0, none⟩ = some (.int .i64 n) ∧ i2 g8 lf ut W True)))) (ds := []) #[false, false, false, false, false, false, false, false, false] (by kernel_rfl) rfl rfl (HS8.out _ HY.out) (fun hHeld => ?_)
  refine with_tabW f26_tab11 f26_bits11 (fun HT_ HW_ => ?_)
  generalize U_.drew = wd at HY hHeld ⊢
  refine tk_ HT_ HW_ 0 (some 54) hHeld ?_
  refine tk_ HT_ HW_ 1 (some 55) hHeld ?_
  refine tk_ HT_ HW_ 3 (some 57) hHeld ?_
  refine tk_ HT_ HW_ 4 (some 58) hHeld ?_
  refine join_ (σ := Nat) 1 #[true, true, true, true, true, true, true, true, false] (fun s_ => [(56, .int .i64 lt), (59, .int .i64 uf), (60, .agg #[.int .i64 lt, .int .i64 uf]), (9, .pointer (some ⟨s_, 0, none⟩))]) (fun s_ W => sk7 g2 a0 a1 A2 c2 l2 b3 A4 c4 l4 (some ad) c5 l5 A6 c6 l6 W (p5 g3 p0 op v W (v3 g6 v W (W.cell? ⟨g5, 0, none⟩ = some (.int .i64 n) ∧ i2 g8 lf ut W True))) ∧ W.heap[s_]? = some (.cells #[.int .i64 0, .int .i64 0] 44 (0, 0)) ∧ U_.heap.size ≤ s_ ∧ Below U_.heap.size U_ W) ?_ ?_
  rotate_left
  · intro hCont
    refine tw_ HT_ 2 7 (some 56) (some 9) (fun K hK => ?_) (fun K hK => ?_)
    · refine ck_ hK Try.func71 (un8 (sketch_lower.calls k a0 a1 _ _ _ _ _ _ _ _ _ _ _ _ _ v.f0 v.f1 v.f2 true lt _) (HK8.out _ HY.out) Hlt.out) HY HS8 (fun w9 HY hb hHeld => ?_)
      clear hb
      refine tw_ HT_ 5 7 (some 59) (some 9) (fun K hK => ?_) (fun K hK => ?_)
      · refine ck_ hK Try.func70 (un8 (sketch_upper.calls k a0 a1 _ _ _ _ _ _ _ _ _ _ _ _ _ v.f0 v.f1 v.f2 false uf _) (HK8.out _ HY.out) Huf.out) HY HS8 (fun w9 HY hb hHeld => ?_)
        clear hb
        refine tw_ HT_ 6 7 (some 60) (some 9) (fun K hK => ?_) (fun K hK => ?_)
        · refine ck_ hK Try.func73 (sketch_span.calls lt uf lt uf _ rfl) HY HS8 (fun w9 HY hb hHeld => ?_)
          clear hb
          refine al_ HT_ 7 9 #[.int .i64 0, .int .i64 0] 44 HY HS8 (fun g9 w9 hgx hg9 BG HY hb hHeld => ?_)
          clear hgx hb
          exact pl_ (hCont g9 _ ⟨hHeld, BG.out, hg9.out, HY.out⟩)
        · refine ak_ hK 9 #[.int .i64 0, .int .i64 0] 44 HY HS8 (fun g9 w9 hgx hg9 BG HY hb hHeld => ?_)
          clear hgx hb
          refine on_ HT_ 6 (some 60) (fun K hK => ?_)
          refine ck_ hK Try.func73 (sketch_span.calls lt uf lt uf _ rfl) HY HS8 (fun w9 HY hb hHeld => ?_)
          replace BG := Aside0.mk (blk_below BG.out hb)
          clear hb
          exact pl_ (hCont g9 _ ⟨hHeld, BG.out, hg9.out, HY.out⟩)
      · refine ak_ hK 9 #[.int .i64 0, .int .i64 0] 44 HY HS8 (fun g9 w9 hgx hg9 BG HY hb hHeld => ?_)
        clear hgx hb
        refine on_ HT_ 5 (some 59) (fun K hK => ?_)
        refine ck_ hK Try.func70 (un8 (sketch_upper.calls k a0 a1 _ _ _ _ _ _ _ _ _ _ _ _ _ v.f0 v.f1 v.f2 false uf _) (HK8.out _ HY.out) Huf.out) HY HS8 (fun w9 HY hb hHeld => ?_)
        replace BG := Aside0.mk (blk_below BG.out hb)
        clear hb
        refine on_ HT_ 6 (some 60) (fun K hK => ?_)
        refine ck_ hK Try.func73 (sketch_span.calls lt uf lt uf _ rfl) HY HS8 (fun w9 HY hb hHeld => ?_)
        replace BG := Aside0.mk (blk_below BG.out hb)
        clear hb
        exact pl_ (hCont g9 _ ⟨hHeld, BG.out, hg9.out, HY.out⟩)
    · refine ak_ hK 9 #[.int .i64 0, .int .i64 0] 44 HY HS8 (fun g9 w9 hgx hg9 BG HY hb hHeld => ?_)
      clear hgx hb
      refine on_ HT_ 2 (some 56) (fun K hK => ?_)
      refine ck_ hK Try.func71 (un8 (sketch_lower.calls k a0 a1 _ _ _ _ _ _ _ _ _ _ _ _ _ v.f0 v.f1 v.f2 true lt _) (HK8.out _ HY.out) Hlt.out) HY HS8 (fun w9 HY hb hHeld => ?_)
      replace BG := Aside0.mk (blk_below BG.out hb)
      clear hb
      refine on_ HT_ 5 (some 59) (fun K hK => ?_)
      refine ck_ hK Try.func70 (un8 (sketch_upper.calls k a0 a1 _ _ _ _ _ _ _ _ _ _ _ _ _ v.f0 v.f1 v.f2 false uf _) (HK8.out _ HY.out) Huf.out) HY HS8 (fun w9 HY hb hHeld => ?_)
      replace BG := Aside0.mk (blk_below BG.out hb)
      clear hb
      refine on_ HT_ 6 (some 60) (fun K hK => ?_)
      refine ck_ hK Try.func73 (sketch_span.calls lt uf lt uf _ rfl) HY HS8 (fun w9 HY hb hHeld => ?_)
      replace BG := Aside0.mk (blk_below BG.out hb)
      clear hb
      exact pl_ (hCont g9 _ ⟨hHeld, BG.out, hg9.out, HY.out⟩)
  rintro g9 w3 ⟨hHeld, BG, hg9, hy⟩
  clear HY
  replace BG := Aside0.mk BG
  have HY := Aside0.mk hy
  clear hy
  refine pr_ ?_
  obtain ⟨e0, e1, z0, z1⟩ := bf2 BG.out
  replace BG := Aside0.mk (put2_blk BG.out (.int .i64 lt) (.int .i64 uf))
  replace HY := Aside0.mk (put2_below HY.out hg9 (.int .i64 lt) (.int .i64 uf))
  refine st_ HT_ 8 (put2 w3 g9 (.int .i64 lt) (.int .i64 uf)) ?_ (HS8.out _ HY.out) (fun hHeld => ?_)
  · unfold put2
    go_simp
  clear e0 e1 z0 z1
  generalize put2 w3 g9 (.int .i64 lt) (.int .i64 uf) = U__ at BG HY hHeld ⊢
  refine done_ (done_of HT_.out (by kernel_rfl)) ?_
  clear HT_ HW_ hHeld
  have HS9 : Aside0 (∀ W, Below U__.heap.size U__ W → sk7 g2 a0 a1 A2 c2 l2 b3 A4 c4 l4 (some ad) c5 l5 A6 c6 l6 W (p5 g3 p0 op v W (v3 g6 v W (W.cell? ⟨g5, 0, none⟩ = some (.int .i64 n) ∧ i2 g8 lf ut W (i2 g9 lt uf W True))))) := ⟨fun W hb => by
    obtain ⟨t0, t1, t2, t3, t4, t5, t6, t7, t8, t9, t10, t11, t12, t13, t14, t15, t16, t17, _⟩ := HS8.out W (HY.out.trans (hb.mono (below_size HY.out)))
    exact ⟨t0, t1, t2, t3, t4, t5, t6, t7, t8, t9, t10, t11, t12, t13, t14, t15, t16, t17, i2_of (blk_below BG.out hb) trivial⟩⟩
  have HK9 : Aside0 (∀ W, Below U__.heap.size U__ W → SK W A2 c2 l2 A4 c4 l4 (some ad) c5 l5 A6 c6 l6) := ⟨fun W hb => HK8.out W (HY.out.trans (hb.mono (below_size HY.out)))⟩
  have HB9 := Aside0.mk (HB8.out.trans (HY.out.mono (below_size HB8.out)))
  have BK9 := Aside0.mk (blk_below BK8.out HY.out)
  clear HS8 HK8 HY
  have HY := Aside0.mk (Below.refl U__.heap.size U__)
  obtain ⟨t0, t1, t2, t3, t4, t5, t6, t7, t8, t9, t10, t11, t12, t13, t14, t15, t16, t17, t18, t19, _⟩ := HS9.out U__ HY.out
  have HSW2 := HSW.out
  unfold switchS at HSW2
  clear HSW
  by_cases h1 : op = 1
  · subst h1
    rw [if_pos rfl] at HSW2
    have HE := Aside0.mk HSW2
    clear HSW2
    go_wp2_with (go_at_call 22; refine (un8 (sketch_CountEqual.calls k a0 a1 _ _ _ _ _ _ _ _ _ _ _ _ _ v.f0 v.f1 v.f2 r1 r2 _) (HK9.out _ HY.out) HE.out).mono ?_; rintro e w9 ⟨rfl, hb⟩; replace HY := Aside0.mk (HY.out.trans (hb.mono HY.out.size)); clear hb; have B4 := blk_below BK9.out HY.out; obtain ⟨e0, e1, z0, z1⟩ := bf2 B4)
    refine ret2_ (p := fun W => bodyPost _ _ _ _ _ W) B4 (HB9.out.trans (HY.out.mono (below_size HB9.out))) hg4 (.int .i64 r1) (.int .i64 r2) (fun W d0 d1 rB => ?_)
    exact bodyPost_ret (v := .agg #[.int .i64 r1, .int .i64 r2]) (by simp [results, Try.results26, go_sem, d0, d1]) rfl ⟨rfl, rB⟩
  have hb1 : (op == 1) = false := by simp [h1]
  by_cases h2 : op = 2
  · subst h2
    rw [if_neg (by decide), if_pos rfl] at HSW2
    obtain ⟨⟨e1_, e2_⟩, hE, HSW3⟩ := Option.bind_eq_some_iff.mp HSW2
    have HE := Aside0.mk hE
    clear HSW2 hE
    obtain ⟨q1, q2⟩ := Prod.mk.inj (Option.some.inj HSW3)
    clear HSW3
    have q1 : wrap64 (n - e2_) = r1 := q1
    have q2 : wrap64 (n - e1_) = r2 := q2
    subst q1
    subst q2
    go_wp2_with (first | (go_at_call 22; refine (un8 (sketch_CountEqual.calls k a0 a1 _ _ _ _ _ _ _ _ _ _ _ _ _ v.f0 v.f1 v.f2 e1_ e2_ _) (HK9.out _ HY.out) HE.out).mono ?_; rintro e w9 ⟨rfl, hb⟩; replace HY := Aside0.mk (HY.out.trans (hb.mono HY.out.size)); clear hb) | (go_at_call 79; refine (f79_calls n e1_ e2_ g5 _ ((HY.out.cell (World.block_lt_of_cell? U__ _ t15)).trans t15)).mono ?_; rintro e w10 ⟨rfl, hb⟩; replace HY := Aside0.mk (HY.out.trans (hb.mono HY.out.size)); clear hb; have B4 := blk_below BK9.out HY.out; obtain ⟨e0, e1, z0, z1⟩ := bf2 B4))
    refine ret2_ (p := fun W => bodyPost _ _ _ _ _ W) B4 (HB9.out.trans (HY.out.mono (below_size HB9.out))) hg4 (.int .i64 (wrap64 (n - e2_))) (.int .i64 (wrap64 (n - e1_))) (fun W d0 d1 rB => ?_)
    exact bodyPost_ret (v := .agg #[.int .i64 (wrap64 (n - e2_)), .int .i64 (wrap64 (n - e1_))]) (by simp [results, Try.results26, go_sem, d0, d1]) rfl ⟨rfl, rB⟩
  have hb2 : (op == 2) = false := by simp [h2]
  by_cases h3 : op = 3
  · subst h3
    rw [if_neg (by decide), if_neg (by decide), if_pos rfl] at HSW2
    obtain ⟨q1, q2⟩ := Prod.mk.inj (Option.some.inj HSW2)
    clear HSW2
    have q1 : lf = r1 := q1
    have q2 : ut = r2 := q2
    subst q1
    subst q2
    have B4 := blk_below BK9.out HY.out
    obtain ⟨e0, e1, z0, z1⟩ := bf2 B4
    go_wp2
    refine ret2_ (p := fun W => bodyPost _ _ _ _ _ W) B4 (HB9.out.trans (HY.out.mono (below_size HB9.out))) hg4 (.int .i64 lf) (.int .i64 ut) (fun W d0 d1 rB => ?_)
    exact bodyPost_ret (v := .agg #[.int .i64 lf, .int .i64 ut]) (by simp [results, Try.results26, go_sem, d0, d1]) rfl ⟨rfl, rB⟩
  have hb3 : (op == 3) = false := by simp [h3]
  by_cases h4 : op = 4
  · subst h4
    rw [if_neg (by decide), if_neg (by decide), if_neg (by decide), if_pos rfl] at HSW2
    obtain ⟨q1, q2⟩ := Prod.mk.inj (Option.some.inj HSW2)
    clear HSW2
    have q1 : lt = r1 := q1
    have q2 : uf = r2 := q2
    subst q1
    subst q2
    have B4 := blk_below BK9.out HY.out
    obtain ⟨e0, e1, z0, z1⟩ := bf2 B4
    go_wp2
    refine ret2_ (p := fun W => bodyPost _ _ _ _ _ W) B4 (HB9.out.trans (HY.out.mono (below_size HB9.out))) hg4 (.int .i64 lt) (.int .i64 uf) (fun W d0 d1 rB => ?_)
    exact bodyPost_ret (v := .agg #[.int .i64 lt, .int .i64 uf]) (by simp [results, Try.results26, go_sem, d0, d1]) rfl ⟨rfl, rB⟩
  have hb4 : (op == 4) = false := by simp [h4]
  by_cases h5 : op = 5
  · subst h5
    rw [if_neg (by decide), if_neg (by decide), if_neg (by decide), if_neg (by decide), if_pos rfl] at HSW2
    obtain ⟨q1, q2⟩ := Prod.mk.inj (Option.some.inj HSW2)
    clear HSW2
    have q1 : wrap64 (n - uf) = r1 := q1
    have q2 : wrap64 (n - lt) = r2 := q2
    subst q1
    subst q2
    go_wp2_with (go_at_call 79; refine (f79_calls n lt uf g5 _ t15).mono ?_; rintro e w10 ⟨rfl, hb⟩; replace HY := Aside0.mk (HY.out.trans (hb.mono HY.out.size)); clear hb; have B4 := blk_below BK9.out HY.out; obtain ⟨e0, e1, z0, z1⟩ := bf2 B4)
    refine ret2_ (p := fun W => bodyPost _ _ _ _ _ W) B4 (HB9.out.trans (HY.out.mono (below_size HB9.out))) hg4 (.int .i64 (wrap64 (n - uf))) (.int .i64 (wrap64 (n - lt))) (fun W d0 d1 rB => ?_)
    exact bodyPost_ret (v := .agg #[.int .i64 (wrap64 (n - uf)), .int .i64 (wrap64 (n - lt))]) (by simp [results, Try.results26, go_sem, d0, d1]) rfl ⟨rfl, rB⟩
  have hb5 : (op == 5) = false := by simp [h5]
  by_cases h6 : op = 6
  · subst h6
    rw [if_neg (by decide), if_neg (by decide), if_neg (by decide), if_neg (by decide), if_neg (by decide), if_pos rfl] at HSW2
    obtain ⟨q1, q2⟩ := Prod.mk.inj (Option.some.inj HSW2)
    clear HSW2
    have q1 : wrap64 (n - ut) = r1 := q1
    have q2 : wrap64 (n - lf) = r2 := q2
    subst q1
    subst q2
    go_wp2_with (go_at_call 79; refine (f79_calls n lf ut g5 _ t15).mono ?_; rintro e w10 ⟨rfl, hb⟩; replace HY := Aside0.mk (HY.out.trans (hb.mono HY.out.size)); clear hb; have B4 := blk_below BK9.out HY.out; obtain ⟨e0, e1, z0, z1⟩ := bf2 B4)
    refine ret2_ (p := fun W => bodyPost _ _ _ _ _ W) B4 (HB9.out.trans (HY.out.mono (below_size HB9.out))) hg4 (.int .i64 (wrap64 (n - ut))) (.int .i64 (wrap64 (n - lf))) (fun W d0 d1 rB => ?_)
    exact bodyPost_ret (v := .agg #[.int .i64 (wrap64 (n - ut)), .int .i64 (wrap64 (n - lf))]) (by simp [results, Try.results26, go_sem, d0, d1]) rfl ⟨rfl, rB⟩
  have hb6 : (op == 6) = false := by simp [h6]
  rw [if_neg h1, if_neg h2, if_neg h3, if_neg h4, if_neg h5, if_neg h6] at HSW2
  clear h1 h2 h3 h4 h5 h6
  obtain ⟨q1, q2⟩ := Prod.mk.inj (Option.some.inj HSW2)
  clear HSW2
  have q1 : 0 = r1 := q1
  have q2 : 0 = r2 := q2
  subst q1
  subst q2
  have B4 := blk_below BK9.out HY.out
  obtain ⟨e0, e1, z0, z1⟩ := bf2 B4
  go_wp2
  refine ret2_ (p := fun W => bodyPost _ _ _ _ _ W) B4 (HB9.out.trans (HY.out.mono (below_size HB9.out))) hg4 (.int .i64 0) (.int .i64 0) (fun W d0 d1 rB => ?_)
  exact bodyPost_ret (v := .agg #[.int .i64 0, .int .i64 0]) (by simp [results, Try.results26, go_sem, d0, d1]) rfl ⟨rfl, rB⟩
end Go.Proofs.Ytackcingpffidaa.P
namespace Go.Proofs.Ytackcingpffidaa.P
open Go.RowKit Go.Proofs.YtackcingpffidaaW.PrintWords Go.Proofs.YtackcingpffidaaW.PrintLast Go.Proofs.YtackcingpffidaaW.PrintMore
set_option linter.unusedVariables false
set_option linter.unusedSimpArgs false
def f27_T17 : Bool × List (List Nat × List Nat) := (true, [([], []), ([], []), ([0, 1], [0, 1]), ([], []), ([], []), ([3, 4, 2], [3, 4]), ([2, 5, 5], [2, 5]), ([6, 6, 0, 1, 2, 3, 4, 5, 6], [6])])
def f27_B17 : List Nat := [0, 0, 3, 0, 0, 31, 63, 127]
set_option maxRecDepth 100000 in
theorem f27_tab17 : rtab .any (opsOf Try.f27 17) = f27_T17 := by kernel_rfl
theorem f27_bits17 : waitsOk f27_T17.2 f27_B17 = true := by kernel_rfl
def f27_T19 : Bool × List (List Nat × List Nat) := (true, [([], []), ([], []), ([0, 1], [0, 1]), ([], []), ([], []), ([3, 4, 2], [3, 4]), ([2, 5, 5], [2, 5]), ([6, 6, 0, 1, 2, 3, 4, 5, 6], [6])])
def f27_B19 : List Nat := [0, 0, 3, 0, 0, 31, 63, 127]
set_option maxRecDepth 100000 in
theorem f27_tab19 : rtab .any (opsOf Try.f27 19) = f27_T19 := by kernel_rfl
theorem f27_bits19 : waitsOk f27_T19.2 f27_B19 = true := by kernel_rfl
def f27_T21 : Bool × List (List Nat × List Nat) := (true, [([], []), ([], []), ([], []), ([1, 2], [1, 2]), ([0, 3], [0, 3]), ([], []), ([], []), ([], []), ([6, 7, 3], [6, 7]), ([5, 8], [5, 8]), ([4, 9, 8], [4, 9]), ([10, 10, 0, 1, 2, 3, 4, 5, 6, 7, 8, 9, 10], [10])])
def f27_B21 : List Nat := [0, 0, 0, 6, 15, 0, 0, 0, 206, 494, 1023, 2047]
set_option maxRecDepth 100000 in
theorem f27_tab21 : rtab .any (opsOf Try.f27 21) = f27_T21 := by kernel_rfl
theorem f27_bits21 : waitsOk f27_T21.2 f27_B21 = true := by kernel_rfl
def f27_T23 : Bool × List (List Nat × List Nat) := (true, [([], []), ([], []), ([], []), ([1, 2], [1, 2]), ([0, 3], [0, 3]), ([], []), ([], []), ([], []), ([6, 7, 3], [6, 7]), ([5, 8], [5, 8]), ([4, 9, 8], [4, 9]), ([10, 10, 0, 1, 2, 3, 4, 5, 6, 7, 8, 9, 10], [10])])
def f27_B23 : List Nat := [0, 0, 0, 6, 15, 0, 0, 0, 206, 494, 1023, 2047]
set_option maxRecDepth 100000 in
theorem f27_tab23 : rtab .any (opsOf Try.f27 23) = f27_T23 := by kernel_rfl
theorem f27_bits23 : waitsOk f27_T23.2 f27_B23 = true := by kernel_rfl
set_option maxHeartbeats 8000000 in
set_option maxRecDepth 100000 in
theorem laminaref16_CountMatching.calls0 (k : Nat) (a0 a1 : Int) (A2 : Option Addr) (c2 : Nat) (l2 : List Int) (b3 : Bool) (A4 : Option Addr) (c4 : Nat) (l4 : List Int) (A5 : Option Addr) (c5 : Nat) (l5 : List S39) (A6 : Option Addr) (c6 : Nat) (l6 : List Int) (p0 op : Int) (v : S39) (r1 r2 : Int) (w : World) (hr2 : Kd.C (Kd.int .u64) w A2 l2.length l2) (hc2 : l2.length ≤ c2) (hr4 : Kd.C (Kd.int .i64) w A4 l4.length l4) (hc4 : l4.length ≤ c4) (hr5 : Kd.C k39 w A5 l5.length l5) (hc5 : l5.length ≤ c5) (hr6 : Kd.C (Kd.int .i64) w A6 l6.length l6) (hc6 : l6.length ≤ c6) (h : laminaref16_CountMatching.f k a0 a1 l2 b3 l4 l5 l6 p0 op v.f0 v.f1 v.f2 = some (r1, r2)) :
    Calls Try.prog 27 #[.agg #[.int .i64 a0, .int .i64 a1, .slice A2 l2.length c2, .bool b3, .slice A4 l4.length c4, .slice A5 l5.length c5, .slice A6 l6.length c6], .agg #[.int .i64 p0, .int .i64 op, .int .i64 v.f0, .int .i64 v.f1, .string v.f2]] w fun e w' => e = .returned (.agg #[.int .i64 r1, .int .i64 r2]) ∧ Below w.heap.size w w' := by
  unfold laminaref16_CountMatching.f at h
  obtain ⟨n, hn⟩ : ∃ n, wrap64 (a0 - a1) = n := ⟨_, rfl⟩
  rw [hn] at h
  have HN : Aside0 (laminaref16_values.f a0 a1 l2 b3 l4 l5 l6 = some n) := ⟨by unfold laminaref16_values.f; rw [hn]⟩
  have HH := Aside0.mk h
  clear h hn
  have HK0 : SK w A2 c2 l2 A4 c4 l4 A5 c5 l5 A6 c6 l6 := ⟨hr2, hc2, hr4, hc4, hr5, hc5, hr6, hc6⟩
  have HR5 := Aside0.mk hr5
  have HR6 := Aside0.mk hr6
  have HR4 := Aside0.mk hr4
  have HKw := Aside0.mk HK0
  clear HK0 hr2 hr4 hr5 hr6
  go_enter Try.func27, Try.ntmps27
  go_upto_region 1 with (first | (refine box_ 2 (cs := #[.int .i64 a0, .int .i64 a1, .slice A2 l2.length c2, .bool b3, .slice A4 l4.length c4, .slice A5 l5.length c5, .slice A6 l6.length c6]) (t := 26) (fun g2 hg_ w1 BK2 HB => ?_); clear hg_; replace BK2 := Aside0.mk BK2; replace HB := Aside0.mk HB) | (refine box_ 3 (cs := #[.int .i64 p0, .int .i64 op, .int .i64 v.f0, .int .i64 v.f1, .string v.f2]) (t := 41) (fun g3 hg_ w2 BK3 hb => ?_); clear hg_; replace BK2 := Aside0.mk (blk_below BK2.out hb); replace BK3 := Aside0.mk BK3; replace HB := Aside0.mk (HB.out.trans (hb.mono (below_size HB.out))); clear hb))
  replace BK2 := Aside0.mk (blk_alloc BK2.out (.cells #[.int .i64 0, .int .i64 0] 44))
  replace BK3 := Aside0.mk (blk_alloc BK3.out (.cells #[.int .i64 0, .int .i64 0] 44))
  have BK4 := Aside0.mk (heap_alloc_new w2 (.cells #[.int .i64 0, .int .i64 0] 44))
  have HBV := Aside0.mk (below_alloc HB.out (.cells #[.int .i64 0, .int .i64 0] 44))
  have hg4 : w.heap.size ≤ w2.heap.size := below_size HB.out
  obtain ⟨V, hV⟩ : ∃ V, w2.alloc (.cells #[.int .i64 0, .int .i64 0] 44) = V := ⟨_, rfl⟩
  rw [hV] at BK2 BK3 BK4 HBV ⊢
  clear hV HB
  generalize w2.heap.size = g4 at *
  clear w2
  have HS : Aside0 (∀ W, Below V.heap.size V W → sk7 g2 a0 a1 A2 c2 l2 b3 A4 c4 l4 A5 c5 l5 A6 c6 l6 W (p5 g3 p0 op v W (True))) := ⟨fun W hb => sk7_of (blk_below BK2.out hb) (p5_of (blk_below BK3.out hb) trivial)⟩
  have HK : Aside0 (∀ W, Below V.heap.size V W → SK W A2 c2 l2 A4 c4 l4 A5 c5 l5 A6 c6 l6) := ⟨fun W hb => HKw.out.below (HBV.out.trans (hb.mono (below_size HBV.out)))⟩
  clear BK2 BK3 HKw
  have HY := Aside0.mk (Below.refl V.heap.size V)
  obtain ⟨t0, t1, t2, t3, t4, t5, t6, t7, t8, t9, t10, t11, _⟩ := HS.out V HY.out
  go_upto_region 2 with (go_at_call 80; refine (un8 (laminaref16_values.calls a0 a1 _ _ _ _ _ _ _ _ _ _ _ _ _ n _) (HK.out _ HY.out) HN.out).mono ?_; rintro e w5 ⟨rfl, hb⟩; replace HY := Aside0.mk (HY.out.trans (hb.mono HY.out.size)); clear hb)
  clear t0 t1 t2 t3 t4 t5 t6 t7 t8 t9 t10 t11
  obtain ⟨t0, t1, t2, t3, t4, t5, t6, t7, t8, t9, t10, t11, _⟩ := HS.out w5 HY.out
  by_cases h20 : op = 20
  · subst h20
    have hz : (a1, a1) = (r1, r2) := Option.some.inj (by have h_ := HH.out; rwa [if_pos rfl] at h_)
    obtain ⟨rfl, rfl⟩ := Prod.mk.inj hz
    clear HH hz
    go_wp2_with (go_at_call 76; refine (laminaref16_span.calls a1 a1 a1 a1 _ rfl).mono ?_; rintro e w9 ⟨rfl, hb⟩; replace HY := Aside0.mk (HY.out.trans (hb.mono HY.out.size)); clear hb; have B4 := blk_below BK4.out HY.out; obtain ⟨e0, e1, z0, z1⟩ := bf2 B4)
    refine ret2_ (p := fun W => bodyPost _ _ _ _ _ W) B4 (HBV.out.trans (HY.out.mono (below_size HBV.out))) hg4 (.int .i64 a1) (.int .i64 a1) (fun W d0 d1 rB => ?_)
    exact bodyPost_ret (v := .agg #[.int .i64 a1, .int .i64 a1]) (by simp [results, Try.results27, go_sem, d0, d1]) rfl ⟨rfl, rB⟩
  have HH2 := HH.out
  rw [if_neg h20] at HH2
  by_cases h21 : op = 21
  · subst h21
    have hz : (n, n) = (r1, r2) := Option.some.inj (by rwa [if_pos rfl] at HH2)
    obtain ⟨e1_, e2_⟩ := Prod.mk.inj hz
    clear HH HH2 hz h20
    subst e1_
    subst e2_
    go_wp2_with (go_at_call 76; refine (laminaref16_span.calls n n n n _ rfl).mono ?_; rintro e w9 ⟨rfl, hb⟩; replace HY := Aside0.mk (HY.out.trans (hb.mono HY.out.size)); clear hb; have B4 := blk_below BK4.out HY.out; obtain ⟨e0, e1, z0, z1⟩ := bf2 B4)
    refine ret2_ (p := fun W => bodyPost _ _ _ _ _ W) B4 (HBV.out.trans (HY.out.mono (below_size HBV.out))) hg4 (.int .i64 n) (.int .i64 n) (fun W d0 d1 rB => ?_)
    exact bodyPost_ret (v := .agg #[.int .i64 n, .int .i64 n]) (by simp [results, Try.results27, go_sem, d0, d1]) rfl ⟨rfl, rB⟩
  rw [if_neg h21] at HH2
  have hb20 : (op == 20) = false := by simp [h20]
  have hb21 : (op == 21) = false := by simp [h21]
  clear HH h20 h21
  obtain ⟨fb, hfb, HH3⟩ := Option.bind_eq_some_iff.mp HH2
  have HFB := Aside0.mk hfb
  clear HH2 hfb
  cases fb with
  | true =>
    have hz : (0, 0) = (r1, r2) := Option.some.inj (by rwa [if_pos rfl] at HH3)
    obtain ⟨rfl, rfl⟩ := Prod.mk.inj hz
    clear HH3 hz
    go_wp2_with (first | (go_at_call 74; refine (un8 (laminaref16_foreign.calls a0 a1 _ _ _ _ _ _ _ _ _ _ _ _ _ v.f0 v.f1 v.f2 _ _) (HK.out _ HY.out) HFB.out).mono ?_; rintro e w6 ⟨rfl, hb⟩; replace HY := Aside0.mk (HY.out.trans (hb.mono HY.out.size)); clear hb) | (go_at_call 76; refine (laminaref16_span.calls 0 0 0 0 _ rfl).mono ?_; rintro e w9 ⟨rfl, hb⟩; replace HY := Aside0.mk (HY.out.trans (hb.mono HY.out.size)); clear hb; have B4 := blk_below BK4.out HY.out; obtain ⟨e0, e1, z0, z1⟩ := bf2 B4))
    refine ret2_ (p := fun W => bodyPost _ _ _ _ _ W) B4 (HBV.out.trans (HY.out.mono (below_size HBV.out))) hg4 (.int .i64 0) (.int .i64 0) (fun W d0 d1 rB => ?_)
    exact bodyPost_ret (v := .agg #[.int .i64 0, .int .i64 0]) (by simp [results, Try.results27, go_sem, d0, d1]) rfl ⟨rfl, rB⟩
  | false =>
  rw [if_neg (by decide)] at HH3
  obtain ⟨⟨e1_, e2_⟩, he, HH4⟩ := Option.bind_eq_some_iff.mp HH3
  have HE := Aside0.mk he
  have HSW := Aside0.mk HH4
  clear HH3 HH4 he
  go_upto_region 9 with (go_at_call 74; refine (un8 (laminaref16_foreign.calls a0 a1 _ _ _ _ _ _ _ _ _ _ _ _ _ v.f0 v.f1 v.f2 _ _) (HK.out _ HY.out) HFB.out).mono ?_; rintro e w6 ⟨rfl, hb⟩; replace HY := Aside0.mk (HY.out.trans (hb.mono HY.out.size)); clear hb)
  clear t0 t1 t2 t3 t4 t5 t6 t7 t8 t9 t10 t11
  obtain ⟨t0, t1, t2, t3, t4, t5, t6, t7, t8, t9, t10, t11, _⟩ := HS.out w6 HY.out
  go_upto_region 10 with (refine box_ 6 (cs := #[.int .i64 0, .int .i64 0, .string ⟨#[]⟩]) (t := 39) (fun g6 hg_ w7 BB hb => ?_); have hg6 : V.heap.size ≤ g6 := (by rw [hg_]; exact below_size HY.out); replace HY := Aside0.mk (HY.out.trans (hb.mono HY.out.size)); replace BB := Aside0.mk BB; clear hb hg_; obtain ⟨e0, e1, e2, z0, z1, z2⟩ := bf3 BB.out)
  have P3 := put3_blk BB.out (.int .i64 v.f0) (.int .i64 v.f1) (.string v.f2)
  have PB := put3_below HY.out hg6 (.int .i64 v.f0) (.int .i64 v.f1) (.string v.f2)
  unfold put3 at P3 PB
  clear t0 t1 t2 t3 t4 t5 t6 t7 t8 t9 t10 t11 hb20 hb21 e0 e1 e2 z0 z1 z2 HY
  generalize ((w7.setCell ⟨g6, 0, none⟩ (.int .i64 v.f0)).setCell ⟨g6, 1, none⟩ (.int .i64 v.f1)).setCell ⟨g6, 2, none⟩ (.string v.f2) = U at P3 PB ⊢
  have HSU : Aside0 (∀ W, Below U.heap.size U W → sk7 g2 a0 a1 A2 c2 l2 b3 A4 c4 l4 A5 c5 l5 A6 c6 l6 W (p5 g3 p0 op v W (v3 g6 v W (True)))) := ⟨fun W hb => by
    obtain ⟨t0, t1, t2, t3, t4, t5, t6, t7, t8, t9, t10, t11, _⟩ := HS.out W (PB.trans (hb.mono (below_size PB)))
    exact ⟨t0, t1, t2, t3, t4, t5, t6, t7, t8, t9, t10, t11, v3_of (blk_below P3 hb) trivial⟩⟩
  have HKU : Aside0 (∀ W, Below U.heap.size U W → SK W A2 c2 l2 A4 c4 l4 A5 c5 l5 A6 c6 l6) := ⟨fun W hb => HK.out W (PB.trans (hb.mono (below_size PB)))⟩
  have HBU := Aside0.mk (HBV.out.trans (PB.mono (below_size HBV.out)))
  have BKU := Aside0.mk (blk_below BK4.out PB)
  clear P3 PB HS HK HBV BK4 BB hg6 HFB HN
  have HY := Aside0.mk (Below.refl U.heap.size U)
  obtain ⟨t0, t1, t2, t3, t4, t5, t6, t7, t8, t9, t10, t11, t12, t13, t14, _⟩ := HSU.out U HY.out
  go_upto_region 11 with (first | (go_at_call 23; refine (un8 (laminaref16_CountEqual.calls k a0 a1 _ _ _ _ _ _ _ _ _ _ _ _ _ v.f0 v.f1 v.f2 e1_ e2_ _) (HKU.out _ HY.out) HE.out).mono ?_; rintro e w8 ⟨rfl, hb⟩; replace HY := Aside0.mk (HY.out.trans (hb.mono HY.out.size)); clear hb) | (refine box_ 7 (cs := #[.int .i64 0, .int .i64 0]) (t := 44) (fun g7 hg_ w9 BG hb => ?_); have hg7 : U.heap.size ≤ g7 := (by rw [hg_]; exact below_size HY.out); replace HY := Aside0.mk (HY.out.trans (hb.mono HY.out.size)); replace BG := Aside0.mk BG; clear hb hg_; obtain ⟨e0, e1, z0, z1⟩ := bf2 BG.out))
  have P2 := put2_blk BG.out (.int .i64 e1_) (.int .i64 e2_)
  have PB := put2_below HY.out hg7 (.int .i64 e1_) (.int .i64 e2_)
  unfold put2 at P2 PB
  clear t0 t1 t2 t3 t4 t5 t6 t7 t8 t9 t10 t11 t12 t13 t14 e0 e1 z0 z1 HY
  generalize (w9.setCell ⟨g7, 0, none⟩ (.int .i64 e1_)).setCell ⟨g7, 1, none⟩ (.int .i64 e2_) = Y at P2 PB ⊢
  have HS8 : Aside0 (∀ W, Below Y.heap.size Y W → sk7 g2 a0 a1 A2 c2 l2 b3 A4 c4 l4 A5 c5 l5 A6 c6 l6 W (p5 g3 p0 op v W (v3 g6 v W (i2 g7 e1_ e2_ W (True))))) := ⟨fun W hb => by
    obtain ⟨t0, t1, t2, t3, t4, t5, t6, t7, t8, t9, t10, t11, t12, t13, t14, _⟩ := HSU.out W (PB.trans (hb.mono (below_size PB)))
    exact ⟨t0, t1, t2, t3, t4, t5, t6, t7, t8, t9, t10, t11, t12, t13, t14, i2_of (blk_below P2 hb) trivial⟩⟩
  have HK8 : Aside0 (∀ W, Below Y.heap.size Y W → SK W A2 c2 l2 A4 c4 l4 A5 c5 l5 A6 c6 l6) := ⟨fun W hb => HKU.out W (PB.trans (hb.mono (below_size PB)))⟩
  have HB8 := Aside0.mk (HBU.out.trans (PB.mono (below_size HBU.out)))
  have BK8 := Aside0.mk (blk_below BKU.out PB)
  clear P2 PB HSU HKU HBU BKU BG hg7 HE
  have HY := Aside0.mk (Below.refl Y.heap.size Y)
  obtain ⟨t0, t1, t2, t3, t4, t5, t6, t7, t8, t9, t10, t11, t12, t13, t14, t15, t16, _⟩ := HS8.out Y HY.out
  have HSW2 := HSW.out
  unfold switchR at HSW2
  clear HSW
  by_cases h1 : op = 1
  · subst h1
    rw [if_pos rfl] at HSW2
    obtain ⟨q1, q2⟩ := Prod.mk.inj (Option.some.inj HSW2)
    clear HSW2
    have q1 : e1_ = r1 := q1
    have q2 : e2_ = r2 := q2
    subst q1
    subst q2
    have B4 := blk_below BK8.out HY.out
    obtain ⟨e0, e1, z0, z1⟩ := bf2 B4
    go_wp2
    refine ret2_ (p := fun W => bodyPost _ _ _ _ _ W) B4 (HB8.out.trans (HY.out.mono (below_size HB8.out))) hg4 (.int .i64 e1_) (.int .i64 e2_) (fun W d0 d1 rB => ?_)
    exact bodyPost_ret (v := .agg #[.int .i64 e1_, .int .i64 e2_]) (by simp [results, Try.results27, go_sem, d0, d1]) rfl ⟨rfl, rB⟩
  have hb1 : (op == 1) = false := by simp [h1]
  by_cases h2 : op = 2
  · subst h2
    rw [if_neg (by decide), if_pos rfl] at HSW2
    obtain ⟨q1, q2⟩ := Prod.mk.inj (Option.some.inj HSW2)
    clear HSW2
    have q1 : wrap64 (n - e2_) = r1 := q1
    have q2 : wrap64 (n - e1_) = r2 := q2
    subst q1
    subst q2
    have B4 := blk_below BK8.out HY.out
    obtain ⟨e0, e1, z0, z1⟩ := bf2 B4
    go_wp2
    refine ret2_ (p := fun W => bodyPost _ _ _ _ _ W) B4 (HB8.out.trans (HY.out.mono (below_size HB8.out))) hg4 (.int .i64 (wrap64 (n - e2_))) (.int .i64 (wrap64 (n - e1_))) (fun W d0 d1 rB => ?_)
    exact bodyPost_ret (v := .agg #[.int .i64 (wrap64 (n - e2_)), .int .i64 (wrap64 (n - e1_))]) (by simp [results, Try.results27, go_sem, d0, d1]) rfl ⟨rfl, rB⟩
  have hb2 : (op == 2) = false := by simp [h2]
  by_cases h3 : op = 3
  · subst h3
    rw [if_neg (by decide), if_neg (by decide), if_pos rfl] at HSW2
    obtain ⟨ra, hv0, HSW3⟩ := Option.bind_eq_some_iff.mp HSW2
    have HXra := Aside0.mk hv0
    obtain ⟨rb, hv1, HSW4⟩ := Option.bind_eq_some_iff.mp HSW3
    have HXrb := Aside0.mk hv1
    clear hv0 hv1 HSW2 HSW3
    obtain ⟨q1, q2⟩ := Prod.mk.inj (Option.some.inj HSW4)
    clear HSW4
    have q1 : ra = r1 := q1
    have q2 : rb = r2 := q2
    subst q1
    subst q2
    go_upto_region 17 with (fail)
    clear t0 t1 t2 t3 t4 t5 t6 t7 t8 t9 t10 t11 t12 t13 t14 t15 t16
    replace HY := Aside0.mk (below_drew1 HY.out)
    refine start_ (n := 8) (S := fun W => sk7 g2 a0 a1 A2 c2 l2 b3 A4 c4 l4 A5 c5 l5 A6 c6 l6 W (p5 g3 p0 3 v W (v3 g6 v W (i2 g7 e1_ e2_ W (True))))) (ds := [7]) #[false, false, false, false, false, false, false, false] (by kernel_rfl) rfl rfl (HS8.out _ HY.out) (fun hHeld => ?_)
    refine with_tabW f27_tab17 f27_bits17 (fun HT_ HW_ => ?_)
    generalize Y.drew = wd at HY hHeld ⊢
    refine tk_ HT_ HW_ 0 (some 52) hHeld ?_
    refine tk_ HT_ HW_ 1 (some 53) hHeld ?_
    refine tk_ HT_ HW_ 3 (some 55) hHeld ?_
    refine tk_ HT_ HW_ 4 (some 56) hHeld ?_
    refine cl_ HT_ 2 (some 54) Try.func78 (un8 (laminaref16_LessMin.calls k a0 a1 _ _ _ _ _ _ _ _ _ _ _ _ _ v.f0 v.f1 v.f2 false ra _) (HK8.out _ HY.out) HXra.out) HY HS8 (fun w9 HY hHeld => ?_)
    refine cl_ HT_ 5 (some 57) Try.func77 (un8 (laminaref16_LessMax.calls k a0 a1 _ _ _ _ _ _ _ _ _ _ _ _ _ v.f0 v.f1 v.f2 false rb _) (HK8.out _ HY.out) HXrb.out) HY HS8 (fun w9 HY hHeld => ?_)
    refine cl_ HT_ 6 (some 58) Try.func76 (laminaref16_span.calls ra rb ra rb _ rfl) HY HS8 (fun w9 HY hHeld => ?_)
    have B4 := blk_below BK8.out HY.out
    obtain ⟨e0, e1, z0, z1⟩ := bf2 B4
    refine last_ (i := 7) (N := none) #[true, true, true, true, true, true, true, true] rfl rfl (one_of HT_.out (by kernel_rfl)) (by decide) (fun K hK => ?_)
    refine skip_ (w1 := put2 w9 g4 (.int .i64 ra) (.int .i64 rb)) (by rfl) rfl ?_ ?_
    · unfold put2
      go_simp
    refine hK.out _ _ ?_
    clear hK K e0 e1 z0 z1
    refine done_ (done_of HT_.out (by kernel_rfl)) ?_
    clear HT_ HW_ hHeld
    go_wp2
    unfold put2
    refine ret2_ (p := fun W => bodyPost _ _ _ _ _ W) B4 (HB8.out.trans (HY.out.mono (below_size HB8.out))) hg4 (.int .i64 ra) (.int .i64 rb) (fun W d0 d1 rB => ?_)
    exact bodyPost_ret (v := .agg #[.int .i64 ra, .int .i64 rb]) (by simp [results, Try.results27, go_sem, d0, d1]) rfl ⟨rfl, rB⟩
  have hb3 : (op == 3) = false := by simp [h3]
  by_cases h4 : op = 4
  · subst h4
    rw [if_neg (by decide), if_neg (by decide), if_neg (by decide), if_pos rfl] at HSW2
    obtain ⟨ra, hv0, HSW3⟩ := Option.bind_eq_some_iff.mp HSW2
    have HXra := Aside0.mk hv0
    obtain ⟨rb, hv1, HSW4⟩ := Option.bind_eq_some_iff.mp HSW3
    have HXrb := Aside0.mk hv1
    clear hv0 hv1 HSW2 HSW3
    obtain ⟨q1, q2⟩ := Prod.mk.inj (Option.some.inj HSW4)
    clear HSW4
    have q1 : ra = r1 := q1
    have q2 : rb = r2 := q2
    subst q1
    subst q2
    go_upto_region 19 with (fail)
    clear t0 t1 t2 t3 t4 t5 t6 t7 t8 t9 t10 t11 t12 t13 t14 t15 t16
    replace HY := Aside0.mk (below_drew1 HY.out)
    refine start_ (n := 8) (S := fun W => sk7 g2 a0 a1 A2 c2 l2 b3 A4 c4 l4 A5 c5 l5 A6 c6 l6 W (p5 g3 p0 4 v W (v3 g6 v W (i2 g7 e1_ e2_ W (True))))) (ds := [7]) #[false, false, false, false, false, false, false, false] (by kernel_rfl) rfl rfl (HS8.out _ HY.out) (fun hHeld => ?_)
    refine with_tabW f27_tab19 f27_bits19 (fun HT_ HW_ => ?_)
    generalize Y.drew = wd at HY hHeld ⊢
    refine tk_ HT_ HW_ 0 (some 61) hHeld ?_
    refine tk_ HT_ HW_ 1 (some 62) hHeld ?_
    refine tk_ HT_ HW_ 3 (some 64) hHeld ?_
    refine tk_ HT_ HW_ 4 (some 65) hHeld ?_
    refine cl_ HT_ 2 (some 63) Try.func78 (un8 (laminaref16_LessMin.calls k a0 a1 _ _ _ _ _ _ _ _ _ _ _ _ _ v.f0 v.f1 v.f2 true ra _) (HK8.out _ HY.out) HXra.out) HY HS8 (fun w9 HY hHeld => ?_)
    refine cl_ HT_ 5 (some 66) Try.func77 (un8 (laminaref16_LessMax.calls k a0 a1 _ _ _ _ _ _ _ _ _ _ _ _ _ v.f0 v.f1 v.f2 true rb _) (HK8.out _ HY.out) HXrb.out) HY HS8 (fun w9 HY hHeld => ?_)
    refine cl_ HT_ 6 (some 67) Try.func76 (laminaref16_span.calls ra rb ra rb _ rfl) HY HS8 (fun w9 HY hHeld => ?_)
    have B4 := blk_below BK8.out HY.out
    obtain ⟨e0, e1, z0, z1⟩ := bf2 B4
    refine last_ (i := 7) (N := none) #[true, true, true, true, true, true, true, true] rfl rfl (one_of HT_.out (by kernel_rfl)) (by decide) (fun K hK => ?_)
    refine skip_ (w1 := put2 w9 g4 (.int .i64 ra) (.int .i64 rb)) (by rfl) rfl ?_ ?_
    · unfold put2
      go_simp
    refine hK.out _ _ ?_
    clear hK K e0 e1 z0 z1
    refine done_ (done_of HT_.out (by kernel_rfl)) ?_
    clear HT_ HW_ hHeld
    go_wp2
    unfold put2
    refine ret2_ (p := fun W => bodyPost _ _ _ _ _ W) B4 (HB8.out.trans (HY.out.mono (below_size HB8.out))) hg4 (.int .i64 ra) (.int .i64 rb) (fun W d0 d1 rB => ?_)
    exact bodyPost_ret (v := .agg #[.int .i64 ra, .int .i64 rb]) (by simp [results, Try.results27, go_sem, d0, d1]) rfl ⟨rfl, rB⟩
  have hb4 : (op == 4) = false := by simp [h4]
  by_cases h5 : op = 5
  · subst h5
    rw [if_neg (by decide), if_neg (by decide), if_neg (by decide), if_neg (by decide), if_pos rfl] at HSW2
    obtain ⟨rb, hv0, HSW3⟩ := Option.bind_eq_some_iff.mp HSW2
    have HXrb := Aside0.mk hv0
    obtain ⟨ra, hv1, HSW4⟩ := Option.bind_eq_some_iff.mp HSW3
    have HXra := Aside0.mk hv1
    clear hv0 hv1 HSW2 HSW3
    obtain ⟨q1, q2⟩ := Prod.mk.inj (Option.some.inj HSW4)
    clear HSW4
    have q1 : (wrap64 (n - rb)) = r1 := q1
    have q2 : (wrap64 (n - ra)) = r2 := q2
    subst q1
    subst q2
    go_upto_region 21 with (fail)
    clear t0 t1 t2 t3 t4 t5 t6 t7 t8 t9 t10 t11 t12 t13 t14 t15 t16
    replace HY := Aside0.mk (below_drew1 HY.out)
    refine start_ (n := 12) (S := fun W => sk7 g2 a0 a1 A2 c2 l2 b3 A4 c4 l4 A5 c5 l5 A6 c6 l6 W (p5 g3 p0 5 v W (v3 g6 v W (i2 g7 e1_ e2_ W (True))))) (ds := [11]) #[false, false, false, false, false, false, false, false, false, false, false, false] (by kernel_rfl) rfl rfl (HS8.out _ HY.out) (fun hHeld => ?_)
    refine with_tabW f27_tab21 f27_bits21 (fun HT_ HW_ => ?_)
    generalize Y.drew = wd at HY hHeld ⊢
    refine pu_ HT_ 0 (some 70) ?_
    refine tk_ HT_ HW_ 1 (some 71) hHeld ?_
    refine tk_ HT_ HW_ 2 (some 72) hHeld ?_
    refine pu_ HT_ 5 (some 75) ?_
    refine tk_ HT_ HW_ 6 (some 76) hHeld ?_
    refine tk_ HT_ HW_ 7 (some 77) hHeld ?_
    refine cl_ HT_ 3 (some 73) Try.func77 (un8 (laminaref16_LessMax.calls k a0 a1 _ _ _ _ _ _ _ _ _ _ _ _ _ v.f0 v.f1 v.f2 true rb _) (HK8.out _ HY.out) HXrb.out) HY HS8 (fun w9 HY hHeld => ?_)
    refine pu_ HT_ 4 (some 74) ?_
    refine cl_ HT_ 8 (some 78) Try.func78 (un8 (laminaref16_LessMin.calls k a0 a1 _ _ _ _ _ _ _ _ _ _ _ _ _ v.f0 v.f1 v.f2 true ra _) (HK8.out _ HY.out) HXra.out) HY HS8 (fun w9 HY hHeld => ?_)
    refine pu_ HT_ 9 (some 79) ?_
    refine cl_ HT_ 10 (some 80) Try.func76 (laminaref16_span.calls (wrap64 (n - rb)) (wrap64 (n - ra)) (wrap64 (n - rb)) (wrap64 (n - ra)) _ rfl) HY HS8 (fun w9 HY hHeld => ?_)
    have B4 := blk_below BK8.out HY.out
    obtain ⟨e0, e1, z0, z1⟩ := bf2 B4
    refine last_ (i := 11) (N := none) #[true, true, true, true, true, true, true, true, true, true, true, true] rfl rfl (one_of HT_.out (by kernel_rfl)) (by decide) (fun K hK => ?_)
    refine skip_ (w1 := put2 w9 g4 (.int .i64 (wrap64 (n - rb))) (.int .i64 (wrap64 (n - ra)))) (by rfl) rfl ?_ ?_
    · unfold put2
      go_simp
    refine hK.out _ _ ?_
    clear hK K e0 e1 z0 z1
    refine done_ (done_of HT_.out (by kernel_rfl)) ?_
    clear HT_ HW_ hHeld
    go_wp2
    unfold put2
    refine ret2_ (p := fun W => bodyPost _ _ _ _ _ W) B4 (HB8.out.trans (HY.out.mono (below_size HB8.out))) hg4 (.int .i64 (wrap64 (n - rb))) (.int .i64 (wrap64 (n - ra))) (fun W d0 d1 rB => ?_)
    exact bodyPost_ret (v := .agg #[.int .i64 (wrap64 (n - rb)), .int .i64 (wrap64 (n - ra))]) (by simp [results, Try.results27, go_sem, d0, d1]) rfl ⟨rfl, rB⟩
  have hb5 : (op == 5) = false := by simp [h5]
  by_cases h6 : op = 6
  · subst h6
    rw [if_neg (by decide), if_neg (by decide), if_neg (by decide), if_neg (by decide), if_neg (by decide), if_pos rfl] at HSW2
    obtain ⟨rb, hv0, HSW3⟩ := Option.bind_eq_some_iff.mp HSW2
    have HXrb := Aside0.mk hv0
    obtain ⟨ra, hv1, HSW4⟩ := Option.bind_eq_some_iff.mp HSW3
    have HXra := Aside0.mk hv1
    clear hv0 hv1 HSW2 HSW3
    obtain ⟨q1, q2⟩ := Prod.mk.inj (Option.some.inj HSW4)
    clear HSW4
    have q1 : (wrap64 (n - rb)) = r1 := q1
    have q2 : (wrap64 (n - ra)) = r2 := q2
    subst q1
    subst q2
    go_upto_region 23 with (fail)
    clear t0 t1 t2 t3 t4 t5 t6 t7 t8 t9 t10 t11 t12 t13 t14 t15 t16
    replace HY := Aside0.mk (below_drew1 HY.out)
    refine start_ (n := 12) (S := fun W => sk7 g2 a0 a1 A2 c2 l2 b3 A4 c4 l4 A5 c5 l5 A6 c6 l6 W (p5 g3 p0 6 v W (v3 g6 v W (i2 g7 e1_ e2_ W (True))))) (ds := [11]) #[false, false, false, false, false, false, false, false, false, false, false, false] (by kernel_rfl) rfl rfl (HS8.out _ HY.out) (fun hHeld => ?_)
    refine with_tabW f27_tab23 f27_bits23 (fun HT_ HW_ => ?_)
    generalize Y.drew = wd at HY hHeld ⊢
    refine pu_ HT_ 0 (some 83) ?_
    refine tk_ HT_ HW_ 1 (some 84) hHeld ?_
    refine tk_ HT_ HW_ 2 (some 85) hHeld ?_
    refine pu_ HT_ 5 (some 88) ?_
    refine tk_ HT_ HW_ 6 (some 89) hHeld ?_
    refine tk_ HT_ HW_ 7 (some 90) hHeld ?_
    refine cl_ HT_ 3 (some 86) Try.func77 (un8 (laminaref16_LessMax.calls k a0 a1 _ _ _ _ _ _ _ _ _ _ _ _ _ v.f0 v.f1 v.f2 false rb _) (HK8.out _ HY.out) HXrb.out) HY HS8 (fun w9 HY hHeld => ?_)
    refine pu_ HT_ 4 (some 87) ?_
    refine cl_ HT_ 8 (some 91) Try.func78 (un8 (laminaref16_LessMin.calls k a0 a1 _ _ _ _ _ _ _ _ _ _ _ _ _ v.f0 v.f1 v.f2 false ra _) (HK8.out _ HY.out) HXra.out) HY HS8 (fun w9 HY hHeld => ?_)
    refine pu_ HT_ 9 (some 92) ?_
    refine cl_ HT_ 10 (some 93) Try.func76 (laminaref16_span.calls (wrap64 (n - rb)) (wrap64 (n - ra)) (wrap64 (n - rb)) (wrap64 (n - ra)) _ rfl) HY HS8 (fun w9 HY hHeld => ?_)
    have B4 := blk_below BK8.out HY.out
    obtain ⟨e0, e1, z0, z1⟩ := bf2 B4
    refine last_ (i := 11) (N := none) #[true, true, true, true, true, true, true, true, true, true, true, true] rfl rfl (one_of HT_.out (by kernel_rfl)) (by decide) (fun K hK => ?_)
    refine skip_ (w1 := put2 w9 g4 (.int .i64 (wrap64 (n - rb))) (.int .i64 (wrap64 (n - ra)))) (by rfl) rfl ?_ ?_
    · unfold put2
      go_simp
    refine hK.out _ _ ?_
    clear hK K e0 e1 z0 z1
    refine done_ (done_of HT_.out (by kernel_rfl)) ?_
    clear HT_ HW_ hHeld
    go_wp2
    unfold put2
    refine ret2_ (p := fun W => bodyPost _ _ _ _ _ W) B4 (HB8.out.trans (HY.out.mono (below_size HB8.out))) hg4 (.int .i64 (wrap64 (n - rb))) (.int .i64 (wrap64 (n - ra))) (fun W d0 d1 rB => ?_)
    exact bodyPost_ret (v := .agg #[.int .i64 (wrap64 (n - rb)), .int .i64 (wrap64 (n - ra))]) (by simp [results, Try.results27, go_sem, d0, d1]) rfl ⟨rfl, rB⟩
  have hb6 : (op == 6) = false := by simp [h6]
  rw [if_neg h1, if_neg h2, if_neg h3, if_neg h4, if_neg h5, if_neg h6] at HSW2
  clear h1 h2 h3 h4 h5 h6
  obtain ⟨q1, q2⟩ := Prod.mk.inj (Option.some.inj HSW2)
  clear HSW2
  have q1 : 0 = r1 := q1
  have q2 : 0 = r2 := q2
  subst q1
  subst q2
  go_wp2_with (go_at_call 76; refine (laminaref16_span.calls 0 0 0 0 _ rfl).mono ?_; rintro e w9 ⟨rfl, hb⟩; replace HY := Aside0.mk (HY.out.trans (hb.mono HY.out.size)); clear hb; have B4 := blk_below BK8.out HY.out; obtain ⟨e0, e1, z0, z1⟩ := bf2 B4)
  refine ret2_ (p := fun W => bodyPost _ _ _ _ _ W) B4 (HB8.out.trans (HY.out.mono (below_size HB8.out))) hg4 (.int .i64 0) (.int .i64 0) (fun W d0 d1 rB => ?_)
  exact bodyPost_ret (v := .agg #[.int .i64 0, .int .i64 0]) (by simp [results, Try.results27, go_sem, d0, d1]) rfl ⟨rfl, rB⟩
theorem laminaref16_CountMatching.calls (k : Nat) (a0_0 : Int) (a0_1 : Int) (A0_2 : Option Addr) (c0_2 : Nat) (l0_2 : List Int) (a0_3 : Bool) (A0_4 : Option Addr) (c0_4 : Nat) (l0_4 : List Int) (A0_5 : Option Addr) (c0_5 : Nat) (l0_5 : List (S39)) (A0_6 : Option Addr) (c0_6 : Nat) (l0_6 : List Int) (a1_0 : Int) (a1_1 : Int) (a1_2 : Int) (a1_3 : Int) (a1_4 : ByteArray) (r1 : Int) (r2 : Int) (w : World) (hr0_2 : Kd.C (Kd.int .u64) w A0_2 l0_2.length l0_2) (hc0_2 : l0_2.length ≤ c0_2) (hr0_4 : Kd.C (Kd.int .i64) w A0_4 l0_4.length l0_4) (hc0_4 : l0_4.length ≤ c0_4) (hr0_5 : Kd.C k39 w A0_5 l0_5.length l0_5) (hc0_5 : l0_5.length ≤ c0_5) (hr0_6 : Kd.C (Kd.int .i64) w A0_6 l0_6.length l0_6) (hc0_6 : l0_6.length ≤ c0_6) (h : laminaref16_CountMatching.f k a0_0 a0_1 l0_2 a0_3 l0_4 l0_5 l0_6 a1_0 a1_1 a1_2 a1_3 a1_4 = some (r1, r2)) :
    Calls Try.prog 27 #[.agg #[.int .i64 a0_0, .int .i64 a0_1, .slice A0_2 l0_2.length c0_2, .bool a0_3, .slice A0_4 l0_4.length c0_4, .slice A0_5 l0_5.length c0_5, .slice A0_6 l0_6.length c0_6], .agg #[.int .i64 a1_0, .int .i64 a1_1, .int .i64 a1_2, .int .i64 a1_3, .string a1_4]] w fun e w' => e = .returned (.agg #[.int .i64 r1, .int .i64 r2]) ∧ Below w.heap.size w w' :=
  laminaref16_CountMatching.calls0 k a0_0 a0_1 A0_2 c0_2 l0_2 a0_3 A0_4 c0_4 l0_4 A0_5 c0_5 l0_5 A0_6 c0_6 l0_6 a1_0 a1_1 ⟨a1_2, a1_3, a1_4⟩ r1 r2 w hr0_2 hc0_2 hr0_4 hc0_4 hr0_5 hc0_5 hr0_6 hc0_6 h
theorem sketch_CountMatching.calls (k : Nat) (a0_0 : Int) (a0_1 : Int) (A0_2 : Option Addr) (c0_2 : Nat) (l0_2 : List Int) (a0_3 : Bool) (A0_4 : Option Addr) (c0_4 : Nat) (l0_4 : List Int) (A0_5 : Option Addr) (c0_5 : Nat) (l0_5 : List (S39)) (A0_6 : Option Addr) (c0_6 : Nat) (l0_6 : List Int) (a1_0 : Int) (a1_1 : Int) (a1_2 : Int) (a1_3 : Int) (a1_4 : ByteArray) (r1 : Int) (r2 : Int) (w : World) (hr0_2 : Kd.C (Kd.int .u64) w A0_2 l0_2.length l0_2) (hc0_2 : l0_2.length ≤ c0_2) (hr0_4 : Kd.C (Kd.int .i64) w A0_4 l0_4.length l0_4) (hc0_4 : l0_4.length ≤ c0_4) (hr0_5 : Kd.C k39 w A0_5 l0_5.length l0_5) (hc0_5 : l0_5.length ≤ c0_5) (hr0_6 : Kd.C (Kd.int .i64) w A0_6 l0_6.length l0_6) (hc0_6 : l0_6.length ≤ c0_6) (h : sketch_CountMatching.f k a0_0 a0_1 l0_2 a0_3 l0_4 l0_5 l0_6 a1_0 a1_1 a1_2 a1_3 a1_4 = some (r1, r2)) :
    Calls Try.prog 26 #[.agg #[.int .i64 a0_0, .int .i64 a0_1, .slice A0_2 l0_2.length c0_2, .bool a0_3, .slice A0_4 l0_4.length c0_4, .slice A0_5 l0_5.length c0_5, .slice A0_6 l0_6.length c0_6], .agg #[.int .i64 a1_0, .int .i64 a1_1, .int .i64 a1_2, .int .i64 a1_3, .string a1_4]] w fun e w' => e = .returned (.agg #[.int .i64 r1, .int .i64 r2]) ∧ Below w.heap.size w w' :=
  f26_calls k a0_0 a0_1 A0_2 c0_2 l0_2 a0_3 A0_4 c0_4 l0_4 A0_5 c0_5 l0_5 A0_6 c0_6 l0_6 a1_0 a1_1 ⟨a1_2, a1_3, a1_4⟩ r1 r2 w hr0_2 hc0_2 hr0_4 hc0_4 hr0_5 hc0_5 hr0_6 hc0_6 h
end Go.Proofs.Ytackcingpffidaa.P
namespace Go.Proofs.Ytackcingpffidaa.P
open Go.RowKit Go.Sort Go.Proofs.YtackcingpffidaaW.PrintWords Go.Proofs.YtackcingpffidaaW.PrintLast Go.Proofs.YtackcingpffidaaW.PrintMore
set_option linter.unusedVariables false
set_option linter.unusedSimpArgs false
theorem grow2 (W : World) (b1 b2 : Obj) (n : Nat) : ((W.alloc b1).alloc b2).drewN n = grow (W.drewN n) #[b1, b2] := by
  have h : (W.heap.push b1).push b2 = W.heap ++ #[b1, b2] := by
    apply Array.ext'
    simp
  show ({ W with heap := (W.heap.push b1).push b2, drawn := W.drawn + n } : World) = { W with heap := W.heap ++ #[b1, b2], drawn := W.drawn + n }
  rw [h]
set_option maxHeartbeats 2000000 in
set_option maxRecDepth 100000 in
theorem cV_grown (x y : S39) (c : Int) (h : cV x y = c) (W : World) : Calls Try.prog 53 #[.agg #[.int .i64 x.f0, .int .i64 x.f1, .string x.f2], .agg #[.int .i64 y.f0, .int .i64 y.f1, .string y.f2]] W fun e w' => e = .returned (.int .i64 c) ∧ ∃ q os', w' = grow (W.drewN q) os' := by
  have hf : value_Compare.f x.f0 x.f1 x.f2 y.f0 y.f1 y.f2 = some c := by rw [cV_is, h]
  have g1 : ((W.alloc (.cells #[.int .i64 x.f0, .int .i64 x.f1, .string x.f2] 39)).alloc (.cells #[.int .i64 y.f0, .int .i64 y.f1, .string y.f2] 39)).heap[W.heap.size]? = some (.cells #[.int .i64 x.f0, .int .i64 x.f1, .string x.f2] 39 (0, 0)) := blk_alloc (heap_alloc_new W (.cells #[.int .i64 x.f0, .int .i64 x.f1, .string x.f2] 39)) _
  have g2 : ((W.alloc (.cells #[.int .i64 x.f0, .int .i64 x.f1, .string x.f2] 39)).alloc (.cells #[.int .i64 y.f0, .int .i64 y.f1, .string y.f2] 39)).heap[W.heap.size + 1]? = some (.cells #[.int .i64 y.f0, .int .i64 y.f1, .string y.f2] 39 (0, 0)) := by
    have := heap_alloc_new (W.alloc (.cells #[.int .i64 x.f0, .int .i64 x.f1, .string x.f2] 39)) (.cells #[.int .i64 y.f0, .int .i64 y.f1, .string y.f2] 39)
    rwa [World.size_alloc] at this
  have p0 : ((W.alloc (.cells #[.int .i64 x.f0, .int .i64 x.f1, .string x.f2] 39)).alloc (.cells #[.int .i64 y.f0, .int .i64 y.f1, .string y.f2] 39)).cell? ⟨W.heap.size, 0, none⟩ = some (.int .i64 x.f0) := (blk_cell g1 0).trans rfl
  have p1 : ((W.alloc (.cells #[.int .i64 x.f0, .int .i64 x.f1, .string x.f2] 39)).alloc (.cells #[.int .i64 y.f0, .int .i64 y.f1, .string y.f2] 39)).cell? ⟨W.heap.size, 1, none⟩ = some (.int .i64 x.f1) := (blk_cell g1 1).trans rfl
  have p2 : ((W.alloc (.cells #[.int .i64 x.f0, .int .i64 x.f1, .string x.f2] 39)).alloc (.cells #[.int .i64 y.f0, .int .i64 y.f1, .string y.f2] 39)).cell? ⟨W.heap.size, 2, none⟩ = some (.string x.f2) := (blk_cell g1 2).trans rfl
  have q0 : ((W.alloc (.cells #[.int .i64 x.f0, .int .i64 x.f1, .string x.f2] 39)).alloc (.cells #[.int .i64 y.f0, .int .i64 y.f1, .string y.f2] 39)).cell? ⟨W.heap.size + 1, 0, none⟩ = some (.int .i64 y.f0) := (blk_cell g2 0).trans rfl
  have q1 : ((W.alloc (.cells #[.int .i64 x.f0, .int .i64 x.f1, .string x.f2] 39)).alloc (.cells #[.int .i64 y.f0, .int .i64 y.f1, .string y.f2] 39)).cell? ⟨W.heap.size + 1, 1, none⟩ = some (.int .i64 y.f1) := (blk_cell g2 1).trans rfl
  have q2 : ((W.alloc (.cells #[.int .i64 x.f0, .int .i64 x.f1, .string x.f2] 39)).alloc (.cells #[.int .i64 y.f0, .int .i64 y.f1, .string y.f2] 39)).cell? ⟨W.heap.size + 1, 2, none⟩ = some (.string y.f2) := (blk_cell g2 2).trans rfl
  clear g1 g2 h
  unfold value_Compare.f at hf
  by_cases hk : x.f0 = y.f0
  · rw [if_pos hk] at hf
    have hkb : (x.f0 != y.f0) = false := by simp [hk]
    by_cases h3 : x.f0 = 3
    · rw [if_pos h3] at hf
      obtain ⟨t, ht, he⟩ := Option.bind_eq_some_iff.mp hf
      obtain rfl := Option.some.inj he
      have HC : Aside0 (∀ w', Calls Try.prog 100 #[.string x.f2, .string y.f2] w' fun e w'' => e = .returned (.int .i64 t) ∧ Drawn0 w' w'') := ⟨fun w' => strings_Compare.calls x.f2 y.f2 t w' ht⟩
      have e3 : (x.f0 == 3) = true := by simp [h3]
      clear hf he ht hk h3
      go_enter Try.func53, Try.ntmps53; go_wp2_with (first | (go_at_call 99; refine (HC.out _).mono ?_; rintro e w1 ⟨rfl, n, rfl⟩) | (go_at_call 100; refine (HC.out _).mono ?_; rintro e w1 ⟨rfl, n, rfl⟩)); go_ret
      exact ⟨rfl, _, _, grow2 W _ _ _⟩
    · rw [if_neg h3] at hf
      have e3 : (x.f0 == 3) = false := by simp [h3]
      by_cases h1 : x.f0 = 1
      · rw [if_pos h1] at hf
        obtain ⟨t, ht, he⟩ := Option.bind_eq_some_iff.mp hf
        obtain rfl := Option.some.inj he
        have HC : Aside0 (∀ w', Calls Try.prog 99 #[.bool (decide (x.f1 < y.f1)), .bool (decide (y.f1 < x.f1))] w' fun e w'' => e = .returned (.int .i64 t) ∧ Drawn0 w' w'') := ⟨fun w' => value_sign.calls _ _ t w' ht⟩
        have e1 : (x.f0 == 1) = true := by simp [h1]
        clear hf he ht hk h3 h1
        go_enter Try.func53, Try.ntmps53; go_wp2_with (first | (go_at_call 99; refine (HC.out _).mono ?_; rintro e w1 ⟨rfl, n, rfl⟩) | (go_at_call 100; refine (HC.out _).mono ?_; rintro e w1 ⟨rfl, n, rfl⟩)); go_ret
        exact ⟨rfl, _, _, grow2 W _ _ _⟩
      · rw [if_neg h1] at hf
        have e1 : (x.f0 == 1) = false := by simp [h1]
        by_cases h2 : x.f0 = 2
        · rw [if_pos h2] at hf
          obtain ⟨t, ht, he⟩ := Option.bind_eq_some_iff.mp hf
          obtain rfl := Option.some.inj he
          have HC : Aside0 (∀ w', Calls Try.prog 99 #[.bool (decide (x.f1 < y.f1)), .bool (decide (y.f1 < x.f1))] w' fun e w'' => e = .returned (.int .i64 t) ∧ Drawn0 w' w'') := ⟨fun w' => value_sign.calls _ _ t w' ht⟩
          have e2 : (x.f0 == 2) = true := by simp [h2]
          clear hf he ht hk h3 h1 h2
          go_enter Try.func53, Try.ntmps53; go_wp2_with (first | (go_at_call 99; refine (HC.out _).mono ?_; rintro e w1 ⟨rfl, n, rfl⟩) | (go_at_call 100; refine (HC.out _).mono ?_; rintro e w1 ⟨rfl, n, rfl⟩)); go_ret
          exact ⟨rfl, _, _, grow2 W _ _ _⟩
        · rw [if_neg h2] at hf
          obtain rfl := Option.some.inj hf
          have e2 : (x.f0 == 2) = false := by simp [h2]
          clear hf hk h3 h1 h2
          go_enter Try.func53, Try.ntmps53
          go_wp2
          go_ret
          exact ⟨rfl, 0, _, grow2 W _ _ 0⟩
  · rw [if_neg hk] at hf
    obtain ⟨t, ht, he⟩ := Option.bind_eq_some_iff.mp hf
    obtain rfl := Option.some.inj he
    have hkb : (x.f0 != y.f0) = true := by simp [hk]
    have HC : Aside0 (∀ w', Calls Try.prog 99 #[.bool (decide (x.f0 < y.f0)), .bool true] w' fun e w'' => e = .returned (.int .i64 t) ∧ Drawn0 w' w'') := ⟨fun w' => value_sign.calls _ _ t w' ht⟩
    clear hf he ht hk
    go_enter Try.func53, Try.ntmps53; go_wp2_with (first | (go_at_call 99; refine (HC.out _).mono ?_; rintro e w1 ⟨rfl, n, rfl⟩) | (go_at_call 100; refine (HC.out _).mono ?_; rintro e w1 ⟨rfl, n, rfl⟩)); go_ret
    exact ⟨rfl, _, _, grow2 W _ _ _⟩
end Go.Proofs.Ytackcingpffidaa.P
namespace Go.Proofs
open Go.Shelf
def Try.laysSortF_ren : Go.Shelf.Ren := ⟨fun | 6 => 52 | 15 => 98 | 14 => 97 | 28 => 120 | 29 => 121 | 20 => 112 | 21 => 113 | 22 => 114 | 23 => 115 | 24 => 116 | 25 => 117 | 26 => 118 | 27 => 119 | 46 => 128 | 47 => 129 | 48 => 130 | 49 => 131 | 50 => 132 | 57 => 142 | n => n, fun | 22 => 24 | 24 => 39 | 25 => 52 | 3 => 3 | 39 => 109 | 0 => 0 | 53 => 136 | 55 => 53 | 4 => 4 | 46 => 130 | 45 => 129 | 50 => 93 | 5 => 5 | 9 => 9 | 66 => 141 | 70 => 144 | 76 => 151 | 77 => 152 | n => n, fun | n => n⟩
theorem Try.laysSortF : Go.Proofs.SlLaysF0.n6 Try.prog Try.laysSortF_ren := {
  mixed := by kernel_rfl
  f6 := ⟨Try.f52.name, by decide, Try.func52.trans (congrArg some (by kernel_rfl))⟩
  f14 := ⟨Try.f97.name, by decide, Try.func97.trans (congrArg some (by kernel_rfl))⟩
  f15 := Try.func98.trans (congrArg some (by kernel_rfl))
  f20 := ⟨Try.f112.name, by decide, Try.func112.trans (congrArg some (by kernel_rfl))⟩
  f21 := ⟨Try.f113.name, by decide, Try.func113.trans (congrArg some (by kernel_rfl))⟩
  f22 := ⟨Try.f114.name, by decide, Try.func114.trans (congrArg some (by kernel_rfl))⟩
  f23 := ⟨Try.f115.name, by decide, Try.func115.trans (congrArg some (by kernel_rfl))⟩
  f24 := ⟨Try.f116.name, by decide, Try.func116.trans (congrArg some (by kernel_rfl))⟩
  f25 := ⟨Try.f117.name, by decide, Try.func117.trans (congrArg some (by kernel_rfl))⟩
  f26 := ⟨Try.f118.name, by decide, Try.func118.trans (congrArg some (by kernel_rfl))⟩
  f27 := ⟨Try.f119.name, by decide, Try.func119.trans (congrArg some (by kernel_rfl))⟩
  f28 := Try.func120.trans (congrArg some (by kernel_rfl))
  f29 := Try.func121.trans (congrArg some (by kernel_rfl))
  f46 := ⟨Try.f128.name, by decide, Try.func128.trans (congrArg some (by kernel_rfl))⟩
  f47 := Try.func129.trans (congrArg some (by kernel_rfl))
  f48 := Try.func130.trans (congrArg some (by kernel_rfl))
  f49 := ⟨Try.f131.name, by decide, Try.func131.trans (congrArg some (by kernel_rfl))⟩
  f50 := ⟨Try.f132.name, by decide, Try.func132.trans (congrArg some (by kernel_rfl))⟩
  f57 := ⟨Try.f142.name, by decide, Try.func142.trans (congrArg some (by kernel_rfl))⟩
  t0 := Try.underlying0
  a0 := Try.isAgg0
  z0 := Try.sizeOf0
  v0 := Try.zeroValue0
  t3 := Try.underlying3
  a3 := Try.isAgg3
  z3 := Try.sizeOf3
  v3 := Try.zeroValue3
  t4 := Try.underlying4
  a4 := Try.isAgg4
  z4 := Try.sizeOf4
  v4 := Try.zeroValue4
  t5 := Try.underlying5
  a5 := Try.isAgg5
  z5 := Try.sizeOf5
  v5 := Try.zeroValue5
  t9 := Try.underlying9
  a9 := Try.isAgg9
  z9 := Try.sizeOf9
  v9 := Try.zeroValue9
  t22 := Try.underlying24
  a22 := Try.isAgg24
  z22 := Try.sizeOf24
  v22 := Try.zeroValue24
  t25 := Try.underlying52
  a25 := Try.isAgg52
  z25 := Try.sizeOf52
  v25 := Try.zeroValue52
  t39 := Try.underlying109
  a39 := Try.isAgg109
  z39 := Try.sizeOf109
  v39 := Try.zeroValue109
  t45 := Try.underlying129
  a45 := Try.isAgg129
  z45 := Try.sizeOf129
  v45 := Try.zeroValue129
  t46 := Try.underlying130
  a46 := Try.isAgg130
  z46 := Try.sizeOf130
  v46 := Try.zeroValue130
  t50 := Try.underlying93
  a50 := Try.isAgg93
  z50 := Try.sizeOf93
  v50 := Try.zeroValue93
  t53 := Try.underlying136
  a53 := Try.isAgg136
  z53 := Try.sizeOf136
  v53 := Try.zeroValue136
  t55 := Try.underlying53
  a55 := Try.isAgg53
  z55 := Try.sizeOf53
  v55 := Try.zeroValue53
  t66 := Try.underlying141
  a66 := Try.isAgg141
  z66 := Try.sizeOf141
  v66 := Try.zeroValue141
  t70 := Try.underlying144
  a70 := Try.isAgg144
  z70 := Try.sizeOf144
  v70 := Try.zeroValue144
  t76 := Try.underlying151
  a76 := Try.isAgg151
  z76 := Try.sizeOf151
  v76 := Try.zeroValue151
  t77 := Try.underlying152
  a77 := Try.isAgg152
  z77 := Try.sizeOf152
  v77 := Try.zeroValue152 }
def Try.laysCompact_ren : Go.Shelf.Ren := ⟨fun | 43 => 104 | n => n, fun | 22 => 22 | 23 => 53 | 3 => 3 | 4 => 4 | 0 => 0 | n => n, fun | n => n⟩
theorem Try.laysCompact : Go.Proofs.SlLaysE.n43 Try.prog Try.laysCompact_ren := {
  mixed := by kernel_rfl
  f43 := ⟨Try.f104.name, by decide, Try.func104.trans (congrArg some (by kernel_rfl))⟩
  t0 := Try.underlying0
  a0 := Try.isAgg0
  z0 := Try.sizeOf0
  v0 := Try.zeroValue0
  t3 := Try.underlying3
  a3 := Try.isAgg3
  z3 := Try.sizeOf3
  v3 := Try.zeroValue3
  t4 := Try.underlying4
  a4 := Try.isAgg4
  z4 := Try.sizeOf4
  v4 := Try.zeroValue4
  t22 := Try.underlying22
  a22 := Try.isAgg22
  z22 := Try.sizeOf22
  v22 := Try.zeroValue22
  a23 := Try.isAgg53
  z23 := Try.sizeOf53 }
def Try.laysBits_ren : Go.Shelf.Ren := ⟨fun | 125 => 98 | 128 => 120 | 129 => 121 | n => n, fun | 46 => 109 | 3 => 3 | 51 => 136 | 53 => 53 | 4 => 4 | 5 => 5 | 9 => 9 | n => n, fun | n => n⟩
theorem Try.laysBits : Go.Proofs.Lays.n125 Try.prog Try.laysBits_ren := {
  mixed := by kernel_rfl
  f125 := Try.func98.trans (congrArg some (by kernel_rfl))
  f128 := Try.func120.trans (congrArg some (by kernel_rfl))
  f129 := Try.func121.trans (congrArg some (by kernel_rfl))
  t3 := Try.underlying3
  a3 := Try.isAgg3
  z3 := Try.sizeOf3
  v3 := Try.zeroValue3
  t4 := Try.underlying4
  a4 := Try.isAgg4
  z4 := Try.sizeOf4
  v4 := Try.zeroValue4
  t5 := Try.underlying5
  a5 := Try.isAgg5
  z5 := Try.sizeOf5
  v5 := Try.zeroValue5
  t9 := Try.underlying9
  a9 := Try.isAgg9
  z9 := Try.sizeOf9
  v9 := Try.zeroValue9
  t46 := Try.underlying109
  a46 := Try.isAgg109
  z46 := Try.sizeOf109
  v46 := Try.zeroValue109
  t51 := Try.underlying136
  a51 := Try.isAgg136
  z51 := Try.sizeOf136
  v51 := Try.zeroValue136
  t53 := Try.underlying53
  a53 := Try.isAgg53
  z53 := Try.sizeOf53
  v53 := Try.zeroValue53 }
end Go.Proofs
namespace Go.Proofs.Ytackcingpffidaa.P
open Go.RowKit Go.Sort Go.Proofs.YtackcingpffidaaW.PrintWords Go.Proofs.YtackcingpffidaaW.PrintLast Go.Proofs.YtackcingpffidaaW.PrintMore
set_option linter.unusedVariables false
set_option linter.unusedSimpArgs false
/-! ### a row's cells, flat -/
theorem flat_len {α : Type} (k : Nat) (f : α → List Value) (hf : ∀ x, (f x).length = k) : ∀ l : List α, (l.flatMap f).length = l.length * k
  | [] => by simp
  | x :: l => by rw [List.flatMap_cons, List.length_append, hf, flat_len k f hf l, List.length_cons, Nat.add_mul, Nat.one_mul, Nat.add_comm]
theorem flat_drop {α : Type} (k : Nat) (f : α → List Value) (hf : ∀ x, (f x).length = k) : ∀ (l : List α) (i : Nat), (l.flatMap f).drop (i * k) = (l.drop i).flatMap f
  | l, 0 => by simp
  | [], i + 1 => by simp
  | x :: l, i + 1 => by
    rw [List.flatMap_cons, List.drop_succ_cons, Nat.add_mul, Nat.one_mul, ← flat_drop k f hf l i, show i * k + k = (f x).length + i * k from by rw [hf]; omega, List.drop_append]
    simp
theorem flat_take {α : Type} (k : Nat) (f : α → List Value) (hf : ∀ x, (f x).length = k) : ∀ (l : List α) (i : Nat), (l.flatMap f).take (i * k) = (l.take i).flatMap f
  | l, 0 => by simp
  | [], i + 1 => by simp
  | x :: l, i + 1 => by
    rw [List.flatMap_cons, List.take_succ_cons, List.flatMap_cons, Nat.add_mul, Nat.one_mul, ← flat_take k f hf l i, show i * k + k = (f x).length + i * k from by rw [hf]; omega, List.take_append, List.take_of_length_le (by omega)]
    simp
theorem flat_reps {α : Type} (R : α → List Value → Prop) (k : Nat) (f : α → List Value) (hf : ∀ x, (f x).length = k) (hR : ∀ x, R x (f x)) (l : List α) : Reps R k l (l.flatMap f) := by
  refine ⟨flat_len k f hf l, fun j p hj => ?_⟩
  rw [flat_drop k f hf]
  obtain ⟨hjl, rfl⟩ := List.getElem?_eq_some_iff.1 hj
  rw [List.drop_eq_getElem_cons hjl, List.flatMap_cons, List.take_append, List.take_of_length_le (by rw [hf]; omega), hf]
  simp
  exact hR _
theorem flat_of_reps {α : Type} {R : α → List Value → Prop} {k : Nat} {f : α → List Value} (hf : ∀ x, (f x).length = k) (hR : ∀ x c, R x c → c = f x) {l : List α} {cs : List Value} (h : Reps R k l cs) : cs = l.flatMap f := by
  revert cs
  induction l with
  | nil =>
    intro cs h
    have := h.1
    simp at this
    rw [List.flatMap_nil, this]
  | cons x l ih =>
    intro cs h
    have h0 := hR _ _ (h.2 0 x rfl)
    rw [Nat.zero_mul, List.drop_zero] at h0
    have h1 : cs.drop k = l.flatMap f := ih ⟨by rw [List.length_drop, h.1, List.length_cons, Nat.add_mul, Nat.one_mul]; omega, fun j p hj => by
      have := h.2 (j + 1) p (by simpa using hj)
      rw [List.drop_drop]
      rwa [Nat.add_mul, Nat.one_mul, Nat.add_comm (j * k) k] at this⟩
    rw [List.flatMap_cons, ← h0, ← h1, List.take_append_drop]
def enc39 (x : S39) : List Value := [.int .i64 x.f0, .int .i64 x.f1, .string x.f2]
def E39 (l : List S39) : List Value := l.flatMap enc39
theorem len39 (x : S39) : (enc39 x).length = 3 := rfl
theorem E39_len (l : List S39) : (E39 l).length = l.length * 3 := flat_len 3 _ len39 l
theorem enc39_one (x : S39) : ∀ v ∈ enc39 x, v.oneCell' = true := by
  intro v hv
  simp [enc39] at hv
  rcases hv with rfl | rfl | rfl <;> rfl
theorem R39_of {w : World} {base : Nat} {ok : Nat → Prop} {v : Value} {l : List S39} (h : w.ownsRow base 39 3 v l.length (E39 l)) (hok : ∀ k, v.ownBlock = some k → ok k) : Kd.R k39 39 w base ok v l :=
  ⟨hok, E39 l, h, flat_reps _ 3 _ len39 (fun x => k39_mkM w base _ x) l⟩
theorem R39_own {w : World} {base : Nat} {ok : Nat → Prop} {v : Value} {l : List S39} (h : Kd.R k39 39 w base ok v l) : w.ownsRow base 39 3 v l.length (E39 l) := by
  obtain ⟨_, inner, ho, hr⟩ := h
  have : inner = E39 l := flat_of_reps len39 (fun x c hc => k39_openM hc) hr
  rw [← this]; exact ho
instance : Inhabited S39 := ⟨z39⟩
theorem flatK_E39 (l : List S39) : (flatK enc39 3 l.toArray).toList = E39 l := by
  apply List.ext_getElem?
  intro t
  by_cases ht : t < l.length * 3
  · have h1 : (flatK enc39 3 l.toArray).toList[t]? = some ((enc39 l.toArray[t / 3]!)[t % 3]!) := by
      rw [Array.getElem?_toList]
      simp [flatK, ht]
    have hr := (flat_reps (fun (x : S39) c => c = enc39 x) 3 enc39 len39 (fun _ => rfl) l).2 (t / 3) l[t / 3] (List.getElem?_eq_getElem (by omega))
    have h2 : (E39 l)[t]? = (enc39 l[t / 3])[t % 3]? := by
      rw [← hr, List.getElem?_take_of_lt (by omega), List.getElem?_drop]
      unfold E39
      congr 1
      omega
    rw [h1, h2]
    have h3 : l.toArray[t / 3]! = l[t / 3] := by
      rw [getElem!_pos l.toArray (t / 3) (by simp; omega)]
      simp
    rw [h3]
    have h4 : t % 3 < (enc39 l[t / 3]).length := by rw [len39]; omega
    rw [List.getElem?_eq_getElem h4, getElem!_pos (enc39 l[t / 3]) (t % 3) h4]
  · rw [List.getElem?_eq_none (by simp; omega), List.getElem?_eq_none (by rw [E39_len]; omega)]
end Go.Proofs.Ytackcingpffidaa.P
namespace Go.Proofs.Ytackcingpffidaa.P
open Go.RowKit Go.Sort Go.Proofs.YtackcingpffidaaW.PrintWords Go.Proofs.YtackcingpffidaaW.PrintLast Go.Proofs.YtackcingpffidaaW.PrintMore
set_option linter.unusedVariables false
set_option linter.unusedSimpArgs false
/-- Less, told out. -/
def lV (x y : S39) : Bool := if x.f0 = y.f0 then (if x.f0 = 3 then decide (Lib.compareBytes x.f2.data.toList y.f2.data.toList < 0) else if x.f0 = 1 ∨ x.f0 = 2 then decide (x.f1 < y.f1) else false) else decide (x.f0 < y.f0)
theorem sign_lt (a b : Bool) (t : Int) (h : value_sign.f a b = some t) : decide (t < 0) = a := by
  cases a <;> cases b <;> (obtain rfl := Option.some.inj h; rfl)
theorem lt_lV (x y : S39) : ltOf cV x y = lV x y := by
  have hf : value_Compare.f x.f0 x.f1 x.f2 y.f0 y.f1 y.f2 = some (cV x y) := cV_is x y
  unfold ltOf lV
  generalize cV x y = c at hf ⊢
  unfold value_Compare.f at hf
  by_cases hk : x.f0 = y.f0
  · rw [if_pos hk] at hf ⊢
    by_cases h3 : x.f0 = 3
    · rw [if_pos h3] at hf ⊢
      obtain ⟨t, ht, he⟩ := Option.bind_eq_some_iff.mp hf
      obtain rfl := Option.some.inj he
      obtain rfl := Option.some.inj ht
      rfl
    · rw [if_neg h3] at hf ⊢
      by_cases h1 : x.f0 = 1
      · rw [if_pos h1] at hf
        rw [if_pos (.inl h1)]
        obtain ⟨t, ht, he⟩ := Option.bind_eq_some_iff.mp hf
        obtain rfl := Option.some.inj he
        exact sign_lt _ _ _ ht
      · rw [if_neg h1] at hf
        by_cases h2 : x.f0 = 2
        · rw [if_pos h2] at hf
          rw [if_pos (.inr h2)]
          obtain ⟨t, ht, he⟩ := Option.bind_eq_some_iff.mp hf
          obtain rfl := Option.some.inj he
          exact sign_lt _ _ _ ht
        · rw [if_neg h2] at hf
          rw [if_neg (by simp [h1, h2])]
          obtain rfl := Option.some.inj hf
          rfl
  · rw [if_neg hk] at hf ⊢
    obtain ⟨t, ht, he⟩ := Option.bind_eq_some_iff.mp hf
    obtain rfl := Option.some.inj he
    exact sign_lt _ _ _ ht
theorem swo_of (lb : ByteArray → ByteArray → Bool) (hb : SWO lb) : SWO (fun x y : S39 => if x.f0 = y.f0 then (if x.f0 = 3 then lb x.f2 y.f2 else if x.f0 = 1 ∨ x.f0 = 2 then decide (x.f1 < y.f1) else false) else decide (x.f0 < y.f0)) where
  irrefl x := by
    simp only [if_true]
    split
    · exact hb.irrefl _
    · split
      · simp
      · rfl
  trans x y z h1 h2 := by
    by_cases hxy : x.f0 = y.f0
    · rw [if_pos hxy] at h1
      by_cases hyz : y.f0 = z.f0
      · rw [if_pos hyz] at h2
        rw [if_pos (hxy.trans hyz)]
        rw [hxy] at h1 ⊢
        by_cases h3 : y.f0 = 3
        · rw [if_pos h3] at h1 h2 ⊢
          exact hb.trans _ _ _ h1 h2
        · rw [if_neg h3] at h1 h2 ⊢
          by_cases h4 : y.f0 = 1 ∨ y.f0 = 2
          · rw [if_pos h4] at h1 h2 ⊢
            simp only [decide_eq_true_eq] at *
            omega
          · rw [if_neg h4] at h1
            exact absurd h1 (by simp)
      · rw [if_neg hyz] at h2
        rw [hxy, if_neg hyz]
        exact h2
    · rw [if_neg hxy] at h1
      by_cases hyz : y.f0 = z.f0
      · rw [← hyz, if_neg hxy]
        exact h1
      · rw [if_neg hyz] at h2
        simp only [decide_eq_true_eq] at h1 h2
        rw [if_neg (by omega)]
        simp only [decide_eq_true_eq]
        omega
  ntrans x y z h1 h2 := by
    by_cases hxy : x.f0 = y.f0
    · rw [if_pos hxy] at h1
      by_cases hyz : y.f0 = z.f0
      · rw [if_pos hyz] at h2
        rw [if_pos (hxy.trans hyz)]
        rw [hxy] at h1 ⊢
        by_cases h3 : y.f0 = 3
        · rw [if_pos h3] at h1 h2 ⊢
          exact hb.ntrans _ _ _ h1 h2
        · rw [if_neg h3] at h1 h2 ⊢
          by_cases h4 : y.f0 = 1 ∨ y.f0 = 2
          · rw [if_pos h4] at h1 h2 ⊢
            simp only [decide_eq_false_iff_not] at *
            omega
          · rw [if_neg h4]
      · rw [if_neg hyz] at h2
        rw [hxy, if_neg hyz]
        exact h2
    · rw [if_neg hxy] at h1
      by_cases hyz : y.f0 = z.f0
      · rw [← hyz, if_neg hxy]
        exact h1
      · rw [if_neg hyz] at h2
        simp only [decide_eq_false_iff_not] at h1 h2
        by_cases hxz : x.f0 = z.f0
        · exfalso
          omega
        · rw [if_neg hxz]
          simp only [decide_eq_false_iff_not]
          omega
theorem compare_lt : ∀ x y : List UInt8, Lib.compareBytes x y < 0 ↔ x < y
  | [], [] => by simp [Lib.compareBytes]
  | [], b :: y => by simp [Lib.compareBytes]
  | a :: x, [] => by simp [Lib.compareBytes]
  | a :: x, b :: y => by
    have ih := compare_lt x y
    rw [List.cons_lt_cons_iff]
    simp only [Lib.compareBytes]
    rcases Nat.lt_trichotomy a.toNat b.toNat with h | h | h
    · have h1 : a < b := UInt8.lt_iff_toNat_lt.2 h
      simp [h1]
    · obtain rfl : a = b := UInt8.toNat_inj.1 h
      have h2 : ¬ a < a := fun e => by have := UInt8.lt_iff_toNat_lt.1 e; omega
      simp [h2, ih]
    · have h1 : b < a := UInt8.lt_iff_toNat_lt.2 h
      have h2 : ¬ a < b := fun e => by have := UInt8.lt_iff_toNat_lt.1 e; omega
      have h3 : ¬ a = b := fun e => by subst e; omega
      simp [h1, h2, h3]
theorem swo_lb : SWO (fun a b : ByteArray => decide (Lib.compareBytes a.data.toList b.data.toList < 0)) where
  irrefl x := by simp [ltStr, compare_lt]
  trans x y z h1 h2 := by have := swo_ltStr.trans x.data.toList y.data.toList z.data.toList; simp only [compare_lt, ltStr] at *; exact this h1 h2
  ntrans x y z h1 h2 := by have := swo_ltStr.ntrans x.data.toList y.data.toList z.data.toList; simp only [compare_lt, ltStr] at *; exact this h1 h2
theorem swo_cV : SWO (ltOf cV) := by
  have h := swo_of _ swo_lb
  have e : ltOf cV = lV := by funext x y; exact lt_lV x y
  rw [e]
  exact h
end Go.Proofs.Ytackcingpffidaa.P
namespace Go.Proofs.Ytackcingpffidaa.P
open Go.RowKit Go.Sort Go.Proofs.YtackcingpffidaaW.PrintWords Go.Proofs.YtackcingpffidaaW.PrintLast Go.Proofs.YtackcingpffidaaW.PrintMore
set_option linter.unusedVariables false
set_option linter.unusedSimpArgs false
/-- What the sort makes of a list. -/
def sortV (l : List S39) : List S39 := (pdq (ltOf cV) l.toArray 0 l.toArray.size (Lib.bitLen l.toArray.size) true true).toList
theorem sortV_perm (l : List S39) : PermIn 0 l.toArray.size l.toArray (sortV l).toArray ∧ SortedIn (ltOf cV) 0 l.toArray.size (sortV l).toArray := by
  have h := pdq_sorts (ltOf cV) swo_cV l.toArray 0 l.toArray.size (Lib.bitLen l.toArray.size) true true (Nat.zero_le _) (Nat.le_refl _) (Or.inl rfl)
  unfold sortV
  simpa using h
theorem sortV_len (l : List S39) : (sortV l).length = l.length := by
  have h := (sortV_perm l).1.1
  simpa using h
theorem holds39 {w : World} {g : Nat} {cur : Array Value} {e : TypeId} {l : List S39} (hb : w.heap[g]? = some (.cells cur e (0, 0))) (ht : cur.toList.take (l.length * 3) = E39 l) : HoldsK enc39 3 w g 0 l.toArray := by
  intro j hj
  have hj' : j < l.length * 3 := by simpa using hj
  refine ⟨?_, by simp [World.frozen?, hb]⟩
  have h1 : (cur.toList.take (l.length * 3))[j]? = (flatK enc39 3 l.toArray).toList[j]? := by rw [ht, flatK_E39]
  rw [List.getElem?_take_of_lt hj'] at h1
  simp only [World.cell?, hb, Nat.zero_add]
  simp only [Option.isSome_none, Bool.false_eq_true, if_false]
  rw [← Array.getElem?_toList, h1, Array.getElem?_toList]
  rw [Array.getElem?_eq_getElem (by simpa using hj'), getElem!_pos _ j (by simpa using hj')]
  rfl
theorem heap_put39 {w : World} {g n : Nat} {os : Array Obj} {cur : Array Value} {e : TypeId} (d : Array S39) (hb : w.heap[g]? = some (.cells cur e (0, 0))) :
    (sortWorldK enc39 3 w g 0 n d os).heap[g]? = some (.cells (putCells id 0 (flatK enc39 3 d) cur) e (0, 0)) := by
  have hg : g < w.heap.size := (Array.getElem?_eq_some_iff.1 hb).1
  unfold sortWorldK putRowK
  rw [heap_grow_old _ _ (by simpa using hg)]
  simp [putRow, mapBlock, Sort.ahead, Array.getElem?_modify, hb, onCells]
theorem grown_put39 {w : World} {g n : Nat} {os : Array Obj} (d : Array S39) : w.grownBy (sortWorldK enc39 3 w g 0 n d os) (some g) := by
  unfold sortWorldK putRowK
  refine ⟨rfl, rfl, rfl, by simp, fun k hk hne => ?_⟩
  rw [heap_grow_old _ _ (by simpa using hk)]
  have : g ≠ k := fun e => hne (by rw [e])
  simp [putRow, mapBlock, Sort.ahead, Array.getElem?_modify, this]
theorem take_put39 (cur : Array Value) (l : List S39) (h : l.length * 3 ≤ cur.size) : (putCells id 0 (flatK enc39 3 l.toArray) cur).toList.take (l.length * 3) = E39 l := by
  rw [← flatK_E39]
  apply List.ext_getElem?
  intro j
  by_cases hj : j < l.length * 3
  · rw [List.getElem?_take_of_lt hj, Array.getElem?_toList, Array.getElem?_toList]
    simp [putCells, hj, show j < cur.size by omega]
  · rw [List.getElem?_take_eq_none (by omega), List.getElem?_eq_none (by simp; omega)]
theorem f52_own {w : World} {base : Nat} {ok : Nat → Prop} {v : Value} {l : List S39} (h : Kd.R k39 39 w base ok v l) (hn : l.length ≤ 1000000) :
    Calls Try.prog 52 #[v, .func (.func 53) #[] #[]] w fun e w' => e = .returned (.tuple #[]) ∧ Kd.R k39 39 w' base ok v (sortV l) ∧ w.grownBy w' v.ownBlock := by
  have hok := h.1
  have ho := R39_own h
  obtain ⟨hl, hr⟩ := ho
  rcases hr with ⟨rfl, h0⟩ | ⟨g, cap, cur, rfl, hb, hh, h1, h2, h3, h4⟩
  · obtain rfl : l = [] := List.eq_nil_of_length_eq_zero h0
    refine (AnyF.slices_SortFunc_none Try.laysSortF none 0 (.func (.func 53) #[] #[]) w).mono ?_
    rintro e w' ⟨rfl, rfl⟩
    have hs : sortV [] = [] := List.eq_nil_of_length_eq_zero (sortV_len [])
    exact ⟨rfl, by rw [hs]; exact h, World.grownBy.refl _ _⟩
  · have hC : CmpLays Try.prog 53 #[] enc39 3 cV g 0 l.toArray.size w := fun m os dk hd x y => cV_grown x y (cV x y) rfl _
    have hc := AnyQ.slices_SortFunc_eq Try.laysSortF 3 Try.isAgg39 Try.sizeOf39 enc39 len39 enc39_one cV swo_cV 53 #[] g 0 cap l.toArray w (enters_of Try.func53 (by kernel_rfl) rfl) hC (holds39 hh h4) (Array.getElem?_eq_some_iff.1 hh).1 (by simp; omega)
    refine Calls.mono (show Calls Try.prog 52 #[.slice (some ⟨g, 0, none⟩) l.length cap, .func (.func 53) #[] #[]] w _ from hc) ?_
    rintro e w' ⟨rfl, n, os, rfl⟩
    have hs := sortV_len l
    have hse : pdq (ltOf cV) l.toArray 0 l.toArray.size (Lib.bitLen l.toArray.size) true true = (sortV l).toArray := by unfold sortV; simp
    rw [hse]
    refine ⟨rfl, ?_, by simpa [Value.ownBlock] using grown_put39 _⟩
    refine R39_of ⟨by rw [E39_len], .inr ⟨g, cap, _, by rw [hs], hb, heap_put39 _ hh, by rw [hs]; exact h1, h2, by simp [putCells, h3], ?_⟩⟩ hok
    exact take_put39 cur _ (by rw [hs]; omega)
end Go.Proofs.Ytackcingpffidaa.P
namespace Go.Proofs.Ytackcingpffidaa.P
open Go.RowKit Go.Proofs.YtackcingpffidaaW.PrintWords Go.Proofs.YtackcingpffidaaW.PrintLast Go.Proofs.YtackcingpffidaaW.PrintMore
attribute [local go_sem] max2_int min2_int max_two min_two max_three min_three max_four min_four Go.Proofs.YtackcingpffidaaQ.str_gtr Go.Proofs.YtackcingpffidaaQ.str_leq Go.Proofs.YtackcingpffidaaQ.str_geq   -- for this text's walks alone
set_option linter.unusedVariables false
set_option linter.unusedSimpArgs false
/-! ### slices_insertionSortOrdered_uint64: function 134 -/
mutual
def slices_insertionSortOrdered_uint64.l0 : Nat → List Int → Int → Int → Int → Option (List Int)
 | 0, _, _, _, _ => none
 | k + 1, x0, x1, x2, x6 => if x6 < x2 then (slices_insertionSortOrdered_uint64.l1 k x0 x1 x2 x6 x6) else (some x0)
def slices_insertionSortOrdered_uint64.l1 : Nat → List Int → Int → Int → Int → Int → Option (List Int)
 | 0, _, _, _, _, _ => none
 | k + 1, x0, x1, x2, x6, x7 => if x7 > x1 then (if 0 ≤ x7 then (if x7 < (x0.length : Int) then (if 0 ≤ (wrap64 (x7 - 1)) then (if (wrap64 (x7 - 1)) < (x0.length : Int) then ((cmp_Less_uint64.f (rd x0 x7) (rd x0 (wrap64 (x7 - 1)))).bind fun t158 => (if t158 = true then (slices_insertionSortOrdered_uint64.l1 k ((x0.set (x7 : Int).toNat (rd x0 (wrap64 (x7 - 1)))).set ((wrap64 (x7 - 1)) : Int).toNat (rd x0 x7)) x1 x2 x6 (wrap64 (x7 - 1))) else (slices_insertionSortOrdered_uint64.l0 k x0 x1 x2 (wrap64 (x6 + 1))))) else (none)) else (none)) else (none)) else (none)) else (slices_insertionSortOrdered_uint64.l0 k x0 x1 x2 (wrap64 (x6 + 1)))
end
def slices_insertionSortOrdered_uint64.f (k : Nat) (l0 : List Int) (a1 : Int) (a2 : Int) : Option (List Int) := slices_insertionSortOrdered_uint64.l0 k l0 a1 a2 (wrap64 (a1 + 1))
theorem slices_insertionSortOrdered_uint64.mono_l : ∀ k, (∀ y0 y1 y2 y3, LeO (slices_insertionSortOrdered_uint64.l0 k y0 y1 y2 y3) (slices_insertionSortOrdered_uint64.l0 (k + 1) y0 y1 y2 y3)) ∧ (∀ y0 y1 y2 y3 y4, LeO (slices_insertionSortOrdered_uint64.l1 k y0 y1 y2 y3 y4) (slices_insertionSortOrdered_uint64.l1 (k + 1) y0 y1 y2 y3 y4))
 | 0 => ⟨fun _ _ _ _ r h => by simp [slices_insertionSortOrdered_uint64.l0] at h, fun _ _ _ _ _ r h => by simp [slices_insertionSortOrdered_uint64.l1] at h⟩
 | k + 1 => by
  obtain ⟨ih0, ih1⟩ := slices_insertionSortOrdered_uint64.mono_l k
  refine ⟨?_, ?_⟩
  ·intro y0 y1 y2 y3
   unfold slices_insertionSortOrdered_uint64.l0
   repeat' first
   | (with_reducible exact ih0 _ _ _ _)
   | (with_reducible exact ih1 _ _ _ _ _)
   | (with_reducible exact LeO.refl _)
   | (with_reducible exact LeO.none _)
   | (with_reducible refine LeO.ite ?_ ?_)
   | (with_reducible refine LeO.bind ?_ (fun _ => ?_))
   | exact ih0 _ _ _ _
   | exact ih1 _ _ _ _ _
   | exact LeO.none _
   | refine LeO.ite ?_ ?_
   | refine LeO.bind ?_ (fun _ => ?_)
  ·intro y0 y1 y2 y3 y4
   unfold slices_insertionSortOrdered_uint64.l1
   repeat' first
   | (with_reducible exact ih0 _ _ _ _)
   | (with_reducible exact ih1 _ _ _ _ _)
   | (with_reducible exact LeO.refl _)
   | (with_reducible exact LeO.none _)
   | (with_reducible refine LeO.ite ?_ ?_)
   | (with_reducible refine LeO.bind ?_ (fun _ => ?_))
   | exact ih0 _ _ _ _
   | exact ih1 _ _ _ _ _
   | exact LeO.none _
   | refine LeO.ite ?_ ?_
   | refine LeO.bind ?_ (fun _ => ?_)
theorem slices_insertionSortOrdered_uint64.mono : ∀ a0 a1 a2 k, LeO (slices_insertionSortOrdered_uint64.f k a0 a1 a2) (slices_insertionSortOrdered_uint64.f (k + 1) a0 a1 a2) := by
 intro a0 a1 a2 k
 obtain ⟨ih0, ih1⟩ := slices_insertionSortOrdered_uint64.mono_l k
 unfold slices_insertionSortOrdered_uint64.f
 repeat' first
   | (with_reducible exact ih0 _ _ _ _)
   | (with_reducible exact ih1 _ _ _ _ _)
   | (with_reducible exact LeO.refl _)
   | (with_reducible exact LeO.none _)
   | (with_reducible refine LeO.ite ?_ ?_)
   | (with_reducible refine LeO.bind ?_ (fun _ => ?_))
   | exact ih0 _ _ _ _
   | exact ih1 _ _ _ _ _
   | exact LeO.none _
   | refine LeO.ite ?_ ?_
   | refine LeO.bind ?_ (fun _ => ?_)
def slices_insertionSortOrdered_uint64.T4 : Bool × List (List Nat × List Nat) := (true, [([], []), ([], []), ([0, 1], [0, 1]), ([2], [2]), ([3], [3]), ([3], [3]), ([4, 5, 3], [3, 4, 5]), ([6, 3], [3, 6]), ([3], [3]), ([3], [3]), ([9, 3], [3, 9]), ([8, 10, 3], [3, 8, 10]), ([11, 3], [3, 11]), ([7, 12, 3, 3], [3, 7, 12]), ([3, 13], [3, 13])])
def slices_insertionSortOrdered_uint64.B4 : List Nat := [0, 0, 3, 7, 15, 15, 63, 127, 15, 15, 527, 1807, 3855, 8191, 16383]
theorem slices_insertionSortOrdered_uint64.tab4 : rtab .any (opsOf Try.f134 4) = slices_insertionSortOrdered_uint64.T4 := by kernel_rfl
theorem slices_insertionSortOrdered_uint64.bits4 : waitsOk slices_insertionSortOrdered_uint64.T4.2 slices_insertionSortOrdered_uint64.B4 = true := by kernel_rfl
def slices_insertionSortOrdered_uint64.T6 : Bool × List (List Nat × List Nat) := (true, [([], []), ([], []), ([], []), ([], []), ([3], [3]), ([], []), ([], []), ([6], [6]), ([5, 7], [5, 7]), ([8], [8]), ([], []), ([], []), ([10, 11], [10, 11]), ([12], [12]), ([0, 1, 0, 1, 5, 6, 7, 8, 9, 13], [0, 1]), ([14, 9, 0, 1, 5, 6, 7, 8, 9, 13], [9, 14]), ([2, 4, 0, 1, 2, 3, 4, 5, 6, 7, 8, 9, 10, 11, 12, 13, 14, 15], [2, 4]), ([16, 13, 15, 0, 1, 2, 3, 4, 5, 6, 7, 8, 9, 10, 11, 12, 13, 14, 15], [13, 16])])
def slices_insertionSortOrdered_uint64.B6 : List Nat := [0, 0, 0, 0, 8, 0, 0, 64, 224, 480, 0, 0, 3072, 7168, 16355, 32739, 65535, 131071]
theorem slices_insertionSortOrdered_uint64.tab6 : rtab .any (opsOf Try.f134 6) = slices_insertionSortOrdered_uint64.T6 := by kernel_rfl
theorem slices_insertionSortOrdered_uint64.bits6 : waitsOk slices_insertionSortOrdered_uint64.T6.2 slices_insertionSortOrdered_uint64.B6 = true := by kernel_rfl
set_option maxHeartbeats 8000000 in
set_option maxRecDepth 100000 in
theorem slices_insertionSortOrdered_uint64.calls (k : Nat) (P0_ : Nat → Prop) (u9000_ : Value) (l0 : List Int) (a1 : Int) (a2 : Int) (r : List Int) (w0 w : World) (hB : Below w0.heap.size w0 w) (ho0 : Kd.R (Kd.int .u64) 53 w w0.heap.size P0_ u9000_ l0) (h : slices_insertionSortOrdered_uint64.f k l0 a1 a2 = some r) :
  Calls Try.prog 134 #[u9000_, .int .i64 a1, .int .i64 a2] w fun e w' => e = .returned (.tuple #[]) ∧ Kd.R (Kd.int .u64) 53 w' w0.heap.size (fun k_ => (P0_ k_ ∨ w.heap.size ≤ k_)) u9000_ r ∧ Below w0.heap.size w0 w' ∧ Kept w w' (fun k_ => P0_ k_) := by
 have HO0 := Aside0.mk (show Kd.R (Kd.int .u64) 53 w w0.heap.size (fun k_ => (P0_ k_ ∨ w.heap.size ≤ k_)) u9000_ l0 from Kd.R_mono ho0 (fun k_ hk => (.inl hk)))
 have HK := Aside0.mk (Kept.refl w (fun k_ => P0_ k_))
 have HW0 := Aside0.mk hB.size
 have HB := Aside0.mk hB
 clear hB
 have H : (slices_insertionSortOrdered_uint64.l0 k l0 a1 a2 (wrap64 (a1 + 1))) = some r := h
 clear h
 have H' := Aside0.mk H
 clear H
 go_enter Try.func134, Try.ntmps134
 go_wp2
 go_loopg [6] k (fun kq v6 w' => ∃ (x0_1 : List Int) (x6_1 : Int), v6 = .int .i64 x6_1 ∧ Aside0 (slices_insertionSortOrdered_uint64.l0 kq x0_1 a1 a2 x6_1 = some r) ∧ Aside0 (kq ≤ k) ∧ Aside0 (Kd.R (Kd.int .u64) 53 w' w0.heap.size (fun k_ => (P0_ k_ ∨ w.heap.size ≤ k_)) u9000_ x0_1) ∧ Aside0 (Kept w w' (fun k_ => P0_ k_)) ∧ Aside0 (Below w0.heap.size w0 w'))
 case atStart => exact ⟨(l0), (wrap64 (a1 + 1)), (by first | rfl | (simp; done) | (simp [*]; done)), H', ⟨Nat.le_refl _⟩, ⟨by (with_reducible repeat (first | apply Kd.R_alloc | apply Kd.R_drewN | apply Kd.R_drew)); exact HO0.out⟩, ⟨by repeat (first | (with_reducible first | exact HK.out | apply Kept.alloc | apply Kept.drewN | apply Kept.drew) | exact HK.out)⟩, ⟨(hb_ HB.out)⟩⟩
 case round =>
  clear H'
  try clear c1
  try clear p2
  obtain ⟨x0_1, x6_1, rfl, HA, HK1, HO_0, HK, HB⟩ := hrel
  cases gk with
  | zero => exact absurd HA.out (by simp [slices_insertionSortOrdered_uint64.l0])
  | succ k1 =>
   have H := HA.out
   clear HA
   simp only [slices_insertionSortOrdered_uint64.l0] at H
   by_cases c4 : x6_1 < a2
   ·rw [if_pos c4] at H
    have c4b0 : decide (x6_1 < a2) = true := decide_eq_true c4
    clear c4
    have H' := Aside0.mk H
    clear H
    go_wp2
    go_loopg [7] k1 (fun kq v7 w' => ∃ (x0_2 : List Int) (x7_2 : Int), v7 = .int .i64 x7_2 ∧ Aside0 (slices_insertionSortOrdered_uint64.l1 kq x0_2 a1 a2 x6_1 x7_2 = some r) ∧ Aside0 (kq ≤ k1) ∧ Aside0 (Kd.R (Kd.int .u64) 53 w' w0.heap.size (fun k_ => (P0_ k_ ∨ w.heap.size ≤ k_)) u9000_ x0_2) ∧ Aside0 (Kept w w' (fun k_ => P0_ k_)) ∧ Aside0 (Below w0.heap.size w0 w'))
    case atStart => exact ⟨(x0_1), (x6_1), (by first | rfl | (simp; done) | (simp [*]; done)), H', ⟨Nat.le_refl _⟩, ⟨by (with_reducible repeat (first | apply Kd.R_alloc | apply Kd.R_drewN | apply Kd.R_drew)); exact HO_0.out⟩, ⟨by repeat (first | (with_reducible first | exact HK.out | apply Kept.alloc | apply Kept.drewN | apply Kept.drew) | exact HK.out)⟩, ⟨(hb_ HB.out)⟩⟩
    case round =>
     clear H'
     try clear c1
     try clear p2
     try clear c4
     try clear c4b0
     try clear p2
     obtain ⟨x0_2, x7_2, rfl, HA, HK2, HO_0, HK, HB⟩ := hrel
     cases gk with
     | zero => exact absurd HA.out (by simp [slices_insertionSortOrdered_uint64.l1])
     | succ k2 =>
      have H := HA.out
      clear HA
      simp only [slices_insertionSortOrdered_uint64.l1] at H
      by_cases c5 : x7_2 > a1
      ·rw [if_pos c5] at H
       have c5b0 : decide (a1 < x7_2) = true := decide_eq_true c5
       clear c5
       by_cases c6 : 0 ≤ x7_2
       ·rw [if_pos c6] at H
        have c6b0 : decide (0 ≤ x7_2) = true := decide_eq_true c6
        clear c6
        by_cases c7 : x7_2 < (x0_2.length : Int)
        ·rw [if_pos c7] at H
         have c7b0 : decide (x7_2 < (x0_2.length : Int)) = true := decide_eq_true c7
         clear c7
         obtain ⟨ji8, hji8⟩ : ∃ j_ : Int, (wrap64 (x7_2 - 1)) = j_ := ⟨_, rfl⟩
         replace H : (if 0 ≤ (ji8) then (if (ji8) < (x0_2.length : Int) then ((cmp_Less_uint64.f (rd x0_2 x7_2) (rd x0_2 (ji8))).bind fun t158 => (if t158 = true then (slices_insertionSortOrdered_uint64.l1 k2 ((x0_2.set (x7_2 : Int).toNat (rd x0_2 (ji8))).set ((ji8) : Int).toNat (rd x0_2 x7_2)) a1 a2 x6_1 ji8) else (slices_insertionSortOrdered_uint64.l0 k2 x0_2 a1 a2 (wrap64 (x6_1 + 1))))) else (none)) else (none)) = some r := by first | (rw [hji8] at H; exact H) | (simp only [hji8] at H ⊢; exact H)
         have hji8w : (IntKind.i64.wrap (x7_2 - 1)) = ji8 := (i64_w _).trans hji8
         by_cases c9 : 0 ≤ (ji8)
         ·rw [if_pos c9] at H
          have c9b0 : decide (0 ≤ (ji8)) = true := decide_eq_true c9
          clear c9
          by_cases c10 : (ji8) < (x0_2.length : Int)
          ·rw [if_pos c10] at H
           have c10b0 : decide ((ji8) < (x0_2.length : Int)) = true := decide_eq_true c10
           clear c10
           replace H := Option.bind_eq_some_iff.mp H
           obtain ⟨t158, A110, H⟩ := H
           replace H : (if t158 = true then (slices_insertionSortOrdered_uint64.l1 k2 ((x0_2.set (x7_2 : Int).toNat (rd x0_2 (ji8))).set ((ji8) : Int).toNat (rd x0_2 x7_2)) a1 a2 x6_1 ji8) else (slices_insertionSortOrdered_uint64.l0 k2 x0_2 a1 a2 (wrap64 (x6_1 + 1)))) = some r := H
           have A11 := Aside0.mk A110
           clear A110
           by_cases c12 : t158 = true
           ·subst c12
            have H1 : (slices_insertionSortOrdered_uint64.l1 k2 ((x0_2.set (x7_2 : Int).toNat (rd x0_2 (ji8))).set ((ji8) : Int).toNat (rd x0_2 x7_2)) a1 a2 x6_1 ji8) = some r := by rw [if_pos rfl] at H; exact H
            clear H
            have H := H1
            clear H1
            obtain ⟨y161, hy161⟩ : ∃ y_ : List Int, y_ = (x0_2.set (x7_2 : Int).toNat (rd x0_2 (ji8))) := ⟨_, rfl⟩
            replace H : (slices_insertionSortOrdered_uint64.l1 k2 (y161.set ((ji8) : Int).toNat (rd x0_2 x7_2)) a1 a2 x6_1 ji8) = some r := by first | (rw [hy161]; with_reducible exact H) | (have H2_ := (Option.bind_some _ _).symm.trans H; rw [hy161]; with_reducible exact H2_) | (have H2_ := (Option.bind_some _ _).symm.trans H; with_reducible exact H2_) | with_reducible exact H | (rw [hy161]; exact H) | exact H
            have Ny161 := Aside0.mk hy161
            clear hy161
            obtain ⟨y162, hy162⟩ : ∃ y_ : List Int, y_ = (y161.set ((ji8) : Int).toNat (rd x0_2 x7_2)) := ⟨_, rfl⟩
            replace H : (slices_insertionSortOrdered_uint64.l1 k2 y162 a1 a2 x6_1 ji8) = some r := by first | (rw [hy162]; with_reducible exact H) | (have H2_ := (Option.bind_some _ _).symm.trans H; rw [hy162]; with_reducible exact H2_) | (have H2_ := (Option.bind_some _ _).symm.trans H; with_reducible exact H2_) | with_reducible exact H | (rw [hy162]; exact H) | exact H
            have Ny162 := Aside0.mk hy162
            clear hy162
            have H' := Aside0.mk H
            clear H
            try go_wp2
            replace HO_0 := Aside0.mk (Kd.R_drew HO_0.out)
            replace HK := Aside0.mk (Kept.drew HK.out)
            replace HB := Aside0.mk (below_drew1 HB.out)
            obtain ⟨Ao16, co16, eo16⟩ := Kd.R_slice HO_0.out
            (first | subst eo16 | (injection eo16 with f1_ f2_ f3_; have f4_ := f1_.symm; have f5_ := f3_.symm; clear f1_ f2_ f3_; subst f4_; subst f5_))
            have p156 : 0 ≤ (x7_2 : Int) := of_decide_eq_true (by first | (with_reducible assumption) | assumption)
            have q156 : x7_2 < (x0_2.length : Int) := of_decide_eq_true (by first | (with_reducible assumption) | assumption)
            obtain ⟨ad156, e156, hx156_0⟩ := Kd.at_int (Kd.R_reads' HO_0.out).2.2 x7_2 p156 q156
            cases e156
            replace p156 := eq_true p156
            replace q156 := eq_true q156
            have p157 : 0 ≤ ((ji8) : Int) := of_decide_eq_true (by first | (with_reducible assumption) | assumption)
            have q157 : (ji8) < (x0_2.length : Int) := of_decide_eq_true (by first | (with_reducible assumption) | assumption)
            obtain ⟨ad157, e157, hx157_0⟩ := Kd.at_int (Kd.R_reads' HO_0.out).2.2 (ji8) p157 q157
            obtain rfl : ad156 = ad157 := (by injection e157)
            replace p157 := eq_true p157
            replace q157 := eq_true q157
            refine start_ (n := 15) (S := fun w' => w'.cell? (ad156.add (x7_2).toNat) = some (.int .u64 (rd x0_2 x7_2)) ∧ w'.cell? (ad156.add ((ji8)).toNat) = some (.int .u64 (rd x0_2 (ji8)))) (ds := []) #[false, false, false, false, false, false, false, false, false, false, false, false, false, false, false] (by kernel_rfl) rfl rfl ⟨hx156_0, hx157_0⟩ (fun hHeld => ?_); refine with_tabW slices_insertionSortOrdered_uint64.tab4 slices_insertionSortOrdered_uint64.bits4 (fun HT_ HW_ => ?_)
            generalize wr.drew = w15 at HO_0 HK HB hx156_0 hx157_0 hHeld ⊢
            refine pu_ HT_ 0 (some 16) ?_
            refine pu_ HT_ 1 (some 17) ?_
            refine pu_ HT_ 2 (some 18) ?_
            refine pu_ HT_ 3 (some 19) ?_
            refine pu_ HT_ 4 (some 20) ?_
            refine pu_ HT_ 5 (some 21) ?_
            refine pu_ HT_ 6 (some 22) ?_
            refine pu_ HT_ 8 (some 24) ?_
            refine pu_ HT_ 9 (some 25) ?_
            refine pu_ HT_ 10 (some 26) ?_
            refine pu_ HT_ 11 (some 27) ?_
            refine tk_ HT_ HW_ 7 (some 23) hHeld ?_
            refine tk_ HT_ HW_ 12 (some 28) hHeld ?_
            refine on_ HT_ 13 (some 29) (fun K hK => ?_)
            refine goes_ Try.func108 (by kernel_rfl) rfl #[.int .u64 (rd x0_2 x7_2), .int .u64 (rd x0_2 (ji8))] (by rfl) rfl rfl (by (try simp only [List.map_toArray, List.map_cons, List.map_nil]); first | done | (simp only [hji8]; rfl) | rfl | (simp only [List.length_drop, List.length_take]; rfl)) ?_
            with_reducible refine (cmp_Less_uint64.calls (rd x0_2 x7_2) (rd x0_2 (ji8)) true _ A11.out).mono ?_
            rintro e w' ⟨rfl, ⟨nd, rfl⟩⟩
            refine ⟨_, rfl, ?_⟩
            refine hK.out _ _ ⟨hHeld.1, hHeld.2⟩ (fun hHeld => ?_)
            clear hK K
            refine nm_ (some 29) ?_
            refine pu_ HT_ 14 (some 30) ?_
            refine done_ (done_of HT_.out (by kernel_rfl)) ?_
            try go_wp2
            (try (rw [drewN_self w15]; generalize hq_ : World.drewN w15 _ = w15; have n0_ : Aside0 (Kd.R (Kd.int .u64) 53 w15 w0.heap.size (fun k_ => (P0_ k_ ∨ w.heap.size ≤ k_)) (.slice (some ad156) x0_2.length co16) x0_2) := ⟨by rw [← hq_]; exact (ra_ HO_0.out)⟩; have n1_ : Aside0 (Kept w w15 (fun k_ => P0_ k_)) := ⟨by rw [← hq_]; exact (by repeat (first | (with_reducible first | exact HK.out | apply Kept.alloc | apply Kept.drewN | apply Kept.drew) | exact HK.out))⟩; have n2_ : Aside0 (Below w0.heap.size w0 w15) := ⟨by rw [← hq_]; exact (hb_ HB.out)⟩; clear HO_0 HK HB hq_; have HO_0 := n0_; have HK := n1_; have HB := n2_; clear n0_ n1_ n2_))
            replace HO_0 := Aside0.mk (Kd.R_drew HO_0.out)
            replace HK := Aside0.mk (Kept.drew HK.out)
            replace HB := Aside0.mk (below_drew1 HB.out)
            have p159 : 0 ≤ ((ji8) : Int) := of_decide_eq_true (by first | (with_reducible assumption) | assumption)
            have q159 : (ji8) < (x0_2.length : Int) := of_decide_eq_true (by first | (with_reducible assumption) | assumption)
            obtain ⟨ad159, e159, hx159_0⟩ := Kd.at_int (Kd.R_reads' HO_0.out).2.2 (ji8) p159 q159
            obtain rfl : ad156 = ad159 := (by injection e159)
            replace p159 := eq_true p159
            replace q159 := eq_true q159
            have p160 : 0 ≤ (x7_2 : Int) := of_decide_eq_true (by first | (with_reducible assumption) | assumption)
            have q160 : x7_2 < (x0_2.length : Int) := of_decide_eq_true (by first | (with_reducible assumption) | assumption)
            obtain ⟨ad160, e160, hx160_0⟩ := Kd.at_int (Kd.R_reads' HO_0.out).2.2 x7_2 p160 q160
            obtain rfl : ad156 = ad160 := (by injection e160)
            replace p160 := eq_true p160
            replace q160 := eq_true q160
            have p13 : 0 ≤ (x7_2 : Int) := of_decide_eq_true (by first | (with_reducible assumption) | assumption)
            have q13 : (x7_2 : Int) < ((x0_2.length : Int) : Int) := of_decide_eq_true (by first | (with_reducible assumption) | assumption)
            obtain ⟨go13, co13, eo13, gb13, gl13, cl13, HG13⟩ := Kd.R_form HO_0.out (by omega)
            (first | cases eo13 | (injection eo13 with ea_ en_ ec_; (first | subst ea_ | (injection ea_ with ea_; subst ea_)); subst ec_; clear en_))
            have GB13 := Aside0.mk gb13
            have GG13 := Aside0.mk HG13
            clear gb13 gl13 HG13
            have HMgo13 := Aside0.mk (show (P0_ go13 ∨ w.heap.size ≤ go13) from (HO_0.out.1 _ rfl))
            (first | simp only [add_plain] at hx156_0 | skip)
            (first | simp only [add_plain] at hx157_0 | skip)
            (first | simp only [add_plain] at hx159_0 | skip)
            (first | simp only [add_plain] at hx160_0 | skip)
            obtain ⟨hx13_0, hf13_0⟩ := Kd.R_celln 0 HO_0.out (x7_2 : Int) p13 q13
            replace p13 := eq_true p13
            replace q13 := eq_true q13
            have HP18 := Kd.R_putn HO_0.out (x7_2 : Int) (rd x0_2 (ji8))
            rw [← Ny161.out] at HP18
            have HQ18 := Aside0.mk HP18
            clear HP18
            have p14 : 0 ≤ ((ji8) : Int) := of_decide_eq_true (by first | (with_reducible assumption) | assumption)
            have q14 : ((ji8) : Int) < ((x0_2.length : Int) : Int) := of_decide_eq_true (by first | (with_reducible assumption) | assumption)
            obtain ⟨hx14_0, hf14_0⟩ := Kd.R_celln 0 HQ18.out ((ji8) : Int) p14 q14
            replace p14 := eq_true p14
            replace q14 := eq_true q14
            have HP19 := Kd.R_putn HQ18.out ((ji8) : Int) (rd x0_2 x7_2)
            rw [← Ny162.out] at HP19
            have HQ19 := Aside0.mk HP19
            clear HP19
            refine start_ (n := 18) (S := fun w' => w'.cell? ⟨go13, ((ji8)).toNat, none⟩ = some (.int .u64 (rd x0_2 (ji8))) ∧ w'.cell? ⟨go13, (x7_2).toNat, none⟩ = some (.int .u64 (rd x0_2 x7_2))) (ds := [15, 17]) #[false, false, false, false, false, false, false, false, false, false, false, false, false, false, false, false, false, false] (by kernel_rfl) rfl rfl ⟨hx159_0, hx160_0⟩ (fun hHeld => ?_); refine with_tabW slices_insertionSortOrdered_uint64.tab6 slices_insertionSortOrdered_uint64.bits6 (fun HT_ HW_ => ?_)
            generalize w15.drew = w17 at HO_0 HK HB GG13 HQ18 HQ19 hf13_0 hf14_0 hx13_0 hx14_0 hx156_0 hx157_0 hx159_0 hx160_0 hHeld ⊢
            refine pu_ HT_ 0 (some 33) ?_
            refine pu_ HT_ 1 (some 34) ?_
            refine pu_ HT_ 2 (some 35) ?_
            refine pu_ HT_ 3 (some 36) ?_
            refine pu_ HT_ 4 (some 37) ?_
            refine pu_ HT_ 5 (some 38) ?_
            refine pu_ HT_ 6 (some 39) ?_
            refine pu_ HT_ 7 (some 40) ?_
            refine pu_ HT_ 8 (some 41) ?_
            refine pu_ HT_ 10 (some 43) ?_
            refine pu_ HT_ 11 (some 44) ?_
            refine pu_ HT_ 12 (some 45) ?_
            refine tk_ HT_ HW_ 9 (some 42) hHeld ?_
            refine tk_ HT_ HW_ 13 (some 46) hHeld ?_
            refine pu_ HT_ 14 (some 47) ?_
            refine last_ (i := 15) (N := none) #[true, true, true, true, true, true, true, true, true, true, true, true, true, true, true, true, false, false] rfl rfl (one_of HT_.out (by kernel_rfl)) (by decide) (fun K hK => ?_)
            refine skip_ (w1 := ?_) (by rfl) rfl ?_ ?_
            rotate_left
            ·go_simp
             rfl
            refine hK.out _ _ ?_
            clear hK K
            refine pu_ HT_ 16 (some 48) ?_
            refine last_ (i := 17) (N := none) #[true, true, true, true, true, true, true, true, true, true, true, true, true, true, true, true, true, true] rfl rfl (one_of HT_.out (by kernel_rfl)) (by decide) (fun K hK => ?_)
            refine skip_ (w1 := ?_) (by rfl) rfl ?_ ?_
            rotate_left
            ·go_simp
             rfl
            refine hK.out _ _ ?_
            clear hK K
            refine done_ (done_of HT_.out (by kernel_rfl)) ?_
            try go_wp2
            go_roundg k2
            case measure => have := HK1.out; have := HK2.out; omega
            case rel => exact ⟨(y162), (ji8), (by first | rfl | (simp; done) | (simp only [← hji8] <;> (first | rfl | simp)) | (simp [*]; done)), H', ⟨by have := HK1.out; have := HK2.out; omega⟩, ⟨by (with_reducible repeat (first | apply Kd.R_alloc | apply Kd.R_drewN | apply Kd.R_drew)); exact HQ19.out⟩, ⟨by repeat (first | (with_reducible first | exact HK.out | apply Kept.alloc | apply Kept.drewN | apply Kept.drew | refine Kept.setCell ?_ HMgo13.out _ | refine Kept.setCell ?_ HMgo13.out _) | exact HK.out)⟩, ⟨by repeat (first | (with_reducible first | exact HB.out | apply below_alloc | apply pw_below_drewN | apply below_drew1 | refine below_set ?_ GB13.out | refine below_set ?_ GB13.out) | exact HB.out)⟩⟩
           ·replace c12 := Bool.eq_false_iff.mpr c12
            subst c12
            have H1 : (slices_insertionSortOrdered_uint64.l0 k2 x0_2 a1 a2 (wrap64 (x6_1 + 1))) = some r := by rw [if_neg (show ¬ (false = true) by decide)] at H; exact H
            clear H
            have H := H1
            clear H1
            have H' := Aside0.mk H
            clear H
            try go_wp2
            replace HO_0 := Aside0.mk (Kd.R_drew HO_0.out)
            replace HK := Aside0.mk (Kept.drew HK.out)
            replace HB := Aside0.mk (below_drew1 HB.out)
            obtain ⟨Ao21, co21, eo21⟩ := Kd.R_slice HO_0.out
            (first | subst eo21 | (injection eo21 with f1_ f2_ f3_; have f4_ := f1_.symm; have f5_ := f3_.symm; clear f1_ f2_ f3_; subst f4_; subst f5_))
            have p156 : 0 ≤ (x7_2 : Int) := of_decide_eq_true (by first | (with_reducible assumption) | assumption)
            have q156 : x7_2 < (x0_2.length : Int) := of_decide_eq_true (by first | (with_reducible assumption) | assumption)
            obtain ⟨ad156, e156, hx156_0⟩ := Kd.at_int (Kd.R_reads' HO_0.out).2.2 x7_2 p156 q156
            cases e156
            replace p156 := eq_true p156
            replace q156 := eq_true q156
            have p157 : 0 ≤ ((ji8) : Int) := of_decide_eq_true (by first | (with_reducible assumption) | assumption)
            have q157 : (ji8) < (x0_2.length : Int) := of_decide_eq_true (by first | (with_reducible assumption) | assumption)
            obtain ⟨ad157, e157, hx157_0⟩ := Kd.at_int (Kd.R_reads' HO_0.out).2.2 (ji8) p157 q157
            obtain rfl : ad156 = ad157 := (by injection e157)
            replace p157 := eq_true p157
            replace q157 := eq_true q157
            refine start_ (n := 15) (S := fun w' => w'.cell? (ad156.add (x7_2).toNat) = some (.int .u64 (rd x0_2 x7_2)) ∧ w'.cell? (ad156.add ((ji8)).toNat) = some (.int .u64 (rd x0_2 (ji8)))) (ds := []) #[false, false, false, false, false, false, false, false, false, false, false, false, false, false, false] (by kernel_rfl) rfl rfl ⟨hx156_0, hx157_0⟩ (fun hHeld => ?_); refine with_tabW slices_insertionSortOrdered_uint64.tab4 slices_insertionSortOrdered_uint64.bits4 (fun HT_ HW_ => ?_)
            generalize wr.drew = w20 at HO_0 HK HB hx156_0 hx157_0 hHeld ⊢
            refine pu_ HT_ 0 (some 16) ?_
            refine pu_ HT_ 1 (some 17) ?_
            refine pu_ HT_ 2 (some 18) ?_
            refine pu_ HT_ 3 (some 19) ?_
            refine pu_ HT_ 4 (some 20) ?_
            refine pu_ HT_ 5 (some 21) ?_
            refine pu_ HT_ 6 (some 22) ?_
            refine pu_ HT_ 8 (some 24) ?_
            refine pu_ HT_ 9 (some 25) ?_
            refine pu_ HT_ 10 (some 26) ?_
            refine pu_ HT_ 11 (some 27) ?_
            refine tk_ HT_ HW_ 7 (some 23) hHeld ?_
            refine tk_ HT_ HW_ 12 (some 28) hHeld ?_
            refine on_ HT_ 13 (some 29) (fun K hK => ?_)
            refine goes_ Try.func108 (by kernel_rfl) rfl #[.int .u64 (rd x0_2 x7_2), .int .u64 (rd x0_2 (ji8))] (by rfl) rfl rfl (by (try simp only [List.map_toArray, List.map_cons, List.map_nil]); first | done | (simp only [hji8]; rfl) | rfl | (simp only [List.length_drop, List.length_take]; rfl)) ?_
            with_reducible refine (cmp_Less_uint64.calls (rd x0_2 x7_2) (rd x0_2 (ji8)) false _ A11.out).mono ?_
            rintro e w' ⟨rfl, ⟨nd, rfl⟩⟩
            refine ⟨_, rfl, ?_⟩
            refine hK.out _ _ ⟨hHeld.1, hHeld.2⟩ (fun hHeld => ?_)
            clear hK K
            refine nm_ (some 29) ?_
            refine pu_ HT_ 14 (some 30) ?_
            refine done_ (done_of HT_.out (by kernel_rfl)) ?_
            try go_wp2
            go_roundg k2
            case measure => have := HK1.out; have := HK2.out; omega
            case rel => exact ⟨(x0_2), (wrap64 (x6_1 + 1)), (by first | rfl | (simp; done) | (simp [*]; done)), H', ⟨by have := HK1.out; have := HK2.out; omega⟩, ⟨by (with_reducible repeat (first | apply Kd.R_alloc | apply Kd.R_drewN | apply Kd.R_drew)); exact HO_0.out⟩, ⟨by repeat (first | (with_reducible first | exact HK.out | apply Kept.alloc | apply Kept.drewN | apply Kept.drew) | exact HK.out)⟩, ⟨(hb_ HB.out)⟩⟩
          ·rw [if_neg c10] at H
           exact absurd H (by simp)
         ·rw [if_neg c9] at H
          exact absurd H (by simp)
        ·rw [if_neg c7] at H
         exact absurd H (by simp)
       ·rw [if_neg c6] at H
        exact absurd H (by simp)
      ·rw [if_neg c5] at H
       have c5b0 : decide (a1 < x7_2) = false := decide_eq_false c5
       clear c5
       have H' := Aside0.mk H
       clear H
       try go_wp2
       replace HO_0 := Aside0.mk (Kd.R_drew HO_0.out)
       replace HK := Aside0.mk (Kept.drew HK.out)
       replace HB := Aside0.mk (below_drew1 HB.out)
       refine start_ (n := 15) (S := fun w' => True) (ds := []) #[false, false, false, false, false, false, false, false, false, false, false, false, false, false, false] (by kernel_rfl) rfl rfl trivial (fun hHeld => ?_); refine with_tabW slices_insertionSortOrdered_uint64.tab4 slices_insertionSortOrdered_uint64.bits4 (fun HT_ HW_ => ?_)
       generalize wr.drew = w22 at HO_0 HK HB hHeld ⊢
       refine pu_ HT_ 0 (some 16) ?_
       refine pu_ HT_ 1 (some 17) ?_
       refine pu_ HT_ 2 (some 18) ?_
       refine pu_ HT_ 3 (some 19) ?_
       refine sk_ HT_ 4 (some 20) ?_
       refine sk_ HT_ 5 (some 21) ?_
       refine sk_ HT_ 6 (some 22) ?_
       refine sk_ HT_ 7 (some 23) ?_
       refine sk_ HT_ 8 (some 24) ?_
       refine sk_ HT_ 9 (some 25) ?_
       refine sk_ HT_ 10 (some 26) ?_
       refine sk_ HT_ 11 (some 27) ?_
       refine sk_ HT_ 12 (some 28) ?_
       refine sk_ HT_ 13 (some 29) ?_
       refine pu_ HT_ 14 (some 30) ?_
       refine done_ (done_of HT_.out (by kernel_rfl)) ?_
       try go_wp2
       go_roundg k2
       case measure => have := HK1.out; have := HK2.out; omega
       case rel => exact ⟨(x0_2), (wrap64 (x6_1 + 1)), (by first | rfl | (simp; done) | (simp [*]; done)), H', ⟨by have := HK1.out; have := HK2.out; omega⟩, ⟨by (with_reducible repeat (first | apply Kd.R_alloc | apply Kd.R_drewN | apply Kd.R_drew)); exact HO_0.out⟩, ⟨by repeat (first | (with_reducible first | exact HK.out | apply Kept.alloc | apply Kept.drewN | apply Kept.drew) | exact HK.out)⟩, ⟨(hb_ HB.out)⟩⟩
   ·rw [if_neg c4] at H
    have c4b0 : decide (x6_1 < a2) = false := decide_eq_false c4
    clear c4
    obtain rfl := Option.some.inj H
    go_wp2
    first | go_end0 | ((try simp only [Exit.inBlock, Exit.then]); refine bodyPost_ret (results_none rfl _ _ _) rfl ?_)
    exact er_ ⟨by (with_reducible repeat (first | apply Kd.R_alloc | apply Kd.R_drewN | apply Kd.R_drew)); exact HO_0.out, (hb_ HB.out), by repeat (first | (with_reducible first | exact HK.out | apply Kept.alloc | apply Kept.drewN | apply Kept.drew) | exact HK.out)⟩
end Go.Proofs.Ytackcingpffidaa.P
namespace Go.Proofs.Ytackcingpffidaa.P
open Go.RowKit Go.Proofs.YtackcingpffidaaW.PrintWords Go.Proofs.YtackcingpffidaaW.PrintLast Go.Proofs.YtackcingpffidaaW.PrintMore
set_option linter.unusedVariables false
set_option linter.unusedSimpArgs false
set_option maxHeartbeats 1000000 in
set_option maxRecDepth 100000 in
theorem f123_small (k : Nat) (P0_ : Nat → Prop) (v : Value) (l : List Int) (lim : Int) (r : List Int) (w0 w : World) (hB : Below w0.heap.size w0 w) (ho0 : Kd.R (Kd.int .u64) 53 w w0.heap.size P0_ v l) (hn : l.length ≤ 12) (h : slices_insertionSortOrdered_uint64.f k l 0 (l.length : Int) = some r) :
    Calls Try.prog 123 #[v, .int .i64 0, .int .i64 (l.length : Int), .int .i64 lim] w fun e w' => e = .returned (.tuple #[]) ∧ Kd.R (Kd.int .u64) 53 w' w0.heap.size (fun k_ => (P0_ k_ ∨ w.heap.size ≤ k_)) v r ∧ Below w0.heap.size w0 w' ∧ Kept w w' (fun k_ => P0_ k_) := by
  have HC := Aside0.mk (slices_insertionSortOrdered_uint64.calls k P0_ v l 0 (l.length : Int) r w0 w hB ho0 h)
  clear hB ho0 h
  have hd : decide ((l.length : Int) ≤ 12) = true := decide_eq_true (by omega)
  have hw : IntKind.i64.wrap ((l.length : Int) - 0) = (l.length : Int) := by rw [i64_w]; unfold wrap64; omega
  have hw2 : IntKind.i64.wrap (l.length : Int) = (l.length : Int) := by rw [i64_w]; unfold wrap64; omega
  go_enter Try.func123, Try.ntmps123
  go_wp2
  refine wp_loop_rounds 1 ?_
  rw [rounds_succ]
  go_wp2_with (go_at_call 134; refine HC.out.mono ?_; rintro e w1 ⟨rfl, h1, h2, h3⟩)
  (try simp only [Exit.inBlock, Exit.then])
  refine bodyPost_ret (results_none rfl _ _ _) rfl ?_
  exact ⟨rfl, h1, h2, h3⟩
set_option maxHeartbeats 1000000 in
set_option maxRecDepth 100000 in
theorem f103_small (k : Nat) (P0_ : Nat → Prop) (v : Value) (l : List Int) (r : List Int) (w0 w : World) (hB : Below w0.heap.size w0 w) (ho0 : Kd.R (Kd.int .u64) 53 w w0.heap.size P0_ v l) (hn : l.length ≤ 12) (h : slices_insertionSortOrdered_uint64.f k l 0 (l.length : Int) = some r) :
    Calls Try.prog 103 #[v] w fun e w' => e = .returned (.tuple #[]) ∧ Kd.R (Kd.int .u64) 53 w' w0.heap.size (fun k_ => (P0_ k_ ∨ w.heap.size ≤ k_)) v r ∧ Below w0.heap.size w0 w' ∧ Kept w w' (fun k_ => P0_ k_) := by
  obtain ⟨A, c, rfl⟩ := Kd.R_slice ho0
  have HC := Aside0.mk (fun lim => f123_small k P0_ _ l lim r w0 w hB ho0 hn h)
  have H98 : Aside0 (∀ W, Calls Try.prog 98 #[.int .u64 (l.length : Int)] W fun e w' => e = .returned (.int .i64 (Lib.bitLen l.length : Nat)) ∧ w' = W) := ⟨fun W => by
    have h_ := Any.bits_Len Try.laysBits (l.length : Int) W (by omega) (by omega)
    rwa [Int.toNat_natCast] at h_⟩
  have hu : IntKind.u64.wrap (l.length : Int) = (l.length : Int) := by simp [IntKind.wrap, IntKind.bits, IntKind.signed]; omega
  clear hB ho0 h
  go_enter Try.func103, Try.ntmps103
  go_wp2_with (first
    | (go_at_call 98; refine (H98.out _).mono ?_; rintro e w' ⟨rfl, rfl⟩)
    | (go_at_call 123; refine (HC.out _).mono ?_; rintro e w1 ⟨rfl, h1, h2, h3⟩))
  go_end0
  exact ⟨rfl, h1, h2, h3⟩
end Go.Proofs.Ytackcingpffidaa.P
namespace Go.Proofs.Ytackcingpffidaa.P
open Go.RowKit Go.Sort Go.Proofs.YtackcingpffidaaW.PrintWords Go.Proofs.YtackcingpffidaaW.PrintLast
set_option linter.unusedVariables false
set_option linter.unusedSimpArgs false
theorem holds_ints {w : World} {g : Nat} {cur : Array Value} {e : TypeId} {xs : List Int} (hb : w.heap[g]? = some (.cells cur e (0, 0))) (ht : cur.toList.take xs.length = xs.map (Value.int .u64)) : Holds (Value.int .u64) w g 0 xs.toArray := by
  intro j hj
  have hj' : j < xs.length := by simpa using hj
  refine ⟨?_, by simp [World.frozen?, hb]⟩
  have h1 : (cur.toList.take xs.length)[j]? = (xs.map (Value.int .u64))[j]? := by rw [ht]
  rw [List.getElem?_take_of_lt hj'] at h1
  simp only [World.cell?, hb, Nat.zero_add]
  simp only [Option.isSome_none, Bool.false_eq_true, if_false]
  rw [← Array.getElem?_toList, h1]
  simp [hj']
theorem heap_put {w : World} {g n : Nat} {cur : Array Value} {e : TypeId} (d : Array Int) (hb : w.heap[g]? = some (.cells cur e (0, 0))) :
    (putRow (Value.int .u64) (Sort.ahead w n) g 0 d).heap[g]? = some (.cells (putCells (Value.int .u64) 0 d cur) e (0, 0)) := by
  have hg : g < w.heap.size := (Array.getElem?_eq_some_iff.1 hb).1
  simp [putRow, mapBlock, Sort.ahead, Array.getElem?_modify, hb, onCells]
theorem grown_put {w : World} {g n : Nat} (d : Array Int) : w.grownBy (putRow (Value.int .u64) (Sort.ahead w n) g 0 d) (some g) := by
  refine ⟨rfl, rfl, rfl, by simp, fun k hk hne => ?_⟩
  have : g ≠ k := fun e => hne (by rw [e])
  simp [putRow, mapBlock, Sort.ahead, Array.getElem?_modify, this]
theorem take_put (cur : Array Value) (ts : List Int) (h : ts.length ≤ cur.size) : (putCells (Value.int .u64) 0 ts.toArray cur).toList.take ts.length = ts.map (Value.int .u64) := by
  apply List.ext_getElem?
  intro j
  by_cases hj : j < ts.length
  · rw [List.getElem?_take_of_lt hj, Array.getElem?_toList]
    simp [putCells, hj, show j < cur.size by omega]
  · rw [List.getElem?_take_eq_none (by omega), List.getElem?_eq_none (by simp; omega)]
set_option maxHeartbeats 1000000 in
theorem f104_nil (w : World) : Calls Try.prog 104 #[.slice none 0 0] w fun e w' => e = .returned (.slice none 0 0) ∧ w' = w := by
  go_enter Try.func104, Try.ntmps104
  go_wp2
  go_ret
  exact ⟨rfl, rfl⟩
theorem f104_own {base : Nat} {ok : Nat → Prop} {v : Value} {xs : List Int} {w : World} (h : Kd.R (Kd.int .u64) 53 w base ok v xs) (hn : xs.length ≤ 1000000) :
    Calls Try.prog 104 #[v] w fun e w' => ∃ v', e = .returned v' ∧ Kd.R (Kd.int .u64) 53 w' base ok v' (Lib.compact xs) ∧ w.grownBy w' v.ownBlock ∧ v'.ownBlock = v.ownBlock := by
  have hok := h.1
  have ho := Kd.own_of_R (enc := Value.int .u64) (h1 := fun _ => rfl) h
  obtain ⟨hl, hr⟩ := ho
  rcases hr with ⟨rfl, h0⟩ | ⟨g, cap, cur, rfl, hb, hh, h1, h2, h3, h4⟩
  · obtain rfl : xs = [] := List.eq_nil_of_length_eq_zero h0
    refine (f104_nil w).mono ?_
    rintro e w' ⟨rfl, rfl⟩
    exact ⟨_, rfl, by simpa [Lib.compact, Lib.compactUpTo] using h, World.grownBy.refl _ _, rfl⟩
  · have h5 : cur.toList.take xs.length = xs.map (Value.int .u64) := by rw [Nat.mul_one] at h4; exact h4
    refine (AnyE.slices_Compact (α := Int) Try.laysCompact (Value.int .u64) (fun _ => rfl) (EqlAt.intD _ _ _) (NeqAt.intD _ _ _) 0 Try.zeroValue53 g 0 cap xs.toArray w (holds_ints hh h5) (by simp; omega) h1).mono ?_
    rintro e w' ⟨rfl, n, rfl⟩
    have hc : (Lib.compact xs).length ≤ xs.length := by
      unfold Lib.compact Lib.compactUpTo
      rw [List.length_map]
      exact Nat.le_trans (List.length_filter_le _ _) (by simp)
    have hh2 := heap_put (n := n) (Lib.compact xs ++ List.replicate (xs.length - (Lib.compact xs).length) 0).toArray hh
    have hg2 := grown_put (w := w) (g := g) (n := n) (Lib.compact xs ++ List.replicate (xs.length - (Lib.compact xs).length) 0).toArray
    refine ⟨_, rfl, ?_, by simpa [Value.ownBlock, Lib.compact] using hg2, by simp [Value.ownBlock]⟩
    refine Kd.R_of_own (enc := Value.int .u64) (h1 := fun _ => rfl) ⟨by simp [encs], .inr ⟨g, cap, _, rfl, hb, hh2, by omega, h2, by simp [putCells, h3], ?_⟩⟩ (fun k hk => hok k (by simpa [Value.ownBlock] using hk))
    rw [Nat.mul_one]
    have ht := take_put cur (Lib.compact xs ++ List.replicate (xs.length - (Lib.compact xs).length) 0) (by simp; omega)
    have h6 := congrArg (List.take (Lib.compact xs).length) ht
    rw [List.take_take, List.map_append, List.take_left' (by simp), Nat.min_eq_left (by simp)] at h6
    exact h6
end Go.Proofs.Ytackcingpffidaa.P
namespace Go.Proofs.Ytackcingpffidaa.P
open Go.RowKit Go.Proofs.YtackcingpffidaaW.PrintWords Go.Proofs.YtackcingpffidaaW.PrintLast Go.Proofs.YtackcingpffidaaW.PrintMore
set_option linter.unusedVariables false
set_option linter.unusedSimpArgs false
/-- What a sort of numbers gives: the function rs, at the lists that it holds for. -/
def Sorts (rs : List Int → Option (List Int)) : Prop := ∀ (w0 w : World) (ok : Nat → Prop) (v : Value) (l r : List Int), Below w0.heap.size w0 w → Kd.R (Kd.int .u64) 53 w w0.heap.size ok v l → l.length ≤ 1000000 → rs l = some r →
  Calls Try.prog 103 #[v] w fun e w' => e = .returned (.tuple #[]) ∧ Kd.R (Kd.int .u64) 53 w' w0.heap.size ok v r ∧ w.grownBy w' v.ownBlock
def sort12 (k : Nat) (l : List Int) : Option (List Int) := if l.length ≤ 12 then slices_insertionSortOrdered_uint64.f k l 0 (l.length : Int) else none
theorem sorts12 (k : Nat) : Sorts (sort12 k) := by
  intro w0 w ok v l r hB h hn hs
  unfold sort12 at hs
  by_cases h12 : l.length ≤ 12
  · rw [if_pos h12] at hs
    have hok := h.1
    have h0 : Kd.R (Kd.int .u64) 53 w w0.heap.size (fun k => some k = v.ownBlock) v l := Kd.R_of_own (enc := Value.int .u64) (h1 := fun _ => rfl) (Kd.own_of_R (enc := Value.int .u64) (h1 := fun _ => rfl) h) (fun k hk => hk.symm)
    refine (f103_small k (fun k => some k = v.ownBlock) v l r w0 w hB h0 h12 hs).mono ?_
    rintro e w' ⟨rfl, h1, h2, h3⟩
    refine ⟨rfl, ?_, ?_⟩
    · exact Kd.R_of_own (enc := Value.int .u64) (h1 := fun _ => rfl) (Kd.own_of_R (enc := Value.int .u64) (h1 := fun _ => rfl) h1) hok
    · exact ⟨h2.os.trans hB.os.symm, h2.tape.trans hB.tape.symm, h2.output.trans hB.output.symm, h3.1, fun k hk hne => h3.2 k hk (fun e => hne e)⟩
  · rw [if_neg h12] at hs
    exact absurd hs (by simp)
/-- The first m of a row of the call's own. -/
theorem R_take {w : World} {base : Nat} {ok : Nat → Prop} {A : Option Addr} {c : Nat} {xs : List Int} (h : Kd.R (Kd.int .u64) 53 w base ok (.slice A xs.length c) xs) (m : Nat) (hm : m ≤ xs.length) (hp : 0 < m) : Kd.R (Kd.int .u64) 53 w base ok (.slice A m c) (xs.take m) := by
  have hok := h.1
  have ho := Kd.own_of_R (enc := Value.int .u64) (h1 := fun _ => rfl) h
  obtain ⟨hl, hr⟩ := ho
  rcases hr with ⟨h_, h0⟩ | ⟨g, cap, cur, hv, hb, hh, h1, h2, h3, h4⟩
  · omega
  · obtain ⟨rfl, -, rfl⟩ : A = some ⟨g, 0, none⟩ ∧ xs.length = xs.length ∧ c = cap := by simpa using hv
    refine Kd.R_of_own (enc := Value.int .u64) (h1 := fun _ => rfl) ⟨by simp [encs], .inr ⟨g, c, cur, by simp; omega, hb, hh, by simp; omega, h2, h3, ?_⟩⟩ (fun k hk => hok k (by simpa [Value.ownBlock] using hk))
    rw [Nat.mul_one] at h4 ⊢
    have h6 := congrArg (List.take (xs.take m).length) h4
    rw [List.take_take, Nat.min_eq_left (by simp; omega)] at h6
    rw [h6]
    simp [encs]
theorem R_ad {w : World} {base : Nat} {ok : Nat → Prop} {A : Option Addr} {c : Nat} {xs : List Int} (h : Kd.R (Kd.int .u64) 53 w base ok (.slice A xs.length c) xs) (hp : 0 < xs.length) : ∃ g, A = some ⟨g, 0, none⟩ := by
  have ho := Kd.own_of_R (enc := Value.int .u64) (h1 := fun _ => rfl) h
  obtain ⟨hl, hr⟩ := ho
  rcases hr with ⟨h_, h0⟩ | ⟨g, cap, cur, hv, hb, hh, h1, h2, h3, h4⟩
  · omega
  · exact ⟨g, by simpa using (Value.slice.inj hv).1⟩
/-- What sketch.smallest returns. -/
def smallS (rs : List Int → Option (List Int)) (l : List Int) : Option (List Int × Bool) := (rs l).bind fun s => if 32 < (Lib.compact s).length then some ((Lib.compact s).take 32, false) else some (Lib.compact s, true)
set_option maxHeartbeats 2000000 in
set_option maxRecDepth 100000 in
theorem f57_own (rs : List Int → Option (List Int)) (hS : Sorts rs) (hlen : ∀ l r, rs l = some r → r.length = l.length) (w0 w : World) (ok : Nat → Prop) (v : Value) (l r : List Int) (b : Bool) (hB : Below w0.heap.size w0 w) (h : Kd.R (Kd.int .u64) 53 w w0.heap.size ok v l) (hn : l.length ≤ 1000000) (hs : smallS rs l = some (r, b)) :
    Calls Try.prog 57 #[v] w fun e w' => ∃ v', e = .returned (.tuple #[v', .bool b]) ∧ Kd.R (Kd.int .u64) 53 w' w0.heap.size ok v' r ∧ w.grownBy w' v.ownBlock ∧ (∀ k, v'.ownBlock = some k → v.ownBlock = some k) := by
  unfold smallS at hs
  obtain ⟨s, hs1, hs2⟩ := Option.bind_eq_some_iff.mp hs
  have hsl := hlen l s hs1
  have H103 := Aside0.mk (hS w0 w ok v l s hB h hn hs1)
  have hwp : ∀ W, Kd.R (Kd.int .u64) 53 W w0.heap.size ok v s → True := fun _ _ => trivial
  clear hS hlen hs hs1
  by_cases h32 : 32 < (Lib.compact s).length
  · rw [if_pos h32] at hs2
    obtain ⟨rfl, rfl⟩ := Prod.mk.inj (Option.some.inj hs2)
    have hd : decide ((32 : Int) < (Lib.compact s).length) = true := decide_eq_true (by omega)
    have h32n : 32 ≤ (Lib.compact s).length := by omega
    clear hs2 h32
    go_enter Try.func57, Try.ntmps57
    go_wp2_with (first
      | (go_at_call 103; refine H103.out.mono ?_; rintro e w1 ⟨rfl, h1, hg1⟩; have HG1 := Aside0.mk hg1; have HR1 := Aside0.mk h1; clear hg1 h1)
      | (go_at_call 104; refine (f104_own HR1.out (by omega)).mono ?_; rintro e w2 ⟨v2, rfl, h2, hg2, hv2⟩; obtain ⟨A2, c2, rfl⟩ := Kd.R_slice h2; obtain ⟨g2, rfl⟩ := R_ad h2 (by omega); have hcap := (Kd.R_reads' h2).2.1; have hc32 : (32 : Int) ≤ (c2 : Int) := (by omega); have HG2 := Aside0.mk hg2; have HR2 := Aside0.mk h2; have HV2 := Aside0.mk hv2; clear hg2 h2 hv2))
    go_ret2
    exact ⟨_, rfl, R_take HR2.out 32 h32n (by omega), HG1.out.trans HG2.out, fun k hk => HV2.out ▸ hk⟩
  · rw [if_neg h32] at hs2
    obtain ⟨rfl, rfl⟩ := Prod.mk.inj (Option.some.inj hs2)
    have hd : decide ((32 : Int) < (Lib.compact s).length) = false := decide_eq_false (by omega)
    clear hs2 h32
    go_enter Try.func57, Try.ntmps57
    go_wp2_with (first
      | (go_at_call 103; refine H103.out.mono ?_; rintro e w1 ⟨rfl, h1, hg1⟩; have HG1 := Aside0.mk hg1; have HR1 := Aside0.mk h1; clear hg1 h1)
      | (go_at_call 104; refine (f104_own HR1.out (by omega)).mono ?_; rintro e w2 ⟨v2, rfl, h2, hg2, hv2⟩; obtain ⟨A2, c2, rfl⟩ := Kd.R_slice h2; have HG2 := Aside0.mk hg2; have HR2 := Aside0.mk h2; have HV2 := Aside0.mk hv2; clear hg2 h2 hv2))
    go_ret2
    exact ⟨_, rfl, HR2.out, HG1.out.trans HG2.out, fun k hk => HV2.out ▸ hk⟩
end Go.Proofs.Ytackcingpffidaa.P
namespace Go.Proofs.Ytackcingpffidaa.P
open Go.RowKit Go.Proofs.YtackcingpffidaaW.PrintWords Go.Proofs.YtackcingpffidaaW.PrintLast Go.Proofs.YtackcingpffidaaW.PrintMore
set_option linter.unusedVariables false
set_option linter.unusedSimpArgs false
set_option maxHeartbeats 2000000 in
set_option maxRecDepth 100000 in
theorem f56_calls (gc : Nat) (t : TypeId) (cs : List Int) (w : World) (hcs : cs.length = 256) (hb : w.heap[gc]? = some (.cells (cs.map (Value.int .i64)).toArray t (0, 0))) :
    Calls Try.prog 56 #[.pointer (some ⟨gc, 0, none⟩)] w fun e w' => ∃ v, e = .returned v ∧ Kd.R (Kd.int .i64) 3 w' w.heap.size (fun _ => True) v cs ∧ Below w.heap.size w w' := by
  have HBK := Aside0.mk hb
  have HCS := Aside0.mk hcs
  clear hb hcs
  go_enter Try.func56, Try.ntmps56
  go_wp2
  go_loopg [3, 5] 4 (fun kq v3 v5 w' => ∃ i : Nat, v5 = .int .i64 i ∧ i ≤ 4 ∧ Aside0 (kq + i = 4) ∧ Aside0 (Kd.R (Kd.int .i64) 3 w' w.heap.size (fun _ => True) v3 (cs.take (i * 64))) ∧ Aside0 (Below w.heap.size w w'))
  case atStart => exact ⟨0, rfl, by omega, ⟨rfl⟩, ⟨by rw [Nat.zero_mul, List.take_zero]; exact Kd.R_nil _ _ _ _ _⟩, ⟨Below.refl _ _⟩⟩
  case round =>
    obtain ⟨i, rfl, hi, HK, HR, HB⟩ := hrel
    by_cases h4 : i < 4
    · cases gk with
      | zero => exact absurd HK.out (by omega)
      | succ k1 =>
        have hd1 : decide ((i : Int) < 4) = true := decide_eq_true (by omega)
        have hw2 : IntKind.i64.wrap ((i : Int) + 1) = ((i + 1 : Nat) : Int) := by rw [i64_w]; unfold wrap64; omega
        obtain ⟨A3, c3, rfl⟩ := Kd.R_slice HR.out
        have hlt : (i : Int) < 4 := by omega
        have HC : Aside0 (Kd.C (Kd.int .i64) wr (some ⟨gc, i * 64, none⟩) 64 ((cs.drop (i * 64)).take 64)) := ⟨by
          have hl : ((cs.drop (i * 64)).take 64).length = 64 := by rw [List.length_take, List.length_drop]; have := HCS.out; omega
          have hbk := blk_below HBK.out HB.out
          refine Kd.C_of_reads (enc := Value.int .i64) (d := (0 : Int)) (h1 := fun _ => rfl) ⟨hl, by decide, fun _ => ⟨_, rfl, fun j hj => ?_⟩⟩
          have hj2 : j < 64 := by omega
          have hcs := HCS.out
          rw [show (⟨gc, i * 64, none⟩ : Addr).add j = ⟨gc, i * 64 + j, none⟩ from by unfold Addr.add; split <;> simp_all, blk_cell hbk]
          simp [hj2, show i * 64 + j < cs.length by omega]⟩
        have HN := Aside0.mk (show (cs.take (i * 64)).length = i * 64 from by rw [List.length_take]; have := HCS.out; omega)
        have hn := HN.out
        have hz := below_size HB.out
        have HT : Aside0 (cs.take (i * 64) ++ (cs.drop (i * 64)).take 64 = cs.take ((i + 1) * 64)) := ⟨by rw [Nat.add_mul, Nat.one_mul, List.take_add]⟩
        go_wp2_with ((with_reducible refine gate_dst (N := 14) rfl ?_); refine Kd.R_append_row (Value.int .i64) 0 (h1 := fun _ => rfl) (w0 := w) (W := wr) w.heap.size rfl (.tmp 8) (.tmp 13) 23 3 (.int .i64 0) 8 rfl Try.underlying23 info3 rfl (by decide) _ (cs.take (i * 64)) ((cs.drop (i * 64)).take 64) _ 64 64 (fun _ => True) rfl rfl (fun _ _ => trivial) HR.out HC.out HB.out hz (by omega) ?_; intro v1 w1 hR1 hB1 _ _; have HR1 := Aside0.mk hR1; have HB1 := Aside0.mk hB1; clear hR1 hB1)
        go_roundg k1
        case measure => omega
        case rel => exact ⟨i + 1, int_eq (by omega), by omega, ⟨by have := HK.out; omega⟩, ⟨by rw [← HT.out]; exact HR1.out⟩, HB1⟩
    · obtain rfl : i = 4 := by omega
      cases gk with
      | succ k1 => exact absurd HK.out (by omega)
      | zero =>
        have hd1 : decide ((4 : Int) < 4) = false := rfl
        go_wp2
        go_ret
        refine ⟨_, rfl, ?_, HB.out⟩
        have h_ := HR.out
        rwa [List.take_of_length_le (by have := HCS.out; omega)] at h_
end Go.Proofs.Ytackcingpffidaa.P
