/- What Go functions of the given program return, told as Lean functions, and the walks that show it, with plain facts on them: value_Compare, value_Equal, checksum_Mix, checksum_Hash, value_Hash, value_Decode, sketch_cell, laminaref16_values. Conditions: the hypotheses that stand at each theorem. -/
import Derived.Test.YtackcingpffidaaZd0
namespace Go.Proofs.Ytackcingpffidaa.P
open Go.RowKit Go.Proofs.YtackcingpffidaaW.PrintWords Go.Proofs.YtackcingpffidaaW.PrintLast Go.Proofs.YtackcingpffidaaW.PrintMore
attribute [local go_sem] max2_int min2_int max_two min_two max_three min_three max_four min_four Go.Proofs.YtackcingpffidaaQ.str_gtr Go.Proofs.YtackcingpffidaaQ.str_leq Go.Proofs.YtackcingpffidaaQ.str_geq   -- for this text's walks alone
set_option linter.unusedVariables false
set_option linter.unusedSimpArgs false
/-! ### value_Compare: function 53 -/
def value_Compare.f (a0_0 : Int) (a0_1 : Int) (a0_2 : ByteArray) (a1_0 : Int) (a1_1 : Int) (a1_2 : ByteArray) : Option (Int) := if a0_0 = a1_0 then (if a0_0 = 3 then ((strings_Compare.f a0_2 a1_2).bind fun t361 => (some t361)) else (if a0_0 = 1 then ((value_sign.f (decide (a0_1 < a1_1)) (decide (a0_1 > a1_1))).bind fun t362 => (some t362)) else (if a0_0 = 2 then ((value_sign.f (decide (a0_1 < a1_1)) (decide (a0_1 > a1_1))).bind fun t363 => (some t363)) else (some 0)))) else ((value_sign.f (decide (a0_0 < a1_0)) true).bind fun t360 => (some t360))
set_option maxHeartbeats 8000000 in
set_option maxRecDepth 100000 in
theorem value_Compare.calls (a0_0 : Int) (a0_1 : Int) (a0_2 : ByteArray) (a1_0 : Int) (a1_1 : Int) (a1_2 : ByteArray) (r : Int) (w : World) (h : value_Compare.f a0_0 a0_1 a0_2 a1_0 a1_1 a1_2 = some r) :
  Calls Try.prog 53 #[.agg #[.int .i64 a0_0, .int .i64 a0_1, .string a0_2], .agg #[.int .i64 a1_0, .int .i64 a1_1, .string a1_2]] w fun e w' => e = .returned (.int .i64 r) ∧ Below w.heap.size w w' := by
 have hu39 := Try.underlying39
 have HB := Aside0.mk (Below.refl w.heap.size w)
 have H : (if a0_0 = a1_0 then (if a0_0 = 3 then ((strings_Compare.f a0_2 a1_2).bind fun t361 => (some t361)) else (if a0_0 = 1 then ((value_sign.f (decide (a0_1 < a1_1)) (decide (a0_1 > a1_1))).bind fun t362 => (some t362)) else (if a0_0 = 2 then ((value_sign.f (decide (a0_1 < a1_1)) (decide (a0_1 > a1_1))).bind fun t363 => (some t363)) else (some 0)))) else ((value_sign.f (decide (a0_0 < a1_0)) true).bind fun t360 => (some t360))) = some r := h
 clear h
 by_cases c3 : a0_0 = a1_0
 ·rw [if_pos c3] at H
  have c3b0 : (a0_0 == a1_0) = true := beq_iff_eq.mpr c3
  have c3b1 : (a0_0 != a1_0) = false := bne_eq_false_iff_eq.mpr c3
  clear c3
  by_cases c4 : a0_0 = 3
  ·rw [if_pos c4] at H
   have c4b0 : (a0_0 == 3) = true := beq_iff_eq.mpr c4
   have c4b1 : (a0_0 != 3) = false := bne_eq_false_iff_eq.mpr c4
   clear c4
   replace H := Option.bind_eq_some_iff.mp H
   obtain ⟨t361, A50, H⟩ := H
   replace H : (some t361) = some r := H
   have A5 := Aside0.mk A50
   clear A50
   obtain rfl := Option.some.inj H
   go_enter Try.func53, Try.ntmps53
   go_wp2_with (first | ((with_reducible refine gate_dst (N := 2) rfl ?_); refine box_ 2 (cs := #[.int .i64 a0_0, .int .i64 a0_1, .string a0_2]) (t := 39) ?_; intro gb358 hg w6 hbox hb; have BK358 := Aside0.mk (hbox); have GW358 := Aside0.mk ((by rw [hg]; exact (below_size (hb_ HB.out)) : w.heap.size ≤ gb358)); have GE358 := Aside0.mk ((by rw [hg]; exact (below_size (hb_ HB.out)) : w.heap.size ≤ gb358)); replace HB := Aside0.mk (below_step (hb_ HB.out) hb); clear hb hbox hg) | ((with_reducible refine gate_dst (N := 3) rfl ?_); refine box_ 3 (cs := #[.int .i64 a1_0, .int .i64 a1_1, .string a1_2]) (t := 39) ?_; intro gb359 hg w7 hbox hb; have BK359 := Aside0.mk (hbox); have GW359 := Aside0.mk ((by rw [hg]; exact (below_size (hb1_ HB.out GE358.out)) : w.heap.size ≤ gb359)); have GE359 := Aside0.mk ((by rw [hg]; exact (below_size (hb1_ HB.out GE358.out)) : w.heap.size ≤ gb359)); have NB358_359 := Aside0.mk ((by rw [hg]; exact Nat.ne_of_lt (blk_lt (bk_ BK358.out)) : gb358 ≠ gb359)); have NB359_358 := Aside0.mk ((by rw [hg]; exact Nat.ne_of_gt (blk_lt (bk_ BK358.out)) : gb359 ≠ gb358)); replace BK358 := Aside0.mk (blk_below (bk_ BK358.out) hb); replace HB := Aside0.mk (below_step (hb1_ HB.out GE358.out) hb); clear hb hbox hg; have hnb8 := NB358_359.out; have hnc8 := NB359_358.out; obtain ⟨hcz9_0, hcz9_1, hcz9_2, hfz9_0, hfz9_1, hfz9_2⟩ := bf3 BK358.out; obtain ⟨hcz10_0, hcz10_1, hcz10_2, hfz10_0, hfz10_1, hfz10_2⟩ := bf3 BK359.out) | ((with_reducible refine gate_callee (f := 100) rfl ?_); refine goesL_ (some 28) rfl rfl Try.func100 (by kernel_rfl) rfl #[.string a0_2, .string a1_2] rfl (by (try simp only [List.map_toArray, List.map_cons, List.map_nil]); first | done | rfl | (simp only [List.length_drop, List.length_take]; rfl) | (simp only [Int.ofNat_lt, Int.ofNat_le, gt_iff_lt, ge_iff_le]; rfl)) ?_; (with_reducible refine (strings_Compare.calls a0_2 a1_2 t361 _ A5.out).mono ?_); rintro e w' ⟨rfl, ⟨nd, rfl⟩⟩; refine ⟨_, rfl, ?_⟩))
   go_ret
   exact er_ ((hb2_ HB.out GE358.out GE359.out))
  ·rw [if_neg c4] at H
   have c4b0 : (a0_0 == 3) = false := beq_eq_false_iff_ne.mpr c4
   have c4b1 : (a0_0 != 3) = true := bne_iff_ne.mpr c4
   by_cases c11 : a0_0 = 1
   ·rw [if_pos c11] at H
    have c11b0 : (a0_0 == 1) = true := beq_iff_eq.mpr c11
    have c11b1 : (a0_0 != 1) = false := bne_eq_false_iff_eq.mpr c11
    clear c11
    replace H := Option.bind_eq_some_iff.mp H
    obtain ⟨t362, A120, H⟩ := H
    replace H : (some t362) = some r := H
    have A12 := Aside0.mk A120
    clear A120
    obtain rfl := Option.some.inj H
    go_enter Try.func53, Try.ntmps53
    go_wp2_with (first | ((with_reducible refine gate_dst (N := 2) rfl ?_); refine box_ 2 (cs := #[.int .i64 a0_0, .int .i64 a0_1, .string a0_2]) (t := 39) ?_; intro gb358 hg w13 hbox hb; have BK358 := Aside0.mk (hbox); have GW358 := Aside0.mk ((by rw [hg]; exact (below_size (hb_ HB.out)) : w.heap.size ≤ gb358)); have GE358 := Aside0.mk ((by rw [hg]; exact (below_size (hb_ HB.out)) : w.heap.size ≤ gb358)); replace HB := Aside0.mk (below_step (hb_ HB.out) hb); clear hb hbox hg) | ((with_reducible refine gate_dst (N := 3) rfl ?_); refine box_ 3 (cs := #[.int .i64 a1_0, .int .i64 a1_1, .string a1_2]) (t := 39) ?_; intro gb359 hg w14 hbox hb; have BK359 := Aside0.mk (hbox); have GW359 := Aside0.mk ((by rw [hg]; exact (below_size (hb1_ HB.out GE358.out)) : w.heap.size ≤ gb359)); have GE359 := Aside0.mk ((by rw [hg]; exact (below_size (hb1_ HB.out GE358.out)) : w.heap.size ≤ gb359)); have NB358_359 := Aside0.mk ((by rw [hg]; exact Nat.ne_of_lt (blk_lt (bk_ BK358.out)) : gb358 ≠ gb359)); have NB359_358 := Aside0.mk ((by rw [hg]; exact Nat.ne_of_gt (blk_lt (bk_ BK358.out)) : gb359 ≠ gb358)); replace BK358 := Aside0.mk (blk_below (bk_ BK358.out) hb); replace HB := Aside0.mk (below_step (hb1_ HB.out GE358.out) hb); clear hb hbox hg; have hnb15 := NB358_359.out; have hnc15 := NB359_358.out; obtain ⟨hcz16_0, hcz16_1, hcz16_2, hfz16_0, hfz16_1, hfz16_2⟩ := bf3 BK358.out; obtain ⟨hcz17_0, hcz17_1, hcz17_2, hfz17_0, hfz17_1, hfz17_2⟩ := bf3 BK359.out) | ((with_reducible refine gate_callee (f := 99) rfl ?_); refine goesL_ (some 39) rfl rfl Try.func99 (by kernel_rfl) rfl #[.bool (decide (a0_1 < a1_1)), .bool (decide (a0_1 > a1_1))] rfl (by (try simp only [List.map_toArray, List.map_cons, List.map_nil]); first | done | rfl | (simp only [List.length_drop, List.length_take]; rfl) | (simp only [Int.ofNat_lt, Int.ofNat_le, gt_iff_lt, ge_iff_le]; rfl)) ?_; (with_reducible refine (value_sign.calls (decide (a0_1 < a1_1)) (decide (a0_1 > a1_1)) t362 _ A12.out).mono ?_); rintro e w' ⟨rfl, ⟨nd, rfl⟩⟩; refine ⟨_, rfl, ?_⟩))
    go_ret
    exact er_ ((hb2_ HB.out GE358.out GE359.out))
   ·rw [if_neg c11] at H
    have c11b0 : (a0_0 == 1) = false := beq_eq_false_iff_ne.mpr c11
    have c11b1 : (a0_0 != 1) = true := bne_iff_ne.mpr c11
    by_cases c18 : a0_0 = 2
    ·rw [if_pos c18] at H
     have c18b0 : (a0_0 == 2) = true := beq_iff_eq.mpr c18
     have c18b1 : (a0_0 != 2) = false := bne_eq_false_iff_eq.mpr c18
     clear c18
     replace H := Option.bind_eq_some_iff.mp H
     obtain ⟨t363, A190, H⟩ := H
     replace H : (some t363) = some r := H
     have A19 := Aside0.mk A190
     clear A190
     obtain rfl := Option.some.inj H
     go_enter Try.func53, Try.ntmps53
     go_wp2_with (first | ((with_reducible refine gate_dst (N := 2) rfl ?_); refine box_ 2 (cs := #[.int .i64 a0_0, .int .i64 a0_1, .string a0_2]) (t := 39) ?_; intro gb358 hg w20 hbox hb; have BK358 := Aside0.mk (hbox); have GW358 := Aside0.mk ((by rw [hg]; exact (below_size (hb_ HB.out)) : w.heap.size ≤ gb358)); have GE358 := Aside0.mk ((by rw [hg]; exact (below_size (hb_ HB.out)) : w.heap.size ≤ gb358)); replace HB := Aside0.mk (below_step (hb_ HB.out) hb); clear hb hbox hg) | ((with_reducible refine gate_dst (N := 3) rfl ?_); refine box_ 3 (cs := #[.int .i64 a1_0, .int .i64 a1_1, .string a1_2]) (t := 39) ?_; intro gb359 hg w21 hbox hb; have BK359 := Aside0.mk (hbox); have GW359 := Aside0.mk ((by rw [hg]; exact (below_size (hb1_ HB.out GE358.out)) : w.heap.size ≤ gb359)); have GE359 := Aside0.mk ((by rw [hg]; exact (below_size (hb1_ HB.out GE358.out)) : w.heap.size ≤ gb359)); have NB358_359 := Aside0.mk ((by rw [hg]; exact Nat.ne_of_lt (blk_lt (bk_ BK358.out)) : gb358 ≠ gb359)); have NB359_358 := Aside0.mk ((by rw [hg]; exact Nat.ne_of_gt (blk_lt (bk_ BK358.out)) : gb359 ≠ gb358)); replace BK358 := Aside0.mk (blk_below (bk_ BK358.out) hb); replace HB := Aside0.mk (below_step (hb1_ HB.out GE358.out) hb); clear hb hbox hg; have hnb22 := NB358_359.out; have hnc22 := NB359_358.out; obtain ⟨hcz23_0, hcz23_1, hcz23_2, hfz23_0, hfz23_1, hfz23_2⟩ := bf3 BK358.out; obtain ⟨hcz24_0, hcz24_1, hcz24_2, hfz24_0, hfz24_1, hfz24_2⟩ := bf3 BK359.out) | ((with_reducible refine gate_callee (f := 99) rfl ?_); refine goesL_ (some 39) rfl rfl Try.func99 (by kernel_rfl) rfl #[.bool (decide (a0_1 < a1_1)), .bool (decide (a0_1 > a1_1))] rfl (by (try simp only [List.map_toArray, List.map_cons, List.map_nil]); first | done | rfl | (simp only [List.length_drop, List.length_take]; rfl) | (simp only [Int.ofNat_lt, Int.ofNat_le, gt_iff_lt, ge_iff_le]; rfl)) ?_; (with_reducible refine (value_sign.calls (decide (a0_1 < a1_1)) (decide (a0_1 > a1_1)) t363 _ A19.out).mono ?_); rintro e w' ⟨rfl, ⟨nd, rfl⟩⟩; refine ⟨_, rfl, ?_⟩))
     go_ret
     exact er_ ((hb2_ HB.out GE358.out GE359.out))
    ·rw [if_neg c18] at H
     have c18b0 : (a0_0 == 2) = false := beq_eq_false_iff_ne.mpr c18
     have c18b1 : (a0_0 != 2) = true := bne_iff_ne.mpr c18
     obtain rfl := Option.some.inj H
     go_enter Try.func53, Try.ntmps53
     go_wp2_with (first | ((with_reducible refine gate_dst (N := 2) rfl ?_); refine box_ 2 (cs := #[.int .i64 a0_0, .int .i64 a0_1, .string a0_2]) (t := 39) ?_; intro gb358 hg w25 hbox hb; have BK358 := Aside0.mk (hbox); have GW358 := Aside0.mk ((by rw [hg]; exact (below_size (hb_ HB.out)) : w.heap.size ≤ gb358)); have GE358 := Aside0.mk ((by rw [hg]; exact (below_size (hb_ HB.out)) : w.heap.size ≤ gb358)); replace HB := Aside0.mk (below_step (hb_ HB.out) hb); clear hb hbox hg) | ((with_reducible refine gate_dst (N := 3) rfl ?_); refine box_ 3 (cs := #[.int .i64 a1_0, .int .i64 a1_1, .string a1_2]) (t := 39) ?_; intro gb359 hg w26 hbox hb; have BK359 := Aside0.mk (hbox); have GW359 := Aside0.mk ((by rw [hg]; exact (below_size (hb1_ HB.out GE358.out)) : w.heap.size ≤ gb359)); have GE359 := Aside0.mk ((by rw [hg]; exact (below_size (hb1_ HB.out GE358.out)) : w.heap.size ≤ gb359)); have NB358_359 := Aside0.mk ((by rw [hg]; exact Nat.ne_of_lt (blk_lt (bk_ BK358.out)) : gb358 ≠ gb359)); have NB359_358 := Aside0.mk ((by rw [hg]; exact Nat.ne_of_gt (blk_lt (bk_ BK358.out)) : gb359 ≠ gb358)); replace BK358 := Aside0.mk (blk_below (bk_ BK358.out) hb); replace HB := Aside0.mk (below_step (hb1_ HB.out GE358.out) hb); clear hb hbox hg; have hnb27 := NB358_359.out; have hnc27 := NB359_358.out; obtain ⟨hcz28_0, hcz28_1, hcz28_2, hfz28_0, hfz28_1, hfz28_2⟩ := bf3 BK358.out; obtain ⟨hcz29_0, hcz29_1, hcz29_2, hfz29_0, hfz29_1, hfz29_2⟩ := bf3 BK359.out))
     go_ret
     exact er_ ((hb2_ HB.out GE358.out GE359.out))
 ·rw [if_neg c3] at H
  have c3b0 : (a0_0 == a1_0) = false := beq_eq_false_iff_ne.mpr c3
  have c3b1 : (a0_0 != a1_0) = true := bne_iff_ne.mpr c3
  replace H := Option.bind_eq_some_iff.mp H
  obtain ⟨t360, A300, H⟩ := H
  replace H : (some t360) = some r := H
  have A30 := Aside0.mk A300
  clear A300
  obtain rfl := Option.some.inj H
  go_enter Try.func53, Try.ntmps53
  go_wp2_with (first | ((with_reducible refine gate_dst (N := 2) rfl ?_); refine box_ 2 (cs := #[.int .i64 a0_0, .int .i64 a0_1, .string a0_2]) (t := 39) ?_; intro gb358 hg w31 hbox hb; have BK358 := Aside0.mk (hbox); have GW358 := Aside0.mk ((by rw [hg]; exact (below_size (hb_ HB.out)) : w.heap.size ≤ gb358)); have GE358 := Aside0.mk ((by rw [hg]; exact (below_size (hb_ HB.out)) : w.heap.size ≤ gb358)); replace HB := Aside0.mk (below_step (hb_ HB.out) hb); clear hb hbox hg) | ((with_reducible refine gate_dst (N := 3) rfl ?_); refine box_ 3 (cs := #[.int .i64 a1_0, .int .i64 a1_1, .string a1_2]) (t := 39) ?_; intro gb359 hg w32 hbox hb; have BK359 := Aside0.mk (hbox); have GW359 := Aside0.mk ((by rw [hg]; exact (below_size (hb1_ HB.out GE358.out)) : w.heap.size ≤ gb359)); have GE359 := Aside0.mk ((by rw [hg]; exact (below_size (hb1_ HB.out GE358.out)) : w.heap.size ≤ gb359)); have NB358_359 := Aside0.mk ((by rw [hg]; exact Nat.ne_of_lt (blk_lt (bk_ BK358.out)) : gb358 ≠ gb359)); have NB359_358 := Aside0.mk ((by rw [hg]; exact Nat.ne_of_gt (blk_lt (bk_ BK358.out)) : gb359 ≠ gb358)); replace BK358 := Aside0.mk (blk_below (bk_ BK358.out) hb); replace HB := Aside0.mk (below_step (hb1_ HB.out GE358.out) hb); clear hb hbox hg; have hnb33 := NB358_359.out; have hnc33 := NB359_358.out; obtain ⟨hcz34_0, hcz34_1, hcz34_2, hfz34_0, hfz34_1, hfz34_2⟩ := bf3 BK358.out; obtain ⟨hcz35_0, hcz35_1, hcz35_2, hfz35_0, hfz35_1, hfz35_2⟩ := bf3 BK359.out) | ((with_reducible refine gate_callee (f := 99) rfl ?_); refine goesL_ (some 15) rfl rfl Try.func99 (by kernel_rfl) rfl #[.bool (decide (a0_0 < a1_0)), .bool true] rfl (by (try simp only [List.map_toArray, List.map_cons, List.map_nil]); first | done | rfl | (simp only [List.length_drop, List.length_take]; rfl) | (simp only [Int.ofNat_lt, Int.ofNat_le, gt_iff_lt, ge_iff_le]; rfl)) ?_; (with_reducible refine (value_sign.calls (decide (a0_0 < a1_0)) true t360 _ A30.out).mono ?_); rintro e w' ⟨rfl, ⟨nd, rfl⟩⟩; refine ⟨_, rfl, ?_⟩))
  go_ret
  exact er_ ((hb2_ HB.out GE358.out GE359.out))
/-! ### value_Equal: function 59 -/
def value_Equal.f (a0_0 : Int) (a0_1 : Int) (a0_2 : ByteArray) (a1_0 : Int) (a1_1 : Int) (a1_2 : ByteArray) : Option (Bool) := (value_Compare.f a0_0 a0_1 a0_2 a1_0 a1_1 a1_2).bind fun t366 => (some (t366 == 0))
set_option maxHeartbeats 8000000 in
set_option maxRecDepth 100000 in
theorem value_Equal.calls (a0_0 : Int) (a0_1 : Int) (a0_2 : ByteArray) (a1_0 : Int) (a1_1 : Int) (a1_2 : ByteArray) (r : Bool) (w : World) (h : value_Equal.f a0_0 a0_1 a0_2 a1_0 a1_1 a1_2 = some r) :
  Calls Try.prog 59 #[.agg #[.int .i64 a0_0, .int .i64 a0_1, .string a0_2], .agg #[.int .i64 a1_0, .int .i64 a1_1, .string a1_2]] w fun e w' => e = .returned (.bool r) ∧ Below w.heap.size w w' := by
 have hu39 := Try.underlying39
 have HB := Aside0.mk (Below.refl w.heap.size w)
 have H : ((value_Compare.f a0_0 a0_1 a0_2 a1_0 a1_1 a1_2).bind fun t366 => (some (t366 == 0))) = some r := h
 clear h
 replace H := Option.bind_eq_some_iff.mp H
 obtain ⟨t366, A30, H⟩ := H
 replace H : (some (t366 == 0)) = some r := H
 have A3 := Aside0.mk A30
 clear A30
 obtain rfl := Option.some.inj H
 go_enter Try.func59, Try.ntmps59
 go_wp2_with (first | ((with_reducible refine gate_dst (N := 2) rfl ?_); refine box_ 2 (cs := #[.int .i64 a0_0, .int .i64 a0_1, .string a0_2]) (t := 39) ?_; intro gb364 hg w4 hbox hb; have BK364 := Aside0.mk (hbox); have GW364 := Aside0.mk ((by rw [hg]; exact (below_size (hb_ HB.out)) : w.heap.size ≤ gb364)); have GE364 := Aside0.mk ((by rw [hg]; exact (below_size (hb_ HB.out)) : w.heap.size ≤ gb364)); replace HB := Aside0.mk (below_step (hb_ HB.out) hb); clear hb hbox hg) | ((with_reducible refine gate_dst (N := 3) rfl ?_); refine box_ 3 (cs := #[.int .i64 a1_0, .int .i64 a1_1, .string a1_2]) (t := 39) ?_; intro gb365 hg w5 hbox hb; have BK365 := Aside0.mk (hbox); have GW365 := Aside0.mk ((by rw [hg]; exact (below_size (hb1_ HB.out GE364.out)) : w.heap.size ≤ gb365)); have GE365 := Aside0.mk ((by rw [hg]; exact (below_size (hb1_ HB.out GE364.out)) : w.heap.size ≤ gb365)); have NB364_365 := Aside0.mk ((by rw [hg]; exact Nat.ne_of_lt (blk_lt (bk_ BK364.out)) : gb364 ≠ gb365)); have NB365_364 := Aside0.mk ((by rw [hg]; exact Nat.ne_of_gt (blk_lt (bk_ BK364.out)) : gb365 ≠ gb364)); replace BK364 := Aside0.mk (blk_below (bk_ BK364.out) hb); replace HB := Aside0.mk (below_step (hb1_ HB.out GE364.out) hb); clear hb hbox hg; have hnb6 := NB364_365.out; have hnc6 := NB365_364.out; obtain ⟨hcz7_0, hcz7_1, hcz7_2, hfz7_0, hfz7_1, hfz7_2⟩ := bf3 BK364.out; obtain ⟨hcz8_0, hcz8_1, hcz8_2, hfz8_0, hfz8_1, hfz8_2⟩ := bf3 BK365.out) | ((with_reducible refine gate_callee (f := 53) rfl ?_); refine goesL_ (some 7) rfl rfl Try.func53 (by kernel_rfl) rfl #[.agg #[.int .i64 a0_0, .int .i64 a0_1, .string a0_2], .agg #[.int .i64 a1_0, .int .i64 a1_1, .string a1_2]] rfl (by (try simp only [List.map_toArray, List.map_cons, List.map_nil]); first | done | rfl | (simp only [List.length_drop, List.length_take]; rfl) | (simp only [Int.ofNat_lt, Int.ofNat_le, gt_iff_lt, ge_iff_le]; rfl)) ?_; (with_reducible refine (value_Compare.calls a0_0 a0_1 a0_2 a1_0 a1_1 a1_2 t366 _ A3.out).mono ?_); rintro e w9 ⟨rfl, hb⟩; refine ⟨_, rfl, ?_⟩; replace BK364 := Aside0.mk (blk_below (bk_ BK364.out) hb); replace BK365 := Aside0.mk (blk_below (bk_ BK365.out) hb); replace HB := Aside0.mk (below_step (hb2_ HB.out GE364.out GE365.out) hb); (try clear hb)))
 go_ret
 exact er_ ((hb2_ HB.out GE364.out GE365.out))
/-! ### checksum_Mix: function 101 -/
def checksum_Mix.f (a0 : Int) : Option (Int) := some (Go.bits .xor .u64 (IntKind.u64.wrap ((Go.bits .xor .u64 (IntKind.u64.wrap ((Go.bits .xor .u64 a0 (a0 / 1073741824)) * 13787848793156543929)) ((IntKind.u64.wrap ((Go.bits .xor .u64 a0 (a0 / 1073741824)) * 13787848793156543929)) / 134217728)) * 10723151780598845931)) ((IntKind.u64.wrap ((Go.bits .xor .u64 (IntKind.u64.wrap ((Go.bits .xor .u64 a0 (a0 / 1073741824)) * 13787848793156543929)) ((IntKind.u64.wrap ((Go.bits .xor .u64 a0 (a0 / 1073741824)) * 13787848793156543929)) / 134217728)) * 10723151780598845931)) / 2147483648))
set_option maxHeartbeats 8000000 in
set_option maxRecDepth 100000 in
theorem checksum_Mix.calls (a0 : Int) (r : Int) (w : World) (h : checksum_Mix.f a0 = some r) :
  Calls Try.prog 101 #[.int .u64 a0] w fun e w' => e = .returned (.int .u64 r) ∧ Drawn0 w w' := by
 have H : (some (Go.bits .xor .u64 (IntKind.u64.wrap ((Go.bits .xor .u64 (IntKind.u64.wrap ((Go.bits .xor .u64 a0 (a0 / 1073741824)) * 13787848793156543929)) ((IntKind.u64.wrap ((Go.bits .xor .u64 a0 (a0 / 1073741824)) * 13787848793156543929)) / 134217728)) * 10723151780598845931)) ((IntKind.u64.wrap ((Go.bits .xor .u64 (IntKind.u64.wrap ((Go.bits .xor .u64 a0 (a0 / 1073741824)) * 13787848793156543929)) ((IntKind.u64.wrap ((Go.bits .xor .u64 a0 (a0 / 1073741824)) * 13787848793156543929)) / 134217728)) * 10723151780598845931)) / 2147483648))) = some r := h
 clear h
 obtain rfl := Option.some.inj H
 go_enter Try.func101, Try.ntmps101
 go_wp2
 go_ret
 exact ⟨by first | rfl | (simp; done) | (simp [*]; done), by repeat (first | exact Drawn0.refl _ | apply Drawn0.step)⟩
/-! ### checksum_Hash: function 102 -/
/-- The eight bytes of a group, with zeros behind what there is. -/
def checksum_Hash.pad (x : List Int) : List Int := x ++ List.replicate (8 - x.length) 0
/-- A group as a number, i bytes of it. -/
def checksum_Hash.word (g : List Int) : Nat → Int
 | 0 => 0
 | i + 1 => Go.bits .or .u64 (checksum_Hash.word g i) (IntKind.u64.wrap (IntKind.u64.wrap (rd g (i : Int)) * 2 ^ (8 * i)))
def checksum_Hash.l0 : Nat → List Int → Int → Int → Option Int
 | 0, _, _, _ => none
 | k + 1, l, h, n => if n < (l.length : Int) then (if 0 ≤ n then (checksum_Mix.f (Go.bits .xor .u64 h (checksum_Hash.word (checksum_Hash.pad ((l.take (if (l.length : Int) < wrap64 (n + 8) then (l.length : Int) else wrap64 (n + 8)).toNat).drop n.toNat)) 8))).bind fun t => checksum_Hash.l0 k l t (wrap64 (n + 8)) else none) else some h
def checksum_Hash.f (k : Nat) (a0 : Int) (l1 : List Int) : Option (Int) := if l1.length ≤ 140737488351232 then (checksum_Mix.f (Go.bits .xor .u64 a0 (l1.length : Int))).bind fun t => checksum_Hash.l0 k l1 t 0 else none
theorem checksum_Hash.mono_l : ∀ k, ∀ l h n, LeO (checksum_Hash.l0 k l h n) (checksum_Hash.l0 (k + 1) l h n)
 | 0 => fun _ _ _ r h => by simp [checksum_Hash.l0] at h
 | k + 1 => fun l h n => by
  have ih := checksum_Hash.mono_l k
  unfold checksum_Hash.l0
  exact LeO.ite (LeO.ite (LeO.bind (LeO.refl _) (fun _ => ih _ _ _)) (LeO.none _)) (LeO.refl _)
theorem checksum_Hash.mono : ∀ a0 a1 k, LeO (checksum_Hash.f k a0 a1) (checksum_Hash.f (k + 1) a0 a1) := by
 intro a0 a1 k
 unfold checksum_Hash.f
 exact LeO.ite (LeO.bind (LeO.refl _) (fun _ => checksum_Hash.mono_l k _ _ _)) (LeO.none _)
set_option maxHeartbeats 1000000 in
set_option maxRecDepth 100000 in
theorem checksum_Hash.calls (k : Nat) (a0 : Int) (A1 : Option Addr) (c1 : Nat) (l1 : List Int) (r : Int) (w : World) (hr1 : Kd.C (Kd.int .u8) w A1 l1.length l1) (hc1 : l1.length ≤ c1) (h : checksum_Hash.f k a0 l1 = some r) :
  Calls Try.prog 102 #[.int .u64 a0, .slice A1 l1.length c1] w fun e w' => e = .returned (.int .u64 r) ∧ Below w.heap.size w w' := by
 have HR1 := Aside0.mk hr1
 have HC1 := Aside0.mk hc1
 clear hr1 hc1
 have HB := Aside0.mk (Below.refl w.heap.size w)
 unfold checksum_Hash.f at h
 by_cases hl : l1.length ≤ 140737488351232
 ·rw [if_pos hl] at h
  obtain ⟨t, h1, h2⟩ := Option.bind_eq_some_iff.mp h
  have A1_ := Aside0.mk h1
  have H' := Aside0.mk h2
  clear h h1 h2
  go_enter Try.func102, Try.ntmps102
  go_wp2_with (first | ((with_reducible refine gate_callee (f := 101) rfl ?_); refine goesL_ (some 15) rfl rfl Try.func101 (by kernel_rfl) rfl #[.int .u64 (Go.bits .xor .u64 a0 (l1.length : Int))] rfl (by (try simp only [List.map_toArray, List.map_cons, List.map_nil]); rfl) ?_; (with_reducible refine (checksum_Mix.calls _ t _ A1_.out).mono ?_); rintro e w' ⟨rfl, ⟨nd, rfl⟩⟩; refine ⟨_, rfl, ?_⟩))
  go_loopg [5, 6] k (fun kq v5 v6 w' => ∃ (h_ n_ : Int), v5 = .int .u64 h_ ∧ v6 = .int .i64 n_ ∧ Aside0 (checksum_Hash.l0 kq l1 h_ n_ = some r) ∧ Aside0 (kq ≤ k) ∧ Aside0 (Below w.heap.size w w'))
  case atStart => exact ⟨t, 0, rfl, rfl, H', ⟨Nat.le_refl _⟩, ⟨(hb_ HB.out)⟩⟩
  case round =>
   clear H'
   obtain ⟨h_, n_, rfl, rfl, HA, HK1, HB⟩ := hrel
   cases gk with
   | zero => exact absurd HA.out (by simp [checksum_Hash.l0])
   | succ k1 =>
    have H := HA.out
    clear HA
    simp only [checksum_Hash.l0] at H
    by_cases c2 : n_ < (l1.length : Int)
    ·rw [if_pos c2] at H
     have c2b0 : decide (n_ < (l1.length : Int)) = true := decide_eq_true c2
     by_cases c3 : 0 ≤ n_
     ·rw [if_pos c3] at H
      have hw8 : wrap64 (n_ + 8) = n_ + 8 := by unfold wrap64; omega
      obtain ⟨m_, hm⟩ : ∃ m_ : Int, m_ = (if (l1.length : Int) < wrap64 (n_ + 8) then (l1.length : Int) else wrap64 (n_ + 8)) := ⟨_, rfl⟩
      rw [← hm] at H
      have hm1 : n_ ≤ m_ := by rw [hm]; split <;> omega
      have hm2 : m_ ≤ (l1.length : Int) := by rw [hm]; split <;> omega
      have hm8 : m_ ≤ n_ + 8 := by rw [hm]; split <;> omega
      obtain ⟨t2, h3, h4⟩ := Option.bind_eq_some_iff.mp H
      have A2_ := Aside0.mk h3
      have H' := Aside0.mk h4
      clear H h3 h4
      obtain ⟨i025, hi025, _, hsz25, _⟩ := info_parts info5
      obtain ⟨A25, hcut25, hA25, hC25⟩ := print_mid_of (P := Try.prog) (Value.int .u8) 0 27 5 .i64 .i64 Try.underlying27 hi025 hsz25 A1 c1 l1 n_ m_ c3 hm1 hm2 HC1.out
      obtain ⟨x_, hx⟩ : ∃ x_ : List Int, x_ = (l1.take m_.toNat).drop n_.toNat := ⟨_, rfl⟩
      rw [← hx] at hcut25 hA25 hC25 A2_
      have hxl : x_.length ≤ 8 := by rw [hx, List.length_drop, List.length_take]; omega
      have hxm : x_.length = m_.toNat - n_.toNat := by rw [hx, List.length_drop, List.length_take]; omega
      have HXe := Aside0.mk hx
      clear hx
      have HX := Aside0.mk (hA25 _ (Kd.reads_of_C (Kd.C_below HR1.out HB.out)))
      clear hA25
      have hmin : (if (l1.length : Int) < IntKind.i64.wrap (n_ + 8) then (l1.length : Int) else IntKind.i64.wrap (n_ + 8)) = m_ := by rw [hm, i64_w]
      clear hm hw8
      go_wp2_with fail
      have BK := Aside0.mk (blk_new wr (.cells #[.int .u8 0, .int .u8 0, .int .u8 0, .int .u8 0, .int .u8 0, .int .u8 0, .int .u8 0, .int .u8 0] 138))
      have HX2 := Aside0.mk (ReadsOf.below HX.out (below_alloc (Below.refl _ _) (.cells #[.int .u8 0, .int .u8 0, .int .u8 0, .int .u8 0, .int .u8 0, .int .u8 0, .int .u8 0, .int .u8 0] 138)))
      have hge0 := below_size HB.out
      have hgs : wr.heap.size < (wr.alloc (.cells #[.int .u8 0, .int .u8 0, .int .u8 0, .int .u8 0, .int .u8 0, .int .u8 0, .int .u8 0, .int .u8 0] 138)).heap.size := by simp
      have HB2 := Aside0.mk (below_alloc HB.out (.cells #[.int .u8 0, .int .u8 0, .int .u8 0, .int .u8 0, .int .u8 0, .int .u8 0, .int .u8 0, .int .u8 0] 138))
      clear HB HX
      have HB := HB2
      clear HB2
      have hge := below_size HB.out
      generalize wr.alloc (.cells #[.int .u8 0, .int .u8 0, .int .u8 0, .int .u8 0, .int .u8 0, .int .u8 0, .int .u8 0, .int .u8 0] 138) = w2 at *
      have hsrc : 0 < x_.length → ∃ ad, A25 = some ad ∧ ∀ j v, (x_.map (Value.int .u8))[j]? = some v → w2.drew.cell? (ad.add j) = some v := by
       intro hp
       obtain ⟨ad, e, hc⟩ := HX2.out.2.2 hp
       refine ⟨ad, e, fun j v hj => ?_⟩
       rw [List.getElem?_map] at hj
       obtain ⟨y, hy, rfl⟩ := Option.map_eq_some_iff.1 hj
       obtain ⟨hjl, hy2⟩ := List.getElem?_eq_some_iff.1 hy
       have := hc j hjl
       rw [List.getD_eq_getElem?_getD, hy] at this
       exact this
      have hsrc := Aside0.mk hsrc
      go_region_law (refine step_copy_splice rfl (.tmp 22) (.tmp 30) 27 27 rfl 5 Try.underlying27 (by rw [hi025]; simp [hsz25]) (some ⟨wr.heap.size, 0, none⟩) A25 8 8 (m_.toNat - n_.toNat) (c1 - n_.toNat) (by simp [Act.eval, Act.put]) (by simp [Act.eval, Act.put]) wr.heap.size 0 [.int .u8 0, .int .u8 0, .int .u8 0, .int .u8 0, .int .u8 0, .int .u8 0, .int .u8 0, .int .u8 0] 138 (blk_drew BK.out) (x_.map (Value.int .u8)) (by rw [List.length_map, hxm]; exact (Nat.min_eq_left (by omega)).symm) (fun hp => ⟨rfl, hsrc.out (by rw [List.length_map] at hp; exact hp)⟩) (by rw [List.length_map]; simp; omega) (by intro u hu; obtain ⟨_, _, rfl⟩ := List.mem_map.1 hu; rfl) wr.heap.size w2 (below_drew1 (Below.refl _ _)) (by omega) ?_; intro w4 hg4 hb4)
      have hsp : splice [.int .u8 0, .int .u8 0, .int .u8 0, .int .u8 0, .int .u8 0, .int .u8 0, .int .u8 0, .int .u8 0] 0 (x_.map (Value.int .u8)) = (checksum_Hash.pad x_).map (Value.int .u8) := by
       unfold splice checksum_Hash.pad
       rw [List.map_append, List.map_replicate, List.take_zero, List.nil_append, Nat.zero_add, List.length_map]
       congr 1
       exact List.drop_replicate (n := 8) (a := Value.int .u8 0) (i := x_.length)
      have HG := Aside0.mk (show w4.heap[wr.heap.size]? = some (.cells ((checksum_Hash.pad x_).map (Value.int .u8)).toArray 138 (0, 0)) from by have h_ := hg4; unfold Hid at h_; rw [hsp] at h_; exact h_)
      have HB4 := Aside0.mk (HB.out.trans (hb4.mono hge0))
      clear hg4 hsp hsrc HX2 BK
      clear HB hb4 hgs hge
      have HB := HB4
      clear HB4
      generalize wr.heap.size = g_ at *
      go_wp2
      go_loopg [8, 32] 8 (fun kq v8 v32 w' => ∃ (i_ : Nat), kq + i_ = 8 ∧ v8 = .int .u64 (checksum_Hash.word (checksum_Hash.pad x_) i_) ∧ v32 = .int .i64 (i_ : Int) ∧ Aside0 (w'.heap[g_]? = some (.cells ((checksum_Hash.pad x_).map (Value.int .u8)).toArray 138 (0, 0))) ∧ Aside0 (Below w.heap.size w w'))
      case atStart => exact ⟨0, rfl, rfl, rfl, HG, HB⟩
      case round =>
       clear HG HB
       obtain ⟨i_, hgi, rfl, rfl, HG, HB⟩ := hrel
       have hpl : (checksum_Hash.pad x_).length = 8 := by unfold checksum_Hash.pad; rw [List.length_append, List.length_replicate]; omega
       by_cases ci : i_ < 8
       ·cases gk with
        | zero => exact absurd hgi (by omega)
        | succ k2 =>
         have cib : decide ((i_ : Int) < 8) = true := decide_eq_true (by omega)
         have hcell : wr.cell? ⟨g_, i_, none⟩ = some (.int .u8 (rd (checksum_Hash.pad x_) (i_ : Int))) := by
          have hget : (checksum_Hash.pad x_)[i_]? = some (rd (checksum_Hash.pad x_) (i_ : Int)) := by
           unfold rd
           rw [Int.toNat_natCast, List.getD_eq_getElem?_getD, List.getElem?_eq_getElem (by omega)]
           rfl
          simp [World.cell?, HG.out, hget]
         have p1 : (0 : Int) ≤ (i_ : Int) := by omega
         have p2 : (i_ : Int) < 8 := by omega
         have hw1 : wrap64 (8 * (i_ : Int)) = ((8 * i_ : Nat) : Int) := by unfold wrap64; omega
         have hw2 : ((8 * i_ : Nat) : Int) ≤ 64 := by omega
         go_wp2
         go_roundg k2
         case measure => omega
         case rel => exact ⟨i_ + 1, by omega, rfl, by first | rfl | (congr 1; omega), HG, HB⟩
       ·have cib : decide ((i_ : Int) < 8) = false := decide_eq_false (by omega)
        obtain rfl : i_ = 8 := by omega
        go_wp2_with (first | ((with_reducible refine gate_callee (f := 101) rfl ?_); refine goesL_ (some 49) rfl rfl Try.func101 (by kernel_rfl) rfl #[.int .u64 (Go.bits .xor .u64 h_ (checksum_Hash.word (checksum_Hash.pad x_) 8))] rfl (by (try simp only [List.map_toArray, List.map_cons, List.map_nil]); rfl) ?_; (with_reducible refine (checksum_Mix.calls _ t2 _ A2_.out).mono ?_); rintro e w' ⟨rfl, ⟨nd, rfl⟩⟩; refine ⟨_, rfl, ?_⟩))
        go_roundg k1
        case measure => have := HK1.out; omega
        case rel => exact ⟨t2, wrap64 (n_ + 8), rfl, by congr 1; unfold wrap64; omega, H', ⟨by have := HK1.out; omega⟩, ⟨(hb_ HB.out)⟩⟩
     ·rw [if_neg c3] at H
      exact absurd H (by simp)
    ·rw [if_neg c2] at H
     have c2b0 : decide (n_ < (l1.length : Int)) = false := decide_eq_false c2
     clear c2
     obtain rfl := Option.some.inj H
     go_wp2
     go_ret
     exact ⟨rfl, (hb_ HB.out)⟩
 ·rw [if_neg hl] at h
  exact absurd h (by simp)
/-! ### value_Hash: function 54 -/
def value_Hash.l0 : Nat → Int → List (S39) → Int → Int → Option (Int)
 | 0, _, _, _, _ => none
 | k + 1, x5, x10, x11, x12 => if x12 < x11 then (if 0 ≤ x12 then (if x12 < (x10.length : Int) then (if ((rd_T39 x10 x12).f0) = 0 then ((checksum_Mix.f (Go.bits .xor .u64 x5 1)).bind fun t370 => (value_Hash.l0 k t370 x10 x11 (wrap64 (x12 + 1)))) else (if ((rd_T39 x10 x12).f0) = 1 then ((checksum_Mix.f (Go.bits .xor .u64 x5 2)).bind fun t371 => ((checksum_Mix.f (Go.bits .xor .u64 t371 (IntKind.u64.wrap ((rd_T39 x10 x12).f1)))).bind fun t372 => (value_Hash.l0 k t372 x10 x11 (wrap64 (x12 + 1))))) else (if ((rd_T39 x10 x12).f0) = 2 then ((checksum_Mix.f (Go.bits .xor .u64 x5 3)).bind fun t373 => ((checksum_Mix.f (Go.bits .xor .u64 t373 (IntKind.u64.wrap ((rd_T39 x10 x12).f1)))).bind fun t374 => (value_Hash.l0 k t374 x10 x11 (wrap64 (x12 + 1))))) else (if ((rd_T39 x10 x12).f0) = 3 then ((checksum_Mix.f (Go.bits .xor .u64 x5 4)).bind fun tM => (if ((rd_T39 x10 x12).f2).size ≤ 9223372036854775807 then ((checksum_Hash.f k tM (bytesOf ((rd_T39 x10 x12).f2))).bind fun tH => (value_Hash.l0 k tH x10 x11 (wrap64 (x12 + 1)))) else none)) else (value_Hash.l0 k x5 x10 x11 (wrap64 (x12 + 1))))))) else (none)) else (none)) else (some x5)
def value_Hash.f (k : Nat) (a0 : Int) (l1 : List (S39)) : Option (Int) := (checksum_Mix.f a0).bind fun t367 => (value_Hash.l0 k t367 l1 (l1.length : Int) 0)
theorem value_Hash.mono_l : ∀ k, (∀ y0 y1 y2 y3, LeO (value_Hash.l0 k y0 y1 y2 y3) (value_Hash.l0 (k + 1) y0 y1 y2 y3))
 | 0 => fun _ _ _ _ r h => by simp [value_Hash.l0] at h
 | k + 1 => by
  have ih0 := value_Hash.mono_l k
  ·intro y0 y1 y2 y3
   unfold value_Hash.l0
   repeat' first
   | (with_reducible exact checksum_Hash.mono _ _ _)
   | (with_reducible exact ih0 _ _ _ _)
   | (with_reducible exact LeO.refl _)
   | (with_reducible exact LeO.none _)
   | (with_reducible refine LeO.ite ?_ ?_)
   | (with_reducible refine LeO.bind ?_ (fun _ => ?_))
   | exact ih0 _ _ _ _
   | exact LeO.none _
   | refine LeO.ite ?_ ?_
   | refine LeO.bind ?_ (fun _ => ?_)
theorem value_Hash.mono : ∀ a0 a1 k, LeO (value_Hash.f k a0 a1) (value_Hash.f (k + 1) a0 a1) := by
 intro a0 a1 k
 have ih0 := value_Hash.mono_l k
 unfold value_Hash.f
 repeat' first
   | (with_reducible exact checksum_Hash.mono _ _ _)
   | (with_reducible exact ih0 _ _ _ _)
   | (with_reducible exact LeO.refl _)
   | (with_reducible exact LeO.none _)
   | (with_reducible refine LeO.ite ?_ ?_)
   | (with_reducible refine LeO.bind ?_ (fun _ => ?_))
   | exact ih0 _ _ _ _
   | exact LeO.none _
   | refine LeO.ite ?_ ?_
   | refine LeO.bind ?_ (fun _ => ?_)
def value_Hash.T9 : Bool × List (List Nat × List Nat) := (true, [([], []), ([0], [0]), ([1], [1]), ([], []), ([3], [3]), ([4], [4]), ([2, 5], [2, 5]), ([6, 2], [6]), ([7, 7, 0, 1, 2, 3, 4, 5, 6, 7], [0, 7])])
def value_Hash.B9 : List Nat := [0, 1, 3, 0, 8, 24, 63, 127, 255]
theorem value_Hash.tab9 : rtab .any (opsOf Try.f54 9) = value_Hash.T9 := by kernel_rfl
theorem value_Hash.bits9 : waitsOk value_Hash.T9.2 value_Hash.B9 = true := by kernel_rfl
def value_Hash.T11 : Bool × List (List Nat × List Nat) := (true, [([], []), ([0], [0]), ([1], [1]), ([], []), ([3], [3]), ([4], [4]), ([2, 5], [2, 5]), ([6, 2], [6]), ([7, 7, 0, 1, 2, 3, 4, 5, 6, 7], [0, 7])])
def value_Hash.B11 : List Nat := [0, 1, 3, 0, 8, 24, 63, 127, 255]
theorem value_Hash.tab11 : rtab .any (opsOf Try.f54 11) = value_Hash.T11 := by kernel_rfl
theorem value_Hash.bits11 : waitsOk value_Hash.T11.2 value_Hash.B11 = true := by kernel_rfl
set_option maxHeartbeats 8000000 in
set_option maxRecDepth 100000 in
theorem value_Hash.calls (k : Nat) (a0 : Int) (A1 : Option Addr) (c1 : Nat) (l1 : List (S39)) (r : Int) (w : World) (hr1 : Kd.C k39 w A1 l1.length l1) (hc1 : l1.length ≤ c1) (h : value_Hash.f k a0 l1 = some r) :
  Calls Try.prog 54 #[.int .u64 a0, .slice A1 l1.length c1] w fun e w' => e = .returned (.int .u64 r) ∧ Below w.heap.size w w' := by
 have hu39 := Try.underlying39
 have HR1 := Aside0.mk hr1
 have HC1 := Aside0.mk hc1
 clear hr1 hc1
 have HB := Aside0.mk (Below.refl w.heap.size w)
 have H : ((checksum_Mix.f a0).bind fun t367 => (value_Hash.l0 k t367 l1 (l1.length : Int) 0)) = some r := h
 clear h
 replace H := Option.bind_eq_some_iff.mp H
 obtain ⟨t367, A30, H⟩ := H
 replace H : (value_Hash.l0 k t367 l1 (l1.length : Int) 0) = some r := H
 have A3 := Aside0.mk A30
 clear A30
 have H' := Aside0.mk H
 clear H
 go_enter Try.func54, Try.ntmps54
 go_wp2_with (first | ((with_reducible refine gate_callee (f := 101) rfl ?_); refine goesL_ (some 9) rfl rfl Try.func101 (by kernel_rfl) rfl #[.int .u64 a0] rfl (by (try simp only [List.map_toArray, List.map_cons, List.map_nil]); first | done | rfl | (simp only [List.length_drop, List.length_take]; rfl) | (simp only [Int.ofNat_lt, Int.ofNat_le, gt_iff_lt, ge_iff_le]; rfl)) ?_; (with_reducible refine (checksum_Mix.calls a0 t367 _ A3.out).mono ?_); rintro e w' ⟨rfl, ⟨nd, rfl⟩⟩; refine ⟨_, rfl, ?_⟩))
 go_loopg [5, 12] k (fun kq v5 v12 w' => ∃ (x5_1 : Int) (x12_1 : Int), v5 = .int .u64 x5_1 ∧ v12 = .int .i64 x12_1 ∧ Aside0 (value_Hash.l0 kq x5_1 l1 (l1.length : Int) x12_1 = some r) ∧ Aside0 (kq ≤ k) ∧ Aside0 (Below w.heap.size w w'))
 case atStart => exact ⟨(t367), (0), (by first | rfl | (simp; done) | (simp [*]; done)), (by first | rfl | (simp; done) | (simp [*]; done)), H', ⟨Nat.le_refl _⟩, ⟨(hb_ HB.out)⟩⟩
 case round =>
  clear H'
  try clear c1
  try clear p2
  obtain ⟨x5_1, x12_1, rfl, rfl, HA, HK1, HB⟩ := hrel
  cases gk with
  | zero => exact absurd HA.out (by simp [value_Hash.l0])
  | succ k1 =>
   have H := HA.out
   clear HA
   simp only [value_Hash.l0] at H
   by_cases c4 : x12_1 < (l1.length : Int)
   ·rw [if_pos c4] at H
    have c4b0 : decide (x12_1 < (l1.length : Int)) = true := decide_eq_true c4
    clear c4
    by_cases c5 : 0 ≤ x12_1
    ·rw [if_pos c5] at H
     have c5b0 : decide (0 ≤ x12_1) = true := decide_eq_true c5
     clear c5
     by_cases c6 : x12_1 < (l1.length : Int)
     ·rw [if_pos c6] at H
      have c6b0 : decide (x12_1 < (l1.length : Int)) = true := decide_eq_true c6
      clear c6
      by_cases c7 : ((rd_T39 l1 x12_1).f0) = 0
      ·rw [if_pos c7] at H
       have c7b0 : (((rd_T39 l1 x12_1).f0) == 0) = true := beq_iff_eq.mpr c7
       have c7b1 : (((rd_T39 l1 x12_1).f0) != 0) = false := bne_eq_false_iff_eq.mpr c7
       clear c7
       replace H := Option.bind_eq_some_iff.mp H
       obtain ⟨t370, A80, H⟩ := H
       replace H : (value_Hash.l0 k1 t370 l1 (l1.length : Int) (wrap64 (x12_1 + 1))) = some r := H
       have A8 := Aside0.mk A80
       clear A80
       have H' := Aside0.mk H
       clear H
       have p368 : 0 ≤ (x12_1 : Int) := of_decide_eq_true (by first | (with_reducible assumption) | assumption)
       have q368 : x12_1 < (l1.length : Int) := of_decide_eq_true (by first | (with_reducible assumption) | assumption)
       obtain ⟨ad368, e368, hx368_0, hx368_1, hx368_2⟩ := at_T39 HR1.out x12_1 p368 q368
       cases e368
       replace hx368_0 := up_ HB.out hx368_0
       replace hx368_1 := up_ HB.out hx368_1
       replace hx368_2 := up_ HB.out hx368_2
       replace p368 := eq_true p368
       replace q368 := eq_true q368
       go_wp2_with (first | ((with_reducible refine gate_dst (N := 7) rfl ?_); refine box_ 7 (cs := #[.int .i64 0, .int .i64 0, .string (⟨#[]⟩ : ByteArray)]) (t := 39) ?_; intro gb369 hg w9 hbox hb; have BK369 := Aside0.mk (hbox); have GW369 := Aside0.mk ((by rw [hg]; exact (below_size (hb_ HB.out)) : w.heap.size ≤ gb369)); have GE369 := Aside0.mk ((by rw [hg]; exact (below_size (hb_ HB.out)) : w.heap.size ≤ gb369)); replace HB := Aside0.mk (below_step (hb_ HB.out) hb); clear hb hbox hg; obtain ⟨hcz10_0, hcz10_1, hcz10_2, hfz10_0, hfz10_1, hfz10_2⟩ := bf3 BK369.out) | ((with_reducible refine gate_callee (f := 101) rfl ?_); refine goesL_ (some 22) rfl rfl Try.func101 (by kernel_rfl) rfl #[.int .u64 (Go.bits .xor .u64 x5_1 1)] rfl (by (try simp only [List.map_toArray, List.map_cons, List.map_nil]); first | done | rfl | (simp only [List.length_drop, List.length_take]; rfl) | (simp only [Int.ofNat_lt, Int.ofNat_le, gt_iff_lt, ge_iff_le]; rfl)) ?_; (with_reducible refine (checksum_Mix.calls (Go.bits .xor .u64 x5_1 1) t370 _ A8.out).mono ?_); rintro e w' ⟨rfl, ⟨nd, rfl⟩⟩; refine ⟨_, rfl, ?_⟩))
       go_roundg k1
       case measure => have := HK1.out; omega
       case rel => exact ⟨(t370), (wrap64 (x12_1 + 1)), (by first | rfl | (simp; done) | (simp [*]; done)), (by first | rfl | (simp; done) | (simp [*]; done)), H', ⟨by have := HK1.out; omega⟩, ⟨(hb1_ HB.out GE369.out)⟩⟩
      ·rw [if_neg c7] at H
       have c7b0 : (((rd_T39 l1 x12_1).f0) == 0) = false := beq_eq_false_iff_ne.mpr c7
       have c7b1 : (((rd_T39 l1 x12_1).f0) != 0) = true := bne_iff_ne.mpr c7
       by_cases c11 : ((rd_T39 l1 x12_1).f0) = 1
       ·rw [if_pos c11] at H
        have c11b0 : (((rd_T39 l1 x12_1).f0) == 1) = true := beq_iff_eq.mpr c11
        have c11b1 : (((rd_T39 l1 x12_1).f0) != 1) = false := bne_eq_false_iff_eq.mpr c11
        clear c11
        replace H := Option.bind_eq_some_iff.mp H
        obtain ⟨t371, A120, H⟩ := H
        replace H : ((checksum_Mix.f (Go.bits .xor .u64 t371 (IntKind.u64.wrap ((rd_T39 l1 x12_1).f1)))).bind fun t372 => (value_Hash.l0 k1 t372 l1 (l1.length : Int) (wrap64 (x12_1 + 1)))) = some r := H
        have A12 := Aside0.mk A120
        clear A120
        replace H := Option.bind_eq_some_iff.mp H
        obtain ⟨t372, A130, H⟩ := H
        replace H : (value_Hash.l0 k1 t372 l1 (l1.length : Int) (wrap64 (x12_1 + 1))) = some r := H
        have A13 := Aside0.mk A130
        clear A130
        have H' := Aside0.mk H
        clear H
        have p368 : 0 ≤ (x12_1 : Int) := of_decide_eq_true (by first | (with_reducible assumption) | assumption)
        have q368 : x12_1 < (l1.length : Int) := of_decide_eq_true (by first | (with_reducible assumption) | assumption)
        obtain ⟨ad368, e368, hx368_0, hx368_1, hx368_2⟩ := at_T39 HR1.out x12_1 p368 q368
        cases e368
        replace hx368_0 := up_ HB.out hx368_0
        replace hx368_1 := up_ HB.out hx368_1
        replace hx368_2 := up_ HB.out hx368_2
        replace p368 := eq_true p368
        replace q368 := eq_true q368
        try go_wp2_with (first | ((with_reducible refine gate_dst (N := 7) rfl ?_); refine box_ 7 (cs := #[.int .i64 0, .int .i64 0, .string (⟨#[]⟩ : ByteArray)]) (t := 39) ?_; intro gb369 hg w14 hbox hb; have BK369 := Aside0.mk (hbox); have GW369 := Aside0.mk ((by rw [hg]; exact (below_size (hb_ HB.out)) : w.heap.size ≤ gb369)); have GE369 := Aside0.mk ((by rw [hg]; exact (below_size (hb_ HB.out)) : w.heap.size ≤ gb369)); replace HB := Aside0.mk (below_step (hb_ HB.out) hb); clear hb hbox hg; obtain ⟨hcz15_0, hcz15_1, hcz15_2, hfz15_0, hfz15_1, hfz15_2⟩ := bf3 BK369.out))
        have n0_ : Aside0 ((((w14.setCell ⟨gb369, 0, none⟩ (.int .i64 ((rd_T39 l1 x12_1).f0))).setCell ⟨gb369, 1, none⟩ (.int .i64 ((rd_T39 l1 x12_1).f1))).setCell ⟨gb369, 2, none⟩ (.string ((rd_T39 l1 x12_1).f2))).heap[gb369]? = some (.cells #[.int .i64 ((rd_T39 l1 x12_1).f0), .int .i64 ((rd_T39 l1 x12_1).f1), .string ((rd_T39 l1 x12_1).f2)] 39 (0, 0))) := ⟨by (with_reducible repeat (first | refine blk_drewN ?_ _ | refine blk_drew ?_ | refine blk_alloc ?_ _)); refine blk_put (cs := #[.int .i64 ((rd_T39 l1 x12_1).f0), .int .i64 ((rd_T39 l1 x12_1).f1), .string (⟨#[]⟩ : ByteArray)]) ?_ 2 _ rfl; (with_reducible repeat (first | refine blk_drewN ?_ _ | refine blk_drew ?_ | refine blk_alloc ?_ _)); refine blk_put (cs := #[.int .i64 ((rd_T39 l1 x12_1).f0), .int .i64 0, .string (⟨#[]⟩ : ByteArray)]) ?_ 1 _ rfl; (with_reducible repeat (first | refine blk_drewN ?_ _ | refine blk_drew ?_ | refine blk_alloc ?_ _)); refine blk_put (cs := #[.int .i64 0, .int .i64 0, .string (⟨#[]⟩ : ByteArray)]) ?_ 0 _ rfl; (with_reducible repeat (first | refine blk_drewN ?_ _ | refine blk_drew ?_ | refine blk_alloc ?_ _)); exact BK369.out⟩
        have n1_ : Aside0 (Below w.heap.size w (((w14.setCell ⟨gb369, 0, none⟩ (.int .i64 ((rd_T39 l1 x12_1).f0))).setCell ⟨gb369, 1, none⟩ (.int .i64 ((rd_T39 l1 x12_1).f1))).setCell ⟨gb369, 2, none⟩ (.string ((rd_T39 l1 x12_1).f2)))) := ⟨(hb1_ HB.out GE369.out)⟩
        (try clear BK369)
        (try clear HB)
        generalize (((w14.setCell ⟨gb369, 0, none⟩ (.int .i64 ((rd_T39 l1 x12_1).f0))).setCell ⟨gb369, 1, none⟩ (.int .i64 ((rd_T39 l1 x12_1).f1))).setCell ⟨gb369, 2, none⟩ (.string ((rd_T39 l1 x12_1).f2))) = w16 at n0_ n1_ ⊢
        have BK369 := n0_
        have HB := n1_
        clear n0_ n1_
        replace BK369 := Aside0.mk (blk_drew BK369.out)
        replace HB := Aside0.mk (below_drew1 HB.out)
        refine start_ (n := 9) (S := fun w' => w'.cell? ⟨gb369, 0, none⟩ = some (.int .i64 ((rd_T39 l1 x12_1).f0)) ∧ w'.cell? ⟨gb369, 1, none⟩ = some (.int .i64 ((rd_T39 l1 x12_1).f1)) ∧ w'.cell? ⟨gb369, 2, none⟩ = some (.string ((rd_T39 l1 x12_1).f2))) (ds := []) #[false, false, false, false, false, false, false, false, false] (by kernel_rfl) rfl rfl (bc3 BK369.out) (fun hHeld => ?_); refine with_tabW value_Hash.tab9 value_Hash.bits9 (fun HT_ HW_ => ?_)
        generalize w16.drew = w17 at BK369 HB hHeld ⊢
        refine pu_ HT_ 0 (some 25) ?_
        refine pu_ HT_ 1 (some 26) ?_
        refine pu_ HT_ 3 (some 28) ?_
        refine tk_ HT_ HW_ 4 (some 29) hHeld ?_
        refine pu_ HT_ 5 (some 30) ?_
        refine on_ HT_ 2 (some 27) (fun K hK => ?_)
        refine gos_ Try.func101 #[.int .u64 (Go.bits .xor .u64 x5_1 2)] ?_
        with_reducible refine (checksum_Mix.calls (Go.bits .xor .u64 x5_1 2) t371 _ A12.out).mono ?_
        rintro e w' ⟨rfl, ⟨nd, rfl⟩⟩
        refine ⟨_, rfl, ?_⟩
        refine hK.out _ _ (bc3 BK369.out) (fun hHeld => ?_)
        clear hK K
        refine nm_ (some 27) ?_
        refine pu_ HT_ 6 (some 31) ?_
        refine on_ HT_ 7 (some 32) (fun K hK => ?_)
        refine gos_ Try.func101 #[.int .u64 (Go.bits .xor .u64 t371 (IntKind.u64.wrap ((rd_T39 l1 x12_1).f1)))] ?_
        with_reducible refine (checksum_Mix.calls (Go.bits .xor .u64 t371 (IntKind.u64.wrap ((rd_T39 l1 x12_1).f1))) t372 _ A13.out).mono ?_
        rintro e w' ⟨rfl, ⟨nd, rfl⟩⟩
        refine ⟨_, rfl, ?_⟩
        refine hK.out _ _ (bc3 BK369.out) (fun hHeld => ?_)
        clear hK K
        refine nm_ (some 32) ?_
        refine pu_ HT_ 8 (some 5) ?_
        refine done_ (done_of HT_.out (by kernel_rfl)) ?_
        try go_wp2
        go_roundg k1
        case measure => have := HK1.out; omega
        case rel => exact ⟨(t372), (wrap64 (x12_1 + 1)), (by first | rfl | (simp; done) | (simp [*]; done)), (by first | rfl | (simp; done) | (simp [*]; done)), H', ⟨by have := HK1.out; omega⟩, ⟨(hb1_ HB.out GE369.out)⟩⟩
       ·rw [if_neg c11] at H
        have c11b0 : (((rd_T39 l1 x12_1).f0) == 1) = false := beq_eq_false_iff_ne.mpr c11
        have c11b1 : (((rd_T39 l1 x12_1).f0) != 1) = true := bne_iff_ne.mpr c11
        by_cases c18 : ((rd_T39 l1 x12_1).f0) = 2
        ·rw [if_pos c18] at H
         have c18b0 : (((rd_T39 l1 x12_1).f0) == 2) = true := beq_iff_eq.mpr c18
         have c18b1 : (((rd_T39 l1 x12_1).f0) != 2) = false := bne_eq_false_iff_eq.mpr c18
         clear c18
         replace H := Option.bind_eq_some_iff.mp H
         obtain ⟨t373, A190, H⟩ := H
         replace H : ((checksum_Mix.f (Go.bits .xor .u64 t373 (IntKind.u64.wrap ((rd_T39 l1 x12_1).f1)))).bind fun t374 => (value_Hash.l0 k1 t374 l1 (l1.length : Int) (wrap64 (x12_1 + 1)))) = some r := H
         have A19 := Aside0.mk A190
         clear A190
         replace H := Option.bind_eq_some_iff.mp H
         obtain ⟨t374, A200, H⟩ := H
         replace H : (value_Hash.l0 k1 t374 l1 (l1.length : Int) (wrap64 (x12_1 + 1))) = some r := H
         have A20 := Aside0.mk A200
         clear A200
         have H' := Aside0.mk H
         clear H
         have p368 : 0 ≤ (x12_1 : Int) := of_decide_eq_true (by first | (with_reducible assumption) | assumption)
         have q368 : x12_1 < (l1.length : Int) := of_decide_eq_true (by first | (with_reducible assumption) | assumption)
         obtain ⟨ad368, e368, hx368_0, hx368_1, hx368_2⟩ := at_T39 HR1.out x12_1 p368 q368
         cases e368
         replace hx368_0 := up_ HB.out hx368_0
         replace hx368_1 := up_ HB.out hx368_1
         replace hx368_2 := up_ HB.out hx368_2
         replace p368 := eq_true p368
         replace q368 := eq_true q368
         try go_wp2_with (first | ((with_reducible refine gate_dst (N := 7) rfl ?_); refine box_ 7 (cs := #[.int .i64 0, .int .i64 0, .string (⟨#[]⟩ : ByteArray)]) (t := 39) ?_; intro gb369 hg w21 hbox hb; have BK369 := Aside0.mk (hbox); have GW369 := Aside0.mk ((by rw [hg]; exact (below_size (hb_ HB.out)) : w.heap.size ≤ gb369)); have GE369 := Aside0.mk ((by rw [hg]; exact (below_size (hb_ HB.out)) : w.heap.size ≤ gb369)); replace HB := Aside0.mk (below_step (hb_ HB.out) hb); clear hb hbox hg; obtain ⟨hcz22_0, hcz22_1, hcz22_2, hfz22_0, hfz22_1, hfz22_2⟩ := bf3 BK369.out))
         have n0_ : Aside0 ((((w21.setCell ⟨gb369, 0, none⟩ (.int .i64 ((rd_T39 l1 x12_1).f0))).setCell ⟨gb369, 1, none⟩ (.int .i64 ((rd_T39 l1 x12_1).f1))).setCell ⟨gb369, 2, none⟩ (.string ((rd_T39 l1 x12_1).f2))).heap[gb369]? = some (.cells #[.int .i64 ((rd_T39 l1 x12_1).f0), .int .i64 ((rd_T39 l1 x12_1).f1), .string ((rd_T39 l1 x12_1).f2)] 39 (0, 0))) := ⟨by (with_reducible repeat (first | refine blk_drewN ?_ _ | refine blk_drew ?_ | refine blk_alloc ?_ _)); refine blk_put (cs := #[.int .i64 ((rd_T39 l1 x12_1).f0), .int .i64 ((rd_T39 l1 x12_1).f1), .string (⟨#[]⟩ : ByteArray)]) ?_ 2 _ rfl; (with_reducible repeat (first | refine blk_drewN ?_ _ | refine blk_drew ?_ | refine blk_alloc ?_ _)); refine blk_put (cs := #[.int .i64 ((rd_T39 l1 x12_1).f0), .int .i64 0, .string (⟨#[]⟩ : ByteArray)]) ?_ 1 _ rfl; (with_reducible repeat (first | refine blk_drewN ?_ _ | refine blk_drew ?_ | refine blk_alloc ?_ _)); refine blk_put (cs := #[.int .i64 0, .int .i64 0, .string (⟨#[]⟩ : ByteArray)]) ?_ 0 _ rfl; (with_reducible repeat (first | refine blk_drewN ?_ _ | refine blk_drew ?_ | refine blk_alloc ?_ _)); exact BK369.out⟩
         have n1_ : Aside0 (Below w.heap.size w (((w21.setCell ⟨gb369, 0, none⟩ (.int .i64 ((rd_T39 l1 x12_1).f0))).setCell ⟨gb369, 1, none⟩ (.int .i64 ((rd_T39 l1 x12_1).f1))).setCell ⟨gb369, 2, none⟩ (.string ((rd_T39 l1 x12_1).f2)))) := ⟨(hb1_ HB.out GE369.out)⟩
         (try clear BK369)
         (try clear HB)
         generalize (((w21.setCell ⟨gb369, 0, none⟩ (.int .i64 ((rd_T39 l1 x12_1).f0))).setCell ⟨gb369, 1, none⟩ (.int .i64 ((rd_T39 l1 x12_1).f1))).setCell ⟨gb369, 2, none⟩ (.string ((rd_T39 l1 x12_1).f2))) = w23 at n0_ n1_ ⊢
         have BK369 := n0_
         have HB := n1_
         clear n0_ n1_
         replace BK369 := Aside0.mk (blk_drew BK369.out)
         replace HB := Aside0.mk (below_drew1 HB.out)
         refine start_ (n := 9) (S := fun w' => w'.cell? ⟨gb369, 0, none⟩ = some (.int .i64 ((rd_T39 l1 x12_1).f0)) ∧ w'.cell? ⟨gb369, 1, none⟩ = some (.int .i64 ((rd_T39 l1 x12_1).f1)) ∧ w'.cell? ⟨gb369, 2, none⟩ = some (.string ((rd_T39 l1 x12_1).f2))) (ds := []) #[false, false, false, false, false, false, false, false, false] (by kernel_rfl) rfl rfl (bc3 BK369.out) (fun hHeld => ?_); refine with_tabW value_Hash.tab11 value_Hash.bits11 (fun HT_ HW_ => ?_)
         generalize w23.drew = w24 at BK369 HB hHeld ⊢
         refine pu_ HT_ 0 (some 35) ?_
         refine pu_ HT_ 1 (some 36) ?_
         refine pu_ HT_ 3 (some 38) ?_
         refine tk_ HT_ HW_ 4 (some 39) hHeld ?_
         refine pu_ HT_ 5 (some 40) ?_
         refine on_ HT_ 2 (some 37) (fun K hK => ?_)
         refine gos_ Try.func101 #[.int .u64 (Go.bits .xor .u64 x5_1 3)] ?_
         with_reducible refine (checksum_Mix.calls (Go.bits .xor .u64 x5_1 3) t373 _ A19.out).mono ?_
         rintro e w' ⟨rfl, ⟨nd, rfl⟩⟩
         refine ⟨_, rfl, ?_⟩
         refine hK.out _ _ (bc3 BK369.out) (fun hHeld => ?_)
         clear hK K
         refine nm_ (some 37) ?_
         refine pu_ HT_ 6 (some 41) ?_
         refine on_ HT_ 7 (some 42) (fun K hK => ?_)
         refine gos_ Try.func101 #[.int .u64 (Go.bits .xor .u64 t373 (IntKind.u64.wrap ((rd_T39 l1 x12_1).f1)))] ?_
         with_reducible refine (checksum_Mix.calls (Go.bits .xor .u64 t373 (IntKind.u64.wrap ((rd_T39 l1 x12_1).f1))) t374 _ A20.out).mono ?_
         rintro e w' ⟨rfl, ⟨nd, rfl⟩⟩
         refine ⟨_, rfl, ?_⟩
         refine hK.out _ _ (bc3 BK369.out) (fun hHeld => ?_)
         clear hK K
         refine nm_ (some 42) ?_
         refine pu_ HT_ 8 (some 5) ?_
         refine done_ (done_of HT_.out (by kernel_rfl)) ?_
         try go_wp2
         go_roundg k1
         case measure => have := HK1.out; omega
         case rel => exact ⟨(t374), (wrap64 (x12_1 + 1)), (by first | rfl | (simp; done) | (simp [*]; done)), (by first | rfl | (simp; done) | (simp [*]; done)), H', ⟨by have := HK1.out; omega⟩, ⟨(hb1_ HB.out GE369.out)⟩⟩
        ·rw [if_neg c18] at H
         have c18b0 : (((rd_T39 l1 x12_1).f0) == 2) = false := beq_eq_false_iff_ne.mpr c18
         have c18b1 : (((rd_T39 l1 x12_1).f0) != 2) = true := bne_iff_ne.mpr c18
         by_cases c25 : ((rd_T39 l1 x12_1).f0) = 3
         ·rw [if_pos c25] at H
          have c25b0 : (((rd_T39 l1 x12_1).f0) == 3) = true := beq_iff_eq.mpr c25
          have c25b1 : (((rd_T39 l1 x12_1).f0) != 3) = false := bne_eq_false_iff_eq.mpr c25
          clear c25
          replace H := Option.bind_eq_some_iff.mp H
          obtain ⟨tM, AM0, H⟩ := H
          have AM := Aside0.mk AM0
          clear AM0
          replace H : (if ((rd_T39 l1 x12_1).f2).size ≤ 9223372036854775807 then ((checksum_Hash.f k1 tM (bytesOf ((rd_T39 l1 x12_1).f2))).bind fun tH => (value_Hash.l0 k1 tH l1 (l1.length : Int) (wrap64 (x12_1 + 1)))) else none) = some r := H
          by_cases hsz : ((rd_T39 l1 x12_1).f2).size ≤ 9223372036854775807
          ·rw [if_pos hsz] at H
           obtain ⟨tH, AH0, H⟩ := Option.bind_eq_some_iff.mp H
           have AH := Aside0.mk AH0
           have H' := Aside0.mk H
           clear AH0 H
           have pT : 0 ≤ (x12_1 : Int) := of_decide_eq_true (by first | (with_reducible assumption) | assumption)
           have qT : x12_1 < (l1.length : Int) := of_decide_eq_true (by first | (with_reducible assumption) | assumption)
           obtain ⟨adT, eT, hxT_0, hxT_1, hxT_2⟩ := at_T39 HR1.out x12_1 pT qT
           cases eT
           replace hxT_0 := up_ HB.out hxT_0
           replace hxT_1 := up_ HB.out hxT_1
           replace hxT_2 := up_ HB.out hxT_2
           replace pT := eq_true pT
           replace qT := eq_true qT
           try go_wp2_with (first | ((with_reducible refine gate_dst (N := 7) rfl ?_); refine box_ 7 (cs := #[.int .i64 0, .int .i64 0, .string (⟨#[]⟩ : ByteArray)]) (t := 39) ?_; intro gbT hg wa hbox hb; have BKT := Aside0.mk (hbox); have GWT := Aside0.mk ((by rw [hg]; exact (below_size (hb_ HB.out)) : w.heap.size ≤ gbT)); have GET := Aside0.mk ((by rw [hg]; exact (below_size (hb_ HB.out)) : w.heap.size ≤ gbT)); replace HB := Aside0.mk (below_step (hb_ HB.out) hb); clear hb hbox hg; have hcT_0 : wa.cell? ⟨gbT, 0, none⟩ = some (.int .i64 0) := (blk_cell BKT.out 0).trans rfl; have hcT_1 : wa.cell? ⟨gbT, 1, none⟩ = some (.int .i64 0) := (blk_cell BKT.out 1).trans rfl; have hcT_2 : wa.cell? ⟨gbT, 2, none⟩ = some (.string (⟨#[]⟩ : ByteArray)) := (blk_cell BKT.out 2).trans rfl; have hfT_0 := blk_frozen BKT.out 0; have hfT_1 := blk_frozen BKT.out 1; have hfT_2 := blk_frozen BKT.out 2))
           have n0_ : Aside0 ((((wa.setCell ⟨gbT, 0, none⟩ (.int .i64 ((rd_T39 l1 x12_1).f0))).setCell ⟨gbT, 1, none⟩ (.int .i64 ((rd_T39 l1 x12_1).f1))).setCell ⟨gbT, 2, none⟩ (.string ((rd_T39 l1 x12_1).f2))).heap[gbT]? = some (.cells #[.int .i64 ((rd_T39 l1 x12_1).f0), .int .i64 ((rd_T39 l1 x12_1).f1), .string ((rd_T39 l1 x12_1).f2)] 39 (0, 0))) := ⟨by (with_reducible repeat (first | refine blk_drewN ?_ _ | refine blk_drew ?_ | refine blk_alloc ?_ _)); refine blk_put (cs := #[.int .i64 ((rd_T39 l1 x12_1).f0), .int .i64 ((rd_T39 l1 x12_1).f1), .string (⟨#[]⟩ : ByteArray)]) ?_ 2 _ rfl; (with_reducible repeat (first | refine blk_drewN ?_ _ | refine blk_drew ?_ | refine blk_alloc ?_ _)); refine blk_put (cs := #[.int .i64 ((rd_T39 l1 x12_1).f0), .int .i64 0, .string (⟨#[]⟩ : ByteArray)]) ?_ 1 _ rfl; (with_reducible repeat (first | refine blk_drewN ?_ _ | refine blk_drew ?_ | refine blk_alloc ?_ _)); refine blk_put (cs := #[.int .i64 0, .int .i64 0, .string (⟨#[]⟩ : ByteArray)]) ?_ 0 _ rfl; (with_reducible repeat (first | refine blk_drewN ?_ _ | refine blk_drew ?_ | refine blk_alloc ?_ _)); exact BKT.out⟩
           have n1_ : Aside0 (Below w.heap.size w (((wa.setCell ⟨gbT, 0, none⟩ (.int .i64 ((rd_T39 l1 x12_1).f0))).setCell ⟨gbT, 1, none⟩ (.int .i64 ((rd_T39 l1 x12_1).f1))).setCell ⟨gbT, 2, none⟩ (.string ((rd_T39 l1 x12_1).f2)))) := ⟨by repeat (first | (with_reducible first | exact HB.out | apply below_alloc | apply pw_below_drewN | apply below_drew1 | refine below_set ?_ GET.out) | exact HB.out)⟩
           (try clear BKT)
           (try clear HB)
           generalize (((wa.setCell ⟨gbT, 0, none⟩ (.int .i64 ((rd_T39 l1 x12_1).f0))).setCell ⟨gbT, 1, none⟩ (.int .i64 ((rd_T39 l1 x12_1).f1))).setCell ⟨gbT, 2, none⟩ (.string ((rd_T39 l1 x12_1).f2))) = wc at n0_ n1_ ⊢
           have BKT := n0_
           have HB := n1_
           clear n0_ n1_
           replace BKT := Aside0.mk (blk_drew BKT.out)
           replace HB := Aside0.mk (below_drew1 HB.out)
           have kb := fun W => print_bytes (P := Try.prog) 9 27 5 Try.underlying9 Try.underlying27 Try.underlying5 ((rd_T39 l1 x12_1).f2) W
           refine start_ (n := 8) (S := fun w' => w'.cell? ⟨gbT, 0, none⟩ = some (.int .i64 ((rd_T39 l1 x12_1).f0)) ∧ w'.cell? ⟨gbT, 1, none⟩ = some (.int .i64 ((rd_T39 l1 x12_1).f1)) ∧ w'.cell? ⟨gbT, 2, none⟩ = some (.string ((rd_T39 l1 x12_1).f2))) (ds := []) #[false, false, false, false, false, false, false, false] (by kernel_rfl) rfl rfl (bc3 BKT.out) (fun hHeld => ?_)
           generalize wc.drew = wd at BKT HB hHeld ⊢
           refine pure_ (i := 0) (N := some 45) (v := ?_) (a' := ?_) #[true, false, false, false, false, false, false, false] rfl rfl (by kernel_rfl) (fun _ _ _ h => h) (Or.inl ⟨by rfl, ?_⟩) ?_ ?_
           rotate_left
           ·intro w'
            go_simp
            with_reducible rfl
           rotate_left
           ·simp only [Act.put, List.setIfInBounds_toArray, List.set_cons_zero, List.set_cons_succ, i64_w, i32_w]
            rfl
           refine pure_ (i := 1) (N := some 46) (v := ?_) (a' := ?_) #[true, true, false, false, false, false, false, false] rfl rfl (by kernel_rfl) (fun _ _ _ h => h) (Or.inl ⟨by rfl, ?_⟩) ?_ ?_
           rotate_left
           ·intro w'
            go_simp
            with_reducible rfl
           rotate_left
           ·simp only [Act.put, List.setIfInBounds_toArray, List.set_cons_zero, List.set_cons_succ, i64_w, i32_w]
            rfl
           refine pure_ (i := 3) (N := some 48) (v := ?_) (a' := ?_) #[true, true, false, true, false, false, false, false] rfl rfl (by kernel_rfl) (fun _ _ _ h => h) (Or.inl ⟨by rfl, ?_⟩) ?_ ?_
           rotate_left
           ·intro w'
            go_simp
            with_reducible rfl
           rotate_left
           ·simp only [Act.put, List.setIfInBounds_toArray, List.set_cons_zero, List.set_cons_succ, i64_w, i32_w]
            rfl
           refine take_ (i := 4) (N := some 49) (v := ?_) (a' := ?_) #[true, true, false, true, true, false, false, false] rfl rfl (by kernel_rfl) (fun _ _ _ h => h) (Or.inl ⟨by rfl, ?_⟩) hHeld ?_ ?_
           rotate_left
           ·rintro w' ⟨s0, s1, s2⟩
            go_simp
            with_reducible rfl
           rotate_left
           ·simp only [Act.put, List.setIfInBounds_toArray, List.set_cons_zero, List.set_cons_succ, i64_w, i32_w]
            rfl
           refine join_ (σ := Option Addr × Nat) 2 #[true, true, true, true, true, true, false, false] (fun s_ => [(47, .int .u64 tM), (50, .slice s_.1 ((rd_T39 l1 x12_1).f2).size s_.2)]) (fun s_ w' => w'.heap[gbT]? = some (.cells #[.int .i64 ((rd_T39 l1 x12_1).f0), .int .i64 ((rd_T39 l1 x12_1).f1), .string ((rd_T39 l1 x12_1).f2)] 39 (0, 0)) ∧ Kd.C (Kd.int .u8) w' s_.1 ((rd_T39 l1 x12_1).f2).size (bytesOf ((rd_T39 l1 x12_1).f2)) ∧ ((rd_T39 l1 x12_1).f2).size ≤ s_.2 ∧ Below w.heap.size w w') ?_ ?_
           rotate_left
           ·intro hCont
            refine two_ (i := 2) (j := 5) (Ni := some 47) (Nj := some 50) #[true, true, true, true, true, false, false, false] #[true, true, false, true, true, true, false, false] rfl rfl rfl rfl (by kernel_rfl) (by decide) (by decide) (fun K hK => ?_) (fun K hK => ?_)
            ·refine goes_ Try.func101 (by kernel_rfl) rfl #[.int .u64 (Go.bits .xor .u64 x5_1 4)] (by rfl) rfl rfl (by (try simp only [List.map_toArray, List.map_cons, List.map_nil]); rfl) ?_
             with_reducible refine (checksum_Mix.calls (Go.bits .xor .u64 x5_1 4) tM _ AM.out).mono ?_
             rintro e w' ⟨rfl, ⟨nd, rfl⟩⟩
             refine ⟨_, rfl, ?_⟩
             refine hK.out _ _ (bc3 BKT.out) (fun hHeld => ?_)
             clear hK K
             refine nm_ (some 47) ?_
             have n0_ := Aside0.mk (show (World.drewN wd nd).heap[gbT]? = some (.cells #[.int .i64 ((rd_T39 l1 x12_1).f0), .int .i64 ((rd_T39 l1 x12_1).f1), .string ((rd_T39 l1 x12_1).f2)] 39 (0, 0)) from by (with_reducible repeat (first | refine blk_drewN ?_ _ | refine blk_drew ?_ | refine blk_alloc ?_ _)); exact BKT.out)
             have n1_ := Aside0.mk (show Below w.heap.size w (World.drewN wd nd) from by repeat (first | (with_reducible first | exact HB.out | apply below_alloc | apply pw_below_drewN | apply below_drew1 | refine below_set ?_ GET.out) | exact HB.out))
             clear BKT HB
             generalize World.drewN wd nd = wq at n0_ n1_ hHeld ⊢
             have BKT := n0_
             have HB := n1_
             clear n0_ n1_
             refine one_ (i := 5) (N := some 50) #[true, true, true, true, true, true, false, false] rfl rfl (by kernel_rfl) (by decide) (fun K hK => ?_)
             refine value_ (w1 := ?_) (v := ?_) (by rfl) rfl ?_ ?_
             rotate_left 2
             ·go_simp
              constructor
              ·rfl
              ·rfl
             have hb2_ := bytes_below (Below.refl wq.heap.size wq) (Nat.le_refl _) 5 ((rd_T39 l1 x12_1).f2)
             have HCT := Aside0.mk (Kd.C_of_reads (d := (0 : Int)) (h1 := fun _ => rfl) (bytes_reads wq 5 ((rd_T39 l1 x12_1).f2) hsz))
             have hcap_ := grownCap_ge wq ((rd_T39 l1 x12_1).f2).size 0 5
             have n0_ := Aside0.mk (blk_below (g := gbT) (o := .cells #[.int .i64 ((rd_T39 l1 x12_1).f0), .int .i64 ((rd_T39 l1 x12_1).f1), .string ((rd_T39 l1 x12_1).f2)] 39 (0, 0)) BKT.out hb2_)
             have n1_ := Aside0.mk (below_step HB.out hb2_)
             clear BKT HB hb2_
             have BKT := n0_
             have HB := n1_
             clear n0_ n1_
             refine hK.out _ _ (bc3 BKT.out) (fun hHeld => ?_)
             clear hK K
             refine nm_ (some 50) ?_
             exact norm_ (by simp only [putAll, Act.put, List.setIfInBounds_toArray, List.set_cons_zero, List.set_cons_succ]) (hCont (some ⟨wq.heap.size, 0, none⟩, grownCap wq ((rd_T39 l1 x12_1).f2).size 0 5) _ ⟨BKT.out, HCT.out, hcap_, (hb_ HB.out)⟩)
            ·refine value_ (w1 := ?_) (v := ?_) (by rfl) rfl ?_ ?_
             rotate_left 2
             ·go_simp
              constructor
              ·rfl
              ·rfl
             have hb2_ := bytes_below (Below.refl wd.heap.size wd) (Nat.le_refl _) 5 ((rd_T39 l1 x12_1).f2)
             have HCT := Aside0.mk (Kd.C_of_reads (d := (0 : Int)) (h1 := fun _ => rfl) (bytes_reads wd 5 ((rd_T39 l1 x12_1).f2) hsz))
             have hcap_ := grownCap_ge wd ((rd_T39 l1 x12_1).f2).size 0 5
             have n0_ := Aside0.mk (blk_below (g := gbT) (o := .cells #[.int .i64 ((rd_T39 l1 x12_1).f0), .int .i64 ((rd_T39 l1 x12_1).f1), .string ((rd_T39 l1 x12_1).f2)] 39 (0, 0)) BKT.out hb2_)
             have n1_ := Aside0.mk (below_step HB.out hb2_)
             clear BKT HB hb2_
             have BKT := n0_
             have HB := n1_
             clear n0_ n1_
             refine hK.out _ _ (bc3 BKT.out) (fun hHeld => ?_)
             clear hK K
             refine nm_ (some 50) ?_
             refine one_ (i := 2) (N := some 47) #[true, true, true, true, true, true, false, false] rfl rfl (by kernel_rfl) (by decide) (fun K hK => ?_)
             refine goes_ Try.func101 (by kernel_rfl) rfl #[.int .u64 (Go.bits .xor .u64 x5_1 4)] (by rfl) rfl rfl (by (try simp only [List.map_toArray, List.map_cons, List.map_nil]); rfl) ?_
             with_reducible refine (checksum_Mix.calls (Go.bits .xor .u64 x5_1 4) tM _ AM.out).mono ?_
             rintro e w' ⟨rfl, ⟨nd, rfl⟩⟩
             refine ⟨_, rfl, ?_⟩
             refine hK.out _ _ (bc3 BKT.out) (fun hHeld => ?_)
             clear hK K
             refine nm_ (some 47) ?_
             exact norm_ (by simp only [putAll, Act.put, List.setIfInBounds_toArray, List.set_cons_zero, List.set_cons_succ]) (hCont (some ⟨wd.heap.size, 0, none⟩, grownCap wd ((rd_T39 l1 x12_1).f2).size 0 5) _ ⟨(bk_ BKT.out), (Kd.C_drewN HCT.out nd), hcap_, (hb_ HB.out)⟩)
           clear BKT HB
           rintro ⟨A_, cc_⟩ w' ⟨hbk_, hcc_, hcl_, hbb_⟩
           have BKT := Aside0.mk hbk_
           have HB := Aside0.mk hbb_
           have HCT := Aside0.mk hcc_
           clear hbk_ hbb_ hcc_
           refine norm_ (a' := ?_) ?_ ?_
           rotate_left
           ·simp only [putAll, Act.put, List.setIfInBounds_toArray, List.set_cons_zero, List.set_cons_succ]
            rfl
           refine one_ (i := 6) (N := some 51) #[true, true, true, true, true, true, true, false] rfl rfl (by kernel_rfl) (by decide) (fun K hK => ?_)
           refine goes_ Try.func102 (by kernel_rfl) rfl #[.int .u64 tM, .slice A_ ((rd_T39 l1 x12_1).f2).size cc_] (by rfl) rfl rfl (by (try simp only [List.map_toArray, List.map_cons, List.map_nil]); rfl) ?_
           rw [← bytesOf_length ((rd_T39 l1 x12_1).f2)] at HCT hcl_ ⊢
           with_reducible refine (checksum_Hash.calls k1 tM A_ cc_ (bytesOf ((rd_T39 l1 x12_1).f2)) tH _ HCT.out hcl_ AH.out).mono ?_
           rintro e w6 ⟨rfl, hb⟩
           refine ⟨_, rfl, ?_⟩
           have n0_ := Aside0.mk (blk_below (g := gbT) (o := .cells #[.int .i64 ((rd_T39 l1 x12_1).f0), .int .i64 ((rd_T39 l1 x12_1).f1), .string ((rd_T39 l1 x12_1).f2)] 39 (0, 0)) BKT.out hb)
           have n1_ := Aside0.mk (below_step HB.out hb)
           clear BKT HB
           have BKT := n0_
           have HB := n1_
           clear n0_ n1_ hb
           refine hK.out _ _ (bc3 BKT.out) (fun hHeld => ?_)
           clear hK K
           refine nm_ (some 51) ?_
           refine pure_ (i := 7) (N := some 5) (v := ?_) (a' := ?_) #[true, true, true, true, true, true, true, true] rfl rfl (by kernel_rfl) (fun _ _ _ h => h) (Or.inl ⟨by rfl, ?_⟩) ?_ ?_
           rotate_left
           ·intro w'
            go_simp
            with_reducible rfl
           rotate_left
           ·simp only [Act.put, List.setIfInBounds_toArray, List.set_cons_zero, List.set_cons_succ, i64_w, i32_w]
            rfl
           refine done_ (by kernel_rfl) ?_
           try go_wp2
           go_roundg k1
           case measure => have := HK1.out; omega
           case rel => exact ⟨tH, (wrap64 (x12_1 + 1)), (by first | rfl | (simp; done) | (simp [*]; done)), (by first | rfl | (simp; done) | (simp [*]; done)), H', ⟨by have := HK1.out; omega⟩, ⟨(hb_ HB.out)⟩⟩
          ·rw [if_neg hsz] at H
           exact absurd H (by simp)
         ·rw [if_neg c25] at H
          have c25b0 : (((rd_T39 l1 x12_1).f0) == 3) = false := beq_eq_false_iff_ne.mpr c25
          have c25b1 : (((rd_T39 l1 x12_1).f0) != 3) = true := bne_iff_ne.mpr c25
          have H' := Aside0.mk H
          clear H
          have p368 : 0 ≤ (x12_1 : Int) := of_decide_eq_true (by first | (with_reducible assumption) | assumption)
          have q368 : x12_1 < (l1.length : Int) := of_decide_eq_true (by first | (with_reducible assumption) | assumption)
          obtain ⟨ad368, e368, hx368_0, hx368_1, hx368_2⟩ := at_T39 HR1.out x12_1 p368 q368
          cases e368
          replace hx368_0 := up_ HB.out hx368_0
          replace hx368_1 := up_ HB.out hx368_1
          replace hx368_2 := up_ HB.out hx368_2
          replace p368 := eq_true p368
          replace q368 := eq_true q368
          go_wp2_with (first | ((with_reducible refine gate_dst (N := 7) rfl ?_); refine box_ 7 (cs := #[.int .i64 0, .int .i64 0, .string (⟨#[]⟩ : ByteArray)]) (t := 39) ?_; intro gb369 hg w27 hbox hb; have BK369 := Aside0.mk (hbox); have GW369 := Aside0.mk ((by rw [hg]; exact (below_size (hb_ HB.out)) : w.heap.size ≤ gb369)); have GE369 := Aside0.mk ((by rw [hg]; exact (below_size (hb_ HB.out)) : w.heap.size ≤ gb369)); replace HB := Aside0.mk (below_step (hb_ HB.out) hb); clear hb hbox hg; obtain ⟨hcz28_0, hcz28_1, hcz28_2, hfz28_0, hfz28_1, hfz28_2⟩ := bf3 BK369.out))
          go_roundg k1
          case measure => have := HK1.out; omega
          case rel => exact ⟨(x5_1), (wrap64 (x12_1 + 1)), (by first | rfl | (simp; done) | (simp [*]; done)), (by first | rfl | (simp; done) | (simp [*]; done)), H', ⟨by have := HK1.out; omega⟩, ⟨(hb1_ HB.out GE369.out)⟩⟩
     ·rw [if_neg c6] at H
      exact absurd H (by simp)
    ·rw [if_neg c5] at H
     exact absurd H (by simp)
   ·rw [if_neg c4] at H
    have c4b0 : decide (x12_1 < (l1.length : Int)) = false := decide_eq_false c4
    clear c4
    obtain rfl := Option.some.inj H
    go_wp2
    go_ret
    exact er_ ((hb_ HB.out))
/-! ### value_Decode: function 51 -/
def value_Decode.j0 : Nat → List Int → Int → Bool → Option (Int × Int × ByteArray × Int × Int)
 | 0, _, _, _ => none
 | k + 1, x0, x1, x19 => if x19 = true then (some (0, 0, (⟨#[]⟩ : ByteArray), 0, 1)) else (if x1 = (x0.length : Int) then (some (0, 0, (⟨#[]⟩ : ByteArray), 0, 2)) else (if 0 ≤ x1 then (if x1 < (x0.length : Int) then (if (wrap64 (rd x0 x1)) = 0 then (some (0, 0, (⟨#[]⟩ : ByteArray), wrap64 (x1 + 1), 0)) else (if (wrap64 (rd x0 x1)) = 1 then (if (wrap64 (x1 + 1)) = (x0.length : Int) then (some (0, 0, (⟨#[]⟩ : ByteArray), 0, 2)) else (if 0 ≤ (wrap64 (x1 + 1)) then (if (wrap64 (x1 + 1)) < (x0.length : Int) then (if (rd x0 (wrap64 (x1 + 1))) > 1 then (some (0, 0, (⟨#[]⟩ : ByteArray), 0, 4)) else (some (wrap64 (rd x0 x1), wrap64 (rd x0 (wrap64 (x1 + 1))), (⟨#[]⟩ : ByteArray), wrap64 ((wrap64 (x1 + 1)) + 1), 0))) else (none)) else (none))) else (if (wrap64 (rd x0 x1)) = 2 then ((varint_Decode.f k x0 (wrap64 (x1 + 1))).bind fun bt415 => (if bt415.2.2 = 0 then ((varint_UnZigZag.f bt415.1).bind fun t418 => (some (wrap64 (rd x0 x1), t418, (⟨#[]⟩ : ByteArray), bt415.2.1, 0))) else (some (0, 0, (⟨#[]⟩ : ByteArray), 0, bt415.2.2)))) else (if (wrap64 (rd x0 x1)) = 3 then ((value_decodeText.f k x0 (wrap64 (x1 + 1))).bind fun bt419 => (some (bt419.1, bt419.2.1, bt419.2.2.1, bt419.2.2.2.1, bt419.2.2.2.2))) else (some (0, 0, (⟨#[]⟩ : ByteArray), 0, 4)))))) else (none)) else (none)))
def value_Decode.f (k : Nat) (l0 : List Int) (a1 : Int) : Option (Int × Int × ByteArray × Int × Int) := if a1 < 0 then (value_Decode.j0 k l0 a1 true) else (value_Decode.j0 k l0 a1 (decide (a1 > (l0.length : Int))))
theorem value_Decode.mono_l : ∀ k, (∀ y0 y1 y2, LeO (value_Decode.j0 k y0 y1 y2) (value_Decode.j0 (k + 1) y0 y1 y2))
 | 0 => fun _ _ _ r h => by simp [value_Decode.j0] at h
 | k + 1 => by
  have ih0 := value_Decode.mono_l k
  ·intro y0 y1 y2
   unfold value_Decode.j0
   repeat' first
   | (with_reducible exact ih0 _ _ _)
   | (with_reducible exact value_decodeText.mono _ _ _)
   | (with_reducible exact varint_Decode.mono _ _ _)
   | (with_reducible exact LeO.refl _)
   | (with_reducible exact LeO.none _)
   | (with_reducible refine LeO.ite ?_ ?_)
   | (with_reducible refine LeO.bind ?_ (fun _ => ?_))
   | exact ih0 _ _ _
   | exact value_decodeText.mono _ _ _
   | exact varint_Decode.mono _ _ _
   | exact LeO.none _
   | refine LeO.ite ?_ ?_
   | refine LeO.bind ?_ (fun _ => ?_)
theorem value_Decode.mono : ∀ a0 a1 k, LeO (value_Decode.f k a0 a1) (value_Decode.f (k + 1) a0 a1) := by
 intro a0 a1 k
 have ih0 := value_Decode.mono_l k
 unfold value_Decode.f
 repeat' first
   | (with_reducible exact ih0 _ _ _)
   | (with_reducible exact value_decodeText.mono _ _ _)
   | (with_reducible exact varint_Decode.mono _ _ _)
   | (with_reducible exact LeO.refl _)
   | (with_reducible exact LeO.none _)
   | (with_reducible refine LeO.ite ?_ ?_)
   | (with_reducible refine LeO.bind ?_ (fun _ => ?_))
   | exact ih0 _ _ _
   | exact value_decodeText.mono _ _ _
   | exact varint_Decode.mono _ _ _
   | exact LeO.none _
   | refine LeO.ite ?_ ?_
   | refine LeO.bind ?_ (fun _ => ?_)
set_option maxHeartbeats 8000000 in
set_option maxRecDepth 100000 in
theorem value_Decode.calls (k : Nat) (A0 : Option Addr) (c0 : Nat) (l0 : List Int) (a1 : Int) (r1 : Int) (r2 : Int) (r3 : ByteArray) (r4 : Int) (r5 : Int) (w : World) (hr0 : Kd.C (Kd.int .u8) w A0 l0.length l0) (hc0 : l0.length ≤ c0) (h : value_Decode.f k l0 a1 = some (r1, r2, r3, r4, r5)) :
  Calls Try.prog 51 #[.slice A0 l0.length c0, .int .i64 a1] w fun e w' => e = .returned (.tuple #[.agg #[.int .i64 r1, .int .i64 r2, .string r3], .int .i64 r4, .int .i64 r5]) ∧ Below w.heap.size w w' := by
 have hu39 := Try.underlying39
 have HR0 := Aside0.mk hr0
 have HC0 := Aside0.mk hc0
 clear hr0 hc0
 have HB := Aside0.mk (Below.refl w.heap.size w)
 have H : (if a1 < 0 then (value_Decode.j0 k l0 a1 true) else (value_Decode.j0 k l0 a1 (decide (a1 > (l0.length : Int))))) = some (r1, r2, r3, r4, r5) := h
 clear h
 have HC3 := Aside0.mk H
 clear H
 go_enter Try.func51, Try.ntmps51
 go_upto_region 1 with (first | ((with_reducible refine gate_dst (N := 4) rfl ?_); (try (refine gate_guard (by rfl) ?_; dsimp only)); refine box_ 4 (cs := #[.int .i64 0, .int .i64 0, .string (⟨#[]⟩ : ByteArray)]) (t := 39) ?_; intro gb411 hg w4 hbox hb; have BK411 := Aside0.mk (hbox); have GW411 := Aside0.mk ((by rw [hg]; exact (below_size (hb_ HB.out)) : w.heap.size ≤ gb411)); have GE411 := Aside0.mk ((by rw [hg]; exact (below_size (hb_ HB.out)) : w.heap.size ≤ gb411)); replace HB := Aside0.mk (below_step (hb_ HB.out) hb); clear hb hbox hg))
 (try simp only [Act.put, List.setIfInBounds_toArray, List.set_cons_zero, List.set_cons_succ])
 go_cut [19] (fun v19 wc => ∃ (kq : Nat) (x19_2 : Bool), v19 = .bool x19_2 ∧ Aside0 (value_Decode.j0 kq l0 a1 x19_2 = some (r1, r2, r3, r4, r5)) ∧ Aside0 (kq ≤ k) ∧ Aside0 (wc.heap[gb411]? = some (.cells #[.int .i64 0, .int .i64 0, .string (⟨#[]⟩ : ByteArray)] 39 (0, 0))) ∧ Aside0 (Below w.heap.size w wc))
 case first =>
  have H := HC3.out
  clear HC3
  by_cases c5 : a1 < 0
  ·rw [if_pos c5] at H
   have c5b0 : decide (a1 < 0) = true := decide_eq_true c5
   clear c5
   (first | rw [c5b0] | (simp only [i64_w, i32_w]; rw [c5b0]) | skip)
   have H' := Aside0.mk H
   clear H
   go_wp2
   go_meet
   case rel => exact ⟨_, (true), (by first | rfl | (simp; done) | (simp [*]; done)), H', ⟨by first | omega | exact Nat.le_refl _⟩, ⟨by (with_reducible repeat (first | refine blk_drewN ?_ _ | refine blk_drew ?_ | refine blk_alloc ?_ _)); exact BK411.out⟩, ⟨(hb1_ HB.out GE411.out)⟩⟩
  ·rw [if_neg c5] at H
   have c5b0 : decide (a1 < 0) = false := decide_eq_false c5
   clear c5
   (first | rw [c5b0] | (simp only [i64_w, i32_w]; rw [c5b0]) | skip)
   have H' := Aside0.mk H
   clear H
   go_wp2
   go_meet
   case rel => exact ⟨_, (decide (a1 > (l0.length : Int))), (by first | rfl | (simp; done) | (simp [*]; done)), H', ⟨by first | omega | exact Nat.le_refl _⟩, ⟨by (with_reducible repeat (first | refine blk_drewN ?_ _ | refine blk_drew ?_ | refine blk_alloc ?_ _)); exact BK411.out⟩, ⟨(hb1_ HB.out GE411.out)⟩⟩
 case rest =>
  clear HC3
  try clear p2
  try clear c5
  try clear c5b0
  obtain ⟨kq, x19_2, rfl, HA, HJ2, BK411, HB⟩ := hcut
  cases kq with
  | zero => exact absurd HA.out (by simp [value_Decode.j0])
  | succ kj2 =>
   have H := HA.out
   clear HA
   simp only [value_Decode.j0] at H
   by_cases c6 : x19_2 = true
   ·subst c6
    have H1 : (some (0, 0, (⟨#[]⟩ : ByteArray), 0, 1)) = some (r1, r2, r3, r4, r5) := by rw [if_pos rfl] at H; exact H
    clear H
    have H := H1
    clear H1
    simp only [Option.some.injEq, Prod.mk.injEq] at H
    obtain ⟨rfl, rfl, rfl, rfl, rfl⟩ := H
    obtain ⟨hcz7_0, hcz7_1, hcz7_2, hfz7_0, hfz7_1, hfz7_2⟩ := bf3 BK411.out
    go_wp2
    refine bodyPost_ret (results_ctt rfl _ _ gb411 39 #[.int .i64 0, .int .i64 0, .string (⟨#[]⟩ : ByteArray)] (0, 0) _ rfl (by (with_reducible repeat (first | refine blk_drewN ?_ _ | refine blk_drew ?_ | refine blk_alloc ?_ _)); refine blk_put (cs := #[.int .i64 0, .int .i64 0, .string (⟨#[]⟩ : ByteArray)]) ?_ 2 _ rfl; (with_reducible repeat (first | refine blk_drewN ?_ _ | refine blk_drew ?_ | refine blk_alloc ?_ _)); refine blk_put (cs := #[.int .i64 0, .int .i64 0, .string (⟨#[]⟩ : ByteArray)]) ?_ 1 _ rfl; (with_reducible repeat (first | refine blk_drewN ?_ _ | refine blk_drew ?_ | refine blk_alloc ?_ _)); refine blk_put (cs := #[.int .i64 0, .int .i64 0, .string (⟨#[]⟩ : ByteArray)]) ?_ 0 _ rfl; (with_reducible repeat (first | refine blk_drewN ?_ _ | refine blk_drew ?_ | refine blk_alloc ?_ _)); exact BK411.out) Try.underlying39 rfl (by kernel_rfl)) rfl ?_
    exact er_ ((hb1_ HB.out GE411.out))
   ·replace c6 := Bool.eq_false_iff.mpr c6
    subst c6
    have H1 : (if a1 = (l0.length : Int) then (some (0, 0, (⟨#[]⟩ : ByteArray), 0, 2)) else (if 0 ≤ a1 then (if a1 < (l0.length : Int) then (if (wrap64 (rd l0 a1)) = 0 then (some (0, 0, (⟨#[]⟩ : ByteArray), wrap64 (a1 + 1), 0)) else (if (wrap64 (rd l0 a1)) = 1 then (if (wrap64 (a1 + 1)) = (l0.length : Int) then (some (0, 0, (⟨#[]⟩ : ByteArray), 0, 2)) else (if 0 ≤ (wrap64 (a1 + 1)) then (if (wrap64 (a1 + 1)) < (l0.length : Int) then (if (rd l0 (wrap64 (a1 + 1))) > 1 then (some (0, 0, (⟨#[]⟩ : ByteArray), 0, 4)) else (some (wrap64 (rd l0 a1), wrap64 (rd l0 (wrap64 (a1 + 1))), (⟨#[]⟩ : ByteArray), wrap64 ((wrap64 (a1 + 1)) + 1), 0))) else (none)) else (none))) else (if (wrap64 (rd l0 a1)) = 2 then ((varint_Decode.f kj2 l0 (wrap64 (a1 + 1))).bind fun bt415 => (if bt415.2.2 = 0 then ((varint_UnZigZag.f bt415.1).bind fun t418 => (some (wrap64 (rd l0 a1), t418, (⟨#[]⟩ : ByteArray), bt415.2.1, 0))) else (some (0, 0, (⟨#[]⟩ : ByteArray), 0, bt415.2.2)))) else (if (wrap64 (rd l0 a1)) = 3 then ((value_decodeText.f kj2 l0 (wrap64 (a1 + 1))).bind fun bt419 => (some (bt419.1, bt419.2.1, bt419.2.2.1, bt419.2.2.2.1, bt419.2.2.2.2))) else (some (0, 0, (⟨#[]⟩ : ByteArray), 0, 4)))))) else (none)) else (none))) = some (r1, r2, r3, r4, r5) := by rw [if_neg (show ¬ (false = true) by decide)] at H; exact H
    clear H
    have H := H1
    clear H1
    by_cases c8 : a1 = (l0.length : Int)
    ·rw [if_pos c8] at H
     have c8b0 : (a1 == (l0.length : Int)) = true := beq_iff_eq.mpr c8
     have c8b1 : (a1 != (l0.length : Int)) = false := bne_eq_false_iff_eq.mpr c8
     clear c8
     simp only [Option.some.injEq, Prod.mk.injEq] at H
     obtain ⟨rfl, rfl, rfl, rfl, rfl⟩ := H
     obtain ⟨hcz9_0, hcz9_1, hcz9_2, hfz9_0, hfz9_1, hfz9_2⟩ := bf3 BK411.out
     go_wp2
     refine bodyPost_ret (results_ctt rfl _ _ gb411 39 #[.int .i64 0, .int .i64 0, .string (⟨#[]⟩ : ByteArray)] (0, 0) _ rfl (by (with_reducible repeat (first | refine blk_drewN ?_ _ | refine blk_drew ?_ | refine blk_alloc ?_ _)); refine blk_put (cs := #[.int .i64 0, .int .i64 0, .string (⟨#[]⟩ : ByteArray)]) ?_ 2 _ rfl; (with_reducible repeat (first | refine blk_drewN ?_ _ | refine blk_drew ?_ | refine blk_alloc ?_ _)); refine blk_put (cs := #[.int .i64 0, .int .i64 0, .string (⟨#[]⟩ : ByteArray)]) ?_ 1 _ rfl; (with_reducible repeat (first | refine blk_drewN ?_ _ | refine blk_drew ?_ | refine blk_alloc ?_ _)); refine blk_put (cs := #[.int .i64 0, .int .i64 0, .string (⟨#[]⟩ : ByteArray)]) ?_ 0 _ rfl; (with_reducible repeat (first | refine blk_drewN ?_ _ | refine blk_drew ?_ | refine blk_alloc ?_ _)); exact BK411.out) Try.underlying39 rfl (by kernel_rfl)) rfl ?_
     exact er_ ((hb1_ HB.out GE411.out))
    ·rw [if_neg c8] at H
     have c8b0 : (a1 == (l0.length : Int)) = false := beq_eq_false_iff_ne.mpr c8
     have c8b1 : (a1 != (l0.length : Int)) = true := bne_iff_ne.mpr c8
     by_cases c10 : 0 ≤ a1
     ·rw [if_pos c10] at H
      have c10b0 : decide (0 ≤ a1) = true := decide_eq_true c10
      clear c10
      by_cases c11 : a1 < (l0.length : Int)
      ·rw [if_pos c11] at H
       have c11b0 : decide (a1 < (l0.length : Int)) = true := decide_eq_true c11
       clear c11
       by_cases c12 : (wrap64 (rd l0 a1)) = 0
       ·rw [if_pos c12] at H
        have c12b0 : ((wrap64 (rd l0 a1)) == 0) = true := beq_iff_eq.mpr c12
        have c12b1 : ((wrap64 (rd l0 a1)) != 0) = false := bne_eq_false_iff_eq.mpr c12
        clear c12
        simp only [Option.some.injEq, Prod.mk.injEq] at H
        obtain ⟨rfl, rfl, rfl, rfl, rfl⟩ := H
        have p412 : 0 ≤ (a1 : Int) := of_decide_eq_true (by first | (with_reducible assumption) | assumption)
        have q412 : a1 < (l0.length : Int) := of_decide_eq_true (by first | (with_reducible assumption) | assumption)
        obtain ⟨ad412, e412, hx412_0⟩ := Kd.at_int HR0.out a1 p412 q412
        cases e412
        replace hx412_0 := up_ HB.out hx412_0
        replace p412 := eq_true p412
        replace q412 := eq_true q412
        obtain ⟨hcz13_0, hcz13_1, hcz13_2, hfz13_0, hfz13_1, hfz13_2⟩ := bf3 BK411.out
        go_wp2
        refine bodyPost_ret (results_ctt rfl _ _ gb411 39 #[.int .i64 0, .int .i64 0, .string (⟨#[]⟩ : ByteArray)] (0, 0) _ rfl (by (with_reducible repeat (first | refine blk_drewN ?_ _ | refine blk_drew ?_ | refine blk_alloc ?_ _)); refine blk_put (cs := #[.int .i64 0, .int .i64 0, .string (⟨#[]⟩ : ByteArray)]) ?_ 2 _ rfl; (with_reducible repeat (first | refine blk_drewN ?_ _ | refine blk_drew ?_ | refine blk_alloc ?_ _)); refine blk_put (cs := #[.int .i64 0, .int .i64 0, .string (⟨#[]⟩ : ByteArray)]) ?_ 1 _ rfl; (with_reducible repeat (first | refine blk_drewN ?_ _ | refine blk_drew ?_ | refine blk_alloc ?_ _)); refine blk_put (cs := #[.int .i64 0, .int .i64 0, .string (⟨#[]⟩ : ByteArray)]) ?_ 0 _ rfl; (with_reducible repeat (first | refine blk_drewN ?_ _ | refine blk_drew ?_ | refine blk_alloc ?_ _)); exact BK411.out) Try.underlying39 rfl (by kernel_rfl)) rfl ?_
        exact er_ ((hb1_ HB.out GE411.out))
       ·rw [if_neg c12] at H
        have c12b0 : ((wrap64 (rd l0 a1)) == 0) = false := beq_eq_false_iff_ne.mpr c12
        have c12b1 : ((wrap64 (rd l0 a1)) != 0) = true := bne_iff_ne.mpr c12
        by_cases c14 : (wrap64 (rd l0 a1)) = 1
        ·rw [if_pos c14] at H
         have c14b0 : ((wrap64 (rd l0 a1)) == 1) = true := beq_iff_eq.mpr c14
         have c14b1 : ((wrap64 (rd l0 a1)) != 1) = false := bne_eq_false_iff_eq.mpr c14
         clear c14
         by_cases c15 : (wrap64 (a1 + 1)) = (l0.length : Int)
         ·rw [if_pos c15] at H
          have c15b0 : ((wrap64 (a1 + 1)) == (l0.length : Int)) = true := beq_iff_eq.mpr c15
          have c15b1 : ((wrap64 (a1 + 1)) != (l0.length : Int)) = false := bne_eq_false_iff_eq.mpr c15
          clear c15
          simp only [Option.some.injEq, Prod.mk.injEq] at H
          obtain ⟨rfl, rfl, rfl, rfl, rfl⟩ := H
          have p412 : 0 ≤ (a1 : Int) := of_decide_eq_true (by first | (with_reducible assumption) | assumption)
          have q412 : a1 < (l0.length : Int) := of_decide_eq_true (by first | (with_reducible assumption) | assumption)
          obtain ⟨ad412, e412, hx412_0⟩ := Kd.at_int HR0.out a1 p412 q412
          cases e412
          replace hx412_0 := up_ HB.out hx412_0
          replace p412 := eq_true p412
          replace q412 := eq_true q412
          obtain ⟨hcz16_0, hcz16_1, hcz16_2, hfz16_0, hfz16_1, hfz16_2⟩ := bf3 BK411.out
          go_wp2
          refine bodyPost_ret (results_ctt rfl _ _ gb411 39 #[.int .i64 0, .int .i64 0, .string (⟨#[]⟩ : ByteArray)] (0, 0) _ rfl (by (with_reducible repeat (first | refine blk_drewN ?_ _ | refine blk_drew ?_ | refine blk_alloc ?_ _)); refine blk_put (cs := #[.int .i64 0, .int .i64 0, .string (⟨#[]⟩ : ByteArray)]) ?_ 2 _ rfl; (with_reducible repeat (first | refine blk_drewN ?_ _ | refine blk_drew ?_ | refine blk_alloc ?_ _)); refine blk_put (cs := #[.int .i64 0, .int .i64 0, .string (⟨#[]⟩ : ByteArray)]) ?_ 1 _ rfl; (with_reducible repeat (first | refine blk_drewN ?_ _ | refine blk_drew ?_ | refine blk_alloc ?_ _)); refine blk_put (cs := #[.int .i64 0, .int .i64 0, .string (⟨#[]⟩ : ByteArray)]) ?_ 0 _ rfl; (with_reducible repeat (first | refine blk_drewN ?_ _ | refine blk_drew ?_ | refine blk_alloc ?_ _)); exact BK411.out) Try.underlying39 rfl (by kernel_rfl)) rfl ?_
          exact er_ ((hb1_ HB.out GE411.out))
         ·rw [if_neg c15] at H
          have c15b0 : ((wrap64 (a1 + 1)) == (l0.length : Int)) = false := beq_eq_false_iff_ne.mpr c15
          have c15b1 : ((wrap64 (a1 + 1)) != (l0.length : Int)) = true := bne_iff_ne.mpr c15
          obtain ⟨ji17, hji17⟩ : ∃ j_ : Int, (wrap64 (a1 + 1)) = j_ := ⟨_, rfl⟩
          replace H : (if 0 ≤ (ji17) then (if (ji17) < (l0.length : Int) then (if (rd l0 (ji17)) > 1 then (some (0, 0, (⟨#[]⟩ : ByteArray), 0, 4)) else (some (wrap64 (rd l0 a1), wrap64 (rd l0 (ji17)), (⟨#[]⟩ : ByteArray), wrap64 ((ji17) + 1), 0))) else (none)) else (none)) = some (r1, r2, r3, r4, r5) := by first | (rw [hji17] at H; exact H) | (simp only [hji17] at H ⊢; exact H)
          (try rw [hji17] at c15b0)
          (try rw [hji17] at c15b1)
          have hji17w : (IntKind.i64.wrap (a1 + 1)) = ji17 := (i64_w _).trans hji17
          by_cases c18 : 0 ≤ (ji17)
          ·rw [if_pos c18] at H
           have c18b0 : decide (0 ≤ (ji17)) = true := decide_eq_true c18
           clear c18
           by_cases c19 : (ji17) < (l0.length : Int)
           ·rw [if_pos c19] at H
            have c19b0 : decide ((ji17) < (l0.length : Int)) = true := decide_eq_true c19
            clear c19
            by_cases c20 : (rd l0 (ji17)) > 1
            ·rw [if_pos c20] at H
             have c20b0 : decide (1 < (rd l0 (ji17))) = true := decide_eq_true c20
             clear c20
             simp only [Option.some.injEq, Prod.mk.injEq] at H
             obtain ⟨rfl, rfl, rfl, rfl, rfl⟩ := H
             have p412 : 0 ≤ (a1 : Int) := of_decide_eq_true (by first | (with_reducible assumption) | assumption)
             have q412 : a1 < (l0.length : Int) := of_decide_eq_true (by first | (with_reducible assumption) | assumption)
             obtain ⟨ad412, e412, hx412_0⟩ := Kd.at_int HR0.out a1 p412 q412
             cases e412
             replace hx412_0 := up_ HB.out hx412_0
             replace p412 := eq_true p412
             replace q412 := eq_true q412
             have p413 : 0 ≤ ((ji17) : Int) := of_decide_eq_true (by first | (with_reducible assumption) | assumption)
             have q413 : (ji17) < (l0.length : Int) := of_decide_eq_true (by first | (with_reducible assumption) | assumption)
             obtain ⟨ad413, e413, hx413_0⟩ := Kd.at_int HR0.out (ji17) p413 q413
             obtain rfl : ad412 = ad413 := (by injection e413)
             replace hx413_0 := up_ HB.out hx413_0
             replace p413 := eq_true p413
             replace q413 := eq_true q413
             obtain ⟨hcz21_0, hcz21_1, hcz21_2, hfz21_0, hfz21_1, hfz21_2⟩ := bf3 BK411.out
             go_wp2
             refine bodyPost_ret (results_ctt rfl _ _ gb411 39 #[.int .i64 0, .int .i64 0, .string (⟨#[]⟩ : ByteArray)] (0, 0) _ rfl (by (with_reducible repeat (first | refine blk_drewN ?_ _ | refine blk_drew ?_ | refine blk_alloc ?_ _)); refine blk_put (cs := #[.int .i64 0, .int .i64 0, .string (⟨#[]⟩ : ByteArray)]) ?_ 2 _ rfl; (with_reducible repeat (first | refine blk_drewN ?_ _ | refine blk_drew ?_ | refine blk_alloc ?_ _)); refine blk_put (cs := #[.int .i64 0, .int .i64 0, .string (⟨#[]⟩ : ByteArray)]) ?_ 1 _ rfl; (with_reducible repeat (first | refine blk_drewN ?_ _ | refine blk_drew ?_ | refine blk_alloc ?_ _)); refine blk_put (cs := #[.int .i64 0, .int .i64 0, .string (⟨#[]⟩ : ByteArray)]) ?_ 0 _ rfl; (with_reducible repeat (first | refine blk_drewN ?_ _ | refine blk_drew ?_ | refine blk_alloc ?_ _)); exact BK411.out) Try.underlying39 rfl (by kernel_rfl)) rfl ?_
             exact ⟨by first | rfl | (simp [errW_none, errW_some] <;> rfl) | (simp only [← hji17]; first | rfl | (simp [errW_none, errW_some] <;> rfl)) | (simp [*, errW_none, errW_some] <;> rfl), (hb1_ HB.out GE411.out)⟩
            ·rw [if_neg c20] at H
             have c20b0 : decide (1 < (rd l0 (ji17))) = false := decide_eq_false c20
             clear c20
             simp only [Option.some.injEq, Prod.mk.injEq] at H
             obtain ⟨rfl, rfl, rfl, rfl, rfl⟩ := H
             have p412 : 0 ≤ (a1 : Int) := of_decide_eq_true (by first | (with_reducible assumption) | assumption)
             have q412 : a1 < (l0.length : Int) := of_decide_eq_true (by first | (with_reducible assumption) | assumption)
             obtain ⟨ad412, e412, hx412_0⟩ := Kd.at_int HR0.out a1 p412 q412
             cases e412
             replace hx412_0 := up_ HB.out hx412_0
             replace p412 := eq_true p412
             replace q412 := eq_true q412
             have p413 : 0 ≤ ((ji17) : Int) := of_decide_eq_true (by first | (with_reducible assumption) | assumption)
             have q413 : (ji17) < (l0.length : Int) := of_decide_eq_true (by first | (with_reducible assumption) | assumption)
             obtain ⟨ad413, e413, hx413_0⟩ := Kd.at_int HR0.out (ji17) p413 q413
             obtain rfl : ad412 = ad413 := (by injection e413)
             replace hx413_0 := up_ HB.out hx413_0
             replace p413 := eq_true p413
             replace q413 := eq_true q413
             have p414 : 0 ≤ ((ji17) : Int) := of_decide_eq_true (by first | (with_reducible assumption) | assumption)
             have q414 : (ji17) < (l0.length : Int) := of_decide_eq_true (by first | (with_reducible assumption) | assumption)
             obtain ⟨ad414, e414, hx414_0⟩ := Kd.at_int HR0.out (ji17) p414 q414
             obtain rfl : ad412 = ad414 := (by injection e414)
             replace hx414_0 := up_ HB.out hx414_0
             replace p414 := eq_true p414
             replace q414 := eq_true q414
             obtain ⟨hcz22_0, hcz22_1, hcz22_2, hfz22_0, hfz22_1, hfz22_2⟩ := bf3 BK411.out
             go_wp2
             refine bodyPost_ret (results_ctt rfl _ _ gb411 39 #[.int .i64 (wrap64 (rd l0 a1)), .int .i64 (wrap64 (rd l0 (ji17))), .string (⟨#[]⟩ : ByteArray)] (0, 0) _ rfl (by (with_reducible repeat (first | refine blk_drewN ?_ _ | refine blk_drew ?_ | refine blk_alloc ?_ _)); refine blk_put (cs := #[.int .i64 (wrap64 (rd l0 a1)), .int .i64 (wrap64 (rd l0 (ji17))), .string (⟨#[]⟩ : ByteArray)]) ?_ 2 _ rfl; (with_reducible repeat (first | refine blk_drewN ?_ _ | refine blk_drew ?_ | refine blk_alloc ?_ _)); refine blk_put (cs := #[.int .i64 (wrap64 (rd l0 a1)), .int .i64 0, .string (⟨#[]⟩ : ByteArray)]) ?_ 1 _ rfl; (with_reducible repeat (first | refine blk_drewN ?_ _ | refine blk_drew ?_ | refine blk_alloc ?_ _)); refine blk_put (cs := #[.int .i64 0, .int .i64 0, .string (⟨#[]⟩ : ByteArray)]) ?_ 0 _ rfl; (with_reducible repeat (first | refine blk_drewN ?_ _ | refine blk_drew ?_ | refine blk_alloc ?_ _)); exact BK411.out) Try.underlying39 rfl (by kernel_rfl)) rfl ?_
             exact ⟨by first | rfl | (simp [errW_none, errW_some] <;> rfl) | (simp only [← hji17]; first | rfl | (simp [errW_none, errW_some] <;> rfl)) | (simp [*, errW_none, errW_some] <;> rfl), (hb1_ HB.out GE411.out)⟩
           ·rw [if_neg c19] at H
            exact absurd H (by simp)
          ·rw [if_neg c18] at H
           exact absurd H (by simp)
        ·rw [if_neg c14] at H
         have c14b0 : ((wrap64 (rd l0 a1)) == 1) = false := beq_eq_false_iff_ne.mpr c14
         have c14b1 : ((wrap64 (rd l0 a1)) != 1) = true := bne_iff_ne.mpr c14
         by_cases c23 : (wrap64 (rd l0 a1)) = 2
         ·rw [if_pos c23] at H
          have c23b0 : ((wrap64 (rd l0 a1)) == 2) = true := beq_iff_eq.mpr c23
          have c23b1 : ((wrap64 (rd l0 a1)) != 2) = false := bne_eq_false_iff_eq.mpr c23
          clear c23
          replace H := Option.bind_eq_some_iff.mp H
          obtain ⟨⟨t415, t416, t417⟩, A240, H⟩ := H
          replace H : (if t417 = 0 then ((varint_UnZigZag.f t415).bind fun t418 => (some (wrap64 (rd l0 a1), t418, (⟨#[]⟩ : ByteArray), t416, 0))) else (some (0, 0, (⟨#[]⟩ : ByteArray), 0, t417))) = some (r1, r2, r3, r4, r5) := H
          have A24 := Aside0.mk A240
          clear A240
          by_cases c25 : t417 = 0
          ·rw [if_pos c25] at H
           have c25b0 : (t417 == 0) = true := beq_iff_eq.mpr c25
           have c25b1 : (t417 != 0) = false := bne_eq_false_iff_eq.mpr c25
           clear c25
           replace H := Option.bind_eq_some_iff.mp H
           obtain ⟨t418, A260, H⟩ := H
           replace H : (some (wrap64 (rd l0 a1), t418, (⟨#[]⟩ : ByteArray), t416, 0)) = some (r1, r2, r3, r4, r5) := H
           have A26 := Aside0.mk A260
           clear A260
           simp only [Option.some.injEq, Prod.mk.injEq] at H
           obtain ⟨rfl, rfl, rfl, rfl, rfl⟩ := H
           have p412 : 0 ≤ (a1 : Int) := of_decide_eq_true (by first | (with_reducible assumption) | assumption)
           have q412 : a1 < (l0.length : Int) := of_decide_eq_true (by first | (with_reducible assumption) | assumption)
           obtain ⟨ad412, e412, hx412_0⟩ := Kd.at_int HR0.out a1 p412 q412
           cases e412
           replace hx412_0 := up_ HB.out hx412_0
           replace p412 := eq_true p412
           replace q412 := eq_true q412
           go_wp2_with (first | ((with_reducible refine gate_callee (f := 94) rfl ?_); refine goesL_ (some 65) rfl rfl Try.func94 (by kernel_rfl) rfl #[.slice (some ad412) l0.length c0, .int .i64 (wrap64 (a1 + 1))] rfl (by (try simp only [List.map_toArray, List.map_cons, List.map_nil]); first | done | rfl | (simp only [List.length_drop, List.length_take]; rfl) | (simp only [Int.ofNat_lt, Int.ofNat_le, gt_iff_lt, ge_iff_le]; rfl)) ?_; (with_reducible refine (varint_Decode.calls kj2 _ _ l0 (wrap64 (a1 + 1)) t415 t416 t417 _ ?side1 ?side2 A24.out).mono ?_); (case side1 => exact cb_ HR0.out HB.out); (case side2 => exact HC0.out); rintro e w' ⟨rfl, ⟨nd, rfl⟩⟩; refine ⟨_, rfl, ?_⟩; (try (rw [drewN_self wc]; generalize hq_ : World.drewN wc _ = wc; have n0_ : Aside0 (wc.heap[gb411]? = some (.cells #[.int .i64 0, .int .i64 0, .string (⟨#[]⟩ : ByteArray)] 39 (0, 0))) := ⟨by rw [← hq_]; exact (bk_ BK411.out)⟩; have n1_ : Aside0 (Below w.heap.size w wc) := ⟨by rw [← hq_]; exact (hb1_ HB.out GE411.out)⟩; clear BK411 HB hq_; have BK411 := n0_; have HB := n1_; clear n0_ n1_))) | ((with_reducible refine gate_callee (f := 95) rfl ?_); refine goesL_ (some 75) rfl rfl Try.func95 (by kernel_rfl) rfl #[.int .u64 t415] rfl (by (try simp only [List.map_toArray, List.map_cons, List.map_nil]); first | done | rfl | (simp only [List.length_drop, List.length_take]; rfl) | (simp only [Int.ofNat_lt, Int.ofNat_le, gt_iff_lt, ge_iff_le]; rfl)) ?_; (with_reducible refine (varint_UnZigZag.calls t415 t418 _ A26.out).mono ?_); rintro e w' ⟨rfl, ⟨nd, rfl⟩⟩; refine ⟨_, rfl, ?_⟩; (try (rw [drewN_self wc]; generalize hq_ : World.drewN wc _ = wc; have n0_ : Aside0 (wc.heap[gb411]? = some (.cells #[.int .i64 0, .int .i64 0, .string (⟨#[]⟩ : ByteArray)] 39 (0, 0))) := ⟨by rw [← hq_]; exact (bk_ BK411.out)⟩; have n1_ : Aside0 (Below w.heap.size w wc) := ⟨by rw [← hq_]; exact (hb1_ HB.out GE411.out)⟩; clear BK411 HB hq_; have BK411 := n0_; have HB := n1_; clear n0_ n1_)); obtain ⟨hcz27_0, hcz27_1, hcz27_2, hfz27_0, hfz27_1, hfz27_2⟩ := bf3 BK411.out))
           refine bodyPost_ret (results_ctt rfl _ _ gb411 39 #[.int .i64 (wrap64 (rd l0 a1)), .int .i64 t418, .string (⟨#[]⟩ : ByteArray)] (0, 0) _ rfl (by (with_reducible repeat (first | refine blk_drewN ?_ _ | refine blk_drew ?_ | refine blk_alloc ?_ _)); refine blk_put (cs := #[.int .i64 (wrap64 (rd l0 a1)), .int .i64 t418, .string (⟨#[]⟩ : ByteArray)]) ?_ 2 _ rfl; (with_reducible repeat (first | refine blk_drewN ?_ _ | refine blk_drew ?_ | refine blk_alloc ?_ _)); refine blk_put (cs := #[.int .i64 (wrap64 (rd l0 a1)), .int .i64 0, .string (⟨#[]⟩ : ByteArray)]) ?_ 1 _ rfl; (with_reducible repeat (first | refine blk_drewN ?_ _ | refine blk_drew ?_ | refine blk_alloc ?_ _)); refine blk_put (cs := #[.int .i64 0, .int .i64 0, .string (⟨#[]⟩ : ByteArray)]) ?_ 0 _ rfl; (with_reducible repeat (first | refine blk_drewN ?_ _ | refine blk_drew ?_ | refine blk_alloc ?_ _)); exact BK411.out) Try.underlying39 rfl (by kernel_rfl)) rfl ?_
           exact er_ ((hb1_ HB.out GE411.out))
          ·rw [if_neg c25] at H
           have c25b0 : (t417 == 0) = false := beq_eq_false_iff_ne.mpr c25
           have c25b1 : (t417 != 0) = true := bne_iff_ne.mpr c25
           simp only [Option.some.injEq, Prod.mk.injEq] at H
           obtain ⟨rfl, rfl, rfl, rfl, rfl⟩ := H
           have p412 : 0 ≤ (a1 : Int) := of_decide_eq_true (by first | (with_reducible assumption) | assumption)
           have q412 : a1 < (l0.length : Int) := of_decide_eq_true (by first | (with_reducible assumption) | assumption)
           obtain ⟨ad412, e412, hx412_0⟩ := Kd.at_int HR0.out a1 p412 q412
           cases e412
           replace hx412_0 := up_ HB.out hx412_0
           replace p412 := eq_true p412
           replace q412 := eq_true q412
           go_wp2_with (first | ((with_reducible refine gate_callee (f := 94) rfl ?_); refine goesL_ (some 65) rfl rfl Try.func94 (by kernel_rfl) rfl #[.slice (some ad412) l0.length c0, .int .i64 (wrap64 (a1 + 1))] rfl (by (try simp only [List.map_toArray, List.map_cons, List.map_nil]); first | done | rfl | (simp only [List.length_drop, List.length_take]; rfl) | (simp only [Int.ofNat_lt, Int.ofNat_le, gt_iff_lt, ge_iff_le]; rfl)) ?_; (with_reducible refine (varint_Decode.calls kj2 _ _ l0 (wrap64 (a1 + 1)) t415 t416 t417 _ ?side1 ?side2 A24.out).mono ?_); (case side1 => exact cb_ HR0.out HB.out); (case side2 => exact HC0.out); rintro e w' ⟨rfl, ⟨nd, rfl⟩⟩; refine ⟨_, rfl, ?_⟩; (try (rw [drewN_self wc]; generalize hq_ : World.drewN wc _ = wc; have n0_ : Aside0 (wc.heap[gb411]? = some (.cells #[.int .i64 0, .int .i64 0, .string (⟨#[]⟩ : ByteArray)] 39 (0, 0))) := ⟨by rw [← hq_]; exact (bk_ BK411.out)⟩; have n1_ : Aside0 (Below w.heap.size w wc) := ⟨by rw [← hq_]; exact (hb1_ HB.out GE411.out)⟩; clear BK411 HB hq_; have BK411 := n0_; have HB := n1_; clear n0_ n1_)); obtain ⟨hcz28_0, hcz28_1, hcz28_2, hfz28_0, hfz28_1, hfz28_2⟩ := bf3 BK411.out))
           refine bodyPost_ret (results_ctt rfl _ _ gb411 39 #[.int .i64 0, .int .i64 0, .string (⟨#[]⟩ : ByteArray)] (0, 0) _ rfl (by (with_reducible repeat (first | refine blk_drewN ?_ _ | refine blk_drew ?_ | refine blk_alloc ?_ _)); refine blk_put (cs := #[.int .i64 0, .int .i64 0, .string (⟨#[]⟩ : ByteArray)]) ?_ 2 _ rfl; (with_reducible repeat (first | refine blk_drewN ?_ _ | refine blk_drew ?_ | refine blk_alloc ?_ _)); refine blk_put (cs := #[.int .i64 0, .int .i64 0, .string (⟨#[]⟩ : ByteArray)]) ?_ 1 _ rfl; (with_reducible repeat (first | refine blk_drewN ?_ _ | refine blk_drew ?_ | refine blk_alloc ?_ _)); refine blk_put (cs := #[.int .i64 0, .int .i64 0, .string (⟨#[]⟩ : ByteArray)]) ?_ 0 _ rfl; (with_reducible repeat (first | refine blk_drewN ?_ _ | refine blk_drew ?_ | refine blk_alloc ?_ _)); exact BK411.out) Try.underlying39 rfl (by kernel_rfl)) rfl ?_
           exact er_ ((hb1_ HB.out GE411.out))
         ·rw [if_neg c23] at H
          have c23b0 : ((wrap64 (rd l0 a1)) == 2) = false := beq_eq_false_iff_ne.mpr c23
          have c23b1 : ((wrap64 (rd l0 a1)) != 2) = true := bne_iff_ne.mpr c23
          by_cases c29 : (wrap64 (rd l0 a1)) = 3
          ·rw [if_pos c29] at H
           have c29b0 : ((wrap64 (rd l0 a1)) == 3) = true := beq_iff_eq.mpr c29
           have c29b1 : ((wrap64 (rd l0 a1)) != 3) = false := bne_eq_false_iff_eq.mpr c29
           clear c29
           replace H := Option.bind_eq_some_iff.mp H
           obtain ⟨⟨t419, t420, t421, t422, t423⟩, A300, H⟩ := H
           replace H : (some (t419, t420, t421, t422, t423)) = some (r1, r2, r3, r4, r5) := H
           have A30 := Aside0.mk A300
           clear A300
           simp only [Option.some.injEq, Prod.mk.injEq] at H
           obtain ⟨rfl, rfl, rfl, rfl, rfl⟩ := H
           have p412 : 0 ≤ (a1 : Int) := of_decide_eq_true (by first | (with_reducible assumption) | assumption)
           have q412 : a1 < (l0.length : Int) := of_decide_eq_true (by first | (with_reducible assumption) | assumption)
           obtain ⟨ad412, e412, hx412_0⟩ := Kd.at_int HR0.out a1 p412 q412
           cases e412
           replace hx412_0 := up_ HB.out hx412_0
           replace p412 := eq_true p412
           replace q412 := eq_true q412
           go_wp2_with (first | ((with_reducible refine gate_callee (f := 96) rfl ?_); refine goesL_ (some 82) rfl rfl Try.func96 (by kernel_rfl) rfl #[.slice (some ad412) l0.length c0, .int .i64 (wrap64 (a1 + 1))] rfl (by (try simp only [List.map_toArray, List.map_cons, List.map_nil]); first | done | rfl | (simp only [List.length_drop, List.length_take]; rfl) | (simp only [Int.ofNat_lt, Int.ofNat_le, gt_iff_lt, ge_iff_le]; rfl)) ?_; (with_reducible refine (value_decodeText.calls kj2 _ _ l0 (wrap64 (a1 + 1)) t419 t420 t421 t422 t423 _ ?side1 ?side2 A30.out).mono ?_); (case side1 => exact cb_ HR0.out HB.out); (case side2 => exact HC0.out); rintro e w31 ⟨rfl, hb⟩; refine ⟨_, rfl, ?_⟩; replace BK411 := Aside0.mk (blk_below (g := gb411) (o := .cells #[.int .i64 0, .int .i64 0, .string (⟨#[]⟩ : ByteArray)] 39 (0, 0)) (bk_ BK411.out) hb); replace HB := Aside0.mk (below_step (hb1_ HB.out GE411.out) hb); (try clear hb); obtain ⟨hcz32_0, hcz32_1, hcz32_2, hfz32_0, hfz32_1, hfz32_2⟩ := bf3 BK411.out))
           refine bodyPost_ret (results_ctt rfl _ _ gb411 39 #[.int .i64 t419, .int .i64 t420, .string t421] (0, 0) _ rfl (by (with_reducible repeat (first | refine blk_drewN ?_ _ | refine blk_drew ?_ | refine blk_alloc ?_ _)); refine blk_put (cs := #[.int .i64 t419, .int .i64 t420, .string (⟨#[]⟩ : ByteArray)]) ?_ 2 _ rfl; (with_reducible repeat (first | refine blk_drewN ?_ _ | refine blk_drew ?_ | refine blk_alloc ?_ _)); refine blk_put (cs := #[.int .i64 t419, .int .i64 0, .string (⟨#[]⟩ : ByteArray)]) ?_ 1 _ rfl; (with_reducible repeat (first | refine blk_drewN ?_ _ | refine blk_drew ?_ | refine blk_alloc ?_ _)); refine blk_put (cs := #[.int .i64 0, .int .i64 0, .string (⟨#[]⟩ : ByteArray)]) ?_ 0 _ rfl; (with_reducible repeat (first | refine blk_drewN ?_ _ | refine blk_drew ?_ | refine blk_alloc ?_ _)); exact BK411.out) Try.underlying39 rfl (by kernel_rfl)) rfl ?_
           exact er_ ((hb1_ HB.out GE411.out))
          ·rw [if_neg c29] at H
           have c29b0 : ((wrap64 (rd l0 a1)) == 3) = false := beq_eq_false_iff_ne.mpr c29
           have c29b1 : ((wrap64 (rd l0 a1)) != 3) = true := bne_iff_ne.mpr c29
           simp only [Option.some.injEq, Prod.mk.injEq] at H
           obtain ⟨rfl, rfl, rfl, rfl, rfl⟩ := H
           have p412 : 0 ≤ (a1 : Int) := of_decide_eq_true (by first | (with_reducible assumption) | assumption)
           have q412 : a1 < (l0.length : Int) := of_decide_eq_true (by first | (with_reducible assumption) | assumption)
           obtain ⟨ad412, e412, hx412_0⟩ := Kd.at_int HR0.out a1 p412 q412
           cases e412
           replace hx412_0 := up_ HB.out hx412_0
           replace p412 := eq_true p412
           replace q412 := eq_true q412
           obtain ⟨hcz33_0, hcz33_1, hcz33_2, hfz33_0, hfz33_1, hfz33_2⟩ := bf3 BK411.out
           go_wp2
           refine bodyPost_ret (results_ctt rfl _ _ gb411 39 #[.int .i64 0, .int .i64 0, .string (⟨#[]⟩ : ByteArray)] (0, 0) _ rfl (by (with_reducible repeat (first | refine blk_drewN ?_ _ | refine blk_drew ?_ | refine blk_alloc ?_ _)); refine blk_put (cs := #[.int .i64 0, .int .i64 0, .string (⟨#[]⟩ : ByteArray)]) ?_ 2 _ rfl; (with_reducible repeat (first | refine blk_drewN ?_ _ | refine blk_drew ?_ | refine blk_alloc ?_ _)); refine blk_put (cs := #[.int .i64 0, .int .i64 0, .string (⟨#[]⟩ : ByteArray)]) ?_ 1 _ rfl; (with_reducible repeat (first | refine blk_drewN ?_ _ | refine blk_drew ?_ | refine blk_alloc ?_ _)); refine blk_put (cs := #[.int .i64 0, .int .i64 0, .string (⟨#[]⟩ : ByteArray)]) ?_ 0 _ rfl; (with_reducible repeat (first | refine blk_drewN ?_ _ | refine blk_drew ?_ | refine blk_alloc ?_ _)); exact BK411.out) Try.underlying39 rfl (by kernel_rfl)) rfl ?_
           exact er_ ((hb1_ HB.out GE411.out))
      ·rw [if_neg c11] at H
       exact absurd H (by simp)
     ·rw [if_neg c10] at H
      exact absurd H (by simp)
/-! ### sketch_cell: function 55 -/
def sketch_cell.f (k : Nat) (a0 : Int) (a1_0 : Int) (a1_1 : Int) (a1_2 : ByteArray) : Option (Int) := (value_Hash.f k (IntKind.u64.wrap (wrap64 (4 + a0))) (([(⟨a1_0, a1_1, a1_2⟩ : S39)] : List (S39)))).bind fun t428 => (some (wrap64 (Int.tmod t428 64)))
theorem sketch_cell.mono : ∀ a0 a1 a2 a3 k, LeO (sketch_cell.f k a0 a1 a2 a3) (sketch_cell.f (k + 1) a0 a1 a2 a3) := by
 intro a0 a1 a2 a3 k
 unfold sketch_cell.f
 repeat' first
   | (with_reducible exact value_Hash.mono _ _ _)
   | (with_reducible exact LeO.refl _)
   | (with_reducible exact LeO.none _)
   | (with_reducible refine LeO.ite ?_ ?_)
   | (with_reducible refine LeO.bind ?_ (fun _ => ?_))
   | exact value_Hash.mono _ _ _
   | exact LeO.none _
   | refine LeO.ite ?_ ?_
   | refine LeO.bind ?_ (fun _ => ?_)
set_option maxHeartbeats 8000000 in
set_option maxRecDepth 100000 in
theorem sketch_cell.calls (k : Nat) (a0 : Int) (a1_0 : Int) (a1_1 : Int) (a1_2 : ByteArray) (r : Int) (w : World) (h : sketch_cell.f k a0 a1_0 a1_1 a1_2 = some r) :
  Calls Try.prog 55 #[.int .i64 a0, .agg #[.int .i64 a1_0, .int .i64 a1_1, .string a1_2]] w fun e w' => e = .returned (.int .i64 r) ∧ Below w.heap.size w w' := by
 have hu39 := Try.underlying39
 have HB := Aside0.mk (Below.refl w.heap.size w)
 have H : ((value_Hash.f k (IntKind.u64.wrap (wrap64 (4 + a0))) (([(⟨a1_0, a1_1, a1_2⟩ : S39)] : List (S39)))).bind fun t428 => (some (wrap64 (Int.tmod t428 64)))) = some r := h
 clear h
 obtain ⟨y425, hy425⟩ : ∃ y_ : List (S39), y_ = (([(⟨a1_0, a1_1, a1_2⟩ : S39)] : List (S39))) := ⟨_, rfl⟩
 replace H : ((value_Hash.f k (IntKind.u64.wrap (wrap64 (4 + a0))) y425).bind fun t428 => (some (wrap64 (Int.tmod t428 64)))) = some r := by first | (rw [hy425]; with_reducible exact H) | (have H2_ := (Option.bind_some _ _).symm.trans H; rw [hy425]; with_reducible exact H2_) | (have H2_ := (Option.bind_some _ _).symm.trans H; with_reducible exact H2_) | with_reducible exact H | (rw [hy425]; exact H) | exact H
 have Ny425 := Aside0.mk hy425
 clear hy425
 replace H := Option.bind_eq_some_iff.mp H
 obtain ⟨t428, A30, H⟩ := H
 replace H : (some (wrap64 (Int.tmod t428 64))) = some r := H
 have A3 := Aside0.mk A30
 clear A30
 obtain rfl := Option.some.inj H
 go_enter Try.func55, Try.ntmps55
 go_wp2_with (first | ((with_reducible refine gate_dst (N := 3) rfl ?_); refine box_ 3 (cs := #[.int .i64 a1_0, .int .i64 a1_1, .string a1_2]) (t := 39) ?_; intro gb424 hg w4 hbox hb; have BK424 := Aside0.mk (hbox); have GW424 := Aside0.mk ((by rw [hg]; exact (below_size (hb_ HB.out)) : w.heap.size ≤ gb424)); have GE424 := Aside0.mk ((by rw [hg]; exact (below_size (hb_ HB.out)) : w.heap.size ≤ gb424)); replace HB := Aside0.mk (below_step (hb_ HB.out) hb); clear hb hbox hg; obtain ⟨hcz5_0, hcz5_1, hcz5_2, hfz5_0, hfz5_1, hfz5_2⟩ := bf3 BK424.out) | ((with_reducible refine gate_dst (N := 9) rfl ?_); refine Kd.R_lit k39 _ 39 ?hg (N := 9) ?hd (xs := ([(⟨a1_0, a1_1, a1_2⟩ : S39)] : List (S39))) (inner := [.int .i64 a1_0, .int .i64 a1_1, .string a1_2]) (ok := fun _ => True) (okp := fun _ => True) ?hr ?hp (fun _ hk => hk) trivial (Below.refl _ _) (Nat.le_refl _) (by simp) ?_; (case hd => rfl); (case hg => rfl); (case hr => first | (go_simp; done) | (go_simp; rfl)); (case hp => exact (Reps.c3 (show Kd.M k39 _ _ _ (⟨a1_0, a1_1, a1_2⟩ : S39) [.int .i64 a1_0, .int .i64 a1_1, .string a1_2] from (k39_mkM _ _ _ (⟨a1_0, a1_1, a1_2⟩ : S39) )) (Reps.none _ _))); intro v426 w6 ho7 hb hg_ hnew_; clear hg_ hnew_; (first | rw [← Ny425.out] at ho7 | (simp only [Int.reduceToNat] at ho7; rw [← Ny425.out] at ho7)); have HO427 := Aside0.mk (Kd.R_lower (Kd.R_newB ho7 (g := gb424) (o := .cells #[.int .i64 a1_0, .int .i64 a1_1, .string a1_2] 39 (0, 0)) (bk_ BK424.out)) (below_size (hb1_ HB.out GE424.out))); replace BK424 := Aside0.mk (blk_below (bk_ BK424.out) hb); replace HB := Aside0.mk (below_step (hb1_ HB.out GE424.out) hb); clear hb ho7; obtain ⟨Ao8, co8, eo8⟩ := Kd.R_slice HO427.out; subst eo8) | ((with_reducible refine gate_callee (f := 54) rfl ?_); refine goesL_ (some 10) rfl rfl Try.func54 (by kernel_rfl) rfl #[.int .u64 (IntKind.u64.wrap (wrap64 (4 + a0))), .slice Ao8 y425.length co8] rfl (by (try simp only [List.map_toArray, List.map_cons, List.map_nil]); first | done | rfl | (simp only [List.length_drop, List.length_take]; rfl) | (simp only [Int.ofNat_lt, Int.ofNat_le, gt_iff_lt, ge_iff_le]; rfl)) ?_; (with_reducible refine (value_Hash.calls k (IntKind.u64.wrap (wrap64 (4 + a0))) _ _ y425 t428 _ ?side1 ?side2 A3.out).mono ?_); (case side1 => repeat (first | exact (Kd.R_reads' HO427.out).2.2 | (with_reducible refine Kd.C_alloc ?_ _) | (with_reducible refine Kd.C_drewN ?_ _) | (with_reducible refine Kd.C_drew ?_))); (case side2 => exact (Kd.R_reads' HO427.out).2.1); rintro e w9 ⟨rfl, hb⟩; refine ⟨_, rfl, ?_⟩; replace HO427 := Aside0.mk (Kd.R_below (ra_ HO427.out) hb); replace BK424 := Aside0.mk (blk_below (bk_ BK424.out) hb); replace HB := Aside0.mk (below_step (hb1_ HB.out GE424.out) hb); (try clear hb)))
 go_ret
 exact er_ ((hb1_ HB.out GE424.out))
/-! ### laminaref16_values: function 80 -/
def laminaref16_values.f (a0_0 : Int) (a0_1 : Int) (l0_2 : List Int) (a0_3 : Bool) (l0_4 : List Int) (l0_5 : List (S39)) (l0_6 : List Int) : Option (Int) := some (wrap64 (a0_0 - a0_1))
set_option maxHeartbeats 8000000 in
set_option maxRecDepth 100000 in
theorem laminaref16_values.calls (a0_0 : Int) (a0_1 : Int) (A0_2 : Option Addr) (c0_2 : Nat) (l0_2 : List Int) (a0_3 : Bool) (A0_4 : Option Addr) (c0_4 : Nat) (l0_4 : List Int) (A0_5 : Option Addr) (c0_5 : Nat) (l0_5 : List (S39)) (A0_6 : Option Addr) (c0_6 : Nat) (l0_6 : List Int) (r : Int) (w : World) (hr0_2 : Kd.C (Kd.int .u64) w A0_2 l0_2.length l0_2) (hc0_2 : l0_2.length ≤ c0_2) (hr0_4 : Kd.C (Kd.int .i64) w A0_4 l0_4.length l0_4) (hc0_4 : l0_4.length ≤ c0_4) (hr0_5 : Kd.C k39 w A0_5 l0_5.length l0_5) (hc0_5 : l0_5.length ≤ c0_5) (hr0_6 : Kd.C (Kd.int .i64) w A0_6 l0_6.length l0_6) (hc0_6 : l0_6.length ≤ c0_6) (h : laminaref16_values.f a0_0 a0_1 l0_2 a0_3 l0_4 l0_5 l0_6 = some r) :
  Calls Try.prog 80 #[.agg #[.int .i64 a0_0, .int .i64 a0_1, .slice A0_2 l0_2.length c0_2, .bool a0_3, .slice A0_4 l0_4.length c0_4, .slice A0_5 l0_5.length c0_5, .slice A0_6 l0_6.length c0_6]] w fun e w' => e = .returned (.int .i64 r) ∧ Below w.heap.size w w' := by
 have hu26 := Try.underlying26
 have HR0_2 := Aside0.mk hr0_2
 have HC0_2 := Aside0.mk hc0_2
 clear hr0_2 hc0_2
 have HR0_4 := Aside0.mk hr0_4
 have HC0_4 := Aside0.mk hc0_4
 clear hr0_4 hc0_4
 have HR0_5 := Aside0.mk hr0_5
 have HC0_5 := Aside0.mk hc0_5
 clear hr0_5 hc0_5
 have HR0_6 := Aside0.mk hr0_6
 have HC0_6 := Aside0.mk hc0_6
 clear hr0_6 hc0_6
 have HB := Aside0.mk (Below.refl w.heap.size w)
 have H : (some (wrap64 (a0_0 - a0_1))) = some r := h
 clear h
 obtain rfl := Option.some.inj H
 go_enter Try.func80, Try.ntmps80
 go_wp2_with (first | ((with_reducible refine gate_dst (N := 1) rfl ?_); refine box_ 1 (cs := #[.int .i64 a0_0, .int .i64 a0_1, .slice A0_2 l0_2.length c0_2, .bool a0_3, .slice A0_4 l0_4.length c0_4, .slice A0_5 l0_5.length c0_5, .slice A0_6 l0_6.length c0_6]) (t := 26) ?_; intro gb101 hg w2 hbox hb; have BK101 := Aside0.mk (hbox); have GW101 := Aside0.mk ((by rw [hg]; exact (below_size (hb_ HB.out)) : w.heap.size ≤ gb101)); have GE101 := Aside0.mk ((by rw [hg]; exact (below_size (hb_ HB.out)) : w.heap.size ≤ gb101)); replace HB := Aside0.mk (below_step (hb_ HB.out) hb); clear hb hbox hg; obtain ⟨hcz3_0, hcz3_1, hcz3_2, hcz3_3, hcz3_4, hcz3_5, hcz3_6, hfz3_0, hfz3_1, hfz3_2, hfz3_3, hfz3_4, hfz3_5, hfz3_6⟩ := bf7 BK101.out))
 go_ret
 exact er_ ((hb1_ HB.out GE101.out))
end Go.Proofs.Ytackcingpffidaa.P
