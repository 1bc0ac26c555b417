/- What Go functions of the given program return, told as Lean functions, and the walks that show it, with plain facts on them: HB, sketch_span, sketch_CountLess, cmp_isNaN_uint64, cmp_Less_uint64, slices_isNaN_uint64, slices_insertionSortOrdered_uint64, H103, S16, S17, H56. Conditions: the hypotheses that stand at each theorem. -/
import Derived.LoopN
import Derived.Shelf.SlicesE.Compact
import Derived.Test.YtackcingpffidaaZe0
import Derived.Test.YtackcingpffidaaZe1
import Derived.Test.YtackcingpffidaaZe2
namespace Go.Proofs.Ytackcingpffidaa.P
open Go.RowKit Go.Proofs.YtackcingpffidaaW.PrintWords Go.Proofs.YtackcingpffidaaW.PrintLast Go.Proofs.YtackcingpffidaaW.PrintMore
set_option linter.unusedVariables false
set_option linter.unusedSimpArgs false
set_option maxHeartbeats 8000000 in
set_option maxRecDepth 100000 in
theorem sketch_upper.calls0 (k : Nat) (a0 a1 : Int) (A2 : Option Addr) (c2 : Nat) (l2 : List Int) (b3 : Bool) (A4 : Option Addr) (c4 : Nat) (l4 : List Int) (A5 : Option Addr) (c5 : Nat) (l5 : List S39) (A6 : Option Addr) (c6 : Nat) (l6 : List Int) (v : S39) (q : Bool) (r : Int) (w : World) (hr2 : Kd.C (Kd.int .u64) w A2 l2.length l2) (hc2 : l2.length ≤ c2) (hr4 : Kd.C (Kd.int .i64) w A4 l4.length l4) (hc4 : l4.length ≤ c4) (hr5 : Kd.C k39 w A5 l5.length l5) (hc5 : l5.length ≤ c5) (hr6 : Kd.C (Kd.int .i64) w A6 l6.length l6) (hc6 : l6.length ≤ c6) (h : sketch_upper.f k a0 a1 l2 b3 l4 l5 l6 v.f0 v.f1 v.f2 q = some r) :
  Calls Try.prog 70 #[.agg #[.int .i64 a0, .int .i64 a1, .slice A2 l2.length c2, .bool b3, .slice A4 l4.length c4, .slice A5 l5.length c5, .slice A6 l6.length c6], .agg #[.int .i64 v.f0, .int .i64 v.f1, .string v.f2], .bool q] w fun e w' => e = .returned (.int .i64 r) ∧ Below w.heap.size w w' := by
 obtain ⟨hR, hF, hz⟩ := rk_of h
 have HRL := Aside0.mk hR
 clear h hR
 obtain ⟨n, hn⟩ : ∃ n, wrap64 (a0 - a1) = n := ⟨_, rfl⟩
 have HN : Aside0 (sketch_count.f a0 a1 l2 b3 l4 l5 l6 = some n) := ⟨by unfold sketch_count.f; rw [hn]⟩
 rw [hn] at hz
 have HZ : Aside0 (upS cV l5 l6 v q n l5.length 0 = r) := ⟨hz⟩
 clear hz hn
 have HKw : SK w A2 c2 l2 A4 c4 l4 A5 c5 l5 A6 c6 l6 := ⟨hr2, hc2, hr4, hc4, hr5, hc5, hr6, hc6⟩
 have HR5 := Aside0.mk hr5
 have HR6 := Aside0.mk hr6
 replace HKw := Aside0.mk HKw
 clear hr2 hr4 hr5 hr6
 go_enter Try.func70, Try.ntmps70
 go_upto_region 1 with (first | (refine box_ 3 (cs := #[.int .i64 a0, .int .i64 a1, .slice A2 l2.length c2, .bool b3, .slice A4 l4.length c4, .slice A5 l5.length c5, .slice A6 l6.length c6]) (t := 26) (fun g2 hg_ w1 BK2 HB => ?_); clear hg_; replace BK2 := Aside0.mk BK2; replace HB := Aside0.mk HB) | (refine box_ 4 (cs := #[.int .i64 v.f0, .int .i64 v.f1, .string v.f2]) (t := 39) (fun g3 hg_ V BK3 hb => ?_); clear hg_; replace BK2 := Aside0.mk (blk_below BK2.out hb); replace BK3 := Aside0.mk BK3; replace HB := Aside0.mk (HB.out.trans (hb.mono (below_size HB.out))); clear hb))
 have HS : Aside0 (∀ W, Below V.heap.size V W → sk7 g2 a0 a1 A2 c2 l2 b3 A4 c4 l4 A5 c5 l5 A6 c6 l6 W (v3 g3 v W (True))) := ⟨fun W hb => sk7_of (blk_below BK2.out hb) (v3_of (blk_below BK3.out hb) trivial)⟩
 have HK : Aside0 (∀ W, Below V.heap.size V W → SK W A2 c2 l2 A4 c4 l4 A5 c5 l5 A6 c6 l6) := ⟨fun W hb => HKw.out.below (HB.out.trans (hb.mono (below_size HB.out)))⟩
 have HBV := HB
 clear BK2 BK3 HKw HB
 have HY := Aside0.mk (Below.refl V.heap.size V)
 obtain ⟨t0, t1, t2, t3, t4, t5, t6, t7, t8, t9, _⟩ := HS.out V HY.out
 go_wp2
 go_loopg [13] l5.length (fun kq v13 w' => ∃ i : Nat, v13 = .int .i64 i ∧ i ≤ l5.length ∧ Aside0 (kq + i = l5.length) ∧ Aside0 (upS cV l5 l6 v q n kq i = r) ∧ Aside0 (Below V.heap.size V w'))
 case atStart => exact ⟨0, rfl, Nat.zero_le _, ⟨rfl⟩, HZ, HY⟩
 case round =>
  clear HZ HY t0 t1 t2 t3 t4 t5 t6 t7 t8 t9
  obtain ⟨i, rfl, hi, HK2, HZ, HY⟩ := hrel
  by_cases hr : i < l5.length
  rotate_left
  ·obtain rfl : i = l5.length := by omega
   have hk0 : gk = 0 := by have := HK2.out; omega
   subst hk0
   have hid : decide ((l5.length : Int) < l5.length) = false := decide_eq_false (by omega)
   obtain rfl : n = r := HZ.out
   obtain ⟨t0, t1, t2, t3, t4, t5, t6, t7, t8, t9, _⟩ := HS.out wr HY.out
   go_wp2_with (go_at_call 66; refine (un8 (sketch_count.calls a0 a1 _ _ _ _ _ _ _ _ _ _ _ _ _ n _) (HK.out _ HY.out) HN.out).mono ?_; rintro e w9 ⟨rfl, hb⟩; replace HY := Aside0.mk (HY.out.trans (hb.mono HY.out.size)); clear hb)
   go_ret
   exact ⟨rfl, HBV.out.trans (HY.out.mono (below_size HBV.out))⟩
  obtain ⟨k2, rfl⟩ : ∃ k2, gk = k2 + 1 := ⟨gk - 1, by have := HK2.out; omega⟩
  have hst : (if decide (0 < cV (fe l5 i) v) || (cV (fe l5 i) v == 0 && q) then rd l6 ((2 * i : Nat) : Int) else upS cV l5 l6 v q n k2 (i + 1)) = r := HZ.out
  clear HZ
  obtain ⟨ad, rfl, hy0, hy1, hy2⟩ := at_T39 HR5.out (i : Int) (by omega) (by omega)
  rw [Int.toNat_natCast] at hy0 hy1 hy2
  obtain ⟨x, hxx⟩ : ∃ x, fe l5 i = x := ⟨_, rfl⟩
  rw [show rd_T39 l5 (i : Int) = x from hxx] at hy0 hy1 hy2
  obtain ⟨c, hc⟩ : ∃ c, cV x v = c := ⟨_, rfl⟩
  have HC := Aside0.mk hc
  rw [hxx, hc] at hst
  have HST := Aside0.mk hst
  have HSE : Aside0 (∀ W, Below V.heap.size V W → sk7 g2 a0 a1 A2 c2 l2 b3 A4 c4 l4 (some ad) c5 l5 A6 c6 l6 W (v3 g3 v W (W.cell? (ad.add (i * 3)) = some (.int .i64 x.f0) ∧ W.cell? ⟨(ad.add (i * 3)).block, (ad.add (i * 3)).off + 1, none⟩ = some (.int .i64 x.f1) ∧ W.cell? ⟨(ad.add (i * 3)).block, (ad.add (i * 3)).off + 2, none⟩ = some (.string x.f2)))) := ⟨fun W hb => by
   obtain ⟨t0, t1, t2, t3, t4, t5, t6, t7, t8, t9, _⟩ := HS.out W hb
   have hbw := HBV.out.trans (hb.mono (below_size HBV.out))
   exact ⟨t0, t1, t2, t3, t4, t5, t6, t7, t8, t9, up_ hbw hy0, up_ hbw hy1, up_ hbw hy2⟩⟩
  have hid : decide ((i : Int) < l5.length) = true := decide_eq_true (by omega)
  have hid2 : decide ((l5.length : Int) ≤ i) = false := decide_eq_false (by omega)
  have hi0 : decide (0 ≤ (i : Int)) = true := decide_eq_true (by omega)
  clear hxx hc hst
  obtain ⟨t0, t1, t2, t3, t4, t5, t6, t7, t8, t9, _⟩ := HS.out wr HY.out
  obtain ⟨_, _, _, _, _, _, _, _, _, _, hy0, hy1, hy2⟩ := HSE.out wr HY.out
  go_upto_region 4 with (refine box_ 8 (cs := #[.int .i64 0, .int .i64 0, .string ⟨#[]⟩]) (t := 39) (fun g8 hg_ w7 BB hb => ?_); have hg8 : V.heap.size ≤ g8 := (by rw [hg_]; exact below_size HY.out); replace HY := Aside0.mk (HY.out.trans (hb.mono HY.out.size)); replace BB := Aside0.mk BB; clear hb hg_; obtain ⟨e0, e1, e2, z0, z1, z2⟩ := bf3 BB.out)
  have P3 := put3_blk BB.out (.int .i64 x.f0) (.int .i64 x.f1) (.string x.f2)
  have PB := put3_below HY.out hg8 (.int .i64 x.f0) (.int .i64 x.f1) (.string x.f2)
  unfold put3 at P3 PB
  clear t0 t1 t2 t3 t4 t5 t6 t7 t8 t9 hy0 hy1 hy2 e0 e1 e2 z0 z1 z2 HY
  generalize ((w7.setCell ⟨g8, 0, none⟩ (.int .i64 x.f0)).setCell ⟨g8, 1, none⟩ (.int .i64 x.f1)).setCell ⟨g8, 2, none⟩ (.string x.f2) = U at P3 PB ⊢
  have HY := Aside0.mk PB
  obtain ⟨e0, e1, e2⟩ := bc3 P3
  obtain ⟨t0, t1, t2, t3, t4, t5, t6, t7, t8, t9, _⟩ := HS.out U HY.out
  clear P3 PB
  go_upto_region 5 with (go_at_call 53; refine (cV_calls x v c HC.out _).mono ?_; rintro e w9 ⟨rfl, hb⟩; replace HY := Aside0.mk (HY.out.trans (hb.mono HY.out.size)); clear hb)
  clear t0 t1 t2 t3 t4 t5 t6 t7 t8 t9 e0 e1 e2
  obtain ⟨t0, t1, t2, t3, t4, t5, t6, t7, t8, t9, _⟩ := HS.out w9 HY.out
  by_cases h1 : 0 < c
  ·have hb1 : decide (0 < c) = true := decide_eq_true h1
   have HSR : Aside0 (rd l6 ((2 * i : Nat) : Int) = r) := ⟨by have h_ := HST.out; rw [hb1, Bool.true_or, if_pos rfl] at h_; exact h_⟩
   replace HSR := HSR.out
   have hR6 : 2 * i < l6.length := by have := HRL.out; omega
   obtain ⟨m0, hm0⟩ : ∃ m : Nat, 2 * i = m := ⟨_, rfl⟩
   obtain ⟨m1, hm1⟩ : ∃ m : Nat, 2 * i = m := ⟨_, rfl⟩
   rw [hm1] at hR6 HSR
   obtain ⟨ad6, rfl, hx0⟩ := Kd.at_int HR6.out (m1 : Int) (by omega) (by omega)
   rw [Int.toNat_natCast] at hx0
   obtain ⟨y, hy⟩ : ∃ y, rd l6 (m1 : Int) = y := ⟨_, rfl⟩
   rw [hy] at hx0 HSR
   replace hx0 := up_ (HBV.out.trans (HY.out.mono (below_size HBV.out))) hx0
   have hw2a : IntKind.i64.wrap (2 * (i : Int)) = (m0 : Int) := by rw [i64_w]; unfold wrap64; omega
   have hw2c : wrap64 (2 * (i : Int)) = (m0 : Int) := by unfold wrap64; omega
   have hdB : decide ((m1 : Int) < l6.length) = true := decide_eq_true (by omega)
   obtain rfl : m1 = m0 := by omega
   clear hy hm0 hm1
   replace HSR := Aside0.mk HSR
   obtain rfl := HSR.out
   go_wp2
   go_ret
   exact ⟨rfl, HBV.out.trans (HY.out.mono (below_size HBV.out))⟩
  have hb1 : decide (0 < c) = false := decide_eq_false h1
  by_cases h2 : c = 0
  ·have hb2 : (c == 0) = true := by simp [h2]
   cases q with
   | true =>
    have HSR : Aside0 (rd l6 ((2 * i : Nat) : Int) = r) := ⟨by have h_ := HST.out; rw [hb1, hb2, Bool.false_or, Bool.true_and, if_pos rfl] at h_; exact h_⟩
    replace HSR := HSR.out
    have hR6 : 2 * i < l6.length := by have := HRL.out; omega
    obtain ⟨m0, hm0⟩ : ∃ m : Nat, 2 * i = m := ⟨_, rfl⟩
    obtain ⟨m1, hm1⟩ : ∃ m : Nat, 2 * i = m := ⟨_, rfl⟩
    rw [hm1] at hR6 HSR
    obtain ⟨ad6, rfl, hx0⟩ := Kd.at_int HR6.out (m1 : Int) (by omega) (by omega)
    rw [Int.toNat_natCast] at hx0
    obtain ⟨y, hy⟩ : ∃ y, rd l6 (m1 : Int) = y := ⟨_, rfl⟩
    rw [hy] at hx0 HSR
    replace hx0 := up_ (HBV.out.trans (HY.out.mono (below_size HBV.out))) hx0
    have hw2a : IntKind.i64.wrap (2 * (i : Int)) = (m0 : Int) := by rw [i64_w]; unfold wrap64; omega
    have hw2c : wrap64 (2 * (i : Int)) = (m0 : Int) := by unfold wrap64; omega
    have hdB : decide ((m1 : Int) < l6.length) = true := decide_eq_true (by omega)
    obtain rfl : m1 = m0 := by omega
    clear hy hm0 hm1
    replace HSR := Aside0.mk HSR
    obtain rfl := HSR.out
    go_wp2
    go_ret
    exact ⟨rfl, HBV.out.trans (HY.out.mono (below_size HBV.out))⟩
   | false =>
    have HSR : Aside0 (upS cV l5 l6 v false n k2 (i + 1) = r) := ⟨by have h_ := HST.out; rw [hb1, hb2, Bool.false_or, Bool.true_and, if_neg (by decide)] at h_; exact h_⟩
    have hwi : IntKind.i64.wrap ((i : Int) + 1) = ((i + 1 : Nat) : Int) := by rw [i64_w]; unfold wrap64; omega
    go_wp2
    go_roundg k2
    case measure => omega
    case rel => exact ⟨i + 1, int_eq (by omega), by omega, ⟨by have := HK2.out; omega⟩, HSR, HY⟩
  have hb2 : (c == 0) = false := by simp [h2]
  have HSR : Aside0 (upS cV l5 l6 v q n k2 (i + 1) = r) := ⟨by have h_ := HST.out; rw [hb1, hb2, Bool.false_or, Bool.false_and, if_neg (by decide)] at h_; exact h_⟩
  have hwi : IntKind.i64.wrap ((i : Int) + 1) = ((i + 1 : Nat) : Int) := by rw [i64_w]; unfold wrap64; omega
  go_wp2
  go_roundg k2
  case measure => omega
  case rel => exact ⟨i + 1, int_eq (by omega), by omega, ⟨by have := HK2.out; omega⟩, HSR, HY⟩
theorem sketch_upper.calls (k : Nat) (a0_0 : Int) (a0_1 : Int) (A0_2 : Option Addr) (c0_2 : Nat) (l0_2 : List Int) (a0_3 : Bool) (A0_4 : Option Addr) (c0_4 : Nat) (l0_4 : List Int) (A0_5 : Option Addr) (c0_5 : Nat) (l0_5 : List (S39)) (A0_6 : Option Addr) (c0_6 : Nat) (l0_6 : List Int) (a1_0 : Int) (a1_1 : Int) (a1_2 : ByteArray) (a2 : Bool) (r : Int) (w : World) (hr0_2 : Kd.C (Kd.int .u64) w A0_2 l0_2.length l0_2) (hc0_2 : l0_2.length ≤ c0_2) (hr0_4 : Kd.C (Kd.int .i64) w A0_4 l0_4.length l0_4) (hc0_4 : l0_4.length ≤ c0_4) (hr0_5 : Kd.C k39 w A0_5 l0_5.length l0_5) (hc0_5 : l0_5.length ≤ c0_5) (hr0_6 : Kd.C (Kd.int .i64) w A0_6 l0_6.length l0_6) (hc0_6 : l0_6.length ≤ c0_6) (h : sketch_upper.f k a0_0 a0_1 l0_2 a0_3 l0_4 l0_5 l0_6 a1_0 a1_1 a1_2 a2 = some r) :
  Calls Try.prog 70 #[.agg #[.int .i64 a0_0, .int .i64 a0_1, .slice A0_2 l0_2.length c0_2, .bool a0_3, .slice A0_4 l0_4.length c0_4, .slice A0_5 l0_5.length c0_5, .slice A0_6 l0_6.length c0_6], .agg #[.int .i64 a1_0, .int .i64 a1_1, .string a1_2], .bool a2] w fun e w' => e = .returned (.int .i64 r) ∧ Below w.heap.size w w' :=
 sketch_upper.calls0 k a0_0 a0_1 A0_2 c0_2 l0_2 a0_3 A0_4 c0_4 l0_4 A0_5 c0_5 l0_5 A0_6 c0_6 l0_6 ⟨a1_0, a1_1, a1_2⟩ a2 r w hr0_2 hc0_2 hr0_4 hc0_4 hr0_5 hc0_5 hr0_6 hc0_6 h
def f71_T4 : Bool × List (List Nat × List Nat) := (true, [([], []), ([0], [0]), ([], []), ([1, 2], [1, 2]), ([3], [3]), ([], []), ([4, 5], [4, 5]), ([6, 6, 0, 1, 2, 3, 4, 5, 6], [6])])
def f71_B4 : List Nat := [0, 1, 0, 7, 15, 0, 63, 127]
set_option maxRecDepth 100000 in
theorem f71_tab4 : rtab .any (opsOf Try.f71 4) = f71_T4 := by kernel_rfl
theorem f71_bits4 : waitsOk f71_T4.2 f71_B4 = true := by kernel_rfl
set_option maxHeartbeats 8000000 in
set_option maxRecDepth 100000 in
theorem sketch_lower.calls0 (k : Nat) (a0 a1 : Int) (A2 : Option Addr) (c2 : Nat) (l2 : List Int) (b3 : Bool) (A4 : Option Addr) (c4 : Nat) (l4 : List Int) (A5 : Option Addr) (c5 : Nat) (l5 : List S39) (A6 : Option Addr) (c6 : Nat) (l6 : List Int) (v : S39) (q : Bool) (r : Int) (w : World) (hr2 : Kd.C (Kd.int .u64) w A2 l2.length l2) (hc2 : l2.length ≤ c2) (hr4 : Kd.C (Kd.int .i64) w A4 l4.length l4) (hc4 : l4.length ≤ c4) (hr5 : Kd.C k39 w A5 l5.length l5) (hc5 : l5.length ≤ c5) (hr6 : Kd.C (Kd.int .i64) w A6 l6.length l6) (hc6 : l6.length ≤ c6) (h : sketch_lower.f k a0 a1 l2 b3 l4 l5 l6 v.f0 v.f1 v.f2 q = some r) :
  Calls Try.prog 71 #[.agg #[.int .i64 a0, .int .i64 a1, .slice A2 l2.length c2, .bool b3, .slice A4 l4.length c4, .slice A5 l5.length c5, .slice A6 l6.length c6], .agg #[.int .i64 v.f0, .int .i64 v.f1, .string v.f2], .bool q] w fun e w' => e = .returned (.int .i64 r) ∧ Below w.heap.size w w' := by
 obtain ⟨hR, hF, hz⟩ := rk_of h
 have HRL := Aside0.mk hR
 clear h hR
 have HZ : Aside0 (loS cV l5 l6 v q l5.length = r) := ⟨hz⟩
 clear hz
 have HKw : SK w A2 c2 l2 A4 c4 l4 A5 c5 l5 A6 c6 l6 := ⟨hr2, hc2, hr4, hc4, hr5, hc5, hr6, hc6⟩
 have HR5 := Aside0.mk hr5
 have HR6 := Aside0.mk hr6
 replace HKw := Aside0.mk HKw
 clear hr2 hr4 hr5 hr6
 go_enter Try.func71, Try.ntmps71
 go_upto_region 1 with (first | (refine box_ 3 (cs := #[.int .i64 a0, .int .i64 a1, .slice A2 l2.length c2, .bool b3, .slice A4 l4.length c4, .slice A5 l5.length c5, .slice A6 l6.length c6]) (t := 26) (fun g2 hg_ w1 BK2 HB => ?_); clear hg_; replace BK2 := Aside0.mk BK2; replace HB := Aside0.mk HB) | (refine box_ 4 (cs := #[.int .i64 v.f0, .int .i64 v.f1, .string v.f2]) (t := 39) (fun g3 hg_ V BK3 hb => ?_); clear hg_; replace BK2 := Aside0.mk (blk_below BK2.out hb); replace BK3 := Aside0.mk BK3; replace HB := Aside0.mk (HB.out.trans (hb.mono (below_size HB.out))); clear hb))
 have HS : Aside0 (∀ W, Below V.heap.size V W → sk7 g2 a0 a1 A2 c2 l2 b3 A4 c4 l4 A5 c5 l5 A6 c6 l6 W (v3 g3 v W (True))) := ⟨fun W hb => sk7_of (blk_below BK2.out hb) (v3_of (blk_below BK3.out hb) trivial)⟩
 have HK : Aside0 (∀ W, Below V.heap.size V W → SK W A2 c2 l2 A4 c4 l4 A5 c5 l5 A6 c6 l6) := ⟨fun W hb => HKw.out.below (HB.out.trans (hb.mono (below_size HB.out)))⟩
 have HBV := HB
 clear BK2 BK3 HKw HB
 have HY := Aside0.mk (Below.refl V.heap.size V)
 obtain ⟨t0, t1, t2, t3, t4, t5, t6, t7, t8, t9, _⟩ := HS.out V HY.out
 have hw0 : IntKind.i64.wrap ((l5.length : Int) - 1) = (l5.length : Int) - 1 := by rw [i64_w]; unfold wrap64; omega
 go_wp2
 go_loopg [7] l5.length (fun kq v7 w' => v7 = .int .i64 ((kq : Int) - 1) ∧ kq ≤ l5.length ∧ Aside0 (loS cV l5 l6 v q kq = r) ∧ Aside0 (Below V.heap.size V w'))
 case atStart => exact ⟨rfl, Nat.le_refl _, HZ, HY⟩
 case round =>
  clear HZ HY t0 t1 t2 t3 t4 t5 t6 t7 t8 t9
  obtain ⟨rfl, hi, HZ, HY⟩ := hrel
  cases gk with
  | zero =>
   have hid : decide (((0 : Nat) : Int) - 1 ≥ 0) = false := decide_eq_false (by omega)
   obtain rfl := HZ.out
   go_wp2
   go_ret
   exact ⟨rfl, HBV.out.trans (HY.out.mono (below_size HBV.out))⟩
  | succ i =>
   have hil : i < l5.length := by omega
   rw [show ((i + 1 : Nat) : Int) - 1 = (i : Int) from by omega]
   have hst : (if decide (cV (fe l5 i) v < 0) || (cV (fe l5 i) v == 0 && q) then rd l6 ((2 * i + 1 : Nat) : Int) else loS cV l5 l6 v q i) = r := HZ.out
   clear HZ
   obtain ⟨ad, rfl, hy0, hy1, hy2⟩ := at_T39 HR5.out (i : Int) (by omega) (by omega)
   rw [Int.toNat_natCast] at hy0 hy1 hy2
   obtain ⟨x, hxx⟩ : ∃ x, fe l5 i = x := ⟨_, rfl⟩
   rw [show rd_T39 l5 (i : Int) = x from hxx] at hy0 hy1 hy2
   obtain ⟨c, hc⟩ : ∃ c, cV x v = c := ⟨_, rfl⟩
   have HC := Aside0.mk hc
   rw [hxx, hc] at hst
   have HST := Aside0.mk hst
   have HSE : Aside0 (∀ W, Below V.heap.size V W → sk7 g2 a0 a1 A2 c2 l2 b3 A4 c4 l4 (some ad) c5 l5 A6 c6 l6 W (v3 g3 v W (W.cell? (ad.add (i * 3)) = some (.int .i64 x.f0) ∧ W.cell? ⟨(ad.add (i * 3)).block, (ad.add (i * 3)).off + 1, none⟩ = some (.int .i64 x.f1) ∧ W.cell? ⟨(ad.add (i * 3)).block, (ad.add (i * 3)).off + 2, none⟩ = some (.string x.f2)))) := ⟨fun W hb => by
    obtain ⟨t0, t1, t2, t3, t4, t5, t6, t7, t8, t9, _⟩ := HS.out W hb
    have hbw := HBV.out.trans (hb.mono (below_size HBV.out))
    exact ⟨t0, t1, t2, t3, t4, t5, t6, t7, t8, t9, up_ hbw hy0, up_ hbw hy1, up_ hbw hy2⟩⟩
   have hid : decide ((i : Int) < l5.length) = true := decide_eq_true (by omega)
   have hid2 : decide ((l5.length : Int) ≤ i) = false := decide_eq_false (by omega)
   have hi0 : decide (0 ≤ (i : Int)) = true := decide_eq_true (by omega)
   clear hxx hc hst
   obtain ⟨t0, t1, t2, t3, t4, t5, t6, t7, t8, t9, _⟩ := HS.out wr HY.out
   go_upto_region 4 with (fail)
   clear t0 t1 t2 t3 t4 t5 t6 t7 t8 t9
   replace HY := Aside0.mk (below_drew1 HY.out)
   refine start_ (n := 8) (S := fun W => sk7 g2 a0 a1 A2 c2 l2 b3 A4 c4 l4 (some ad) c5 l5 A6 c6 l6 W (v3 g3 v W (W.cell? (ad.add (i * 3)) = some (.int .i64 x.f0) ∧ W.cell? ⟨(ad.add (i * 3)).block, (ad.add (i * 3)).off + 1, none⟩ = some (.int .i64 x.f1) ∧ W.cell? ⟨(ad.add (i * 3)).block, (ad.add (i * 3)).off + 2, none⟩ = some (.string x.f2)))) (ds := []) #[false, false, false, false, false, false, false, false] (by kernel_rfl) rfl rfl (HSE.out _ HY.out) (fun hHeld => ?_)
   refine with_tabW f71_tab4 f71_bits4 (fun HT_ HW_ => ?_)
   generalize wr.drew = wd at HY hHeld ⊢
   refine pu_ HT_ 0 (some 17) ?_
   refine tk_ HT_ HW_ 1 (some 18) hHeld ?_
   refine pu_ HT_ 2 (some 19) ?_
   refine tk_ HT_ HW_ 3 (some 20) hHeld ?_
   refine tk_ HT_ HW_ 4 (some 21) hHeld ?_
   refine tk_ HT_ HW_ 5 (some 22) hHeld ?_
   refine cl_ HT_ 6 (some 23) Try.func53 (cV_calls x v c HC.out _) HY HSE (fun w9 HY hHeld => ?_)
   refine pu_ HT_ 7 (some 8) ?_
   refine done_ (done_of HT_.out (by kernel_rfl)) ?_
   clear HT_ HW_ hHeld
   obtain ⟨t0, t1, t2, t3, t4, t5, t6, t7, t8, t9, _⟩ := HS.out w9 HY.out
   by_cases h1 : c < 0
   ·have hb1 : decide (c < 0) = true := decide_eq_true h1
    have HSR : Aside0 (rd l6 ((2 * i + 1 : Nat) : Int) = r) := ⟨by have h_ := HST.out; rw [hb1, Bool.true_or, if_pos rfl] at h_; exact h_⟩
    replace HSR := HSR.out
    have hR6 : 2 * i + 1 < l6.length := by have := HRL.out; omega
    obtain ⟨m0, hm0⟩ : ∃ m : Nat, 2 * i = m := ⟨_, rfl⟩
    obtain ⟨m1, hm1⟩ : ∃ m : Nat, 2 * i + 1 = m := ⟨_, rfl⟩
    rw [hm1] at hR6 HSR
    obtain ⟨ad6, rfl, hx0⟩ := Kd.at_int HR6.out (m1 : Int) (by omega) (by omega)
    rw [Int.toNat_natCast] at hx0
    obtain ⟨y, hy⟩ : ∃ y, rd l6 (m1 : Int) = y := ⟨_, rfl⟩
    rw [hy] at hx0 HSR
    replace hx0 := up_ (HBV.out.trans (HY.out.mono (below_size HBV.out))) hx0
    have hw2a : IntKind.i64.wrap (2 * (i : Int)) = (m0 : Int) := by rw [i64_w]; unfold wrap64; omega
    have hw2c : wrap64 (2 * (i : Int)) = (m0 : Int) := by unfold wrap64; omega
    have hw2b : IntKind.i64.wrap ((m0 : Int) + 1) = (m1 : Int) := by rw [i64_w]; unfold wrap64; omega
    have hdB : decide ((m1 : Int) < l6.length) = true := decide_eq_true (by omega)
    have hw2d : wrap64 ((m0 : Int) + 1) = (m1 : Int) := by unfold wrap64; omega
    clear hy hm0 hm1
    replace HSR := Aside0.mk HSR
    obtain rfl := HSR.out
    go_wp2
    go_ret
    exact ⟨rfl, HBV.out.trans (HY.out.mono (below_size HBV.out))⟩
   have hb1 : decide (c < 0) = false := decide_eq_false h1
   by_cases h2 : c = 0
   ·have hb2 : (c == 0) = true := by simp [h2]
    cases q with
    | true =>
     have HSR : Aside0 (rd l6 ((2 * i + 1 : Nat) : Int) = r) := ⟨by have h_ := HST.out; rw [hb1, hb2, Bool.false_or, Bool.true_and, if_pos rfl] at h_; exact h_⟩
     replace HSR := HSR.out
     have hR6 : 2 * i + 1 < l6.length := by have := HRL.out; omega
     obtain ⟨m0, hm0⟩ : ∃ m : Nat, 2 * i = m := ⟨_, rfl⟩
     obtain ⟨m1, hm1⟩ : ∃ m : Nat, 2 * i + 1 = m := ⟨_, rfl⟩
     rw [hm1] at hR6 HSR
     obtain ⟨ad6, rfl, hx0⟩ := Kd.at_int HR6.out (m1 : Int) (by omega) (by omega)
     rw [Int.toNat_natCast] at hx0
     obtain ⟨y, hy⟩ : ∃ y, rd l6 (m1 : Int) = y := ⟨_, rfl⟩
     rw [hy] at hx0 HSR
     replace hx0 := up_ (HBV.out.trans (HY.out.mono (below_size HBV.out))) hx0
     have hw2a : IntKind.i64.wrap (2 * (i : Int)) = (m0 : Int) := by rw [i64_w]; unfold wrap64; omega
     have hw2c : wrap64 (2 * (i : Int)) = (m0 : Int) := by unfold wrap64; omega
     have hw2b : IntKind.i64.wrap ((m0 : Int) + 1) = (m1 : Int) := by rw [i64_w]; unfold wrap64; omega
     have hdB : decide ((m1 : Int) < l6.length) = true := decide_eq_true (by omega)
     have hw2d : wrap64 ((m0 : Int) + 1) = (m1 : Int) := by unfold wrap64; omega
     clear hy hm0 hm1
     replace HSR := Aside0.mk HSR
     obtain rfl := HSR.out
     go_wp2
     go_ret
     exact ⟨rfl, HBV.out.trans (HY.out.mono (below_size HBV.out))⟩
    | false =>
     have HSR : Aside0 (loS cV l5 l6 v false i = r) := ⟨by have h_ := HST.out; rw [hb1, hb2, Bool.false_or, Bool.true_and, if_neg (by decide)] at h_; exact h_⟩
     have hwi : IntKind.i64.wrap ((i : Int) - 1) = (i : Int) - 1 := by rw [i64_w]; unfold wrap64; omega
     go_wp2
     go_roundg i
     case measure => omega
     case rel => exact ⟨rfl, by omega, HSR, HY⟩
   have hb2 : (c == 0) = false := by simp [h2]
   have HSR : Aside0 (loS cV l5 l6 v q i = r) := ⟨by have h_ := HST.out; rw [hb1, hb2, Bool.false_or, Bool.false_and, if_neg (by decide)] at h_; exact h_⟩
   have hwi : IntKind.i64.wrap ((i : Int) - 1) = (i : Int) - 1 := by rw [i64_w]; unfold wrap64; omega
   go_wp2
   go_roundg i
   case measure => omega
   case rel => exact ⟨rfl, by omega, HSR, HY⟩
theorem sketch_lower.calls (k : Nat) (a0_0 : Int) (a0_1 : Int) (A0_2 : Option Addr) (c0_2 : Nat) (l0_2 : List Int) (a0_3 : Bool) (A0_4 : Option Addr) (c0_4 : Nat) (l0_4 : List Int) (A0_5 : Option Addr) (c0_5 : Nat) (l0_5 : List (S39)) (A0_6 : Option Addr) (c0_6 : Nat) (l0_6 : List Int) (a1_0 : Int) (a1_1 : Int) (a1_2 : ByteArray) (a2 : Bool) (r : Int) (w : World) (hr0_2 : Kd.C (Kd.int .u64) w A0_2 l0_2.length l0_2) (hc0_2 : l0_2.length ≤ c0_2) (hr0_4 : Kd.C (Kd.int .i64) w A0_4 l0_4.length l0_4) (hc0_4 : l0_4.length ≤ c0_4) (hr0_5 : Kd.C k39 w A0_5 l0_5.length l0_5) (hc0_5 : l0_5.length ≤ c0_5) (hr0_6 : Kd.C (Kd.int .i64) w A0_6 l0_6.length l0_6) (hc0_6 : l0_6.length ≤ c0_6) (h : sketch_lower.f k a0_0 a0_1 l0_2 a0_3 l0_4 l0_5 l0_6 a1_0 a1_1 a1_2 a2 = some r) :
  Calls Try.prog 71 #[.agg #[.int .i64 a0_0, .int .i64 a0_1, .slice A0_2 l0_2.length c0_2, .bool a0_3, .slice A0_4 l0_4.length c0_4, .slice A0_5 l0_5.length c0_5, .slice A0_6 l0_6.length c0_6], .agg #[.int .i64 a1_0, .int .i64 a1_1, .string a1_2], .bool a2] w fun e w' => e = .returned (.int .i64 r) ∧ Below w.heap.size w w' :=
 sketch_lower.calls0 k a0_0 a0_1 A0_2 c0_2 l0_2 a0_3 A0_4 c0_4 l0_4 A0_5 c0_5 l0_5 A0_6 c0_6 l0_6 ⟨a1_0, a1_1, a1_2⟩ a2 r w hr0_2 hc0_2 hr0_4 hc0_4 hr0_5 hc0_5 hr0_6 hc0_6 h
def f77_T4 : Bool × List (List Nat × List Nat) := (true, [([], []), ([0], [0]), ([], []), ([1, 2], [1, 2]), ([3], [3]), ([], []), ([4, 5], [4, 5]), ([6, 6, 0, 1, 2, 3, 4, 5, 6], [6])])
def f77_B4 : List Nat := [0, 1, 0, 7, 15, 0, 63, 127]
set_option maxRecDepth 100000 in
theorem f77_tab4 : rtab .any (opsOf Try.f77 4) = f77_T4 := by kernel_rfl
theorem f77_bits4 : waitsOk f77_T4.2 f77_B4 = true := by kernel_rfl
set_option maxHeartbeats 8000000 in
set_option maxRecDepth 100000 in
theorem laminaref16_LessMax.calls0 (k : Nat) (a0 a1 : Int) (A2 : Option Addr) (c2 : Nat) (l2 : List Int) (b3 : Bool) (A4 : Option Addr) (c4 : Nat) (l4 : List Int) (A5 : Option Addr) (c5 : Nat) (l5 : List S39) (A6 : Option Addr) (c6 : Nat) (l6 : List Int) (v : S39) (q : Bool) (r : Int) (w : World) (hr2 : Kd.C (Kd.int .u64) w A2 l2.length l2) (hc2 : l2.length ≤ c2) (hr4 : Kd.C (Kd.int .i64) w A4 l4.length l4) (hc4 : l4.length ≤ c4) (hr5 : Kd.C k39 w A5 l5.length l5) (hc5 : l5.length ≤ c5) (hr6 : Kd.C (Kd.int .i64) w A6 l6.length l6) (hc6 : l6.length ≤ c6) (h : laminaref16_LessMax.f k a0 a1 l2 b3 l4 l5 l6 v.f0 v.f1 v.f2 q = some r) :
  Calls Try.prog 77 #[.agg #[.int .i64 a0, .int .i64 a1, .slice A2 l2.length c2, .bool b3, .slice A4 l4.length c4, .slice A5 l5.length c5, .slice A6 l6.length c6], .agg #[.int .i64 v.f0, .int .i64 v.f1, .string v.f2], .bool q] w fun e w' => e = .returned (.int .i64 r) ∧ Below w.heap.size w w' := by
 obtain ⟨hR, hF, hz⟩ := rk_of h
 have HRL := Aside0.mk hR
 clear h hR
 obtain ⟨n, hn⟩ : ∃ n, wrap64 (a0 - a1) = n := ⟨_, rfl⟩
 have HN : Aside0 (laminaref16_values.f a0 a1 l2 b3 l4 l5 l6 = some n) := ⟨by unfold laminaref16_values.f; rw [hn]⟩
 rw [hn] at hz
 have HZ : Aside0 (upS rcV l5 l6 v (!q) n l5.length 0 = r) := ⟨hz⟩
 clear hz hn
 have HKw : SK w A2 c2 l2 A4 c4 l4 A5 c5 l5 A6 c6 l6 := ⟨hr2, hc2, hr4, hc4, hr5, hc5, hr6, hc6⟩
 have HR5 := Aside0.mk hr5
 have HR6 := Aside0.mk hr6
 replace HKw := Aside0.mk HKw
 clear hr2 hr4 hr5 hr6
 go_enter Try.func77, Try.ntmps77
 go_upto_region 1 with (first | (refine box_ 3 (cs := #[.int .i64 a0, .int .i64 a1, .slice A2 l2.length c2, .bool b3, .slice A4 l4.length c4, .slice A5 l5.length c5, .slice A6 l6.length c6]) (t := 26) (fun g2 hg_ w1 BK2 HB => ?_); clear hg_; replace BK2 := Aside0.mk BK2; replace HB := Aside0.mk HB) | (refine box_ 4 (cs := #[.int .i64 v.f0, .int .i64 v.f1, .string v.f2]) (t := 39) (fun g3 hg_ V BK3 hb => ?_); clear hg_; replace BK2 := Aside0.mk (blk_below BK2.out hb); replace BK3 := Aside0.mk BK3; replace HB := Aside0.mk (HB.out.trans (hb.mono (below_size HB.out))); clear hb))
 have HS : Aside0 (∀ W, Below V.heap.size V W → sk7 g2 a0 a1 A2 c2 l2 b3 A4 c4 l4 A5 c5 l5 A6 c6 l6 W (v3 g3 v W (True))) := ⟨fun W hb => sk7_of (blk_below BK2.out hb) (v3_of (blk_below BK3.out hb) trivial)⟩
 have HK : Aside0 (∀ W, Below V.heap.size V W → SK W A2 c2 l2 A4 c4 l4 A5 c5 l5 A6 c6 l6) := ⟨fun W hb => HKw.out.below (HB.out.trans (hb.mono (below_size HB.out)))⟩
 have HBV := HB
 clear BK2 BK3 HKw HB
 have HY := Aside0.mk (Below.refl V.heap.size V)
 obtain ⟨t0, t1, t2, t3, t4, t5, t6, t7, t8, t9, _⟩ := HS.out V HY.out
 go_wp2
 go_loopg [7] l5.length (fun kq v7 w' => ∃ i : Nat, v7 = .int .i64 i ∧ i ≤ l5.length ∧ Aside0 (kq + i = l5.length) ∧ Aside0 (upS rcV l5 l6 v (!q) n kq i = r) ∧ Aside0 (Below V.heap.size V w'))
 case atStart => exact ⟨0, rfl, Nat.zero_le _, ⟨rfl⟩, HZ, HY⟩
 case round =>
  clear HZ HY t0 t1 t2 t3 t4 t5 t6 t7 t8 t9
  obtain ⟨i, rfl, hi, HK2, HZ, HY⟩ := hrel
  by_cases hr : i < l5.length
  rotate_left
  ·obtain rfl : i = l5.length := by omega
   have hk0 : gk = 0 := by have := HK2.out; omega
   subst hk0
   have hid : decide ((l5.length : Int) < l5.length) = false := decide_eq_false (by omega)
   obtain rfl : n = r := HZ.out
   obtain ⟨t0, t1, t2, t3, t4, t5, t6, t7, t8, t9, _⟩ := HS.out wr HY.out
   go_wp2_with (go_at_call 80; refine (un8 (laminaref16_values.calls a0 a1 _ _ _ _ _ _ _ _ _ _ _ _ _ n _) (HK.out _ HY.out) HN.out).mono ?_; rintro e w9 ⟨rfl, hb⟩; replace HY := Aside0.mk (HY.out.trans (hb.mono HY.out.size)); clear hb)
   go_ret
   exact ⟨rfl, HBV.out.trans (HY.out.mono (below_size HBV.out))⟩
  obtain ⟨k2, rfl⟩ : ∃ k2, gk = k2 + 1 := ⟨gk - 1, by have := HK2.out; omega⟩
  have hst : (if decide (0 < rcV (fe l5 i) v) || (rcV (fe l5 i) v == 0 && (!q)) then rd l6 ((2 * i : Nat) : Int) else upS rcV l5 l6 v (!q) n k2 (i + 1)) = r := HZ.out
  clear HZ
  obtain ⟨ad, rfl, hy0, hy1, hy2⟩ := at_T39 HR5.out (i : Int) (by omega) (by omega)
  rw [Int.toNat_natCast] at hy0 hy1 hy2
  obtain ⟨x, hxx⟩ : ∃ x, fe l5 i = x := ⟨_, rfl⟩
  rw [show rd_T39 l5 (i : Int) = x from hxx] at hy0 hy1 hy2
  obtain ⟨c, hc⟩ : ∃ c, rcV x v = c := ⟨_, rfl⟩
  have HC := Aside0.mk hc
  rw [hxx, hc] at hst
  have HST := Aside0.mk hst
  have HSE : Aside0 (∀ W, Below V.heap.size V W → sk7 g2 a0 a1 A2 c2 l2 b3 A4 c4 l4 (some ad) c5 l5 A6 c6 l6 W (v3 g3 v W (W.cell? (ad.add (i * 3)) = some (.int .i64 x.f0) ∧ W.cell? ⟨(ad.add (i * 3)).block, (ad.add (i * 3)).off + 1, none⟩ = some (.int .i64 x.f1) ∧ W.cell? ⟨(ad.add (i * 3)).block, (ad.add (i * 3)).off + 2, none⟩ = some (.string x.f2)))) := ⟨fun W hb => by
   obtain ⟨t0, t1, t2, t3, t4, t5, t6, t7, t8, t9, _⟩ := HS.out W hb
   have hbw := HBV.out.trans (hb.mono (below_size HBV.out))
   exact ⟨t0, t1, t2, t3, t4, t5, t6, t7, t8, t9, up_ hbw hy0, up_ hbw hy1, up_ hbw hy2⟩⟩
  have hid : decide ((i : Int) < l5.length) = true := decide_eq_true (by omega)
  have hid2 : decide ((l5.length : Int) ≤ i) = false := decide_eq_false (by omega)
  have hi0 : decide (0 ≤ (i : Int)) = true := decide_eq_true (by omega)
  clear hxx hc hst
  obtain ⟨t0, t1, t2, t3, t4, t5, t6, t7, t8, t9, _⟩ := HS.out wr HY.out
  go_upto_region 4 with (fail)
  clear t0 t1 t2 t3 t4 t5 t6 t7 t8 t9
  replace HY := Aside0.mk (below_drew1 HY.out)
  refine start_ (n := 8) (S := fun W => sk7 g2 a0 a1 A2 c2 l2 b3 A4 c4 l4 (some ad) c5 l5 A6 c6 l6 W (v3 g3 v W (W.cell? (ad.add (i * 3)) = some (.int .i64 x.f0) ∧ W.cell? ⟨(ad.add (i * 3)).block, (ad.add (i * 3)).off + 1, none⟩ = some (.int .i64 x.f1) ∧ W.cell? ⟨(ad.add (i * 3)).block, (ad.add (i * 3)).off + 2, none⟩ = some (.string x.f2)))) (ds := []) #[false, false, false, false, false, false, false, false] (by kernel_rfl) rfl rfl (HSE.out _ HY.out) (fun hHeld => ?_)
  refine with_tabW f77_tab4 f77_bits4 (fun HT_ HW_ => ?_)
  generalize wr.drew = wd at HY hHeld ⊢
  refine pu_ HT_ 0 (some 16) ?_
  refine tk_ HT_ HW_ 1 (some 17) hHeld ?_
  refine pu_ HT_ 2 (some 18) ?_
  refine tk_ HT_ HW_ 3 (some 19) hHeld ?_
  refine tk_ HT_ HW_ 4 (some 20) hHeld ?_
  refine tk_ HT_ HW_ 5 (some 21) hHeld ?_
  refine cl_ HT_ 6 (some 22) Try.func32 (rcV_calls x v c HC.out _) HY HSE (fun w9 HY hHeld => ?_)
  refine pu_ HT_ 7 (some 8) ?_
  refine done_ (done_of HT_.out (by kernel_rfl)) ?_
  clear HT_ HW_ hHeld
  obtain ⟨t0, t1, t2, t3, t4, t5, t6, t7, t8, t9, _⟩ := HS.out w9 HY.out
  by_cases h1 : 0 < c
  ·have hb1 : decide (0 < c) = true := decide_eq_true h1
   have HSR : Aside0 (rd l6 ((2 * i : Nat) : Int) = r) := ⟨by have h_ := HST.out; rw [hb1, Bool.true_or, if_pos rfl] at h_; exact h_⟩
   replace HSR := HSR.out
   have hR6 : 2 * i < l6.length := by have := HRL.out; omega
   obtain ⟨m0, hm0⟩ : ∃ m : Nat, 2 * i = m := ⟨_, rfl⟩
   obtain ⟨m1, hm1⟩ : ∃ m : Nat, 2 * i = m := ⟨_, rfl⟩
   rw [hm1] at hR6 HSR
   obtain ⟨ad6, rfl, hx0⟩ := Kd.at_int HR6.out (m1 : Int) (by omega) (by omega)
   rw [Int.toNat_natCast] at hx0
   obtain ⟨y, hy⟩ : ∃ y, rd l6 (m1 : Int) = y := ⟨_, rfl⟩
   rw [hy] at hx0 HSR
   replace hx0 := up_ (HBV.out.trans (HY.out.mono (below_size HBV.out))) hx0
   have hw2a : IntKind.i64.wrap (2 * (i : Int)) = (m0 : Int) := by rw [i64_w]; unfold wrap64; omega
   have hw2c : wrap64 (2 * (i : Int)) = (m0 : Int) := by unfold wrap64; omega
   have hdB : decide ((m1 : Int) < l6.length) = true := decide_eq_true (by omega)
   obtain rfl : m1 = m0 := by omega
   clear hy hm0 hm1
   replace HSR := Aside0.mk HSR
   obtain rfl := HSR.out
   go_wp2
   go_ret
   exact ⟨rfl, HBV.out.trans (HY.out.mono (below_size HBV.out))⟩
  have hb1 : decide (0 < c) = false := decide_eq_false h1
  by_cases h2 : c = 0
  ·have hb2 : (c == 0) = true := by simp [h2]
   cases q with
   | true =>
    have HSR : Aside0 (upS rcV l5 l6 v (!true) n k2 (i + 1) = r) := ⟨by have h_ := HST.out; rw [hb1, hb2, Bool.false_or, Bool.true_and, if_neg (by decide)] at h_; exact h_⟩
    have hwi : IntKind.i64.wrap ((i : Int) + 1) = ((i + 1 : Nat) : Int) := by rw [i64_w]; unfold wrap64; omega
    go_wp2
    go_roundg k2
    case measure => omega
    case rel => exact ⟨i + 1, int_eq (by omega), by omega, ⟨by have := HK2.out; omega⟩, HSR, HY⟩
   | false =>
    have HSR : Aside0 (rd l6 ((2 * i : Nat) : Int) = r) := ⟨by have h_ := HST.out; rw [hb1, hb2, Bool.false_or, Bool.true_and, if_pos (show (!false) = true from rfl)] at h_; exact h_⟩
    replace HSR := HSR.out
    have hR6 : 2 * i < l6.length := by have := HRL.out; omega
    obtain ⟨m0, hm0⟩ : ∃ m : Nat, 2 * i = m := ⟨_, rfl⟩
    obtain ⟨m1, hm1⟩ : ∃ m : Nat, 2 * i = m := ⟨_, rfl⟩
    rw [hm1] at hR6 HSR
    obtain ⟨ad6, rfl, hx0⟩ := Kd.at_int HR6.out (m1 : Int) (by omega) (by omega)
    rw [Int.toNat_natCast] at hx0
    obtain ⟨y, hy⟩ : ∃ y, rd l6 (m1 : Int) = y := ⟨_, rfl⟩
    rw [hy] at hx0 HSR
    replace hx0 := up_ (HBV.out.trans (HY.out.mono (below_size HBV.out))) hx0
    have hw2a : IntKind.i64.wrap (2 * (i : Int)) = (m0 : Int) := by rw [i64_w]; unfold wrap64; omega
    have hw2c : wrap64 (2 * (i : Int)) = (m0 : Int) := by unfold wrap64; omega
    have hdB : decide ((m1 : Int) < l6.length) = true := decide_eq_true (by omega)
    obtain rfl : m1 = m0 := by omega
    clear hy hm0 hm1
    replace HSR := Aside0.mk HSR
    obtain rfl := HSR.out
    go_wp2
    go_ret
    exact ⟨rfl, HBV.out.trans (HY.out.mono (below_size HBV.out))⟩
  have hb2 : (c == 0) = false := by simp [h2]
  have HSR : Aside0 (upS rcV l5 l6 v (!q) n k2 (i + 1) = r) := ⟨by have h_ := HST.out; rw [hb1, hb2, Bool.false_or, Bool.false_and, if_neg (by decide)] at h_; exact h_⟩
  have hwi : IntKind.i64.wrap ((i : Int) + 1) = ((i + 1 : Nat) : Int) := by rw [i64_w]; unfold wrap64; omega
  go_wp2
  go_roundg k2
  case measure => omega
  case rel => exact ⟨i + 1, int_eq (by omega), by omega, ⟨by have := HK2.out; omega⟩, HSR, HY⟩
theorem laminaref16_LessMax.calls (k : Nat) (a0_0 : Int) (a0_1 : Int) (A0_2 : Option Addr) (c0_2 : Nat) (l0_2 : List Int) (a0_3 : Bool) (A0_4 : Option Addr) (c0_4 : Nat) (l0_4 : List Int) (A0_5 : Option Addr) (c0_5 : Nat) (l0_5 : List (S39)) (A0_6 : Option Addr) (c0_6 : Nat) (l0_6 : List Int) (a1_0 : Int) (a1_1 : Int) (a1_2 : ByteArray) (a2 : Bool) (r : Int) (w : World) (hr0_2 : Kd.C (Kd.int .u64) w A0_2 l0_2.length l0_2) (hc0_2 : l0_2.length ≤ c0_2) (hr0_4 : Kd.C (Kd.int .i64) w A0_4 l0_4.length l0_4) (hc0_4 : l0_4.length ≤ c0_4) (hr0_5 : Kd.C k39 w A0_5 l0_5.length l0_5) (hc0_5 : l0_5.length ≤ c0_5) (hr0_6 : Kd.C (Kd.int .i64) w A0_6 l0_6.length l0_6) (hc0_6 : l0_6.length ≤ c0_6) (h : laminaref16_LessMax.f k a0_0 a0_1 l0_2 a0_3 l0_4 l0_5 l0_6 a1_0 a1_1 a1_2 a2 = some r) :
  Calls Try.prog 77 #[.agg #[.int .i64 a0_0, .int .i64 a0_1, .slice A0_2 l0_2.length c0_2, .bool a0_3, .slice A0_4 l0_4.length c0_4, .slice A0_5 l0_5.length c0_5, .slice A0_6 l0_6.length c0_6], .agg #[.int .i64 a1_0, .int .i64 a1_1, .string a1_2], .bool a2] w fun e w' => e = .returned (.int .i64 r) ∧ Below w.heap.size w w' :=
 laminaref16_LessMax.calls0 k a0_0 a0_1 A0_2 c0_2 l0_2 a0_3 A0_4 c0_4 l0_4 A0_5 c0_5 l0_5 A0_6 c0_6 l0_6 ⟨a1_0, a1_1, a1_2⟩ a2 r w hr0_2 hc0_2 hr0_4 hc0_4 hr0_5 hc0_5 hr0_6 hc0_6 h
def f78_T5 : Bool × List (List Nat × List Nat) := (true, [([], []), ([0], [0]), ([], []), ([1, 2], [1, 2]), ([3], [3]), ([], []), ([4, 5], [4, 5]), ([6, 6, 0, 1, 2, 3, 4, 5, 6], [6])])
def f78_B5 : List Nat := [0, 1, 0, 7, 15, 0, 63, 127]
set_option maxRecDepth 100000 in
theorem f78_tab5 : rtab .any (opsOf Try.f78 5) = f78_T5 := by kernel_rfl
theorem f78_bits5 : waitsOk f78_T5.2 f78_B5 = true := by kernel_rfl
set_option maxHeartbeats 8000000 in
set_option maxRecDepth 100000 in
theorem laminaref16_LessMin.calls0 (k : Nat) (a0 a1 : Int) (A2 : Option Addr) (c2 : Nat) (l2 : List Int) (b3 : Bool) (A4 : Option Addr) (c4 : Nat) (l4 : List Int) (A5 : Option Addr) (c5 : Nat) (l5 : List S39) (A6 : Option Addr) (c6 : Nat) (l6 : List Int) (v : S39) (q : Bool) (r : Int) (w : World) (hr2 : Kd.C (Kd.int .u64) w A2 l2.length l2) (hc2 : l2.length ≤ c2) (hr4 : Kd.C (Kd.int .i64) w A4 l4.length l4) (hc4 : l4.length ≤ c4) (hr5 : Kd.C k39 w A5 l5.length l5) (hc5 : l5.length ≤ c5) (hr6 : Kd.C (Kd.int .i64) w A6 l6.length l6) (hc6 : l6.length ≤ c6) (h : laminaref16_LessMin.f k a0 a1 l2 b3 l4 l5 l6 v.f0 v.f1 v.f2 q = some r) :
  Calls Try.prog 78 #[.agg #[.int .i64 a0, .int .i64 a1, .slice A2 l2.length c2, .bool b3, .slice A4 l4.length c4, .slice A5 l5.length c5, .slice A6 l6.length c6], .agg #[.int .i64 v.f0, .int .i64 v.f1, .string v.f2], .bool q] w fun e w' => e = .returned (.int .i64 r) ∧ Below w.heap.size w w' := by
 obtain ⟨hR, hF, hz⟩ := rk_of h
 have HRL := Aside0.mk hR
 clear h hR
 have HZ : Aside0 (loS rcV l5 l6 v q l5.length = r) := ⟨hz⟩
 clear hz
 have HKw : SK w A2 c2 l2 A4 c4 l4 A5 c5 l5 A6 c6 l6 := ⟨hr2, hc2, hr4, hc4, hr5, hc5, hr6, hc6⟩
 have HR5 := Aside0.mk hr5
 have HR6 := Aside0.mk hr6
 replace HKw := Aside0.mk HKw
 clear hr2 hr4 hr5 hr6
 go_enter Try.func78, Try.ntmps78
 go_upto_region 1 with (first | (refine box_ 3 (cs := #[.int .i64 a0, .int .i64 a1, .slice A2 l2.length c2, .bool b3, .slice A4 l4.length c4, .slice A5 l5.length c5, .slice A6 l6.length c6]) (t := 26) (fun g2 hg_ w1 BK2 HB => ?_); clear hg_; replace BK2 := Aside0.mk BK2; replace HB := Aside0.mk HB) | (refine box_ 4 (cs := #[.int .i64 v.f0, .int .i64 v.f1, .string v.f2]) (t := 39) (fun g3 hg_ V BK3 hb => ?_); clear hg_; replace BK2 := Aside0.mk (blk_below BK2.out hb); replace BK3 := Aside0.mk BK3; replace HB := Aside0.mk (HB.out.trans (hb.mono (below_size HB.out))); clear hb))
 have HS : Aside0 (∀ W, Below V.heap.size V W → sk7 g2 a0 a1 A2 c2 l2 b3 A4 c4 l4 A5 c5 l5 A6 c6 l6 W (v3 g3 v W (True))) := ⟨fun W hb => sk7_of (blk_below BK2.out hb) (v3_of (blk_below BK3.out hb) trivial)⟩
 have HK : Aside0 (∀ W, Below V.heap.size V W → SK W A2 c2 l2 A4 c4 l4 A5 c5 l5 A6 c6 l6) := ⟨fun W hb => HKw.out.below (HB.out.trans (hb.mono (below_size HB.out)))⟩
 have HBV := HB
 clear BK2 BK3 HKw HB
 have HY := Aside0.mk (Below.refl V.heap.size V)
 obtain ⟨t0, t1, t2, t3, t4, t5, t6, t7, t8, t9, _⟩ := HS.out V HY.out
 go_wp2
 go_loopg [7, 8] l5.length (fun kq v7 v8 w' => ∃ i : Nat, v8 = .int .i64 i ∧ v7 = .int .i64 (loS rcV l5 l6 v q i) ∧ i ≤ l5.length ∧ Aside0 (kq + i = l5.length) ∧ Aside0 (Below V.heap.size V w'))
 case atStart => exact ⟨0, rfl, rfl, Nat.zero_le _, ⟨rfl⟩, HY⟩
 case round =>
  clear HY t0 t1 t2 t3 t4 t5 t6 t7 t8 t9
  obtain ⟨i, rfl, rfl, hi, HK2, HY⟩ := hrel
  by_cases hr : i < l5.length
  rotate_left
  ·obtain rfl : i = l5.length := by omega
   have hk0 : gk = 0 := by have := HK2.out; omega
   subst hk0
   have hid : decide ((l5.length : Int) < l5.length) = false := decide_eq_false (by omega)
   obtain rfl := HZ.out
   obtain ⟨t0, t1, t2, t3, t4, t5, t6, t7, t8, t9, _⟩ := HS.out wr HY.out
   go_wp2
   go_ret
   exact ⟨rfl, HBV.out.trans (HY.out.mono (below_size HBV.out))⟩
  obtain ⟨k2, rfl⟩ : ∃ k2, gk = k2 + 1 := ⟨gk - 1, by have := HK2.out; omega⟩
  obtain ⟨s, hs⟩ : ∃ s, loS rcV l5 l6 v q i = s := ⟨_, rfl⟩
  have hst : (if decide (rcV (fe l5 i) v < 0) || (rcV (fe l5 i) v == 0 && q) then rd l6 ((2 * i + 1 : Nat) : Int) else loS rcV l5 l6 v q i) = loS rcV l5 l6 v q (i + 1) := rfl
  rw [hs] at hst ⊢
  clear hs
  obtain ⟨ad, rfl, hy0, hy1, hy2⟩ := at_T39 HR5.out (i : Int) (by omega) (by omega)
  rw [Int.toNat_natCast] at hy0 hy1 hy2
  obtain ⟨x, hxx⟩ : ∃ x, fe l5 i = x := ⟨_, rfl⟩
  rw [show rd_T39 l5 (i : Int) = x from hxx] at hy0 hy1 hy2
  obtain ⟨c, hc⟩ : ∃ c, rcV x v = c := ⟨_, rfl⟩
  have HC := Aside0.mk hc
  rw [hxx, hc] at hst
  have HST := Aside0.mk hst
  have HSE : Aside0 (∀ W, Below V.heap.size V W → sk7 g2 a0 a1 A2 c2 l2 b3 A4 c4 l4 (some ad) c5 l5 A6 c6 l6 W (v3 g3 v W (W.cell? (ad.add (i * 3)) = some (.int .i64 x.f0) ∧ W.cell? ⟨(ad.add (i * 3)).block, (ad.add (i * 3)).off + 1, none⟩ = some (.int .i64 x.f1) ∧ W.cell? ⟨(ad.add (i * 3)).block, (ad.add (i * 3)).off + 2, none⟩ = some (.string x.f2)))) := ⟨fun W hb => by
   obtain ⟨t0, t1, t2, t3, t4, t5, t6, t7, t8, t9, _⟩ := HS.out W hb
   have hbw := HBV.out.trans (hb.mono (below_size HBV.out))
   exact ⟨t0, t1, t2, t3, t4, t5, t6, t7, t8, t9, up_ hbw hy0, up_ hbw hy1, up_ hbw hy2⟩⟩
  have hid : decide ((i : Int) < l5.length) = true := decide_eq_true (by omega)
  have hid2 : decide ((l5.length : Int) ≤ i) = false := decide_eq_false (by omega)
  have hi0 : decide (0 ≤ (i : Int)) = true := decide_eq_true (by omega)
  clear hxx hc hst
  obtain ⟨t0, t1, t2, t3, t4, t5, t6, t7, t8, t9, _⟩ := HS.out wr HY.out
  go_upto_region 5 with (fail)
  clear t0 t1 t2 t3 t4 t5 t6 t7 t8 t9
  replace HY := Aside0.mk (below_drew1 HY.out)
  refine start_ (n := 8) (S := fun W => sk7 g2 a0 a1 A2 c2 l2 b3 A4 c4 l4 (some ad) c5 l5 A6 c6 l6 W (v3 g3 v W (W.cell? (ad.add (i * 3)) = some (.int .i64 x.f0) ∧ W.cell? ⟨(ad.add (i * 3)).block, (ad.add (i * 3)).off + 1, none⟩ = some (.int .i64 x.f1) ∧ W.cell? ⟨(ad.add (i * 3)).block, (ad.add (i * 3)).off + 2, none⟩ = some (.string x.f2)))) (ds := []) #[false, false, false, false, false, false, false, false] (by kernel_rfl) rfl rfl (HSE.out _ HY.out) (fun hHeld => ?_)
  refine with_tabW f78_tab5 f78_bits5 (fun HT_ HW_ => ?_)
  generalize wr.drew = wd at HY hHeld ⊢
  refine pu_ HT_ 0 (some 17) ?_
  refine tk_ HT_ HW_ 1 (some 18) hHeld ?_
  refine pu_ HT_ 2 (some 19) ?_
  refine tk_ HT_ HW_ 3 (some 20) hHeld ?_
  refine tk_ HT_ HW_ 4 (some 21) hHeld ?_
  refine tk_ HT_ HW_ 5 (some 22) hHeld ?_
  refine cl_ HT_ 6 (some 23) Try.func32 (rcV_calls x v c HC.out _) HY HSE (fun w9 HY hHeld => ?_)
  refine pu_ HT_ 7 (some 9) ?_
  refine done_ (done_of HT_.out (by kernel_rfl)) ?_
  clear HT_ HW_ hHeld
  obtain ⟨t0, t1, t2, t3, t4, t5, t6, t7, t8, t9, _⟩ := HS.out w9 HY.out
  by_cases h1 : c < 0
  ·have hb1 : decide (c < 0) = true := decide_eq_true h1
   have HSR : Aside0 (rd l6 ((2 * i + 1 : Nat) : Int) = loS rcV l5 l6 v q (i + 1)) := ⟨by have h_ := HST.out; rw [hb1, Bool.true_or, if_pos rfl] at h_; exact h_⟩
   replace HSR := HSR.out
   have hR6 : 2 * i + 1 < l6.length := by have := HRL.out; omega
   obtain ⟨m0, hm0⟩ : ∃ m : Nat, 2 * i = m := ⟨_, rfl⟩
   obtain ⟨m1, hm1⟩ : ∃ m : Nat, 2 * i + 1 = m := ⟨_, rfl⟩
   rw [hm1] at hR6 HSR
   obtain ⟨ad6, rfl, hx0⟩ := Kd.at_int HR6.out (m1 : Int) (by omega) (by omega)
   rw [Int.toNat_natCast] at hx0
   obtain ⟨y, hy⟩ : ∃ y, rd l6 (m1 : Int) = y := ⟨_, rfl⟩
   rw [hy] at hx0 HSR
   replace hx0 := up_ (HBV.out.trans (HY.out.mono (below_size HBV.out))) hx0
   have hw2a : IntKind.i64.wrap (2 * (i : Int)) = (m0 : Int) := by rw [i64_w]; unfold wrap64; omega
   have hw2c : wrap64 (2 * (i : Int)) = (m0 : Int) := by unfold wrap64; omega
   have hw2b : IntKind.i64.wrap ((m0 : Int) + 1) = (m1 : Int) := by rw [i64_w]; unfold wrap64; omega
   have hdB : decide ((m1 : Int) < l6.length) = true := decide_eq_true (by omega)
   have hw2d : wrap64 ((m0 : Int) + 1) = (m1 : Int) := by unfold wrap64; omega
   clear hy hm0 hm1
   replace HSR := Aside0.mk HSR
   have hwi : IntKind.i64.wrap ((i : Int) + 1) = ((i + 1 : Nat) : Int) := by rw [i64_w]; unfold wrap64; omega
   go_wp2
   go_roundg k2
   case measure => omega
   case rel => exact ⟨i + 1, int_eq (by omega), by rw [HSR.out], by omega, ⟨by have := HK2.out; omega⟩, HY⟩
  have hb1 : decide (c < 0) = false := decide_eq_false h1
  by_cases h2 : c = 0
  ·have hb2 : (c == 0) = true := by simp [h2]
   cases q with
   | true =>
    have HSR : Aside0 (rd l6 ((2 * i + 1 : Nat) : Int) = loS rcV l5 l6 v true (i + 1)) := ⟨by have h_ := HST.out; rw [hb1, hb2, Bool.false_or, Bool.true_and, if_pos rfl] at h_; exact h_⟩
    replace HSR := HSR.out
    have hR6 : 2 * i + 1 < l6.length := by have := HRL.out; omega
    obtain ⟨m0, hm0⟩ : ∃ m : Nat, 2 * i = m := ⟨_, rfl⟩
    obtain ⟨m1, hm1⟩ : ∃ m : Nat, 2 * i + 1 = m := ⟨_, rfl⟩
    rw [hm1] at hR6 HSR
    obtain ⟨ad6, rfl, hx0⟩ := Kd.at_int HR6.out (m1 : Int) (by omega) (by omega)
    rw [Int.toNat_natCast] at hx0
    obtain ⟨y, hy⟩ : ∃ y, rd l6 (m1 : Int) = y := ⟨_, rfl⟩
    rw [hy] at hx0 HSR
    replace hx0 := up_ (HBV.out.trans (HY.out.mono (below_size HBV.out))) hx0
    have hw2a : IntKind.i64.wrap (2 * (i : Int)) = (m0 : Int) := by rw [i64_w]; unfold wrap64; omega
    have hw2c : wrap64 (2 * (i : Int)) = (m0 : Int) := by unfold wrap64; omega
    have hw2b : IntKind.i64.wrap ((m0 : Int) + 1) = (m1 : Int) := by rw [i64_w]; unfold wrap64; omega
    have hdB : decide ((m1 : Int) < l6.length) = true := decide_eq_true (by omega)
    have hw2d : wrap64 ((m0 : Int) + 1) = (m1 : Int) := by unfold wrap64; omega
    clear hy hm0 hm1
    replace HSR := Aside0.mk HSR
    have hwi : IntKind.i64.wrap ((i : Int) + 1) = ((i + 1 : Nat) : Int) := by rw [i64_w]; unfold wrap64; omega
    go_wp2
    go_roundg k2
    case measure => omega
    case rel => exact ⟨i + 1, int_eq (by omega), by rw [HSR.out], by omega, ⟨by have := HK2.out; omega⟩, HY⟩
   | false =>
    have HSR : Aside0 (s = loS rcV l5 l6 v false (i + 1)) := ⟨by have h_ := HST.out; rw [hb1, hb2, Bool.false_or, Bool.true_and, if_neg (by decide)] at h_; exact h_⟩
    have hwi : IntKind.i64.wrap ((i : Int) + 1) = ((i + 1 : Nat) : Int) := by rw [i64_w]; unfold wrap64; omega
    go_wp2
    go_roundg k2
    case measure => omega
    case rel => exact ⟨i + 1, int_eq (by omega), by rw [HSR.out], by omega, ⟨by have := HK2.out; omega⟩, HY⟩
  have hb2 : (c == 0) = false := by simp [h2]
  have HSR : Aside0 (s = loS rcV l5 l6 v q (i + 1)) := ⟨by have h_ := HST.out; rw [hb1, hb2, Bool.false_or, Bool.false_and, if_neg (by decide)] at h_; exact h_⟩
  have hwi : IntKind.i64.wrap ((i : Int) + 1) = ((i + 1 : Nat) : Int) := by rw [i64_w]; unfold wrap64; omega
  go_wp2
  go_roundg k2
  case measure => omega
  case rel => exact ⟨i + 1, int_eq (by omega), by rw [HSR.out], by omega, ⟨by have := HK2.out; omega⟩, HY⟩
theorem laminaref16_LessMin.calls (k : Nat) (a0_0 : Int) (a0_1 : Int) (A0_2 : Option Addr) (c0_2 : Nat) (l0_2 : List Int) (a0_3 : Bool) (A0_4 : Option Addr) (c0_4 : Nat) (l0_4 : List Int) (A0_5 : Option Addr) (c0_5 : Nat) (l0_5 : List (S39)) (A0_6 : Option Addr) (c0_6 : Nat) (l0_6 : List Int) (a1_0 : Int) (a1_1 : Int) (a1_2 : ByteArray) (a2 : Bool) (r : Int) (w : World) (hr0_2 : Kd.C (Kd.int .u64) w A0_2 l0_2.length l0_2) (hc0_2 : l0_2.length ≤ c0_2) (hr0_4 : Kd.C (Kd.int .i64) w A0_4 l0_4.length l0_4) (hc0_4 : l0_4.length ≤ c0_4) (hr0_5 : Kd.C k39 w A0_5 l0_5.length l0_5) (hc0_5 : l0_5.length ≤ c0_5) (hr0_6 : Kd.C (Kd.int .i64) w A0_6 l0_6.length l0_6) (hc0_6 : l0_6.length ≤ c0_6) (h : laminaref16_LessMin.f k a0_0 a0_1 l0_2 a0_3 l0_4 l0_5 l0_6 a1_0 a1_1 a1_2 a2 = some r) :
  Calls Try.prog 78 #[.agg #[.int .i64 a0_0, .int .i64 a0_1, .slice A0_2 l0_2.length c0_2, .bool a0_3, .slice A0_4 l0_4.length c0_4, .slice A0_5 l0_5.length c0_5, .slice A0_6 l0_6.length c0_6], .agg #[.int .i64 a1_0, .int .i64 a1_1, .string a1_2], .bool a2] w fun e w' => e = .returned (.int .i64 r) ∧ Below w.heap.size w w' :=
 laminaref16_LessMin.calls0 k a0_0 a0_1 A0_2 c0_2 l0_2 a0_3 A0_4 c0_4 l0_4 A0_5 c0_5 l0_5 A0_6 c0_6 l0_6 ⟨a1_0, a1_1, a1_2⟩ a2 r w hr0_2 hc0_2 hr0_4 hc0_4 hr0_5 hc0_5 hr0_6 hc0_6 h
end Go.Proofs.Ytackcingpffidaa.P
namespace Go.Proofs.Ytackcingpffidaa.P
open Go.RowKit Go.Proofs.YtackcingpffidaaW.PrintWords Go.Proofs.YtackcingpffidaaW.PrintLast Go.Proofs.YtackcingpffidaaW.PrintMore
attribute [local go_sem] max2_int min2_int max_two min_two max_three min_three max_four min_four Go.Proofs.YtackcingpffidaaQ.str_gtr Go.Proofs.YtackcingpffidaaQ.str_leq Go.Proofs.YtackcingpffidaaQ.str_geq   -- for this text's walks alone
set_option linter.unusedVariables false
set_option linter.unusedSimpArgs false
/-! ### sketch_span: function 73 -/
def sketch_span.f (a0 : Int) (a1 : Int) : Option (Int × Int) := some (a0, a1)
set_option maxHeartbeats 8000000 in
set_option maxRecDepth 100000 in
theorem sketch_span.calls (a0 : Int) (a1 : Int) (r1 : Int) (r2 : Int) (w : World) (h : sketch_span.f a0 a1 = some (r1, r2)) :
  Calls Try.prog 73 #[.int .i64 a0, .int .i64 a1] w fun e w' => e = .returned (.agg #[.int .i64 r1, .int .i64 r2]) ∧ Below w.heap.size w w' := by
 have hu44 := Try.underlying44
 have HB := Aside0.mk (Below.refl w.heap.size w)
 have H : (some (a0, a1)) = some (r1, r2) := h
 clear h
 simp only [Option.some.injEq, Prod.mk.injEq] at H
 obtain ⟨rfl, rfl⟩ := H
 go_enter Try.func73, Try.ntmps73
 go_wp2_with (first | ((with_reducible refine gate_dst (N := 4) rfl ?_); refine box_ 4 (cs := #[.int .i64 0, .int .i64 0]) (t := 44) ?_; intro gb453 hg w3 hbox hb; have BK453 := Aside0.mk (hbox); have GW453 := Aside0.mk ((by rw [hg]; exact (below_size (hb_ HB.out)) : w.heap.size ≤ gb453)); have GE453 := Aside0.mk ((by rw [hg]; exact (below_size (hb_ HB.out)) : w.heap.size ≤ gb453)); replace HB := Aside0.mk (below_step (hb_ HB.out) hb); clear hb hbox hg; obtain ⟨hcz4_0, hcz4_1, hfz4_0, hfz4_1⟩ := bf2 BK453.out))
 refine bodyPost_ret (results_cell_row rfl _ _ gb453 44 #[.int .i64 a0, .int .i64 a1] (0, 0) _ rfl (by (with_reducible repeat (first | refine blk_drewN ?_ _ | refine blk_drew ?_ | refine blk_alloc ?_ _)); refine blk_put (cs := #[.int .i64 a0, .int .i64 0]) ?_ 1 _ rfl; (with_reducible repeat (first | refine blk_drewN ?_ _ | refine blk_drew ?_ | refine blk_alloc ?_ _)); refine blk_put (cs := #[.int .i64 0, .int .i64 0]) ?_ 0 _ rfl; (with_reducible repeat (first | refine blk_drewN ?_ _ | refine blk_drew ?_ | refine blk_alloc ?_ _)); exact BK453.out) Try.underlying44 rfl (by kernel_rfl)) rfl ?_
 exact er_ ((hb1_ HB.out GE453.out))
/-! ### sketch_CountLess: function 24 -/
def sketch_CountLess.f (k : Nat) (a0_0 : Int) (a0_1 : Int) (l0_2 : List Int) (a0_3 : Bool) (l0_4 : List Int) (l0_5 : List (S39)) (l0_6 : List Int) (a1_0 : Int) (a1_1 : Int) (a1_2 : ByteArray) : Option (Int × Int) := if a1_0 = 0 then (some (0, 0)) else ((sketch_lower.f k a0_0 a0_1 l0_2 a0_3 l0_4 l0_5 l0_6 a1_0 a1_1 a1_2 false).bind fun t457 => ((sketch_upper.f k a0_0 a0_1 l0_2 a0_3 l0_4 l0_5 l0_6 a1_0 a1_1 a1_2 true).bind fun t458 => ((sketch_span.f t457 t458).bind fun bt459 => (some (bt459.1, bt459.2)))))
def sketch_CountLess.T3 : Bool × List (List Nat × List Nat) := (true, [([], []), ([], []), ([0, 1], [0, 1]), ([], []), ([], []), ([3, 4, 2], [3, 4]), ([2, 5, 5], [2, 5]), ([6, 6, 0, 1, 2, 3, 4, 5, 6], [6])])
def sketch_CountLess.B3 : List Nat := [0, 0, 3, 0, 0, 31, 63, 127]
theorem sketch_CountLess.tab3 : rtab .any (opsOf Try.f24 3) = sketch_CountLess.T3 := by kernel_rfl
theorem sketch_CountLess.bits3 : waitsOk sketch_CountLess.T3.2 sketch_CountLess.B3 = true := by kernel_rfl
set_option maxHeartbeats 8000000 in
set_option maxRecDepth 100000 in
theorem sketch_CountLess.calls (k : Nat) (a0_0 : Int) (a0_1 : Int) (A0_2 : Option Addr) (c0_2 : Nat) (l0_2 : List Int) (a0_3 : Bool) (A0_4 : Option Addr) (c0_4 : Nat) (l0_4 : List Int) (A0_5 : Option Addr) (c0_5 : Nat) (l0_5 : List (S39)) (A0_6 : Option Addr) (c0_6 : Nat) (l0_6 : List Int) (a1_0 : Int) (a1_1 : Int) (a1_2 : ByteArray) (r1 : Int) (r2 : Int) (w : World) (hr0_2 : Kd.C (Kd.int .u64) w A0_2 l0_2.length l0_2) (hc0_2 : l0_2.length ≤ c0_2) (hr0_4 : Kd.C (Kd.int .i64) w A0_4 l0_4.length l0_4) (hc0_4 : l0_4.length ≤ c0_4) (hr0_5 : Kd.C k39 w A0_5 l0_5.length l0_5) (hc0_5 : l0_5.length ≤ c0_5) (hr0_6 : Kd.C (Kd.int .i64) w A0_6 l0_6.length l0_6) (hc0_6 : l0_6.length ≤ c0_6) (h : sketch_CountLess.f k a0_0 a0_1 l0_2 a0_3 l0_4 l0_5 l0_6 a1_0 a1_1 a1_2 = some (r1, r2)) :
  Calls Try.prog 24 #[.agg #[.int .i64 a0_0, .int .i64 a0_1, .slice A0_2 l0_2.length c0_2, .bool a0_3, .slice A0_4 l0_4.length c0_4, .slice A0_5 l0_5.length c0_5, .slice A0_6 l0_6.length c0_6], .agg #[.int .i64 a1_0, .int .i64 a1_1, .string a1_2]] w fun e w' => e = .returned (.agg #[.int .i64 r1, .int .i64 r2]) ∧ Below w.heap.size w w' := by
 have hu26 := Try.underlying26
 have hu39 := Try.underlying39
 have hu44 := Try.underlying44
 have HR0_2 := Aside0.mk hr0_2
 have HC0_2 := Aside0.mk hc0_2
 clear hr0_2 hc0_2
 have HR0_4 := Aside0.mk hr0_4
 have HC0_4 := Aside0.mk hc0_4
 clear hr0_4 hc0_4
 have HR0_5 := Aside0.mk hr0_5
 have HC0_5 := Aside0.mk hc0_5
 clear hr0_5 hc0_5
 have HR0_6 := Aside0.mk hr0_6
 have HC0_6 := Aside0.mk hc0_6
 clear hr0_6 hc0_6
 have HB := Aside0.mk (Below.refl w.heap.size w)
 have H : (if a1_0 = 0 then (some (0, 0)) else ((sketch_lower.f k a0_0 a0_1 l0_2 a0_3 l0_4 l0_5 l0_6 a1_0 a1_1 a1_2 false).bind fun t457 => ((sketch_upper.f k a0_0 a0_1 l0_2 a0_3 l0_4 l0_5 l0_6 a1_0 a1_1 a1_2 true).bind fun t458 => ((sketch_span.f t457 t458).bind fun bt459 => (some (bt459.1, bt459.2)))))) = some (r1, r2) := h
 clear h
 by_cases c3 : a1_0 = 0
 ·rw [if_pos c3] at H
  have c3b0 : (a1_0 == 0) = true := beq_iff_eq.mpr c3
  have c3b1 : (a1_0 != 0) = false := bne_eq_false_iff_eq.mpr c3
  clear c3
  simp only [Option.some.injEq, Prod.mk.injEq] at H
  obtain ⟨rfl, rfl⟩ := H
  go_enter Try.func24, Try.ntmps24
  go_wp2_with (first | ((with_reducible refine gate_dst (N := 2) rfl ?_); refine box_ 2 (cs := #[.int .i64 a0_0, .int .i64 a0_1, .slice A0_2 l0_2.length c0_2, .bool a0_3, .slice A0_4 l0_4.length c0_4, .slice A0_5 l0_5.length c0_5, .slice A0_6 l0_6.length c0_6]) (t := 26) ?_; intro gb454 hg w4 hbox hb; have BK454 := Aside0.mk (hbox); have GW454 := Aside0.mk ((by rw [hg]; exact (below_size (hb_ HB.out)) : w.heap.size ≤ gb454)); have GE454 := Aside0.mk ((by rw [hg]; exact (below_size (hb_ HB.out)) : w.heap.size ≤ gb454)); replace HB := Aside0.mk (below_step (hb_ HB.out) hb); clear hb hbox hg) | ((with_reducible refine gate_dst (N := 3) rfl ?_); refine box_ 3 (cs := #[.int .i64 a1_0, .int .i64 a1_1, .string a1_2]) (t := 39) ?_; intro gb455 hg w5 hbox hb; have BK455 := Aside0.mk (hbox); have GW455 := Aside0.mk ((by rw [hg]; exact (below_size (hb1_ HB.out GE454.out)) : w.heap.size ≤ gb455)); have GE455 := Aside0.mk ((by rw [hg]; exact (below_size (hb1_ HB.out GE454.out)) : w.heap.size ≤ gb455)); have NB454_455 := Aside0.mk ((by rw [hg]; exact Nat.ne_of_lt (blk_lt (bk_ BK454.out)) : gb454 ≠ gb455)); have NB455_454 := Aside0.mk ((by rw [hg]; exact Nat.ne_of_gt (blk_lt (bk_ BK454.out)) : gb455 ≠ gb454)); replace BK454 := Aside0.mk (blk_below (bk_ BK454.out) hb); replace HB := Aside0.mk (below_step (hb1_ HB.out GE454.out) hb); clear hb hbox hg) | ((with_reducible refine gate_dst (N := 4) rfl ?_); refine box_ 4 (cs := #[.int .i64 0, .int .i64 0]) (t := 44) ?_; intro gb456 hg w6 hbox hb; have BK456 := Aside0.mk (hbox); have GW456 := Aside0.mk ((by rw [hg]; exact (below_size (hb2_ HB.out GE454.out GE455.out)) : w.heap.size ≤ gb456)); have GE456 := Aside0.mk ((by rw [hg]; exact (below_size (hb2_ HB.out GE454.out GE455.out)) : w.heap.size ≤ gb456)); have NB454_456 := Aside0.mk ((by rw [hg]; exact Nat.ne_of_lt (blk_lt (bk_ BK454.out)) : gb454 ≠ gb456)); have NB456_454 := Aside0.mk ((by rw [hg]; exact Nat.ne_of_gt (blk_lt (bk_ BK454.out)) : gb456 ≠ gb454)); have NB455_456 := Aside0.mk ((by rw [hg]; exact Nat.ne_of_lt (blk_lt (bk_ BK455.out)) : gb455 ≠ gb456)); have NB456_455 := Aside0.mk ((by rw [hg]; exact Nat.ne_of_gt (blk_lt (bk_ BK455.out)) : gb456 ≠ gb455)); replace BK454 := Aside0.mk (blk_below (bk_ BK454.out) hb); replace BK455 := Aside0.mk (blk_below (bk_ BK455.out) hb); replace HB := Aside0.mk (below_step (hb2_ HB.out GE454.out GE455.out) hb); clear hb hbox hg; have hnb7 := NB455_454.out; have hnc7 := NB454_455.out; have hnb8 := NB455_456.out; have hnc8 := NB456_455.out; obtain ⟨hcz9_0, hcz9_1, hcz9_2, hfz9_0, hfz9_1, hfz9_2⟩ := bf3 BK455.out; have hnb10 := NB456_454.out; have hnc10 := NB454_456.out; obtain ⟨hcz11_0, hcz11_1, hfz11_0, hfz11_1⟩ := bf2 BK456.out))
  refine bodyPost_ret (results_cell_row rfl _ _ gb456 44 #[.int .i64 0, .int .i64 0] (0, 0) _ rfl (by (with_reducible repeat (first | refine blk_drewN ?_ _ | refine blk_drew ?_ | refine blk_alloc ?_ _)); refine blk_put (cs := #[.int .i64 0, .int .i64 0]) ?_ 1 _ rfl; (with_reducible repeat (first | refine blk_drewN ?_ _ | refine blk_drew ?_ | refine blk_alloc ?_ _)); refine blk_put (cs := #[.int .i64 0, .int .i64 0]) ?_ 0 _ rfl; (with_reducible repeat (first | refine blk_drewN ?_ _ | refine blk_drew ?_ | refine blk_alloc ?_ _)); exact BK456.out) Try.underlying44 rfl (by kernel_rfl)) rfl ?_
  exact er_ (by repeat (first | (with_reducible first | exact HB.out | apply below_alloc | apply pw_below_drewN | apply below_drew1 | refine below_set ?_ GE454.out | refine below_set ?_ GE455.out | refine below_set ?_ GE456.out) | exact HB.out))
 ·rw [if_neg c3] at H
  have c3b0 : (a1_0 == 0) = false := beq_eq_false_iff_ne.mpr c3
  have c3b1 : (a1_0 != 0) = true := bne_iff_ne.mpr c3
  replace H := Option.bind_eq_some_iff.mp H
  obtain ⟨t457, A120, H⟩ := H
  replace H : ((sketch_upper.f k a0_0 a0_1 l0_2 a0_3 l0_4 l0_5 l0_6 a1_0 a1_1 a1_2 true).bind fun t458 => ((sketch_span.f t457 t458).bind fun bt459 => (some (bt459.1, bt459.2)))) = some (r1, r2) := H
  have A12 := Aside0.mk A120
  clear A120
  replace H := Option.bind_eq_some_iff.mp H
  obtain ⟨t458, A130, H⟩ := H
  replace H : ((sketch_span.f t457 t458).bind fun bt459 => (some (bt459.1, bt459.2))) = some (r1, r2) := H
  have A13 := Aside0.mk A130
  clear A130
  replace H := Option.bind_eq_some_iff.mp H
  obtain ⟨⟨t459, t460⟩, A140, H⟩ := H
  replace H : (some (t459, t460)) = some (r1, r2) := H
  have A14 := Aside0.mk A140
  clear A140
  simp only [Option.some.injEq, Prod.mk.injEq] at H
  obtain ⟨rfl, rfl⟩ := H
  go_enter Try.func24, Try.ntmps24
  try go_wp2_with (first | ((with_reducible refine gate_dst (N := 2) rfl ?_); refine box_ 2 (cs := #[.int .i64 a0_0, .int .i64 a0_1, .slice A0_2 l0_2.length c0_2, .bool a0_3, .slice A0_4 l0_4.length c0_4, .slice A0_5 l0_5.length c0_5, .slice A0_6 l0_6.length c0_6]) (t := 26) ?_; intro gb454 hg w15 hbox hb; have BK454 := Aside0.mk (hbox); have GW454 := Aside0.mk ((by rw [hg]; exact (below_size (hb_ HB.out)) : w.heap.size ≤ gb454)); have GE454 := Aside0.mk ((by rw [hg]; exact (below_size (hb_ HB.out)) : w.heap.size ≤ gb454)); replace HB := Aside0.mk (below_step (hb_ HB.out) hb); clear hb hbox hg) | ((with_reducible refine gate_dst (N := 3) rfl ?_); refine box_ 3 (cs := #[.int .i64 a1_0, .int .i64 a1_1, .string a1_2]) (t := 39) ?_; intro gb455 hg w16 hbox hb; have BK455 := Aside0.mk (hbox); have GW455 := Aside0.mk ((by rw [hg]; exact (below_size (hb1_ HB.out GE454.out)) : w.heap.size ≤ gb455)); have GE455 := Aside0.mk ((by rw [hg]; exact (below_size (hb1_ HB.out GE454.out)) : w.heap.size ≤ gb455)); have NB454_455 := Aside0.mk ((by rw [hg]; exact Nat.ne_of_lt (blk_lt (bk_ BK454.out)) : gb454 ≠ gb455)); have NB455_454 := Aside0.mk ((by rw [hg]; exact Nat.ne_of_gt (blk_lt (bk_ BK454.out)) : gb455 ≠ gb454)); replace BK454 := Aside0.mk (blk_below (bk_ BK454.out) hb); replace HB := Aside0.mk (below_step (hb1_ HB.out GE454.out) hb); clear hb hbox hg) | ((with_reducible refine gate_dst (N := 4) rfl ?_); refine box_ 4 (cs := #[.int .i64 0, .int .i64 0]) (t := 44) ?_; intro gb456 hg w17 hbox hb; have BK456 := Aside0.mk (hbox); have GW456 := Aside0.mk ((by rw [hg]; exact (below_size (hb2_ HB.out GE454.out GE455.out)) : w.heap.size ≤ gb456)); have GE456 := Aside0.mk ((by rw [hg]; exact (below_size (hb2_ HB.out GE454.out GE455.out)) : w.heap.size ≤ gb456)); have NB454_456 := Aside0.mk ((by rw [hg]; exact Nat.ne_of_lt (blk_lt (bk_ BK454.out)) : gb454 ≠ gb456)); have NB456_454 := Aside0.mk ((by rw [hg]; exact Nat.ne_of_gt (blk_lt (bk_ BK454.out)) : gb456 ≠ gb454)); have NB455_456 := Aside0.mk ((by rw [hg]; exact Nat.ne_of_lt (blk_lt (bk_ BK455.out)) : gb455 ≠ gb456)); have NB456_455 := Aside0.mk ((by rw [hg]; exact Nat.ne_of_gt (blk_lt (bk_ BK455.out)) : gb456 ≠ gb455)); replace BK454 := Aside0.mk (blk_below (bk_ BK454.out) hb); replace BK455 := Aside0.mk (blk_below (bk_ BK455.out) hb); replace HB := Aside0.mk (below_step (hb2_ HB.out GE454.out GE455.out) hb); clear hb hbox hg; have hnb18 := NB455_454.out; have hnc18 := NB454_455.out; have hnb19 := NB455_456.out; have hnc19 := NB456_455.out; obtain ⟨hcz20_0, hcz20_1, hcz20_2, hfz20_0, hfz20_1, hfz20_2⟩ := bf3 BK455.out))
  replace BK454 := Aside0.mk (blk_drew BK454.out)
  replace BK455 := Aside0.mk (blk_drew BK455.out)
  replace BK456 := Aside0.mk (blk_drew BK456.out)
  replace HB := Aside0.mk (below_drew1 HB.out)
  refine start_ (n := 8) (S := fun w' => w'.cell? ⟨gb454, 0, none⟩ = some (.int .i64 a0_0) ∧ w'.cell? ⟨gb454, 1, none⟩ = some (.int .i64 a0_1) ∧ w'.cell? ⟨gb454, 2, none⟩ = some (.slice A0_2 l0_2.length c0_2) ∧ w'.cell? ⟨gb454, 3, none⟩ = some (.bool a0_3) ∧ w'.cell? ⟨gb454, 4, none⟩ = some (.slice A0_4 l0_4.length c0_4) ∧ w'.cell? ⟨gb454, 5, none⟩ = some (.slice A0_5 l0_5.length c0_5) ∧ w'.cell? ⟨gb454, 6, none⟩ = some (.slice A0_6 l0_6.length c0_6) ∧ w'.cell? ⟨gb455, 0, none⟩ = some (.int .i64 a1_0) ∧ w'.cell? ⟨gb455, 1, none⟩ = some (.int .i64 a1_1) ∧ w'.cell? ⟨gb455, 2, none⟩ = some (.string a1_2)) (ds := []) #[false, false, false, false, false, false, false, false] (by kernel_rfl) rfl rfl (ap7 (bc7 BK454.out) (bc3 BK455.out)) (fun hHeld => ?_); refine with_tabW sketch_CountLess.tab3 sketch_CountLess.bits3 (fun HT_ HW_ => ?_)
  generalize w17.drew = w21 at BK454 BK455 BK456 HB hHeld ⊢
  refine tk_ HT_ HW_ 0 (some 9) hHeld ?_
  refine tk_ HT_ HW_ 1 (some 10) hHeld ?_
  refine tk_ HT_ HW_ 3 (some 12) hHeld ?_
  refine tk_ HT_ HW_ 4 (some 13) hHeld ?_
  refine on_ HT_ 2 (some 11) (fun K hK => ?_)
  refine gos_ Try.func71 #[.agg #[.int .i64 a0_0, .int .i64 a0_1, .slice A0_2 l0_2.length c0_2, .bool a0_3, .slice A0_4 l0_4.length c0_4, .slice A0_5 l0_5.length c0_5, .slice A0_6 l0_6.length c0_6], .agg #[.int .i64 a1_0, .int .i64 a1_1, .string a1_2], .bool false] ?_
  with_reducible refine (sketch_lower.calls k a0_0 a0_1 _ _ l0_2 a0_3 _ _ l0_4 _ _ l0_5 _ _ l0_6 a1_0 a1_1 a1_2 false t457 _ ?side1 ?side2 ?side3 ?side4 ?side5 ?side6 ?side7 ?side8 A12.out).mono ?_
  (case side1 => exact cb_ HR0_2.out HB.out)
  (case side2 => exact HC0_2.out)
  (case side3 => exact cb_ HR0_4.out HB.out)
  (case side4 => exact HC0_4.out)
  (case side5 => exact cb_ HR0_5.out HB.out)
  (case side6 => exact HC0_5.out)
  (case side7 => exact cb_ HR0_6.out HB.out)
  (case side8 => exact HC0_6.out)
  rintro e w22 ⟨rfl, hb⟩
  refine ⟨_, rfl, ?_⟩
  replace BK454 := Aside0.mk (blk_below (bk_ BK454.out) hb)
  replace BK455 := Aside0.mk (blk_below (bk_ BK455.out) hb)
  replace BK456 := Aside0.mk (blk_below (bk_ BK456.out) hb)
  replace HB := Aside0.mk (below_step (by repeat (first | (with_reducible first | exact HB.out | apply below_alloc | apply pw_below_drewN | apply below_drew1 | refine below_set ?_ GE454.out | refine below_set ?_ GE455.out | refine below_set ?_ GE456.out) | exact HB.out)) hb)
  (try clear hb)
  refine hK.out _ _ (ap7 (bc7 BK454.out) (bc3 BK455.out)) (fun hHeld => ?_)
  clear hK K
  refine nm_ (some 11) ?_
  refine on_ HT_ 5 (some 14) (fun K hK => ?_)
  refine gos_ Try.func70 #[.agg #[.int .i64 a0_0, .int .i64 a0_1, .slice A0_2 l0_2.length c0_2, .bool a0_3, .slice A0_4 l0_4.length c0_4, .slice A0_5 l0_5.length c0_5, .slice A0_6 l0_6.length c0_6], .agg #[.int .i64 a1_0, .int .i64 a1_1, .string a1_2], .bool true] ?_
  with_reducible refine (sketch_upper.calls k a0_0 a0_1 _ _ l0_2 a0_3 _ _ l0_4 _ _ l0_5 _ _ l0_6 a1_0 a1_1 a1_2 true t458 _ ?side1 ?side2 ?side3 ?side4 ?side5 ?side6 ?side7 ?side8 A13.out).mono ?_
  (case side1 => exact cb_ HR0_2.out HB.out)
  (case side2 => exact HC0_2.out)
  (case side3 => exact cb_ HR0_4.out HB.out)
  (case side4 => exact HC0_4.out)
  (case side5 => exact cb_ HR0_5.out HB.out)
  (case side6 => exact HC0_5.out)
  (case side7 => exact cb_ HR0_6.out HB.out)
  (case side8 => exact HC0_6.out)
  rintro e w23 ⟨rfl, hb⟩
  refine ⟨_, rfl, ?_⟩
  replace BK454 := Aside0.mk (blk_below (bk_ BK454.out) hb)
  replace BK455 := Aside0.mk (blk_below (bk_ BK455.out) hb)
  replace BK456 := Aside0.mk (blk_below (bk_ BK456.out) hb)
  replace HB := Aside0.mk (below_step (by repeat (first | (with_reducible first | exact HB.out | apply below_alloc | apply pw_below_drewN | apply below_drew1 | refine below_set ?_ GE454.out | refine below_set ?_ GE455.out | refine below_set ?_ GE456.out) | exact HB.out)) hb)
  (try clear hb)
  refine hK.out _ _ (ap7 (bc7 BK454.out) (bc3 BK455.out)) (fun hHeld => ?_)
  clear hK K
  refine nm_ (some 14) ?_
  refine on_ HT_ 6 (some 15) (fun K hK => ?_)
  refine gos_ Try.func73 #[.int .i64 t457, .int .i64 t458] ?_
  with_reducible refine (sketch_span.calls t457 t458 t459 t460 _ A14.out).mono ?_
  rintro e w24 ⟨rfl, hb⟩
  refine ⟨_, rfl, ?_⟩
  replace BK454 := Aside0.mk (blk_below (bk_ BK454.out) hb)
  replace BK455 := Aside0.mk (blk_below (bk_ BK455.out) hb)
  replace BK456 := Aside0.mk (blk_below (bk_ BK456.out) hb)
  replace HB := Aside0.mk (below_step (by repeat (first | (with_reducible first | exact HB.out | apply below_alloc | apply pw_below_drewN | apply below_drew1 | refine below_set ?_ GE454.out | refine below_set ?_ GE455.out | refine below_set ?_ GE456.out) | exact HB.out)) hb)
  (try clear hb)
  refine hK.out _ _ (ap7 (bc7 BK454.out) (bc3 BK455.out)) (fun hHeld => ?_)
  clear hK K
  refine nm_ (some 15) ?_
  refine on_ HT_ 7 (none) (fun K hK => ?_)
  have hs25 : w24.cell? ⟨gb456, 0, none⟩ = some (.int .i64 0) := (blk_cell BK456.out 0).trans rfl
  have hfs25 := blk_frozen BK456.out 0
  have hns25_0 := NB454_456.out
  have hns25_1 := NB455_456.out
  have hms25_0 := NB456_454.out
  have hms25_1 := NB456_455.out
  have hs26 : w24.cell? ⟨gb456, 1, none⟩ = some (.int .i64 0) := (blk_cell BK456.out 1).trans rfl
  have hfs26 := blk_frozen BK456.out 1
  have hns26_0 := NB454_456.out
  have hns26_1 := NB455_456.out
  have hms26_0 := NB456_454.out
  have hms26_1 := NB456_455.out
  refine skip_ (w1 := ?_) (by rfl) rfl ?_ ?_
  rotate_left
  ·go_simp
   rfl
  refine hK.out _ _ ⟨((cell_far (p := ⟨gb456, _, none⟩) NB454_456.out _).trans (((cell_far (p := ⟨gb456, _, none⟩) NB454_456.out _).trans (hHeld.1)))), ((cell_far (p := ⟨gb456, _, none⟩) NB454_456.out _).trans (((cell_far (p := ⟨gb456, _, none⟩) NB454_456.out _).trans (hHeld.2.1)))), ((cell_far (p := ⟨gb456, _, none⟩) NB454_456.out _).trans (((cell_far (p := ⟨gb456, _, none⟩) NB454_456.out _).trans (hHeld.2.2.1)))), ((cell_far (p := ⟨gb456, _, none⟩) NB454_456.out _).trans (((cell_far (p := ⟨gb456, _, none⟩) NB454_456.out _).trans (hHeld.2.2.2.1)))), ((cell_far (p := ⟨gb456, _, none⟩) NB454_456.out _).trans (((cell_far (p := ⟨gb456, _, none⟩) NB454_456.out _).trans (hHeld.2.2.2.2.1)))), ((cell_far (p := ⟨gb456, _, none⟩) NB454_456.out _).trans (((cell_far (p := ⟨gb456, _, none⟩) NB454_456.out _).trans (hHeld.2.2.2.2.2.1)))), ((cell_far (p := ⟨gb456, _, none⟩) NB454_456.out _).trans (((cell_far (p := ⟨gb456, _, none⟩) NB454_456.out _).trans (hHeld.2.2.2.2.2.2.1)))), ((cell_far (p := ⟨gb456, _, none⟩) NB455_456.out _).trans (((cell_far (p := ⟨gb456, _, none⟩) NB455_456.out _).trans (hHeld.2.2.2.2.2.2.2.1)))), ((cell_far (p := ⟨gb456, _, none⟩) NB455_456.out _).trans (((cell_far (p := ⟨gb456, _, none⟩) NB455_456.out _).trans (hHeld.2.2.2.2.2.2.2.2.1)))), ((cell_far (p := ⟨gb456, _, none⟩) NB455_456.out _).trans (((cell_far (p := ⟨gb456, _, none⟩) NB455_456.out _).trans (hHeld.2.2.2.2.2.2.2.2.2))))⟩ (fun hHeld => ?_)
  clear hK K
  refine done_ (done_of HT_.out (by kernel_rfl)) ?_
  try go_wp2
  refine bodyPost_ret (results_cell_row rfl _ _ gb456 44 #[.int .i64 t459, .int .i64 t460] (0, 0) _ rfl (by (with_reducible repeat (first | refine blk_drewN ?_ _ | refine blk_drew ?_ | refine blk_alloc ?_ _)); refine blk_put (cs := #[.int .i64 t459, .int .i64 0]) ?_ 1 _ rfl; (with_reducible repeat (first | refine blk_drewN ?_ _ | refine blk_drew ?_ | refine blk_alloc ?_ _)); refine blk_put (cs := #[.int .i64 0, .int .i64 0]) ?_ 0 _ rfl; (with_reducible repeat (first | refine blk_drewN ?_ _ | refine blk_drew ?_ | refine blk_alloc ?_ _)); exact BK456.out) Try.underlying44 rfl (by kernel_rfl)) rfl ?_
  exact er_ (by repeat (first | (with_reducible first | exact HB.out | apply below_alloc | apply pw_below_drewN | apply below_drew1 | refine below_set ?_ GE454.out | refine below_set ?_ GE455.out | refine below_set ?_ GE456.out) | exact HB.out))
/-! ### cmp_isNaN_uint64: function 125 -/
def cmp_isNaN_uint64.f (a0 : Int) : Option (Bool) := some (a0 != a0)
set_option maxHeartbeats 8000000 in
set_option maxRecDepth 100000 in
theorem cmp_isNaN_uint64.calls (a0 : Int) (r : Bool) (w : World) (h : cmp_isNaN_uint64.f a0 = some r) :
  Calls Try.prog 125 #[.int .u64 a0] w fun e w' => e = .returned (.bool r) ∧ Drawn0 w w' := by
 have H : (some (a0 != a0)) = some r := h
 clear h
 obtain rfl := Option.some.inj H
 go_enter Try.func125, Try.ntmps125
 go_wp2
 go_ret
 exact ⟨by first | rfl | (simp; done) | (simp [*]; done), by repeat (first | exact Drawn0.refl _ | apply Drawn0.step)⟩
/-! ### cmp_Less_uint64: function 108 -/
def cmp_Less_uint64.f (a0 : Int) (a1 : Int) : Option (Bool) := (cmp_isNaN_uint64.f a0).bind fun t461 => (if t461 = true then ((cmp_isNaN_uint64.f a1).bind fun t462 => (if t462 = true then (some (decide (a0 < a1))) else (some true))) else (some (decide (a0 < a1))))
set_option maxHeartbeats 8000000 in
set_option maxRecDepth 100000 in
theorem cmp_Less_uint64.calls (a0 : Int) (a1 : Int) (r : Bool) (w : World) (h : cmp_Less_uint64.f a0 a1 = some r) :
  Calls Try.prog 108 #[.int .u64 a0, .int .u64 a1] w fun e w' => e = .returned (.bool r) ∧ Drawn0 w w' := by
 have H : ((cmp_isNaN_uint64.f a0).bind fun t461 => (if t461 = true then ((cmp_isNaN_uint64.f a1).bind fun t462 => (if t462 = true then (some (decide (a0 < a1))) else (some true))) else (some (decide (a0 < a1))))) = some r := h
 clear h
 replace H := Option.bind_eq_some_iff.mp H
 obtain ⟨t461, A30, H⟩ := H
 replace H : (if t461 = true then ((cmp_isNaN_uint64.f a1).bind fun t462 => (if t462 = true then (some (decide (a0 < a1))) else (some true))) else (some (decide (a0 < a1)))) = some r := H
 have A3 := Aside0.mk A30
 clear A30
 by_cases c4 : t461 = true
 ·subst c4
  have H1 : ((cmp_isNaN_uint64.f a1).bind fun t462 => (if t462 = true then (some (decide (a0 < a1))) else (some true))) = some r := by rw [if_pos rfl] at H; exact H
  clear H
  have H := H1
  clear H1
  replace H := Option.bind_eq_some_iff.mp H
  obtain ⟨t462, A50, H⟩ := H
  replace H : (if t462 = true then (some (decide (a0 < a1))) else (some true)) = some r := H
  have A5 := Aside0.mk A50
  clear A50
  by_cases c6 : t462 = true
  ·subst c6
   have H1 : (some (decide (a0 < a1))) = some r := by rw [if_pos rfl] at H; exact H
   clear H
   have H := H1
   clear H1
   obtain rfl := Option.some.inj H
   go_enter Try.func108, Try.ntmps108
   go_wp2_with (first | ((with_reducible refine gate_callee (f := 125) rfl ?_); refine goesL_ (some 6) rfl rfl Try.func125 (by kernel_rfl) rfl #[.int .u64 a0] rfl (by (try simp only [List.map_toArray, List.map_cons, List.map_nil]); first | done | rfl | (simp only [List.length_drop, List.length_take]; rfl) | (simp only [Int.ofNat_lt, Int.ofNat_le, gt_iff_lt, ge_iff_le]; rfl)) ?_; (with_reducible refine (cmp_isNaN_uint64.calls a0 true _ A3.out).mono ?_); rintro e w' ⟨rfl, ⟨nd, rfl⟩⟩; refine ⟨_, rfl, ?_⟩) | (go_at_call 125; (with_reducible refine (cmp_isNaN_uint64.calls a1 true _ A5.out).mono ?_); rintro e w' ⟨rfl, ⟨nd, rfl⟩⟩))
   go_ret
   exact ⟨by first | rfl | (simp; done) | (simp [*]; done), by repeat (first | exact Drawn0.refl _ | apply Drawn0.step)⟩
  ·replace c6 := Bool.eq_false_iff.mpr c6
   subst c6
   have H1 : (some true) = some r := by rw [if_neg (show ¬ (false = true) by decide)] at H; exact H
   clear H
   have H := H1
   clear H1
   obtain rfl := Option.some.inj H
   go_enter Try.func108, Try.ntmps108
   go_wp2_with (first | ((with_reducible refine gate_callee (f := 125) rfl ?_); refine goesL_ (some 6) rfl rfl Try.func125 (by kernel_rfl) rfl #[.int .u64 a0] rfl (by (try simp only [List.map_toArray, List.map_cons, List.map_nil]); first | done | rfl | (simp only [List.length_drop, List.length_take]; rfl) | (simp only [Int.ofNat_lt, Int.ofNat_le, gt_iff_lt, ge_iff_le]; rfl)) ?_; (with_reducible refine (cmp_isNaN_uint64.calls a0 true _ A3.out).mono ?_); rintro e w' ⟨rfl, ⟨nd, rfl⟩⟩; refine ⟨_, rfl, ?_⟩) | (go_at_call 125; (with_reducible refine (cmp_isNaN_uint64.calls a1 false _ A5.out).mono ?_); rintro e w' ⟨rfl, ⟨nd, rfl⟩⟩))
   go_ret
   exact ⟨by first | rfl | (simp; done) | (simp [*]; done), by repeat (first | exact Drawn0.refl _ | apply Drawn0.step)⟩
 ·replace c4 := Bool.eq_false_iff.mpr c4
  subst c4
  have H1 : (some (decide (a0 < a1))) = some r := by rw [if_neg (show ¬ (false = true) by decide)] at H; exact H
  clear H
  have H := H1
  clear H1
  obtain rfl := Option.some.inj H
  go_enter Try.func108, Try.ntmps108
  go_wp2_with (first | ((with_reducible refine gate_callee (f := 125) rfl ?_); refine goesL_ (some 6) rfl rfl Try.func125 (by kernel_rfl) rfl #[.int .u64 a0] rfl (by (try simp only [List.map_toArray, List.map_cons, List.map_nil]); first | done | rfl | (simp only [List.length_drop, List.length_take]; rfl) | (simp only [Int.ofNat_lt, Int.ofNat_le, gt_iff_lt, ge_iff_le]; rfl)) ?_; (with_reducible refine (cmp_isNaN_uint64.calls a0 false _ A3.out).mono ?_); rintro e w' ⟨rfl, ⟨nd, rfl⟩⟩; refine ⟨_, rfl, ?_⟩))
  go_ret
  exact ⟨by first | rfl | (simp; done) | (simp [*]; done), by repeat (first | exact Drawn0.refl _ | apply Drawn0.step)⟩
/-! ### slices_isNaN_uint64: function 109 -/
def slices_isNaN_uint64.f (a0 : Int) : Option (Bool) := some (a0 != a0)
set_option maxHeartbeats 8000000 in
set_option maxRecDepth 100000 in
theorem slices_isNaN_uint64.calls (a0 : Int) (r : Bool) (w : World) (h : slices_isNaN_uint64.f a0 = some r) :
  Calls Try.prog 109 #[.int .u64 a0] w fun e w' => e = .returned (.bool r) ∧ Drawn0 w w' := by
 have H : (some (a0 != a0)) = some r := h
 clear h
 obtain rfl := Option.some.inj H
 go_enter Try.func109, Try.ntmps109
 go_wp2
 go_ret
 exact ⟨by first | rfl | (simp; done) | (simp [*]; done), by repeat (first | exact Drawn0.refl _ | apply Drawn0.step)⟩
/-! ### slices_insertionSortOrdered_uint64: function 134 -/
mutual
def slices_insertionSortOrdered_uint64.l0 : Nat → List Int → Int → Int → Int → Option (List Int)
 | 0, _, _, _, _ => none
 | k + 1, x0, x1, x2, x6 => if x6 < x2 then (slices_insertionSortOrdered_uint64.l1 k x0 x1 x2 x6 x6) else (some x0)
def slices_insertionSortOrdered_uint64.l1 : Nat → List Int → Int → Int → Int → Int → Option (List Int)
 | 0, _, _, _, _, _ => none
 | k + 1, x0, x1, x2, x6, x7 => if x7 > x1 then (if 0 ≤ x7 then (if x7 < (x0.length : Int) then (if 0 ≤ (wrap64 (x7 - 1)) then (if (wrap64 (x7 - 1)) < (x0.length : Int) then ((cmp_Less_uint64.f (rd x0 x7) (rd x0 (wrap64 (x7 - 1)))).bind fun t158 => (if t158 = true then (slices_insertionSortOrdered_uint64.l1 k ((x0.set (x7 : Int).toNat (rd x0 (wrap64 (x7 - 1)))).set ((wrap64 (x7 - 1)) : Int).toNat (rd x0 x7)) x1 x2 x6 (wrap64 (x7 - 1))) else (slices_insertionSortOrdered_uint64.l0 k x0 x1 x2 (wrap64 (x6 + 1))))) else (none)) else (none)) else (none)) else (none)) else (slices_insertionSortOrdered_uint64.l0 k x0 x1 x2 (wrap64 (x6 + 1)))
end
def slices_insertionSortOrdered_uint64.f (k : Nat) (l0 : List Int) (a1 : Int) (a2 : Int) : Option (List Int) := slices_insertionSortOrdered_uint64.l0 k l0 a1 a2 (wrap64 (a1 + 1))
def slices_insertionSortOrdered_uint64.T4 : Bool × List (List Nat × List Nat) := (true, [([], []), ([], []), ([0, 1], [0, 1]), ([2], [2]), ([3], [3]), ([3], [3]), ([4, 5, 3], [3, 4, 5]), ([6, 3], [3, 6]), ([3], [3]), ([3], [3]), ([9, 3], [3, 9]), ([8, 10, 3], [3, 8, 10]), ([11, 3], [3, 11]), ([7, 12, 3, 3], [3, 7, 12]), ([3, 13], [3, 13])])
def slices_insertionSortOrdered_uint64.B4 : List Nat := [0, 0, 3, 7, 15, 15, 63, 127, 15, 15, 527, 1807, 3855, 8191, 16383]
theorem slices_insertionSortOrdered_uint64.tab4 : rtab .any (opsOf Try.f134 4) = slices_insertionSortOrdered_uint64.T4 := by kernel_rfl
theorem slices_insertionSortOrdered_uint64.bits4 : waitsOk slices_insertionSortOrdered_uint64.T4.2 slices_insertionSortOrdered_uint64.B4 = true := by kernel_rfl
def slices_insertionSortOrdered_uint64.T6 : Bool × List (List Nat × List Nat) := (true, [([], []), ([], []), ([], []), ([], []), ([3], [3]), ([], []), ([], []), ([6], [6]), ([5, 7], [5, 7]), ([8], [8]), ([], []), ([], []), ([10, 11], [10, 11]), ([12], [12]), ([0, 1, 0, 1, 5, 6, 7, 8, 9, 13], [0, 1]), ([14, 9, 0, 1, 5, 6, 7, 8, 9, 13], [9, 14]), ([2, 4, 0, 1, 2, 3, 4, 5, 6, 7, 8, 9, 10, 11, 12, 13, 14, 15], [2, 4]), ([16, 13, 15, 0, 1, 2, 3, 4, 5, 6, 7, 8, 9, 10, 11, 12, 13, 14, 15], [13, 16])])
def slices_insertionSortOrdered_uint64.B6 : List Nat := [0, 0, 0, 0, 8, 0, 0, 64, 224, 480, 0, 0, 3072, 7168, 16355, 32739, 65535, 131071]
theorem slices_insertionSortOrdered_uint64.tab6 : rtab .any (opsOf Try.f134 6) = slices_insertionSortOrdered_uint64.T6 := by kernel_rfl
theorem slices_insertionSortOrdered_uint64.bits6 : waitsOk slices_insertionSortOrdered_uint64.T6.2 slices_insertionSortOrdered_uint64.B6 = true := by kernel_rfl
set_option maxHeartbeats 8000000 in
set_option maxRecDepth 100000 in
theorem slices_insertionSortOrdered_uint64.calls (k : Nat) (P0_ : Nat → Prop) (u9000_ : Value) (l0 : List Int) (a1 : Int) (a2 : Int) (r : List Int) (w0 w : World) (hB : Below w0.heap.size w0 w) (ho0 : Kd.R (Kd.int .u64) 53 w w0.heap.size P0_ u9000_ l0) (h : slices_insertionSortOrdered_uint64.f k l0 a1 a2 = some r) :
  Calls Try.prog 134 #[u9000_, .int .i64 a1, .int .i64 a2] w fun e w' => e = .returned (.tuple #[]) ∧ Kd.R (Kd.int .u64) 53 w' w0.heap.size (fun k_ => (P0_ k_ ∨ w.heap.size ≤ k_)) u9000_ r ∧ Below w0.heap.size w0 w' ∧ Kept w w' (fun k_ => P0_ k_) := by
 have HO0 := Aside0.mk (show Kd.R (Kd.int .u64) 53 w w0.heap.size (fun k_ => (P0_ k_ ∨ w.heap.size ≤ k_)) u9000_ l0 from Kd.R_mono ho0 (fun k_ hk => (.inl hk)))
 have HK := Aside0.mk (Kept.refl w (fun k_ => P0_ k_))
 have HW0 := Aside0.mk hB.size
 have HB := Aside0.mk hB
 clear hB
 have H : (slices_insertionSortOrdered_uint64.l0 k l0 a1 a2 (wrap64 (a1 + 1))) = some r := h
 clear h
 have H' := Aside0.mk H
 clear H
 go_enter Try.func134, Try.ntmps134
 go_wp2
 go_loopg [6] k (fun kq v6 w' => ∃ (x0_1 : List Int) (x6_1 : Int), v6 = .int .i64 x6_1 ∧ Aside0 (slices_insertionSortOrdered_uint64.l0 kq x0_1 a1 a2 x6_1 = some r) ∧ Aside0 (kq ≤ k) ∧ Aside0 (Kd.R (Kd.int .u64) 53 w' w0.heap.size (fun k_ => (P0_ k_ ∨ w.heap.size ≤ k_)) u9000_ x0_1) ∧ Aside0 (Kept w w' (fun k_ => P0_ k_)) ∧ Aside0 (Below w0.heap.size w0 w'))
 case atStart => exact ⟨(l0), (wrap64 (a1 + 1)), (by first | rfl | (simp; done) | (simp [*]; done)), H', ⟨Nat.le_refl _⟩, ⟨by (with_reducible repeat (first | apply Kd.R_alloc | apply Kd.R_drewN | apply Kd.R_drew)); exact HO0.out⟩, ⟨by repeat (first | (with_reducible first | exact HK.out | apply Kept.alloc | apply Kept.drewN | apply Kept.drew) | exact HK.out)⟩, ⟨(hb_ HB.out)⟩⟩
 case round =>
  clear H'
  try clear c1
  try clear p2
  obtain ⟨x0_1, x6_1, rfl, HA, HK1, HO_0, HK, HB⟩ := hrel
  cases gk with
  | zero => exact absurd HA.out (by simp [slices_insertionSortOrdered_uint64.l0])
  | succ k1 =>
   have H := HA.out
   clear HA
   simp only [slices_insertionSortOrdered_uint64.l0] at H
   by_cases c4 : x6_1 < a2
   ·rw [if_pos c4] at H
    have c4b0 : decide (x6_1 < a2) = true := decide_eq_true c4
    clear c4
    have H' := Aside0.mk H
    clear H
    go_wp2
    go_loopg [7] k1 (fun kq v7 w' => ∃ (x0_2 : List Int) (x7_2 : Int), v7 = .int .i64 x7_2 ∧ Aside0 (slices_insertionSortOrdered_uint64.l1 kq x0_2 a1 a2 x6_1 x7_2 = some r) ∧ Aside0 (kq ≤ k1) ∧ Aside0 (Kd.R (Kd.int .u64) 53 w' w0.heap.size (fun k_ => (P0_ k_ ∨ w.heap.size ≤ k_)) u9000_ x0_2) ∧ Aside0 (Kept w w' (fun k_ => P0_ k_)) ∧ Aside0 (Below w0.heap.size w0 w'))
    case atStart => exact ⟨(x0_1), (x6_1), (by first | rfl | (simp; done) | (simp [*]; done)), H', ⟨Nat.le_refl _⟩, ⟨by (with_reducible repeat (first | apply Kd.R_alloc | apply Kd.R_drewN | apply Kd.R_drew)); exact HO_0.out⟩, ⟨by repeat (first | (with_reducible first | exact HK.out | apply Kept.alloc | apply Kept.drewN | apply Kept.drew) | exact HK.out)⟩, ⟨(hb_ HB.out)⟩⟩
    case round =>
     clear H'
     try clear c1
     try clear p2
     try clear c4
     try clear c4b0
     try clear p2
     obtain ⟨x0_2, x7_2, rfl, HA, HK2, HO_0, HK, HB⟩ := hrel
     cases gk with
     | zero => exact absurd HA.out (by simp [slices_insertionSortOrdered_uint64.l1])
     | succ k2 =>
      have H := HA.out
      clear HA
      simp only [slices_insertionSortOrdered_uint64.l1] at H
      by_cases c5 : x7_2 > a1
      ·rw [if_pos c5] at H
       have c5b0 : decide (a1 < x7_2) = true := decide_eq_true c5
       clear c5
       by_cases c6 : 0 ≤ x7_2
       ·rw [if_pos c6] at H
        have c6b0 : decide (0 ≤ x7_2) = true := decide_eq_true c6
        clear c6
        by_cases c7 : x7_2 < (x0_2.length : Int)
        ·rw [if_pos c7] at H
         have c7b0 : decide (x7_2 < (x0_2.length : Int)) = true := decide_eq_true c7
         clear c7
         obtain ⟨ji8, hji8⟩ : ∃ j_ : Int, (wrap64 (x7_2 - 1)) = j_ := ⟨_, rfl⟩
         replace H : (if 0 ≤ (ji8) then (if (ji8) < (x0_2.length : Int) then ((cmp_Less_uint64.f (rd x0_2 x7_2) (rd x0_2 (ji8))).bind fun t158 => (if t158 = true then (slices_insertionSortOrdered_uint64.l1 k2 ((x0_2.set (x7_2 : Int).toNat (rd x0_2 (ji8))).set ((ji8) : Int).toNat (rd x0_2 x7_2)) a1 a2 x6_1 ji8) else (slices_insertionSortOrdered_uint64.l0 k2 x0_2 a1 a2 (wrap64 (x6_1 + 1))))) else (none)) else (none)) = some r := by first | (rw [hji8] at H; exact H) | (simp only [hji8] at H ⊢; exact H)
         have hji8w : (IntKind.i64.wrap (x7_2 - 1)) = ji8 := (i64_w _).trans hji8
         by_cases c9 : 0 ≤ (ji8)
         ·rw [if_pos c9] at H
          have c9b0 : decide (0 ≤ (ji8)) = true := decide_eq_true c9
          clear c9
          by_cases c10 : (ji8) < (x0_2.length : Int)
          ·rw [if_pos c10] at H
           have c10b0 : decide ((ji8) < (x0_2.length : Int)) = true := decide_eq_true c10
           clear c10
           replace H := Option.bind_eq_some_iff.mp H
           obtain ⟨t158, A110, H⟩ := H
           replace H : (if t158 = true then (slices_insertionSortOrdered_uint64.l1 k2 ((x0_2.set (x7_2 : Int).toNat (rd x0_2 (ji8))).set ((ji8) : Int).toNat (rd x0_2 x7_2)) a1 a2 x6_1 ji8) else (slices_insertionSortOrdered_uint64.l0 k2 x0_2 a1 a2 (wrap64 (x6_1 + 1)))) = some r := H
           have A11 := Aside0.mk A110
           clear A110
           by_cases c12 : t158 = true
           ·subst c12
            have H1 : (slices_insertionSortOrdered_uint64.l1 k2 ((x0_2.set (x7_2 : Int).toNat (rd x0_2 (ji8))).set ((ji8) : Int).toNat (rd x0_2 x7_2)) a1 a2 x6_1 ji8) = some r := by rw [if_pos rfl] at H; exact H
            clear H
            have H := H1
            clear H1
            obtain ⟨y161, hy161⟩ : ∃ y_ : List Int, y_ = (x0_2.set (x7_2 : Int).toNat (rd x0_2 (ji8))) := ⟨_, rfl⟩
            replace H : (slices_insertionSortOrdered_uint64.l1 k2 (y161.set ((ji8) : Int).toNat (rd x0_2 x7_2)) a1 a2 x6_1 ji8) = some r := by first | (rw [hy161]; with_reducible exact H) | (have H2_ := (Option.bind_some _ _).symm.trans H; rw [hy161]; with_reducible exact H2_) | (have H2_ := (Option.bind_some _ _).symm.trans H; with_reducible exact H2_) | with_reducible exact H | (rw [hy161]; exact H) | exact H
            have Ny161 := Aside0.mk hy161
            clear hy161
            obtain ⟨y162, hy162⟩ : ∃ y_ : List Int, y_ = (y161.set ((ji8) : Int).toNat (rd x0_2 x7_2)) := ⟨_, rfl⟩
            replace H : (slices_insertionSortOrdered_uint64.l1 k2 y162 a1 a2 x6_1 ji8) = some r := by first | (rw [hy162]; with_reducible exact H) | (have H2_ := (Option.bind_some _ _).symm.trans H; rw [hy162]; with_reducible exact H2_) | (have H2_ := (Option.bind_some _ _).symm.trans H; with_reducible exact H2_) | with_reducible exact H | (rw [hy162]; exact H) | exact H
            have Ny162 := Aside0.mk hy162
            clear hy162
            have H' := Aside0.mk H
            clear H
            try go_wp2
            replace HO_0 := Aside0.mk (Kd.R_drew HO_0.out)
            replace HK := Aside0.mk (Kept.drew HK.out)
            replace HB := Aside0.mk (below_drew1 HB.out)
            obtain ⟨Ao16, co16, eo16⟩ := Kd.R_slice HO_0.out
            (first | subst eo16 | (injection eo16 with f1_ f2_ f3_; have f4_ := f1_.symm; have f5_ := f3_.symm; clear f1_ f2_ f3_; subst f4_; subst f5_))
            have p156 : 0 ≤ (x7_2 : Int) := of_decide_eq_true (by first | (with_reducible assumption) | assumption)
            have q156 : x7_2 < (x0_2.length : Int) := of_decide_eq_true (by first | (with_reducible assumption) | assumption)
            obtain ⟨ad156, e156, hx156_0⟩ := Kd.at_int (Kd.R_reads' HO_0.out).2.2 x7_2 p156 q156
            cases e156
            replace p156 := eq_true p156
            replace q156 := eq_true q156
            have p157 : 0 ≤ ((ji8) : Int) := of_decide_eq_true (by first | (with_reducible assumption) | assumption)
            have q157 : (ji8) < (x0_2.length : Int) := of_decide_eq_true (by first | (with_reducible assumption) | assumption)
            obtain ⟨ad157, e157, hx157_0⟩ := Kd.at_int (Kd.R_reads' HO_0.out).2.2 (ji8) p157 q157
            obtain rfl : ad156 = ad157 := (by injection e157)
            replace p157 := eq_true p157
            replace q157 := eq_true q157
            refine start_ (n := 15) (S := fun w' => w'.cell? (ad156.add (x7_2).toNat) = some (.int .u64 (rd x0_2 x7_2)) ∧ w'.cell? (ad156.add ((ji8)).toNat) = some (.int .u64 (rd x0_2 (ji8)))) (ds := []) #[false, false, false, false, false, false, false, false, false, false, false, false, false, false, false] (by kernel_rfl) rfl rfl ⟨hx156_0, hx157_0⟩ (fun hHeld => ?_); refine with_tabW slices_insertionSortOrdered_uint64.tab4 slices_insertionSortOrdered_uint64.bits4 (fun HT_ HW_ => ?_)
            generalize wr.drew = w15 at HO_0 HK HB hx156_0 hx157_0 hHeld ⊢
            refine pu_ HT_ 0 (some 16) ?_
            refine pu_ HT_ 1 (some 17) ?_
            refine pu_ HT_ 2 (some 18) ?_
            refine pu_ HT_ 3 (some 19) ?_
            refine pu_ HT_ 4 (some 20) ?_
            refine pu_ HT_ 5 (some 21) ?_
            refine pu_ HT_ 6 (some 22) ?_
            refine pu_ HT_ 8 (some 24) ?_
            refine pu_ HT_ 9 (some 25) ?_
            refine pu_ HT_ 10 (some 26) ?_
            refine pu_ HT_ 11 (some 27) ?_
            refine tk_ HT_ HW_ 7 (some 23) hHeld ?_
            refine tk_ HT_ HW_ 12 (some 28) hHeld ?_
            refine on_ HT_ 13 (some 29) (fun K hK => ?_)
            refine goes_ Try.func108 (by kernel_rfl) rfl #[.int .u64 (rd x0_2 x7_2), .int .u64 (rd x0_2 (ji8))] (by rfl) rfl rfl (by (try simp only [List.map_toArray, List.map_cons, List.map_nil]); first | done | (simp only [hji8]; rfl) | rfl | (simp only [List.length_drop, List.length_take]; rfl)) ?_
            with_reducible refine (cmp_Less_uint64.calls (rd x0_2 x7_2) (rd x0_2 (ji8)) true _ A11.out).mono ?_
            rintro e w' ⟨rfl, ⟨nd, rfl⟩⟩
            refine ⟨_, rfl, ?_⟩
            refine hK.out _ _ ⟨hHeld.1, hHeld.2⟩ (fun hHeld => ?_)
            clear hK K
            refine nm_ (some 29) ?_
            refine pu_ HT_ 14 (some 30) ?_
            refine done_ (done_of HT_.out (by kernel_rfl)) ?_
            try go_wp2
            (try (rw [drewN_self w15]; generalize hq_ : World.drewN w15 _ = w15; have n0_ : Aside0 (Kd.R (Kd.int .u64) 53 w15 w0.heap.size (fun k_ => (P0_ k_ ∨ w.heap.size ≤ k_)) (.slice (some ad156) x0_2.length co16) x0_2) := ⟨by rw [← hq_]; exact (ra_ HO_0.out)⟩; have n1_ : Aside0 (Kept w w15 (fun k_ => P0_ k_)) := ⟨by rw [← hq_]; exact (by repeat (first | (with_reducible first | exact HK.out | apply Kept.alloc | apply Kept.drewN | apply Kept.drew) | exact HK.out))⟩; have n2_ : Aside0 (Below w0.heap.size w0 w15) := ⟨by rw [← hq_]; exact (hb_ HB.out)⟩; clear HO_0 HK HB hq_; have HO_0 := n0_; have HK := n1_; have HB := n2_; clear n0_ n1_ n2_))
            replace HO_0 := Aside0.mk (Kd.R_drew HO_0.out)
            replace HK := Aside0.mk (Kept.drew HK.out)
            replace HB := Aside0.mk (below_drew1 HB.out)
            have p159 : 0 ≤ ((ji8) : Int) := of_decide_eq_true (by first | (with_reducible assumption) | assumption)
            have q159 : (ji8) < (x0_2.length : Int) := of_decide_eq_true (by first | (with_reducible assumption) | assumption)
            obtain ⟨ad159, e159, hx159_0⟩ := Kd.at_int (Kd.R_reads' HO_0.out).2.2 (ji8) p159 q159
            obtain rfl : ad156 = ad159 := (by injection e159)
            replace p159 := eq_true p159
            replace q159 := eq_true q159
            have p160 : 0 ≤ (x7_2 : Int) := of_decide_eq_true (by first | (with_reducible assumption) | assumption)
            have q160 : x7_2 < (x0_2.length : Int) := of_decide_eq_true (by first | (with_reducible assumption) | assumption)
            obtain ⟨ad160, e160, hx160_0⟩ := Kd.at_int (Kd.R_reads' HO_0.out).2.2 x7_2 p160 q160
            obtain rfl : ad156 = ad160 := (by injection e160)
            replace p160 := eq_true p160
            replace q160 := eq_true q160
            have p13 : 0 ≤ (x7_2 : Int) := of_decide_eq_true (by first | (with_reducible assumption) | assumption)
            have q13 : (x7_2 : Int) < ((x0_2.length : Int) : Int) := of_decide_eq_true (by first | (with_reducible assumption) | assumption)
            obtain ⟨go13, co13, eo13, gb13, gl13, cl13, HG13⟩ := Kd.R_form HO_0.out (by omega)
            (first | cases eo13 | (injection eo13 with ea_ en_ ec_; (first | subst ea_ | (injection ea_ with ea_; subst ea_)); subst ec_; clear en_))
            have GB13 := Aside0.mk gb13
            have GG13 := Aside0.mk HG13
            clear gb13 gl13 HG13
            have HMgo13 := Aside0.mk (show (P0_ go13 ∨ w.heap.size ≤ go13) from (HO_0.out.1 _ rfl))
            (first | simp only [add_plain] at hx156_0 | skip)
            (first | simp only [add_plain] at hx157_0 | skip)
            (first | simp only [add_plain] at hx159_0 | skip)
            (first | simp only [add_plain] at hx160_0 | skip)
            obtain ⟨hx13_0, hf13_0⟩ := Kd.R_celln 0 HO_0.out (x7_2 : Int) p13 q13
            replace p13 := eq_true p13
            replace q13 := eq_true q13
            have HP18 := Kd.R_putn HO_0.out (x7_2 : Int) (rd x0_2 (ji8))
            rw [← Ny161.out] at HP18
            have HQ18 := Aside0.mk HP18
            clear HP18
            have p14 : 0 ≤ ((ji8) : Int) := of_decide_eq_true (by first | (with_reducible assumption) | assumption)
            have q14 : ((ji8) : Int) < ((x0_2.length : Int) : Int) := of_decide_eq_true (by first | (with_reducible assumption) | assumption)
            obtain ⟨hx14_0, hf14_0⟩ := Kd.R_celln 0 HQ18.out ((ji8) : Int) p14 q14
            replace p14 := eq_true p14
            replace q14 := eq_true q14
            have HP19 := Kd.R_putn HQ18.out ((ji8) : Int) (rd x0_2 x7_2)
            rw [← Ny162.out] at HP19
            have HQ19 := Aside0.mk HP19
            clear HP19
            refine start_ (n := 18) (S := fun w' => w'.cell? ⟨go13, ((ji8)).toNat, none⟩ = some (.int .u64 (rd x0_2 (ji8))) ∧ w'.cell? ⟨go13, (x7_2).toNat, none⟩ = some (.int .u64 (rd x0_2 x7_2))) (ds := [15, 17]) #[false, false, false, false, false, false, false, false, false, false, false, false, false, false, false, false, false, false] (by kernel_rfl) rfl rfl ⟨hx159_0, hx160_0⟩ (fun hHeld => ?_); refine with_tabW slices_insertionSortOrdered_uint64.tab6 slices_insertionSortOrdered_uint64.bits6 (fun HT_ HW_ => ?_)
            generalize w15.drew = w17 at HO_0 HK HB GG13 HQ18 HQ19 hf13_0 hf14_0 hx13_0 hx14_0 hx156_0 hx157_0 hx159_0 hx160_0 hHeld ⊢
            refine pu_ HT_ 0 (some 33) ?_
            refine pu_ HT_ 1 (some 34) ?_
            refine pu_ HT_ 2 (some 35) ?_
            refine pu_ HT_ 3 (some 36) ?_
            refine pu_ HT_ 4 (some 37) ?_
            refine pu_ HT_ 5 (some 38) ?_
            refine pu_ HT_ 6 (some 39) ?_
            refine pu_ HT_ 7 (some 40) ?_
            refine pu_ HT_ 8 (some 41) ?_
            refine pu_ HT_ 10 (some 43) ?_
            refine pu_ HT_ 11 (some 44) ?_
            refine pu_ HT_ 12 (some 45) ?_
            refine tk_ HT_ HW_ 9 (some 42) hHeld ?_
            refine tk_ HT_ HW_ 13 (some 46) hHeld ?_
            refine pu_ HT_ 14 (some 47) ?_
            refine last_ (i := 15) (N := none) #[true, true, true, true, true, true, true, true, true, true, true, true, true, true, true, true, false, false] rfl rfl (one_of HT_.out (by kernel_rfl)) (by decide) (fun K hK => ?_)
            refine skip_ (w1 := ?_) (by rfl) rfl ?_ ?_
            rotate_left
            ·go_simp
             rfl
            refine hK.out _ _ ?_
            clear hK K
            refine pu_ HT_ 16 (some 48) ?_
            refine last_ (i := 17) (N := none) #[true, true, true, true, true, true, true, true, true, true, true, true, true, true, true, true, true, true] rfl rfl (one_of HT_.out (by kernel_rfl)) (by decide) (fun K hK => ?_)
            refine skip_ (w1 := ?_) (by rfl) rfl ?_ ?_
            rotate_left
            ·go_simp
             rfl
            refine hK.out _ _ ?_
            clear hK K
            refine done_ (done_of HT_.out (by kernel_rfl)) ?_
            try go_wp2
            go_roundg k2
            case measure => have := HK1.out; have := HK2.out; omega
            case rel => exact ⟨(y162), (ji8), (by first | rfl | (simp; done) | (simp only [← hji8] <;> (first | rfl | simp)) | (simp [*]; done)), H', ⟨by have := HK1.out; have := HK2.out; omega⟩, ⟨by (with_reducible repeat (first | apply Kd.R_alloc | apply Kd.R_drewN | apply Kd.R_drew)); exact HQ19.out⟩, ⟨by repeat (first | (with_reducible first | exact HK.out | apply Kept.alloc | apply Kept.drewN | apply Kept.drew | refine Kept.setCell ?_ HMgo13.out _ | refine Kept.setCell ?_ HMgo13.out _) | exact HK.out)⟩, ⟨by repeat (first | (with_reducible first | exact HB.out | apply below_alloc | apply pw_below_drewN | apply below_drew1 | refine below_set ?_ GB13.out | refine below_set ?_ GB13.out) | exact HB.out)⟩⟩
           ·replace c12 := Bool.eq_false_iff.mpr c12
            subst c12
            have H1 : (slices_insertionSortOrdered_uint64.l0 k2 x0_2 a1 a2 (wrap64 (x6_1 + 1))) = some r := by rw [if_neg (show ¬ (false = true) by decide)] at H; exact H
            clear H
            have H := H1
            clear H1
            have H' := Aside0.mk H
            clear H
            try go_wp2
            replace HO_0 := Aside0.mk (Kd.R_drew HO_0.out)
            replace HK := Aside0.mk (Kept.drew HK.out)
            replace HB := Aside0.mk (below_drew1 HB.out)
            obtain ⟨Ao21, co21, eo21⟩ := Kd.R_slice HO_0.out
            (first | subst eo21 | (injection eo21 with f1_ f2_ f3_; have f4_ := f1_.symm; have f5_ := f3_.symm; clear f1_ f2_ f3_; subst f4_; subst f5_))
            have p156 : 0 ≤ (x7_2 : Int) := of_decide_eq_true (by first | (with_reducible assumption) | assumption)
            have q156 : x7_2 < (x0_2.length : Int) := of_decide_eq_true (by first | (with_reducible assumption) | assumption)
            obtain ⟨ad156, e156, hx156_0⟩ := Kd.at_int (Kd.R_reads' HO_0.out).2.2 x7_2 p156 q156
            cases e156
            replace p156 := eq_true p156
            replace q156 := eq_true q156
            have p157 : 0 ≤ ((ji8) : Int) := of_decide_eq_true (by first | (with_reducible assumption) | assumption)
            have q157 : (ji8) < (x0_2.length : Int) := of_decide_eq_true (by first | (with_reducible assumption) | assumption)
            obtain ⟨ad157, e157, hx157_0⟩ := Kd.at_int (Kd.R_reads' HO_0.out).2.2 (ji8) p157 q157
            obtain rfl : ad156 = ad157 := (by injection e157)
            replace p157 := eq_true p157
            replace q157 := eq_true q157
            refine start_ (n := 15) (S := fun w' => w'.cell? (ad156.add (x7_2).toNat) = some (.int .u64 (rd x0_2 x7_2)) ∧ w'.cell? (ad156.add ((ji8)).toNat) = some (.int .u64 (rd x0_2 (ji8)))) (ds := []) #[false, false, false, false, false, false, false, false, false, false, false, false, false, false, false] (by kernel_rfl) rfl rfl ⟨hx156_0, hx157_0⟩ (fun hHeld => ?_); refine with_tabW slices_insertionSortOrdered_uint64.tab4 slices_insertionSortOrdered_uint64.bits4 (fun HT_ HW_ => ?_)
            generalize wr.drew = w20 at HO_0 HK HB hx156_0 hx157_0 hHeld ⊢
            refine pu_ HT_ 0 (some 16) ?_
            refine pu_ HT_ 1 (some 17) ?_
            refine pu_ HT_ 2 (some 18) ?_
            refine pu_ HT_ 3 (some 19) ?_
            refine pu_ HT_ 4 (some 20) ?_
            refine pu_ HT_ 5 (some 21) ?_
            refine pu_ HT_ 6 (some 22) ?_
            refine pu_ HT_ 8 (some 24) ?_
            refine pu_ HT_ 9 (some 25) ?_
            refine pu_ HT_ 10 (some 26) ?_
            refine pu_ HT_ 11 (some 27) ?_
            refine tk_ HT_ HW_ 7 (some 23) hHeld ?_
            refine tk_ HT_ HW_ 12 (some 28) hHeld ?_
            refine on_ HT_ 13 (some 29) (fun K hK => ?_)
            refine goes_ Try.func108 (by kernel_rfl) rfl #[.int .u64 (rd x0_2 x7_2), .int .u64 (rd x0_2 (ji8))] (by rfl) rfl rfl (by (try simp only [List.map_toArray, List.map_cons, List.map_nil]); first | done | (simp only [hji8]; rfl) | rfl | (simp only [List.length_drop, List.length_take]; rfl)) ?_
            with_reducible refine (cmp_Less_uint64.calls (rd x0_2 x7_2) (rd x0_2 (ji8)) false _ A11.out).mono ?_
            rintro e w' ⟨rfl, ⟨nd, rfl⟩⟩
            refine ⟨_, rfl, ?_⟩
            refine hK.out _ _ ⟨hHeld.1, hHeld.2⟩ (fun hHeld => ?_)
            clear hK K
            refine nm_ (some 29) ?_
            refine pu_ HT_ 14 (some 30) ?_
            refine done_ (done_of HT_.out (by kernel_rfl)) ?_
            try go_wp2
            go_roundg k2
            case measure => have := HK1.out; have := HK2.out; omega
            case rel => exact ⟨(x0_2), (wrap64 (x6_1 + 1)), (by first | rfl | (simp; done) | (simp [*]; done)), H', ⟨by have := HK1.out; have := HK2.out; omega⟩, ⟨by (with_reducible repeat (first | apply Kd.R_alloc | apply Kd.R_drewN | apply Kd.R_drew)); exact HO_0.out⟩, ⟨by repeat (first | (with_reducible first | exact HK.out | apply Kept.alloc | apply Kept.drewN | apply Kept.drew) | exact HK.out)⟩, ⟨(hb_ HB.out)⟩⟩
          ·rw [if_neg c10] at H
           exact absurd H (by simp)
         ·rw [if_neg c9] at H
          exact absurd H (by simp)
        ·rw [if_neg c7] at H
         exact absurd H (by simp)
       ·rw [if_neg c6] at H
        exact absurd H (by simp)
      ·rw [if_neg c5] at H
       have c5b0 : decide (a1 < x7_2) = false := decide_eq_false c5
       clear c5
       have H' := Aside0.mk H
       clear H
       try go_wp2
       replace HO_0 := Aside0.mk (Kd.R_drew HO_0.out)
       replace HK := Aside0.mk (Kept.drew HK.out)
       replace HB := Aside0.mk (below_drew1 HB.out)
       refine start_ (n := 15) (S := fun w' => True) (ds := []) #[false, false, false, false, false, false, false, false, false, false, false, false, false, false, false] (by kernel_rfl) rfl rfl trivial (fun hHeld => ?_); refine with_tabW slices_insertionSortOrdered_uint64.tab4 slices_insertionSortOrdered_uint64.bits4 (fun HT_ HW_ => ?_)
       generalize wr.drew = w22 at HO_0 HK HB hHeld ⊢
       refine pu_ HT_ 0 (some 16) ?_
       refine pu_ HT_ 1 (some 17) ?_
       refine pu_ HT_ 2 (some 18) ?_
       refine pu_ HT_ 3 (some 19) ?_
       refine sk_ HT_ 4 (some 20) ?_
       refine sk_ HT_ 5 (some 21) ?_
       refine sk_ HT_ 6 (some 22) ?_
       refine sk_ HT_ 7 (some 23) ?_
       refine sk_ HT_ 8 (some 24) ?_
       refine sk_ HT_ 9 (some 25) ?_
       refine sk_ HT_ 10 (some 26) ?_
       refine sk_ HT_ 11 (some 27) ?_
       refine sk_ HT_ 12 (some 28) ?_
       refine sk_ HT_ 13 (some 29) ?_
       refine pu_ HT_ 14 (some 30) ?_
       refine done_ (done_of HT_.out (by kernel_rfl)) ?_
       try go_wp2
       go_roundg k2
       case measure => have := HK1.out; have := HK2.out; omega
       case rel => exact ⟨(x0_2), (wrap64 (x6_1 + 1)), (by first | rfl | (simp; done) | (simp [*]; done)), H', ⟨by have := HK1.out; have := HK2.out; omega⟩, ⟨by (with_reducible repeat (first | apply Kd.R_alloc | apply Kd.R_drewN | apply Kd.R_drew)); exact HO_0.out⟩, ⟨by repeat (first | (with_reducible first | exact HK.out | apply Kept.alloc | apply Kept.drewN | apply Kept.drew) | exact HK.out)⟩, ⟨(hb_ HB.out)⟩⟩
   ·rw [if_neg c4] at H
    have c4b0 : decide (x6_1 < a2) = false := decide_eq_false c4
    clear c4
    obtain rfl := Option.some.inj H
    go_wp2
    first | go_end0 | ((try simp only [Exit.inBlock, Exit.then]); refine bodyPost_ret (results_none rfl _ _ _) rfl ?_)
    exact er_ ⟨by (with_reducible repeat (first | apply Kd.R_alloc | apply Kd.R_drewN | apply Kd.R_drew)); exact HO_0.out, (hb_ HB.out), by repeat (first | (with_reducible first | exact HK.out | apply Kept.alloc | apply Kept.drewN | apply Kept.drew) | exact HK.out)⟩
end Go.Proofs.Ytackcingpffidaa.P
namespace Go.Proofs.Ytackcingpffidaa.P
open Go.RowKit Go.Proofs.YtackcingpffidaaW.PrintWords Go.Proofs.YtackcingpffidaaW.PrintLast Go.Proofs.YtackcingpffidaaW.PrintMore
set_option linter.unusedVariables false
set_option linter.unusedSimpArgs false
set_option maxHeartbeats 1000000 in
set_option maxRecDepth 100000 in
theorem f123_small (k : Nat) (P0_ : Nat → Prop) (v : Value) (l : List Int) (lim : Int) (r : List Int) (w0 w : World) (hB : Below w0.heap.size w0 w) (ho0 : Kd.R (Kd.int .u64) 53 w w0.heap.size P0_ v l) (hn : l.length ≤ 12) (h : slices_insertionSortOrdered_uint64.f k l 0 (l.length : Int) = some r) :
  Calls Try.prog 123 #[v, .int .i64 0, .int .i64 (l.length : Int), .int .i64 lim] w fun e w' => e = .returned (.tuple #[]) ∧ Kd.R (Kd.int .u64) 53 w' w0.heap.size (fun k_ => (P0_ k_ ∨ w.heap.size ≤ k_)) v r ∧ Below w0.heap.size w0 w' ∧ Kept w w' (fun k_ => P0_ k_) := by
 have HC := Aside0.mk (slices_insertionSortOrdered_uint64.calls k P0_ v l 0 (l.length : Int) r w0 w hB ho0 h)
 clear hB ho0 h
 have hd : decide ((l.length : Int) ≤ 12) = true := decide_eq_true (by omega)
 have hw : IntKind.i64.wrap ((l.length : Int) - 0) = (l.length : Int) := by rw [i64_w]; unfold wrap64; omega
 have hw2 : IntKind.i64.wrap (l.length : Int) = (l.length : Int) := by rw [i64_w]; unfold wrap64; omega
 go_enter Try.func123, Try.ntmps123
 go_wp2
 refine wp_loop_rounds 1 ?_
 rw [rounds_succ]
 go_wp2_with (go_at_call 134; refine HC.out.mono ?_; rintro e w1 ⟨rfl, h1, h2, h3⟩)
 (try simp only [Exit.inBlock, Exit.then])
 refine bodyPost_ret (results_none rfl _ _ _) rfl ?_
 exact ⟨rfl, h1, h2, h3⟩
set_option maxHeartbeats 1000000 in
set_option maxRecDepth 100000 in
theorem f103_small (k : Nat) (P0_ : Nat → Prop) (v : Value) (l : List Int) (r : List Int) (w0 w : World) (hB : Below w0.heap.size w0 w) (ho0 : Kd.R (Kd.int .u64) 53 w w0.heap.size P0_ v l) (hn : l.length ≤ 12) (h : slices_insertionSortOrdered_uint64.f k l 0 (l.length : Int) = some r) :
  Calls Try.prog 103 #[v] w fun e w' => e = .returned (.tuple #[]) ∧ Kd.R (Kd.int .u64) 53 w' w0.heap.size (fun k_ => (P0_ k_ ∨ w.heap.size ≤ k_)) v r ∧ Below w0.heap.size w0 w' ∧ Kept w w' (fun k_ => P0_ k_) := by
 obtain ⟨A, c, rfl⟩ := Kd.R_slice ho0
 have HC := Aside0.mk (fun lim => f123_small k P0_ _ l lim r w0 w hB ho0 hn h)
 have H98 : Aside0 (∀ W, Calls Try.prog 98 #[.int .u64 (l.length : Int)] W fun e w' => e = .returned (.int .i64 (Lib.bitLen l.length : Nat)) ∧ w' = W) := ⟨fun W => by
  have h_ := Any.bits_Len Try.laysBits (l.length : Int) W (by omega) (by omega)
  rwa [Int.toNat_natCast] at h_⟩
 have hu : IntKind.u64.wrap (l.length : Int) = (l.length : Int) := by simp [IntKind.wrap, IntKind.bits, IntKind.signed]; omega
 clear hB ho0 h
 go_enter Try.func103, Try.ntmps103
 go_wp2_with (first
  | (go_at_call 98; refine (H98.out _).mono ?_; rintro e w' ⟨rfl, rfl⟩)
  | (go_at_call 123; refine (HC.out _).mono ?_; rintro e w1 ⟨rfl, h1, h2, h3⟩))
 go_end0
 exact ⟨rfl, h1, h2, h3⟩
end Go.Proofs.Ytackcingpffidaa.P
namespace Go.Proofs.Ytackcingpffidaa.P
open Go.RowKit Go.Sort Go.Proofs.YtackcingpffidaaW.PrintWords Go.Proofs.YtackcingpffidaaW.PrintLast
set_option linter.unusedVariables false
set_option linter.unusedSimpArgs false
theorem holds_ints {w : World} {g : Nat} {cur : Array Value} {e : TypeId} {xs : List Int} (hb : w.heap[g]? = some (.cells cur e (0, 0))) (ht : cur.toList.take xs.length = xs.map (Value.int .u64)) : Holds (Value.int .u64) w g 0 xs.toArray := by
 intro j hj
 have hj' : j < xs.length := by simpa using hj
 refine ⟨?_, by simp [World.frozen?, hb]⟩
 have h1 : (cur.toList.take xs.length)[j]? = (xs.map (Value.int .u64))[j]? := by rw [ht]
 rw [List.getElem?_take_of_lt hj'] at h1
 simp only [World.cell?, hb, Nat.zero_add]
 simp only [Option.isSome_none, Bool.false_eq_true, if_false]
 rw [← Array.getElem?_toList, h1]
 simp [hj']
theorem heap_put {w : World} {g n : Nat} {cur : Array Value} {e : TypeId} (d : Array Int) (hb : w.heap[g]? = some (.cells cur e (0, 0))) :
  (putRow (Value.int .u64) (Sort.ahead w n) g 0 d).heap[g]? = some (.cells (putCells (Value.int .u64) 0 d cur) e (0, 0)) := by
 have hg : g < w.heap.size := (Array.getElem?_eq_some_iff.1 hb).1
 simp [putRow, mapBlock, Sort.ahead, Array.getElem?_modify, hb, onCells]
theorem grown_put {w : World} {g n : Nat} (d : Array Int) : w.grownBy (putRow (Value.int .u64) (Sort.ahead w n) g 0 d) (some g) := by
 refine ⟨rfl, rfl, rfl, by simp, fun k hk hne => ?_⟩
 have : g ≠ k := fun e => hne (by rw [e])
 simp [putRow, mapBlock, Sort.ahead, Array.getElem?_modify, this]
theorem take_put (cur : Array Value) (ts : List Int) (h : ts.length ≤ cur.size) : (putCells (Value.int .u64) 0 ts.toArray cur).toList.take ts.length = ts.map (Value.int .u64) := by
 apply List.ext_getElem?
 intro j
 by_cases hj : j < ts.length
 ·rw [List.getElem?_take_of_lt hj, Array.getElem?_toList]
  simp [putCells, hj, show j < cur.size by omega]
 ·rw [List.getElem?_take_eq_none (by omega), List.getElem?_eq_none (by simp; omega)]
set_option maxHeartbeats 1000000 in
theorem f104_nil (w : World) : Calls Try.prog 104 #[.slice none 0 0] w fun e w' => e = .returned (.slice none 0 0) ∧ w' = w := by
 go_enter Try.func104, Try.ntmps104
 go_wp2
 go_ret
 exact ⟨rfl, rfl⟩
theorem f104_own {base : Nat} {ok : Nat → Prop} {v : Value} {xs : List Int} {w : World} (h : Kd.R (Kd.int .u64) 53 w base ok v xs) (hn : xs.length ≤ 1000000) :
  Calls Try.prog 104 #[v] w fun e w' => ∃ v', e = .returned v' ∧ Kd.R (Kd.int .u64) 53 w' base ok v' (Lib.compact xs) ∧ w.grownBy w' v.ownBlock ∧ v'.ownBlock = v.ownBlock := by
 have hok := h.1
 have ho := Kd.own_of_R (enc := Value.int .u64) (h1 := fun _ => rfl) h
 obtain ⟨hl, hr⟩ := ho
 rcases hr with ⟨rfl, h0⟩ | ⟨g, cap, cur, rfl, hb, hh, h1, h2, h3, h4⟩
 ·obtain rfl : xs = [] := List.eq_nil_of_length_eq_zero h0
  refine (f104_nil w).mono ?_
  rintro e w' ⟨rfl, rfl⟩
  exact ⟨_, rfl, by simpa [Lib.compact, Lib.compactUpTo] using h, World.grownBy.refl _ _, rfl⟩
 ·have h5 : cur.toList.take xs.length = xs.map (Value.int .u64) := by rw [Nat.mul_one] at h4; exact h4
  refine (AnyE.slices_Compact (α := Int) Try.laysCompact (Value.int .u64) (fun _ => rfl) (EqlAt.intD _ _ _) (NeqAt.intD _ _ _) 0 Try.zeroValue53 g 0 cap xs.toArray w (holds_ints hh h5) (by simp; omega) h1).mono ?_
  rintro e w' ⟨rfl, n, rfl⟩
  have hc : (Lib.compact xs).length ≤ xs.length := by
   unfold Lib.compact Lib.compactUpTo
   rw [List.length_map]
   exact Nat.le_trans (List.length_filter_le _ _) (by simp)
  have hh2 := heap_put (n := n) (Lib.compact xs ++ List.replicate (xs.length - (Lib.compact xs).length) 0).toArray hh
  have hg2 := grown_put (w := w) (g := g) (n := n) (Lib.compact xs ++ List.replicate (xs.length - (Lib.compact xs).length) 0).toArray
  refine ⟨_, rfl, ?_, by simpa [Value.ownBlock, Lib.compact] using hg2, by simp [Value.ownBlock]⟩
  refine Kd.R_of_own (enc := Value.int .u64) (h1 := fun _ => rfl) ⟨by simp [encs], .inr ⟨g, cap, _, rfl, hb, hh2, by omega, h2, by simp [putCells, h3], ?_⟩⟩ (fun k hk => hok k (by simpa [Value.ownBlock] using hk))
  rw [Nat.mul_one]
  have ht := take_put cur (Lib.compact xs ++ List.replicate (xs.length - (Lib.compact xs).length) 0) (by simp; omega)
  have h6 := congrArg (List.take (Lib.compact xs).length) ht
  rw [List.take_take, List.map_append, List.take_left' (by simp), Nat.min_eq_left (by simp)] at h6
  exact h6
end Go.Proofs.Ytackcingpffidaa.P
namespace Go.Proofs.Ytackcingpffidaa.P
open Go.RowKit Go.Proofs.YtackcingpffidaaW.PrintWords Go.Proofs.YtackcingpffidaaW.PrintLast Go.Proofs.YtackcingpffidaaW.PrintMore
set_option linter.unusedVariables false
set_option linter.unusedSimpArgs false
/-- What a sort of numbers gives: the function rs, at the lists that it holds for. -/
def Sorts (rs : List Int → Option (List Int)) : Prop := ∀ (w0 w : World) (ok : Nat → Prop) (v : Value) (l r : List Int), Below w0.heap.size w0 w → Kd.R (Kd.int .u64) 53 w w0.heap.size ok v l → l.length ≤ 1000000 → rs l = some r →
 Calls Try.prog 103 #[v] w fun e w' => e = .returned (.tuple #[]) ∧ Kd.R (Kd.int .u64) 53 w' w0.heap.size ok v r ∧ w.grownBy w' v.ownBlock
def sort12 (k : Nat) (l : List Int) : Option (List Int) := if l.length ≤ 12 then slices_insertionSortOrdered_uint64.f k l 0 (l.length : Int) else none
theorem sorts12 (k : Nat) : Sorts (sort12 k) := by
 intro w0 w ok v l r hB h hn hs
 unfold sort12 at hs
 by_cases h12 : l.length ≤ 12
 ·rw [if_pos h12] at hs
  have hok := h.1
  have h0 : Kd.R (Kd.int .u64) 53 w w0.heap.size (fun k => some k = v.ownBlock) v l := Kd.R_of_own (enc := Value.int .u64) (h1 := fun _ => rfl) (Kd.own_of_R (enc := Value.int .u64) (h1 := fun _ => rfl) h) (fun k hk => hk.symm)
  refine (f103_small k (fun k => some k = v.ownBlock) v l r w0 w hB h0 h12 hs).mono ?_
  rintro e w' ⟨rfl, h1, h2, h3⟩
  refine ⟨rfl, ?_, ?_⟩
  ·exact Kd.R_of_own (enc := Value.int .u64) (h1 := fun _ => rfl) (Kd.own_of_R (enc := Value.int .u64) (h1 := fun _ => rfl) h1) hok
  ·exact ⟨h2.os.trans hB.os.symm, h2.tape.trans hB.tape.symm, h2.output.trans hB.output.symm, h3.1, fun k hk hne => h3.2 k hk (fun e => hne e)⟩
 ·rw [if_neg h12] at hs
  exact absurd hs (by simp)
/-- The first m of a row of the call's own. -/
theorem R_take {w : World} {base : Nat} {ok : Nat → Prop} {A : Option Addr} {c : Nat} {xs : List Int} (h : Kd.R (Kd.int .u64) 53 w base ok (.slice A xs.length c) xs) (m : Nat) (hm : m ≤ xs.length) (hp : 0 < m) : Kd.R (Kd.int .u64) 53 w base ok (.slice A m c) (xs.take m) := by
 have hok := h.1
 have ho := Kd.own_of_R (enc := Value.int .u64) (h1 := fun _ => rfl) h
 obtain ⟨hl, hr⟩ := ho
 rcases hr with ⟨h_, h0⟩ | ⟨g, cap, cur, hv, hb, hh, h1, h2, h3, h4⟩
 ·omega
 ·obtain ⟨rfl, -, rfl⟩ : A = some ⟨g, 0, none⟩ ∧ xs.length = xs.length ∧ c = cap := by simpa using hv
  refine Kd.R_of_own (enc := Value.int .u64) (h1 := fun _ => rfl) ⟨by simp [encs], .inr ⟨g, c, cur, by simp; omega, hb, hh, by simp; omega, h2, h3, ?_⟩⟩ (fun k hk => hok k (by simpa [Value.ownBlock] using hk))
  rw [Nat.mul_one] at h4 ⊢
  have h6 := congrArg (List.take (xs.take m).length) h4
  rw [List.take_take, Nat.min_eq_left (by simp; omega)] at h6
  rw [h6]
  simp [encs]
theorem R_ad {w : World} {base : Nat} {ok : Nat → Prop} {A : Option Addr} {c : Nat} {xs : List Int} (h : Kd.R (Kd.int .u64) 53 w base ok (.slice A xs.length c) xs) (hp : 0 < xs.length) : ∃ g, A = some ⟨g, 0, none⟩ := by
 have ho := Kd.own_of_R (enc := Value.int .u64) (h1 := fun _ => rfl) h
 obtain ⟨hl, hr⟩ := ho
 rcases hr with ⟨h_, h0⟩ | ⟨g, cap, cur, hv, hb, hh, h1, h2, h3, h4⟩
 ·omega
 ·exact ⟨g, by simpa using (Value.slice.inj hv).1⟩
/-- What sketch.smallest returns. -/
def smallS (rs : List Int → Option (List Int)) (l : List Int) : Option (List Int × Bool) := (rs l).bind fun s => if 32 < (Lib.compact s).length then some ((Lib.compact s).take 32, false) else some (Lib.compact s, true)
set_option maxHeartbeats 2000000 in
set_option maxRecDepth 100000 in
theorem f57_own (rs : List Int → Option (List Int)) (hS : Sorts rs) (hlen : ∀ l r, rs l = some r → r.length = l.length) (w0 w : World) (ok : Nat → Prop) (v : Value) (l r : List Int) (b : Bool) (hB : Below w0.heap.size w0 w) (h : Kd.R (Kd.int .u64) 53 w w0.heap.size ok v l) (hn : l.length ≤ 1000000) (hs : smallS rs l = some (r, b)) :
  Calls Try.prog 57 #[v] w fun e w' => ∃ v', e = .returned (.tuple #[v', .bool b]) ∧ Kd.R (Kd.int .u64) 53 w' w0.heap.size ok v' r ∧ w.grownBy w' v.ownBlock ∧ (∀ k, v'.ownBlock = some k → v.ownBlock = some k) := by
 unfold smallS at hs
 obtain ⟨s, hs1, hs2⟩ := Option.bind_eq_some_iff.mp hs
 have hsl := hlen l s hs1
 have H103 := Aside0.mk (hS w0 w ok v l s hB h hn hs1)
 have hwp : ∀ W, Kd.R (Kd.int .u64) 53 W w0.heap.size ok v s → True := fun _ _ => trivial
 clear hS hlen hs hs1
 by_cases h32 : 32 < (Lib.compact s).length
 ·rw [if_pos h32] at hs2
  obtain ⟨rfl, rfl⟩ := Prod.mk.inj (Option.some.inj hs2)
  have hd : decide ((32 : Int) < (Lib.compact s).length) = true := decide_eq_true (by omega)
  have h32n : 32 ≤ (Lib.compact s).length := by omega
  clear hs2 h32
  go_enter Try.func57, Try.ntmps57
  go_wp2_with (first
   | (go_at_call 103; refine H103.out.mono ?_; rintro e w1 ⟨rfl, h1, hg1⟩; have HG1 := Aside0.mk hg1; have HR1 := Aside0.mk h1; clear hg1 h1)
   | (go_at_call 104; refine (f104_own HR1.out (by omega)).mono ?_; rintro e w2 ⟨v2, rfl, h2, hg2, hv2⟩; obtain ⟨A2, c2, rfl⟩ := Kd.R_slice h2; obtain ⟨g2, rfl⟩ := R_ad h2 (by omega); have hcap := (Kd.R_reads' h2).2.1; have hc32 : (32 : Int) ≤ (c2 : Int) := (by omega); have HG2 := Aside0.mk hg2; have HR2 := Aside0.mk h2; have HV2 := Aside0.mk hv2; clear hg2 h2 hv2))
  go_ret2
  exact ⟨_, rfl, R_take HR2.out 32 h32n (by omega), HG1.out.trans HG2.out, fun k hk => HV2.out ▸ hk⟩
 ·rw [if_neg h32] at hs2
  obtain ⟨rfl, rfl⟩ := Prod.mk.inj (Option.some.inj hs2)
  have hd : decide ((32 : Int) < (Lib.compact s).length) = false := decide_eq_false (by omega)
  clear hs2 h32
  go_enter Try.func57, Try.ntmps57
  go_wp2_with (first
   | (go_at_call 103; refine H103.out.mono ?_; rintro e w1 ⟨rfl, h1, hg1⟩; have HG1 := Aside0.mk hg1; have HR1 := Aside0.mk h1; clear hg1 h1)
   | (go_at_call 104; refine (f104_own HR1.out (by omega)).mono ?_; rintro e w2 ⟨v2, rfl, h2, hg2, hv2⟩; obtain ⟨A2, c2, rfl⟩ := Kd.R_slice h2; have HG2 := Aside0.mk hg2; have HR2 := Aside0.mk h2; have HV2 := Aside0.mk hv2; clear hg2 h2 hv2))
  go_ret2
  exact ⟨_, rfl, HR2.out, HG1.out.trans HG2.out, fun k hk => HV2.out ▸ hk⟩
end Go.Proofs.Ytackcingpffidaa.P
namespace Go.Proofs.Ytackcingpffidaa.P
open Go.RowKit Go.Proofs.YtackcingpffidaaW.PrintWords Go.Proofs.YtackcingpffidaaW.PrintLast Go.Proofs.YtackcingpffidaaW.PrintMore
set_option linter.unusedVariables false
set_option linter.unusedSimpArgs false
set_option maxHeartbeats 2000000 in
set_option maxRecDepth 100000 in
theorem f56_calls (gc : Nat) (t : TypeId) (cs : List Int) (w : World) (hcs : cs.length = 256) (hb : w.heap[gc]? = some (.cells (cs.map (Value.int .i64)).toArray t (0, 0))) :
  Calls Try.prog 56 #[.pointer (some ⟨gc, 0, none⟩)] w fun e w' => ∃ v, e = .returned v ∧ Kd.R (Kd.int .i64) 3 w' w.heap.size (fun _ => True) v cs ∧ Below w.heap.size w w' := by
 have HBK := Aside0.mk hb
 have HCS := Aside0.mk hcs
 clear hb hcs
 go_enter Try.func56, Try.ntmps56
 go_wp2
 go_loopg [3, 5] 4 (fun kq v3 v5 w' => ∃ i : Nat, v5 = .int .i64 i ∧ i ≤ 4 ∧ Aside0 (kq + i = 4) ∧ Aside0 (Kd.R (Kd.int .i64) 3 w' w.heap.size (fun _ => True) v3 (cs.take (i * 64))) ∧ Aside0 (Below w.heap.size w w'))
 case atStart => exact ⟨0, rfl, by omega, ⟨rfl⟩, ⟨by rw [Nat.zero_mul, List.take_zero]; exact Kd.R_nil _ _ _ _ _⟩, ⟨Below.refl _ _⟩⟩
 case round =>
  obtain ⟨i, rfl, hi, HK, HR, HB⟩ := hrel
  by_cases h4 : i < 4
  ·cases gk with
   | zero => exact absurd HK.out (by omega)
   | succ k1 =>
    have hd1 : decide ((i : Int) < 4) = true := decide_eq_true (by omega)
    have hw2 : IntKind.i64.wrap ((i : Int) + 1) = ((i + 1 : Nat) : Int) := by rw [i64_w]; unfold wrap64; omega
    obtain ⟨A3, c3, rfl⟩ := Kd.R_slice HR.out
    have hlt : (i : Int) < 4 := by omega
    have HC : Aside0 (Kd.C (Kd.int .i64) wr (some ⟨gc, i * 64, none⟩) 64 ((cs.drop (i * 64)).take 64)) := ⟨by
     have hl : ((cs.drop (i * 64)).take 64).length = 64 := by rw [List.length_take, List.length_drop]; have := HCS.out; omega
     have hbk := blk_below HBK.out HB.out
     refine Kd.C_of_reads (enc := Value.int .i64) (d := (0 : Int)) (h1 := fun _ => rfl) ⟨hl, by decide, fun _ => ⟨_, rfl, fun j hj => ?_⟩⟩
     have hj2 : j < 64 := by omega
     have hcs := HCS.out
     rw [show (⟨gc, i * 64, none⟩ : Addr).add j = ⟨gc, i * 64 + j, none⟩ from by unfold Addr.add; split <;> simp_all, blk_cell hbk]
     simp [hj2, show i * 64 + j < cs.length by omega]⟩
    have HN := Aside0.mk (show (cs.take (i * 64)).length = i * 64 from by rw [List.length_take]; have := HCS.out; omega)
    have hn := HN.out
    have hz := below_size HB.out
    have HT : Aside0 (cs.take (i * 64) ++ (cs.drop (i * 64)).take 64 = cs.take ((i + 1) * 64)) := ⟨by rw [Nat.add_mul, Nat.one_mul, List.take_add]⟩
    go_wp2_with ((with_reducible refine gate_dst (N := 14) rfl ?_); refine Kd.R_append_row (Value.int .i64) 0 (h1 := fun _ => rfl) (w0 := w) (W := wr) w.heap.size rfl (.tmp 8) (.tmp 13) 23 3 (.int .i64 0) 8 rfl Try.underlying23 info3 rfl (by decide) _ (cs.take (i * 64)) ((cs.drop (i * 64)).take 64) _ 64 64 (fun _ => True) rfl rfl (fun _ _ => trivial) HR.out HC.out HB.out hz (by omega) ?_; intro v1 w1 hR1 hB1 _ _; have HR1 := Aside0.mk hR1; have HB1 := Aside0.mk hB1; clear hR1 hB1)
    go_roundg k1
    case measure => omega
    case rel => exact ⟨i + 1, int_eq (by omega), by omega, ⟨by have := HK.out; omega⟩, ⟨by rw [← HT.out]; exact HR1.out⟩, HB1⟩
  ·obtain rfl : i = 4 := by omega
   cases gk with
   | succ k1 => exact absurd HK.out (by omega)
   | zero =>
    have hd1 : decide ((4 : Int) < 4) = false := rfl
    go_wp2
    go_ret
    refine ⟨_, rfl, ?_, HB.out⟩
    have h_ := HR.out
    rwa [List.take_of_length_le (by have := HCS.out; omega)] at h_
end Go.Proofs.Ytackcingpffidaa.P
