/- What Go functions of the given program return, told as Lean functions, and the walks that show it, with plain facts on them: H68. Conditions: the hypotheses that stand at each theorem. -/
import Derived.Test.YtackcingpffidaaZe0
import Derived.Test.YtackcingpffidaaZe1
namespace Go.Proofs.Ytackcingpffidaa.P
open Go.RowKit Go.Proofs.YtackcingpffidaaW.PrintWords Go.Proofs.YtackcingpffidaaW.PrintLast Go.Proofs.YtackcingpffidaaW.PrintMore
set_option linter.unusedVariables false
set_option linter.unusedSimpArgs false
def f68_T7 : Bool × List (List Nat × List Nat) := (true, [([], []), ([0], [0]), ([1], [1]), ([2, 1], [2]), ([3], [3]), ([4, 3], [3, 4]), ([5, 3], [3, 5]), ([3, 6], [3, 6]), ([7, 3], [7]), ([8], [8]), ([9, 8], [8, 9]), ([8], [8]), ([11, 8], [8, 11]), ([12, 8], [8, 12]), ([13, 8], [8, 13]), ([14, 8], [8, 14]), ([10, 15, 8], [8, 10, 15]), ([8, 16], [8, 16]), ([17, 8], [17]), ([18], [18]), ([19, 18], [18, 19]), ([20, 18, 18], [18, 20]), ([21], [21]), ([22, 21], [21, 22]), ([21], [21]), ([24, 21], [21, 24]), ([23, 25, 21], [21, 23, 25]), ([26, 21], [21, 26]), ([21], [21]), ([27, 28, 21, 21], [21, 27, 28]), ([29, 21], [21, 29]), ([21, 30, 18], [18, 21, 30]), ([18, 31], [18, 31])])
def f68_B7 : List Nat := [0, 1, 3, 7, 15, 31, 63, 127, 255, 511, 1023, 511, 2559, 6655, 14847, 31231, 65535, 131071, 262143, 524287, 1048575, 2097151, 4194303, 8388607, 4194303, 20971519, 67108863, 134217727, 4194303, 536870911, 1073741823, 2147483647, 4294967295]
set_option maxRecDepth 100000 in
theorem f68_tab7 : rtab .any (opsOf Try.f68 7) = f68_T7 := by kernel_rfl
theorem f68_bits7 : waitsOk f68_T7.2 f68_B7 = true := by kernel_rfl
def f68_T19 : Bool × List (List Nat × List Nat) := (true, [([], []), ([0], [0]), ([], []), ([2], [2]), ([3], [3]), ([1, 4], [1, 4]), ([5], [5]), ([], []), ([7], [7]), ([], []), ([9], [9]), ([8, 10], [8, 10]), ([11], [11]), ([6, 12], [6, 12])])
def f68_B19 : List Nat := [0, 1, 0, 4, 12, 31, 63, 0, 128, 0, 512, 1920, 3968, 8191]
set_option maxRecDepth 100000 in
theorem f68_tab19 : rtab .any (opsOf Try.f68 19) = f68_T19 := by kernel_rfl
theorem f68_bits19 : waitsOk f68_T19.2 f68_B19 = true := by kernel_rfl
set_option maxHeartbeats 8000000 in
set_option maxRecDepth 100000 in
theorem f68_calls (a0 a1 : Int) (A2 : Option Addr) (c2 : Nat) (l2 : List Int) (b3 : Bool) (A4 : Option Addr) (c4 : Nat) (l4 : List Int) (A5 : Option Addr) (c5 : Nat) (l5 : List S39) (A6 : Option Addr) (c6 : Nat) (l6 : List Int) (n : Int) (w : World) (hr5 : Kd.C k39 w A5 l5.length l5) (hr6 : Kd.C (Kd.int .i64) w A6 l6.length l6) :
  Calls Try.prog 68 #[.agg #[.int .i64 a0, .int .i64 a1, .slice A2 l2.length c2, .bool b3, .slice A4 l4.length c4, .slice A5 l5.length c5, .slice A6 l6.length c6], .int .i64 n] w fun e w' => e = .returned (.bool (fencesB l5 l6 n)) ∧ Below w.heap.size w w' := by
 have HR5 := Aside0.mk hr5
 have HR6 := Aside0.mk hr6
 clear hr5 hr6
 by_cases h17 : 17 < l5.length
 ·have hd : decide ((17 : Int) < l5.length) = true := decide_eq_true (by omega)
  have HV : Aside0 (fencesB l5 l6 n = false) := ⟨by unfold fencesB; rw [if_pos h17]⟩
  go_enter Try.func68, Try.ntmps68
  go_wp2_with ((with_reducible refine gate_dst (N := 2) rfl ?_); refine box_ 2 (cs := #[.int .i64 a0, .int .i64 a1, .slice A2 l2.length c2, .bool b3, .slice A4 l4.length c4, .slice A5 l5.length c5, .slice A6 l6.length c6]) (t := 26) ?_; intro gb hg_ w1 hbox hb; have BK := Aside0.mk hbox; have HB := Aside0.mk hb; have hgb : w.heap.size ≤ gb := Nat.le_of_eq hg_.symm; have b5 : w1.cell? ⟨gb, 5, none⟩ = some (.slice A5 l5.length c5) := (blk_cell BK.out 5).trans rfl; have b6 : w1.cell? ⟨gb, 6, none⟩ = some (.slice A6 l6.length c6) := (blk_cell BK.out 6).trans rfl; clear hb hbox hg_)
  go_ret
  exact ⟨by rw [HV.out]; rfl, HB.out⟩
 have hd17 : decide ((17 : Int) < l5.length) = false := decide_eq_false (by omega)
 obtain ⟨kb, hkb⟩ : ∃ b, ((l5.length : Int) == 0) = b := ⟨_, rfl⟩
 obtain ⟨nb, hnb⟩ : ∃ b, (n == 0) = b := ⟨_, rfl⟩
 have hcase : (kb = true ∧ nb = false) ∨ (kb = false ∧ nb = true) ∨ kb = nb := by cases kb <;> cases nb <;> simp
 rcases hcase with ⟨rfl, rfl⟩ | ⟨rfl, rfl⟩ | rfl
 ·have HV : Aside0 (fencesB l5 l6 n = false) := ⟨by
   unfold fencesB
   rw [if_neg h17, if_neg]
   intro h
   have h1 : l5.length = 0 := by have := eq_of_beq hkb; omega
   have h2 : ¬ n = 0 := by simpa using hnb
   exact h2 (h ▸ h1)⟩
  go_enter Try.func68, Try.ntmps68
  go_wp2_with ((with_reducible refine gate_dst (N := 2) rfl ?_); refine box_ 2 (cs := #[.int .i64 a0, .int .i64 a1, .slice A2 l2.length c2, .bool b3, .slice A4 l4.length c4, .slice A5 l5.length c5, .slice A6 l6.length c6]) (t := 26) ?_; intro gb hg_ w1 hbox hb; have BK := Aside0.mk hbox; have HB := Aside0.mk hb; have hgb : w.heap.size ≤ gb := Nat.le_of_eq hg_.symm; have b5 : w1.cell? ⟨gb, 5, none⟩ = some (.slice A5 l5.length c5) := (blk_cell BK.out 5).trans rfl; have b6 : w1.cell? ⟨gb, 6, none⟩ = some (.slice A6 l6.length c6) := (blk_cell BK.out 6).trans rfl; clear hb hbox hg_)
  go_ret
  exact ⟨by rw [HV.out]; rfl, HB.out⟩
 ·have HV : Aside0 (fencesB l5 l6 n = false) := ⟨by
   unfold fencesB
   rw [if_neg h17, if_neg]
   intro h
   have h1 : n = 0 := eq_of_beq hnb
   have h2 : ¬ l5.length = 0 := by have : ¬ ((l5.length : Int) = 0) := by simpa using hkb
                                   omega
   exact h2 (h.symm ▸ h1)⟩
  go_enter Try.func68, Try.ntmps68
  go_wp2_with ((with_reducible refine gate_dst (N := 2) rfl ?_); refine box_ 2 (cs := #[.int .i64 a0, .int .i64 a1, .slice A2 l2.length c2, .bool b3, .slice A4 l4.length c4, .slice A5 l5.length c5, .slice A6 l6.length c6]) (t := 26) ?_; intro gb hg_ w1 hbox hb; have BK := Aside0.mk hbox; have HB := Aside0.mk hb; have hgb : w.heap.size ≤ gb := Nat.le_of_eq hg_.symm; have b5 : w1.cell? ⟨gb, 5, none⟩ = some (.slice A5 l5.length c5) := (blk_cell BK.out 5).trans rfl; have b6 : w1.cell? ⟨gb, 6, none⟩ = some (.slice A6 l6.length c6) := (blk_cell BK.out 6).trans rfl; clear hb hbox hg_)
  go_ret
  exact ⟨by rw [HV.out]; rfl, HB.out⟩
 have hd0 : (kb != kb) = false := by cases kb <;> rfl
 have hdw : IntKind.i64.wrap (2 * (l5.length : Int)) = ((2 * l5.length : Nat) : Int) := by rw [i64_w]; unfold wrap64; omega
 have HKN : Aside0 ((l5.length = 0) = (n = 0)) := ⟨by
  rw [eq_iff_iff]
  have h1 : (l5.length = 0) ↔ kb = true := by rw [← hkb, beq_iff_eq]; omega
  have h2 : (n = 0) ↔ kb = true := by rw [← hnb, beq_iff_eq]
  rw [h1, h2]⟩
 by_cases h6 : ¬ l6.length = 2 * l5.length
 ·have hd : ((l6.length : Int) != ((2 * l5.length : Nat) : Int)) = true := by simp; omega
  have HV : Aside0 (fencesB l5 l6 n = false) := ⟨by
   unfold fencesB
   rw [if_neg h17, if_pos HKN.out, if_neg h6]⟩
  go_enter Try.func68, Try.ntmps68
  go_wp2_with ((with_reducible refine gate_dst (N := 2) rfl ?_); refine box_ 2 (cs := #[.int .i64 a0, .int .i64 a1, .slice A2 l2.length c2, .bool b3, .slice A4 l4.length c4, .slice A5 l5.length c5, .slice A6 l6.length c6]) (t := 26) ?_; intro gb hg_ w1 hbox hb; have BK := Aside0.mk hbox; have HB := Aside0.mk hb; have hgb : w.heap.size ≤ gb := Nat.le_of_eq hg_.symm; have b5 : w1.cell? ⟨gb, 5, none⟩ = some (.slice A5 l5.length c5) := (blk_cell BK.out 5).trans rfl; have b6 : w1.cell? ⟨gb, 6, none⟩ = some (.slice A6 l6.length c6) := (blk_cell BK.out 6).trans rfl; clear hb hbox hg_)
  go_ret
  exact ⟨by rw [HV.out]; rfl, HB.out⟩
 have h6 : l6.length = 2 * l5.length := by omega
 have hd6 : ((l6.length : Int) != ((2 * l5.length : Nat) : Int)) = false := by simp; omega
 have hd6b : ((l6.length : Int) != 2 * (l5.length : Int)) = false := by simp; omega
 have h5 : l5.length ≤ 17 := by omega
 obtain ⟨R0, hR0⟩ : ∃ b, (l5.length == 0 || (rd l6 0 == 0 && rd l6 (2 * (l5.length : Int) - 1) == n)) = b := ⟨_, rfl⟩
 obtain ⟨R1, hR1⟩ : ∃ b, (allN (tOk l6) 1 (l5.length - 1) && R0) = b := ⟨_, rfl⟩
 obtain ⟨R2, hR2⟩ : ∃ b, (allN (rOk l6 n) 0 (2 * l5.length) && R1) = b := ⟨_, rfl⟩
 have HV : Aside0 (fencesB l5 l6 n = (allN (fOk l5) 0 l5.length && R2)) := ⟨by
  unfold fencesB
  rw [if_neg h17, if_pos HKN.out, if_pos h6, ← hR2, ← hR1, ← hR0]
  simp only [Bool.and_assoc]⟩
 have E0 := Aside0.mk hR0
 have E1 := Aside0.mk hR1
 have E2 := Aside0.mk hR2
 have HKB := Aside0.mk hkb
 have HL6 := Aside0.mk h6
 clear hR0 hR1 hR2 h17 h6
 go_enter Try.func68, Try.ntmps68
 go_wp2_with ((with_reducible refine gate_dst (N := 2) rfl ?_); refine box_ 2 (cs := #[.int .i64 a0, .int .i64 a1, .slice A2 l2.length c2, .bool b3, .slice A4 l4.length c4, .slice A5 l5.length c5, .slice A6 l6.length c6]) (t := 26) ?_; intro gb hg_ w1 hbox hb; have BK := Aside0.mk hbox; have HB := Aside0.mk hb; have hgb : w.heap.size ≤ gb := Nat.le_of_eq hg_.symm; have b5 : w1.cell? ⟨gb, 5, none⟩ = some (.slice A5 l5.length c5) := (blk_cell BK.out 5).trans rfl; have b6 : w1.cell? ⟨gb, 6, none⟩ = some (.slice A6 l6.length c6) := (blk_cell BK.out 6).trans rfl; clear hb hbox hg_)
 clear hnb hd0 hdw hd6 hd6b hd17
 go_loopg [34] l5.length (fun kq v34 w' => ∃ i : Nat, v34 = .int .i64 i ∧ i ≤ l5.length ∧ Aside0 (kq + i = l5.length) ∧ Aside0 (fencesB l5 l6 n = (allN (fOk l5) i kq && R2)) ∧ Aside0 (w'.heap[gb]? = some (.cells #[.int .i64 a0, .int .i64 a1, .slice A2 l2.length c2, .bool b3, .slice A4 l4.length c4, .slice A5 l5.length c5, .slice A6 l6.length c6] 26 (0, 0))) ∧ Aside0 (Below w.heap.size w w'))
 case atStart => exact ⟨0, rfl, Nat.zero_le _, ⟨by omega⟩, HV, BK, HB⟩
 case round =>
  clear BK HB b5 b6 hkb
  obtain ⟨i, rfl, hi, HK, HQ, BK, HB⟩ := hrel
  by_cases hl : i < l5.length
  ·cases gk with
   | zero => exact absurd HK.out (by omega)
   | succ k1 =>
    obtain ⟨ad, rfl, hx0, hx1, hx2⟩ := at_T39 HR5.out (i : Int) (by omega) (by omega)
    rw [Int.toNat_natCast] at hx0 hx1 hx2
    have HX0 := Aside0.mk hx0
    have HX1 := Aside0.mk hx1
    have HX2 := Aside0.mk hx2
    replace hx0 := up_ HB.out hx0
    replace hx1 := up_ HB.out hx1
    replace hx2 := up_ HB.out hx2
    obtain ⟨x, hxx⟩ : ∃ x, rd_T39 l5 i = x := ⟨_, rfl⟩
    rw [hxx] at hx0 hx1 hx2
    have HXX := Aside0.mk hxx
    clear hxx
    go_upto_region 7 with (fail)
    have hji : i - 1 < l5.length := by omega
    obtain ⟨ad1, e1, hy0, hy1, hy2⟩ := at_T39 HR5.out ((i - 1 : Nat) : Int) (by omega) (by omega)
    obtain rfl := Option.some.inj e1
    clear e1
    obtain ⟨ad1, e1, hv0, hv1, hv2⟩ := at_T39 HR5.out 0 (by omega) (by omega)
    obtain rfl := Option.some.inj e1
    clear e1 hv1 hv2
    rw [Int.toNat_natCast] at hy0 hy1 hy2
    obtain ⟨y, hyy⟩ : ∃ y, rd_T39 l5 ((i - 1 : Nat) : Int) = y := ⟨_, rfl⟩
    obtain ⟨v, hvv⟩ : ∃ y, rd_T39 l5 0 = y := ⟨_, rfl⟩
    rw [hyy] at hy0 hy1 hy2
    rw [hvv] at hv0
    obtain ⟨vb, hvb⟩ : ∃ b, vV x = b := ⟨_, rfl⟩
    obtain ⟨zb, hzb⟩ : ∃ b, (x.f0 == 0) = b := ⟨_, rfl⟩
    obtain ⟨qb, hqb⟩ : ∃ b, (x.f0 != v.f0) = b := ⟨_, rfl⟩
    obtain ⟨ib, hib⟩ : ∃ b, decide (0 < i) = b := ⟨_, rfl⟩
    obtain ⟨cc, hcc⟩ : ∃ c, cV y x = c := ⟨_, rfl⟩
    obtain ⟨cb, hcb⟩ : ∃ b, decide (0 ≤ cc) = b := ⟨_, rfl⟩
    have HOK : Aside0 (fOk l5 i = (vb && !zb && !qb && !(ib && cb))) := ⟨by
     unfold fOk
     rw [HXX.out, hvv, hvb, hzb, hqb]
     by_cases h0 : 0 < i
     ·rw [show ((i : Int) - 1) = ((i - 1 : Nat) : Int) from by omega, hyy, hcc, hcb, ← hib]
      (try simp [h0])
     ·obtain rfl : ib = false := by rw [← hib]; simpa using h0
      simp [h0]⟩
    have HVB := Aside0.mk hvb
    have HCC := Aside0.mk hcc
    have HY : Aside0 (∀ W, Below w.heap.size w W → W.cell? (ad.add ((i - 1) * 3)) = some (.int .i64 y.f0) ∧ W.cell? ⟨(ad.add ((i - 1) * 3)).block, (ad.add ((i - 1) * 3)).off + 1, none⟩ = some (.int .i64 y.f1) ∧ W.cell? ⟨(ad.add ((i - 1) * 3)).block, (ad.add ((i - 1) * 3)).off + 2, none⟩ = some (.string y.f2) ∧ W.cell? (ad.add ((0 : Int).toNat * 3)) = some (.int .i64 v.f0)) := ⟨fun W hb => ⟨(hb.cell (World.block_lt_of_cell? w _ hy0)).trans hy0, (hb.cell (World.block_lt_of_cell? w _ hy1)).trans hy1, (hb.cell (World.block_lt_of_cell? w _ hy2)).trans hy2, (hb.cell (World.block_lt_of_cell? w _ hv0)).trans hv0⟩⟩
    have BKa := Aside0.mk (blk_alloc BK.out (.cells #[.int .i64 x.f0, .int .i64 x.f1, .string x.f2] 39))
    have BNa := Aside0.mk (heap_alloc_new wr (.cells #[.int .i64 x.f0, .int .i64 x.f1, .string x.f2] 39))
    have HBa := Aside0.mk (below_alloc HB.out (.cells #[.int .i64 x.f0, .int .i64 x.f1, .string x.f2] 39))
    obtain ⟨wa, hwa⟩ : ∃ wa, wr.alloc (.cells #[.int .i64 x.f0, .int .i64 x.f1, .string x.f2] 39) = wa := ⟨_, rfl⟩
    rw [hwa] at BKa BNa HBa ⊢
    have hg7 := blk_lt BNa.out
    have hgb7 := blk_lt BKa.out
    clear hwa BK hx0 hx1 hx2 hy0 hy1 hy2 hv0 hvb hcc hyy hvv HX0 HX1 HX2
    generalize wr.heap.size = g7 at *
    have HS : Aside0 (∀ W, Below wa.heap.size wa W → (W.cell? ⟨g7, 0, none⟩ = some (.int .i64 x.f0) ∧ W.cell? ⟨g7, 1, none⟩ = some (.int .i64 x.f1) ∧ W.cell? ⟨g7, 2, none⟩ = some (.string x.f2) ∧ W.cell? ⟨gb, 5, none⟩ = some (.slice (some ad) l5.length c5) ∧ W.cell? (ad.add ((i - 1) * 3)) = some (.int .i64 y.f0) ∧ W.cell? ⟨(ad.add ((i - 1) * 3)).block, (ad.add ((i - 1) * 3)).off + 1, none⟩ = some (.int .i64 y.f1) ∧ W.cell? ⟨(ad.add ((i - 1) * 3)).block, (ad.add ((i - 1) * 3)).off + 2, none⟩ = some (.string y.f2) ∧ W.cell? ad = some (.int .i64 v.f0))) := ⟨fun W hb => by
     obtain ⟨y0, y1, y2, y3⟩ := HY.out W (HBa.out.trans (hb.mono (below_size HBa.out)))
     have h7 := blk_below BNa.out hb
     have hq := blk_below BKa.out hb
     exact ⟨(blk_cell h7 0).trans rfl, (blk_cell h7 1).trans rfl, (blk_cell h7 2).trans rfl, (blk_cell hq 5).trans rfl, y0, y1, y2, by simpa [Addr.add] using y3⟩⟩
    have HYd := Aside0.mk (below_drew1 (Below.refl wa.heap.size wa))
    have hd0 : decide ((0 : Int) < l5.length) = true := decide_eq_true (by omega)
    have hln : 0 < l5.length := by omega
    have hd1 : decide ((l5.length : Int) ≤ 0) = false := decide_eq_false (by omega)
    have hwi1 : IntKind.i64.wrap ((i : Int) + 1) = ((i + 1 : Nat) : Int) := by rw [i64_w]; unfold wrap64; omega
    refine start_ (n := 33) (S := fun w' => w'.cell? ⟨g7, 0, none⟩ = some (.int .i64 x.f0) ∧ w'.cell? ⟨g7, 1, none⟩ = some (.int .i64 x.f1) ∧ w'.cell? ⟨g7, 2, none⟩ = some (.string x.f2) ∧ w'.cell? ⟨gb, 5, none⟩ = some (.slice (some ad) l5.length c5) ∧ w'.cell? (ad.add ((i - 1) * 3)) = some (.int .i64 y.f0) ∧ w'.cell? ⟨(ad.add ((i - 1) * 3)).block, (ad.add ((i - 1) * 3)).off + 1, none⟩ = some (.int .i64 y.f1) ∧ w'.cell? ⟨(ad.add ((i - 1) * 3)).block, (ad.add ((i - 1) * 3)).off + 2, none⟩ = some (.string y.f2) ∧ w'.cell? ad = some (.int .i64 v.f0)) (ds := []) #[false, false, false, false, false, false, false, false, false, false, false, false, false, false, false, false, false, false, false, false, false, false, false, false, false, false, false, false, false, false, false, false, false] (by kernel_rfl) rfl rfl (HS.out _ HYd.out) (fun hHeld => ?_)
    refine with_tabW f68_tab7 f68_bits7 (fun HT_ HW_ => ?_)
    generalize wa.drew = wd at HYd hHeld ⊢
    refine tk_ HT_ HW_ 0 (some 39) hHeld ?_
    refine on_ HT_ 1 (some 40) (fun K hK => ?_)
    refine goes_ Try.func107 (by kernel_rfl) rfl #[.agg #[.int .i64 x.f0, .int .i64 x.f1, .string x.f2]] (by kernel_rfl) rfl rfl (by (try simp only [List.map_toArray, List.map_cons, List.map_nil]); first | done | rfl) ?_
    refine (vV_calls x vb HVB.out _).mono ?_
    rintro e w4 ⟨rfl, hb⟩
    refine ⟨_, rfl, ?_⟩
    have HY4 := Aside0.mk (HYd.out.trans (hb.mono HYd.out.size))
    clear hb
    refine hK.out _ _ (HS.out _ HY4.out) (fun hHeld => ?_)
    clear hK K
    refine nm_ (some 40) ?_
    refine pu_ HT_ 2 (some 41) ?_
    refine pu_ HT_ 3 (some 42) ?_
    cases vb with
    | true =>
     refine pu_ HT_ 4 (some 43) ?_
     refine tk_ HT_ HW_ 5 (some 44) hHeld ?_
     refine pu_ HT_ 6 (some 45) ?_
     refine pu_ HT_ 7 (some 46) ?_
     refine pu_ HT_ 8 (some 47) ?_
     cases zb with
     | true =>
      refine sk_ HT_ 9 (some 48) ?_
      refine sk_ HT_ 10 (some 49) ?_
      refine sk_ HT_ 11 (some 50) ?_
      refine sk_ HT_ 12 (some 51) ?_
      refine sk_ HT_ 13 (some 52) ?_
      refine sk_ HT_ 14 (some 53) ?_
      refine sk_ HT_ 15 (some 54) ?_
      refine sk_ HT_ 16 (some 55) ?_
      refine pu_ HT_ 17 (some 56) ?_
      refine pu_ HT_ 18 (some 57) ?_
      refine sk_ HT_ 19 (some 58) ?_
      refine sk_ HT_ 20 (some 59) ?_
      refine sk_ HT_ 21 (some 60) ?_
      refine sk_ HT_ 22 (some 61) ?_
      refine sk_ HT_ 23 (some 62) ?_
      refine sk_ HT_ 24 (some 63) ?_
      refine sk_ HT_ 25 (some 64) ?_
      refine sk_ HT_ 26 (some 65) ?_
      refine sk_ HT_ 27 (some 66) ?_
      refine sk_ HT_ 28 (some 67) ?_
      refine sk_ HT_ 29 (some 68) ?_
      refine sk_ HT_ 30 (some 69) ?_
      refine sk_ HT_ 31 (some 70) ?_
      refine pu_ HT_ 32 (some 71) ?_
      refine done_ (done_of HT_.out (by kernel_rfl)) ?_
      clear HT_ HW_ hHeld
      have HF : Aside0 (fencesB l5 l6 n = false) := ⟨by rw [HQ.out, allN_bad _ _ _ (by rw [HOK.out]; rfl)]; rfl⟩
      go_wp2
      go_ret
      exact ⟨by rw [HF.out]; rfl, HBa.out.trans (HY4.out.mono (below_size HBa.out))⟩
     | false =>
      refine pu_ HT_ 9 (some 48) ?_
      refine tk_ HT_ HW_ 10 (some 49) hHeld ?_
      refine pu_ HT_ 11 (some 50) ?_
      refine tk_ HT_ HW_ 12 (some 51) hHeld ?_
      refine tk_ HT_ HW_ 13 (some 52) hHeld ?_
      refine pu_ HT_ 14 (some 53) ?_
      refine tk_ HT_ HW_ 15 (some 54) hHeld ?_
      refine pu_ HT_ 16 (some 55) ?_
      refine pu_ HT_ 17 (some 56) ?_
      refine pu_ HT_ 18 (some 57) ?_
      cases qb with
      | true =>
       refine sk_ HT_ 19 (some 58) ?_
       refine sk_ HT_ 20 (some 59) ?_
       refine sk_ HT_ 21 (some 60) ?_
       refine sk_ HT_ 22 (some 61) ?_
       refine sk_ HT_ 23 (some 62) ?_
       refine sk_ HT_ 24 (some 63) ?_
       refine sk_ HT_ 25 (some 64) ?_
       refine sk_ HT_ 26 (some 65) ?_
       refine sk_ HT_ 27 (some 66) ?_
       refine sk_ HT_ 28 (some 67) ?_
       refine sk_ HT_ 29 (some 68) ?_
       refine sk_ HT_ 30 (some 69) ?_
       refine sk_ HT_ 31 (some 70) ?_
       refine pu_ HT_ 32 (some 71) ?_
       refine done_ (done_of HT_.out (by kernel_rfl)) ?_
       clear HT_ HW_ hHeld
       have HF : Aside0 (fencesB l5 l6 n = false) := ⟨by rw [HQ.out, allN_bad _ _ _ (by rw [HOK.out]; rfl)]; rfl⟩
       go_wp2
       go_ret
       exact ⟨by rw [HF.out]; rfl, HBa.out.trans (HY4.out.mono (below_size HBa.out))⟩
      | false =>
       refine pu_ HT_ 19 (some 58) ?_
       refine pu_ HT_ 20 (some 59) ?_
       refine pu_ HT_ 21 (some 60) ?_
       cases ib with
       | true =>
        have hwi : IntKind.i64.wrap ((i : Int) - 1) = ((i - 1 : Nat) : Int) := by rw [i64_w]; have := of_decide_eq_true hib; unfold wrap64; omega
        have hdi : decide (((i - 1 : Nat) : Int) < l5.length) = true := decide_eq_true (by omega)
        have hdi2 : decide ((l5.length : Int) ≤ ((i - 1 : Nat) : Int)) = false := decide_eq_false (by omega)
        refine pu_ HT_ 22 (some 61) ?_
        refine tk_ HT_ HW_ 23 (some 62) hHeld ?_
        refine pu_ HT_ 24 (some 63) ?_
        refine pu_ HT_ 25 (some 64) ?_
        refine tk_ HT_ HW_ 26 (some 65) hHeld ?_
        refine tk_ HT_ HW_ 27 (some 66) hHeld ?_
        refine tk_ HT_ HW_ 28 (some 67) hHeld ?_
        refine on_ HT_ 29 (some 68) (fun K hK => ?_)
        refine goes_ Try.func53 (by kernel_rfl) rfl #[.agg #[.int .i64 y.f0, .int .i64 y.f1, .string y.f2], .agg #[.int .i64 x.f0, .int .i64 x.f1, .string x.f2]] (by kernel_rfl) rfl rfl (by (try simp only [List.map_toArray, List.map_cons, List.map_nil]); first | done | rfl) ?_
        refine (cV_calls y x cc HCC.out _).mono ?_
        rintro e w5 ⟨rfl, hb⟩
        refine ⟨_, rfl, ?_⟩
        have HY5 := Aside0.mk (HY4.out.trans (hb.mono HY4.out.size))
        clear hb
        refine hK.out _ _ (HS.out _ HY5.out) (fun hHeld => ?_)
        clear hK K
        refine nm_ (some 68) ?_
        refine pu_ HT_ 30 (some 69) ?_
        refine pu_ HT_ 31 (some 70) ?_
        refine pu_ HT_ 32 (some 71) ?_
        refine done_ (done_of HT_.out (by kernel_rfl)) ?_
        clear HT_ HW_ hHeld
        cases cb with
        | true =>
         have HF : Aside0 (fencesB l5 l6 n = false) := ⟨by rw [HQ.out, allN_bad _ _ _ (by rw [HOK.out]; rfl)]; rfl⟩
         go_wp2
         go_ret
         exact ⟨by rw [HF.out]; rfl, HBa.out.trans (HY5.out.mono (below_size HBa.out))⟩
        | false =>
         have HF : Aside0 (fencesB l5 l6 n = (allN (fOk l5) (i + 1) k1 && R2)) := ⟨by rw [HQ.out, allN_next _ _ _ (by rw [HOK.out]; rfl)]⟩
         go_wp2
         go_roundg k1
         case measure => omega
         case rel => exact ⟨i + 1, int_eq (by omega), by omega, ⟨by have := HK.out; omega⟩, HF, ⟨blk_below BKa.out HY5.out⟩, ⟨HBa.out.trans (HY5.out.mono (below_size HBa.out))⟩⟩
       | false =>
        refine sk_ HT_ 22 (some 61) ?_
        refine sk_ HT_ 23 (some 62) ?_
        refine sk_ HT_ 24 (some 63) ?_
        refine sk_ HT_ 25 (some 64) ?_
        refine sk_ HT_ 26 (some 65) ?_
        refine sk_ HT_ 27 (some 66) ?_
        refine sk_ HT_ 28 (some 67) ?_
        refine sk_ HT_ 29 (some 68) ?_
        refine sk_ HT_ 30 (some 69) ?_
        refine pu_ HT_ 31 (some 70) ?_
        refine pu_ HT_ 32 (some 71) ?_
        refine done_ (done_of HT_.out (by kernel_rfl)) ?_
        clear HT_ HW_ hHeld
        have HF : Aside0 (fencesB l5 l6 n = (allN (fOk l5) (i + 1) k1 && R2)) := ⟨by rw [HQ.out, allN_next _ _ _ (by rw [HOK.out]; rfl)]⟩
        go_wp2
        go_roundg k1
        case measure => omega
        case rel => exact ⟨i + 1, int_eq (by omega), by omega, ⟨by have := HK.out; omega⟩, HF, ⟨blk_below BKa.out HY4.out⟩, ⟨HBa.out.trans (HY4.out.mono (below_size HBa.out))⟩⟩
    | false =>
     refine sk_ HT_ 4 (some 43) ?_
     refine sk_ HT_ 5 (some 44) ?_
     refine sk_ HT_ 6 (some 45) ?_
     refine pu_ HT_ 7 (some 46) ?_
     refine pu_ HT_ 8 (some 47) ?_
     refine sk_ HT_ 9 (some 48) ?_
     refine sk_ HT_ 10 (some 49) ?_
     refine sk_ HT_ 11 (some 50) ?_
     refine sk_ HT_ 12 (some 51) ?_
     refine sk_ HT_ 13 (some 52) ?_
     refine sk_ HT_ 14 (some 53) ?_
     refine sk_ HT_ 15 (some 54) ?_
     refine sk_ HT_ 16 (some 55) ?_
     refine pu_ HT_ 17 (some 56) ?_
     refine pu_ HT_ 18 (some 57) ?_
     refine sk_ HT_ 19 (some 58) ?_
     refine sk_ HT_ 20 (some 59) ?_
     refine sk_ HT_ 21 (some 60) ?_
     refine sk_ HT_ 22 (some 61) ?_
     refine sk_ HT_ 23 (some 62) ?_
     refine sk_ HT_ 24 (some 63) ?_
     refine sk_ HT_ 25 (some 64) ?_
     refine sk_ HT_ 26 (some 65) ?_
     refine sk_ HT_ 27 (some 66) ?_
     refine sk_ HT_ 28 (some 67) ?_
     refine sk_ HT_ 29 (some 68) ?_
     refine sk_ HT_ 30 (some 69) ?_
     refine sk_ HT_ 31 (some 70) ?_
     refine pu_ HT_ 32 (some 71) ?_
     refine done_ (done_of HT_.out (by kernel_rfl)) ?_
     clear HT_ HW_ hHeld
     have HF : Aside0 (fencesB l5 l6 n = false) := ⟨by rw [HQ.out, allN_bad _ _ _ (by rw [HOK.out]; rfl)]; rfl⟩
     go_wp2
     go_ret
     exact ⟨by rw [HF.out]; rfl, HBa.out.trans (HY4.out.mono (below_size HBa.out))⟩
  ·obtain rfl : i = l5.length := by omega
   cases gk with
   | succ k1 => exact absurd HK.out (by omega)
   | zero =>
   have HQ0 : Aside0 (fencesB l5 l6 n = R2) := ⟨by rw [HQ.out]; rfl⟩
   have b5 : wr.cell? ⟨gb, 5, none⟩ = some (.slice A5 l5.length c5) := (blk_cell BK.out 5).trans rfl
   have b6 : wr.cell? ⟨gb, 6, none⟩ = some (.slice A6 l6.length c6) := (blk_cell BK.out 6).trans rfl
   have hdl : decide ((l5.length : Int) < l5.length) = false := decide_eq_false (by omega)
   clear HQ HK hl
   go_wp2
   clear b5 b6 hdl
   go_loopg [76] l6.length (fun kq v76 w' => ∃ j : Nat, v76 = .int .i64 j ∧ j ≤ l6.length ∧ Aside0 (kq + j = l6.length) ∧ Aside0 (R2 = (allN (rOk l6 n) j kq && R1)) ∧ Aside0 (w'.heap[gb]? = some (.cells #[.int .i64 a0, .int .i64 a1, .slice A2 l2.length c2, .bool b3, .slice A4 l4.length c4, .slice A5 l5.length c5, .slice A6 l6.length c6] 26 (0, 0))) ∧ Aside0 (Below w.heap.size w w'))
   case atStart => exact ⟨0, rfl, Nat.zero_le _, ⟨by omega⟩, ⟨by rw [HL6.out]; exact E2.out.symm⟩, BK, HB⟩
   case round =>
    clear BK HB
    obtain ⟨j, rfl, hj, HK, HQ, BK, HB⟩ := hrel
    have b6 : wr.cell? ⟨gb, 6, none⟩ = some (.slice A6 l6.length c6) := (blk_cell BK.out 6).trans rfl
    by_cases hjl : j < l6.length
    ·cases gk with
     | zero => exact absurd HK.out (by omega)
     | succ k1 =>
      have h6 := HL6.out
      obtain ⟨ad, rfl, hx0⟩ := Kd.at_int HR6.out (j : Int) (by omega) (by omega)
      rw [Int.toNat_natCast] at hx0
      replace hx0 := up_ HB.out hx0
      obtain ⟨x, hxx⟩ : ∃ x, rd l6 (j : Int) = x := ⟨_, rfl⟩
      rw [hxx] at hx0
      have hdj : decide ((j : Int) < l6.length) = true := decide_eq_true (by omega)
      have hwj : IntKind.i64.wrap ((j : Int) + 1) = ((j + 1 : Nat) : Int) := by rw [i64_w]; unfold wrap64; omega
      by_cases hc0 : x < 0
      ·have HF : Aside0 (fencesB l5 l6 n = false) := ⟨by rw [HQ0.out, HQ.out, allN_bad _ _ _ (by simp [rOk, hxx, hc0])]; rfl⟩
       have hd : decide (x < 0) = true := decide_eq_true hc0
       clear h6 hxx
       go_wp2
       go_ret
       exact ⟨by rw [HF.out]; rfl, (by repeat (first | exact HB.out | apply below_drew1 | apply pw_below_drewN))⟩
      have hd0 : decide (x < 0) = false := decide_eq_false hc0
      by_cases hc1 : n < x
      ·have HF : Aside0 (fencesB l5 l6 n = false) := ⟨by rw [HQ0.out, HQ.out, allN_bad _ _ _ (by simp [rOk, hxx, hc1])]; rfl⟩
       have hd : decide (n < x) = true := decide_eq_true hc1
       clear h6 hxx
       go_wp2
       go_ret
       exact ⟨by rw [HF.out]; rfl, (by repeat (first | exact HB.out | apply below_drew1 | apply pw_below_drewN))⟩
      have hd1 : decide (n < x) = false := decide_eq_false hc1
      by_cases hj2 : 2 ≤ j
      ·have hdj2 : decide ((2 : Int) ≤ j) = true := decide_eq_true (by omega)
       have hwj2 : IntKind.i64.wrap ((j : Int) - 2) = ((j - 2 : Nat) : Int) := by rw [i64_w]; unfold wrap64; omega
       obtain ⟨ad2, e2, hy0⟩ := Kd.at_int HR6.out ((j - 2 : Nat) : Int) (by omega) (by omega)
       obtain rfl := Option.some.inj e2
       clear e2
       rw [Int.toNat_natCast] at hy0
       replace hy0 := up_ HB.out hy0
       obtain ⟨y, hyy⟩ : ∃ x, rd l6 ((j - 2 : Nat) : Int) = x := ⟨_, rfl⟩
       rw [hyy] at hy0
       have hjj : ((j : Int) - 2) = ((j - 2 : Nat) : Int) := by omega
       have hdm : decide (((j - 2 : Nat) : Int) < l6.length) = true := decide_eq_true (by omega)
       have hjm : j - 2 < l6.length := by omega
       by_cases hc2 : x < y
       ·have HF : Aside0 (fencesB l5 l6 n = false) := ⟨by rw [HQ0.out, HQ.out, allN_bad _ _ _ (by simp [rOk, hjj, hxx, hyy, hc2, hj2])]; rfl⟩
        have hd : decide (x < y) = true := decide_eq_true hc2
        clear h6 hxx hyy hjj
        go_wp2
        go_ret
        exact ⟨by rw [HF.out]; rfl, (by repeat (first | exact HB.out | apply below_drew1 | apply pw_below_drewN))⟩
       have HT : Aside0 (R2 = (allN (rOk l6 n) (j + 1) k1 && R1)) := ⟨by rw [HQ.out, allN_next _ _ _ (by simp [rOk, hjj, hxx, hyy, hc0, hc1, hc2])]⟩
       have hd2 : decide (x < y) = false := decide_eq_false hc2
       clear h6 hxx hyy hjj
       go_wp2
       go_roundg k1
       case measure => omega
       case rel => exact ⟨j + 1, int_eq (by omega), by omega, ⟨by have := HK.out; omega⟩, HT, ⟨(by repeat (first | exact BK.out | refine blk_drew ?_ | refine blk_drewN ?_ _))⟩, ⟨(by repeat (first | exact HB.out | apply below_drew1 | apply pw_below_drewN))⟩⟩
      ·have hdj2 : decide ((2 : Int) ≤ j) = false := decide_eq_false (by omega)
       have HT : Aside0 (R2 = (allN (rOk l6 n) (j + 1) k1 && R1)) := ⟨by rw [HQ.out, allN_next _ _ _ (by simp [rOk, hxx, hc0, hc1, hj2])]⟩
       clear h6 hxx
       go_wp2
       go_roundg k1
       case measure => omega
       case rel => exact ⟨j + 1, int_eq (by omega), by omega, ⟨by have := HK.out; omega⟩, HT, ⟨(by repeat (first | exact BK.out | refine blk_drew ?_ | refine blk_drewN ?_ _))⟩, ⟨(by repeat (first | exact HB.out | apply below_drew1 | apply pw_below_drewN))⟩⟩
    ·obtain rfl : j = l6.length := by omega
     cases gk with
     | succ k1 => exact absurd HK.out (by omega)
     | zero =>
     have HQ1 : Aside0 (fencesB l5 l6 n = R1) := ⟨by rw [HQ0.out, HQ.out]; rfl⟩
     have hdl : decide ((l6.length : Int) < l6.length) = false := decide_eq_false (by omega)
     clear HQ HK hjl HQ0
     go_wp2
     clear b6 hdl
     go_loopg [10] (l5.length - 1) (fun kq v10 w' => ∃ t : Nat, v10 = .int .i64 t ∧ 1 ≤ t ∧ t ≤ 18 ∧ Aside0 (kq = l5.length - t) ∧ Aside0 (R1 = (allN (tOk l6) t kq && R0)) ∧ Aside0 (w'.heap[gb]? = some (.cells #[.int .i64 a0, .int .i64 a1, .slice A2 l2.length c2, .bool b3, .slice A4 l4.length c4, .slice A5 l5.length c5, .slice A6 l6.length c6] 26 (0, 0))) ∧ Aside0 (Below w.heap.size w w'))
     case atStart => exact ⟨1, rfl, Nat.le_refl _, by omega, ⟨rfl⟩, ⟨E1.out.symm⟩, BK, HB⟩
     case round =>
      clear BK HB
      obtain ⟨t, rfl, ht1, ht2, HK, HQ, BK, HB⟩ := hrel
      have b6 : wr.cell? ⟨gb, 6, none⟩ = some (.slice A6 l6.length c6) := (blk_cell BK.out 6).trans rfl
      by_cases htl : t < l5.length
      ·cases gk with
       | zero => exact absurd HK.out (by omega)
       | succ k1 =>
        have h6 := HL6.out
        obtain ⟨ad, rfl, hx0⟩ := Kd.at_int HR6.out ((2 * t - 1 : Nat) : Int) (by omega) (by omega)
        obtain ⟨ad2, e2, hy0⟩ := Kd.at_int HR6.out ((2 * t : Nat) : Int) (by omega) (by omega)
        obtain rfl := Option.some.inj e2
        clear e2
        rw [Int.toNat_natCast] at hx0 hy0
        replace hx0 := up_ HB.out hx0
        replace hy0 := up_ HB.out hy0
        obtain ⟨x, hxx⟩ : ∃ x, rd l6 ((2 * t - 1 : Nat) : Int) = x := ⟨_, rfl⟩
        obtain ⟨y, hyy⟩ : ∃ x, rd l6 ((2 * t : Nat) : Int) = x := ⟨_, rfl⟩
        rw [hxx] at hx0
        rw [hyy] at hy0
        have hj1 : (2 * (t : Int) - 1) = ((2 * t - 1 : Nat) : Int) := by omega
        have hj2 : (2 * (t : Int)) = ((2 * t : Nat) : Int) := by omega
        have hTO : tOk l6 t = !decide (y < x) := by unfold tOk; rw [hj1, hj2, hxx, hyy]
        have HTO := Aside0.mk hTO
        have hw1 : IntKind.i64.wrap (2 * (t : Int)) = ((2 * t : Nat) : Int) := by rw [i64_w]; unfold wrap64; omega
        have hw2 : IntKind.i64.wrap (((2 * t : Nat) : Int) - 1) = ((2 * t - 1 : Nat) : Int) := by rw [i64_w]; unfold wrap64; omega
        have hwt : IntKind.i64.wrap ((t : Int) + 1) = ((t + 1 : Nat) : Int) := by rw [i64_w]; unfold wrap64; omega
        have hdt : decide ((t : Int) < l5.length) = true := decide_eq_true (by omega)
        have hm1 : 2 * t - 1 < l6.length := by omega
        have hwz : wrap64 (2 * (t : Int) - 1) = ((2 * t - 1 : Nat) : Int) := by unfold wrap64; omega
        have hm2 : 2 * (t : Int) < l6.length := by omega
        have hm3 : 0 ≤ 2 * (t : Int) := by omega
        have hm4 : (2 * (t : Int)).toNat = 2 * t := by omega
        clear hTO hj1 hj2 hxx hyy h6
        have BKd := Aside0.mk (blk_drew BK.out)
        have HBd := Aside0.mk (below_drew1 HB.out)
        have HS : (wr.drew.cell? ⟨gb, 6, none⟩ = some (.slice (some ad) l6.length c6) ∧ wr.drew.cell? (ad.add (2 * t - 1)) = some (.int .i64 x) ∧ wr.drew.cell? (ad.add (2 * t)) = some (.int .i64 y)) := ⟨b6, hx0, hy0⟩
        go_upto_region 19 with (fail)
        refine start_ (n := 14) (S := fun w' => w'.cell? ⟨gb, 6, none⟩ = some (.slice (some ad) l6.length c6) ∧ w'.cell? (ad.add (2 * t - 1)) = some (.int .i64 x) ∧ w'.cell? (ad.add (2 * t)) = some (.int .i64 y)) (ds := []) #[false, false, false, false, false, false, false, false, false, false, false, false, false, false] (by kernel_rfl) rfl rfl HS (fun hHeld => ?_)
        refine with_tabW f68_tab19 f68_bits19 (fun HT_ HW_ => ?_)
        generalize wr.drew = wd at HBd BKd hHeld HS ⊢
        refine pu_ HT_ 0 (some 108) ?_
        refine tk_ HT_ HW_ 1 (some 109) hHeld ?_
        refine pu_ HT_ 2 (some 110) ?_
        refine pu_ HT_ 3 (some 111) ?_
        refine pu_ HT_ 4 (some 112) ?_
        refine tk_ HT_ HW_ 5 (some 113) hHeld ?_
        refine tk_ HT_ HW_ 6 (some 114) hHeld ?_
        refine pu_ HT_ 7 (some 115) ?_
        refine tk_ HT_ HW_ 8 (some 116) hHeld ?_
        refine pu_ HT_ 9 (some 117) ?_
        refine pu_ HT_ 10 (some 118) ?_
        refine tk_ HT_ HW_ 11 (some 119) hHeld ?_
        refine tk_ HT_ HW_ 12 (some 120) hHeld ?_
        refine pu_ HT_ 13 (some 121) ?_
        refine done_ (done_of HT_.out (by kernel_rfl)) ?_
        clear HT_ HW_ hHeld
        clear BK HB b6 hx0 hy0
        have BK := BKd
        have HB := HBd
        clear BKd HBd
        by_cases hc : y < x
        ·have hd : decide (y < x) = true := decide_eq_true hc
         have HF : Aside0 (fencesB l5 l6 n = false) := ⟨by rw [HQ1.out, HQ.out, allN_bad _ _ _ (by rw [HTO.out, hd]; rfl)]; rfl⟩
         go_wp2
         go_ret
         exact ⟨by rw [HF.out]; rfl, (by repeat (first | exact HB.out | apply below_drew1 | apply pw_below_drewN))⟩
        ·have hd : decide (y < x) = false := decide_eq_false hc
         have HT : Aside0 (R1 = (allN (tOk l6) (t + 1) k1 && R0)) := ⟨by rw [HQ.out, allN_next _ _ _ (by rw [HTO.out, hd]; rfl)]⟩
         go_wp2
         go_roundg k1
         case measure => omega
         case rel => exact ⟨t + 1, int_eq (by omega), by omega, by omega, ⟨by have := HK.out; omega⟩, HT, ⟨(by repeat (first | exact BK.out | refine blk_drew ?_ | refine blk_drewN ?_ _))⟩, ⟨(by repeat (first | exact HB.out | apply below_drew1 | apply pw_below_drewN))⟩⟩
      ·cases gk with
       | succ k1 => exact absurd HK.out (by omega)
       | zero =>
       have HQ2 : Aside0 (fencesB l5 l6 n = R0) := ⟨by rw [HQ1.out, HQ.out]; rfl⟩
       have hdt : decide ((t : Int) < l5.length) = false := decide_eq_false (by omega)
       clear HQ HK HQ1
       have h6 := HL6.out
       by_cases hk0 : l5.length = 0
       ·have HF : Aside0 (fencesB l5 l6 n = true) := ⟨by rw [HQ2.out, ← E0.out, hk0]; rfl⟩
        have hkk : ((l5.length : Int) == 0) = true := by rw [hk0]; rfl
        clear h6
        clear hk0
        go_wp2
        go_ret
        exact ⟨by rw [HF.out]; rfl, (by repeat (first | exact HB.out | apply below_drew1 | apply pw_below_drewN))⟩
       ·obtain ⟨ad, rfl, hx0⟩ := Kd.at_int HR6.out (0 : Int) (by omega) (by omega)
        obtain ⟨ad2, e2, hy0⟩ := Kd.at_int HR6.out ((2 * l5.length - 1 : Nat) : Int) (by omega) (by omega)
        obtain rfl := Option.some.inj e2
        clear e2
        rw [Int.toNat_natCast] at hy0
        replace hx0 := up_ HB.out hx0
        replace hy0 := up_ HB.out hy0
        rw [show ad.add (0 : Int).toNat = ad from by simp [Addr.add]] at hx0
        obtain ⟨x, hxx⟩ : ∃ x, rd l6 (0 : Int) = x := ⟨_, rfl⟩
        obtain ⟨y, hyy⟩ : ∃ x, rd l6 ((2 * l5.length - 1 : Nat) : Int) = x := ⟨_, rfl⟩
        rw [hxx] at hx0
        rw [hyy] at hy0
        have hkk : ((l5.length : Int) == 0) = false := beq_eq_false_iff_ne.2 (by omega)
        obtain ⟨xb, hxb⟩ : ∃ b, (x == 0) = b := ⟨_, rfl⟩
        obtain ⟨yb, hyb⟩ : ∃ b, (y == n) = b := ⟨_, rfl⟩
        have HF : Aside0 (fencesB l5 l6 n = (xb && yb)) := ⟨by
         rw [HQ2.out, ← E0.out, hxx, hxb, show (2 * (l5.length : Int) - 1) = ((2 * l5.length - 1 : Nat) : Int) from by omega, hyy, hyb]
         rw [show (l5.length == 0) = false from by simpa using hk0]
         rfl⟩
        have hw1 : IntKind.i64.wrap (2 * (l5.length : Int)) = ((2 * l5.length : Nat) : Int) := by rw [i64_w]; unfold wrap64; omega
        have hw2 : IntKind.i64.wrap (((2 * l5.length : Nat) : Int) - 1) = ((2 * l5.length - 1 : Nat) : Int) := by rw [i64_w]; unfold wrap64; omega
        have hm1 : 2 * l5.length - 1 < l6.length := by omega
        have hm2 : 0 < l6.length := by omega
        clear hxx hyy h6 hk0
        cases xb with
        | true =>
         go_wp2
         go_ret
         exact ⟨by rw [HF.out]; rfl, (by repeat (first | exact HB.out | apply below_drew1 | apply pw_below_drewN))⟩
        | false =>
         go_wp2
         go_ret
         exact ⟨by rw [HF.out]; rfl, (by repeat (first | exact HB.out | apply below_drew1 | apply pw_below_drewN))⟩
end Go.Proofs.Ytackcingpffidaa.P
