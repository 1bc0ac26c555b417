/- What Go functions of the given program return, told as Lean functions, and the walks that show it, with plain facts on them: H39. Conditions: the hypotheses that stand at each theorem. -/
import Derived.Test.YtackcingpffidaaZe0
import Derived.Test.YtackcingpffidaaZe1
namespace Go.Proofs.Ytackcingpffidaa.P
open Go.RowKit Go.Proofs.YtackcingpffidaaW.PrintWords Go.Proofs.YtackcingpffidaaW.PrintLast Go.Proofs.YtackcingpffidaaW.PrintMore
set_option linter.unusedVariables false
set_option linter.unusedSimpArgs false
def f39_T1 : Bool × List (List Nat × List Nat) := (true, [([], []), ([0], [0]), ([], []), ([2], [2]), ([3], [3]), ([1, 1, 0, 1], [1]), ([4, 5, 0, 1, 2, 3, 4, 5], [4])])
def f39_B1 : List Nat := [0, 1, 0, 4, 12, 3, 63]
set_option maxRecDepth 100000 in
theorem f39_tab1 : rtab .any (opsOf Try.f39 1) = f39_T1 := by kernel_rfl
theorem f39_bits1 : waitsOk f39_T1.2 f39_B1 = true := by kernel_rfl
def f39_T8 : Bool × List (List Nat × List Nat) := (true, [([], []), ([0], [0]), ([1], [1]), ([2, 1], [2]), ([3], [3]), ([4, 3], [3, 4]), ([5, 3], [3, 5]), ([3, 6], [3, 6]), ([7, 3], [7]), ([8], [8]), ([9, 8], [8, 9]), ([8], [8]), ([11, 8], [8, 11]), ([12, 8], [8, 12]), ([13, 8], [8, 13]), ([14, 8], [8, 14]), ([10, 15, 8], [8, 10, 15]), ([8, 16], [8, 16]), ([17, 8], [17]), ([18], [18]), ([19, 18], [18, 19]), ([20, 18, 18], [18, 20]), ([21], [21]), ([22, 21], [21, 22]), ([21], [21]), ([24, 21], [21, 24]), ([23, 25, 21], [21, 23, 25]), ([26, 21], [21, 26]), ([21], [21]), ([27, 28, 21, 21], [21, 27, 28]), ([29, 21], [21, 29]), ([21, 30, 18], [18, 21, 30]), ([18, 31], [18, 31])])
def f39_B8 : List Nat := [0, 1, 3, 7, 15, 31, 63, 127, 255, 511, 1023, 511, 2559, 6655, 14847, 31231, 65535, 131071, 262143, 524287, 1048575, 2097151, 4194303, 8388607, 4194303, 20971519, 67108863, 134217727, 4194303, 536870911, 1073741823, 2147483647, 4294967295]
set_option maxRecDepth 100000 in
theorem f39_tab8 : rtab .any (opsOf Try.f39 8) = f39_T8 := by kernel_rfl
theorem f39_bits8 : waitsOk f39_T8.2 f39_B8 = true := by kernel_rfl
def f39_T10 : Bool × List (List Nat × List Nat) := (true, [([], []), ([0], [0]), ([], []), ([2], [2]), ([1, 3], [1, 3]), ([4], [4]), ([], []), ([6], [6]), ([], []), ([8], [8]), ([9], [9]), ([7, 10], [7, 10]), ([11], [11]), ([5, 0, 1, 2, 3, 4, 5], [5]), ([12, 13, 0, 1, 2, 3, 4, 5, 6, 7, 8, 9, 10, 11, 12, 13], [12])])
def f39_B10 : List Nat := [0, 1, 0, 4, 15, 31, 0, 64, 0, 256, 768, 1984, 4032, 63, 16383]
set_option maxRecDepth 100000 in
theorem f39_tab10 : rtab .any (opsOf Try.f39 10) = f39_T10 := by kernel_rfl
theorem f39_bits10 : waitsOk f39_T10.2 f39_B10 = true := by kernel_rfl
set_option maxHeartbeats 8000000 in
set_option maxRecDepth 100000 in
theorem f80_calls (a0 a1 : Int) (A2 : Option Addr) (c2 : Nat) (l2 : List Int) (b3 : Bool) (A4 : Option Addr) (c4 : Nat) (l4 : List Int) (A5 : Option Addr) (c5 : Nat) (l5 : List S39) (A6 : Option Addr) (c6 : Nat) (l6 : List Int) (n : Int) (hn : wrap64 (a0 - a1) = n) (w : World) :
  Calls Try.prog 80 #[.agg #[.int .i64 a0, .int .i64 a1, .slice A2 l2.length c2, .bool b3, .slice A4 l4.length c4, .slice A5 l5.length c5, .slice A6 l6.length c6]] w fun e w' => e = .returned (.int .i64 n) ∧ Below w.heap.size w w' := by
 have HN := Aside0.mk hn
 clear hn
 go_enter Try.func80, Try.ntmps80
 go_wp2
 go_ret
 exact ⟨by rw [← HN.out, ← i64_w]; rfl, by repeat (first | exact Below.refl _ _ | apply below_alloc | apply below_drew1 | apply pw_below_drewN)⟩
set_option maxHeartbeats 8000000 in
set_option maxRecDepth 100000 in
theorem f39_calls (a0 a1 : Int) (A2 : Option Addr) (c2 : Nat) (l2 : List Int) (b3 : Bool) (A4 : Option Addr) (c4 : Nat) (l4 : List Int) (A5 : Option Addr) (c5 : Nat) (l5 : List S39) (A6 : Option Addr) (c6 : Nat) (l6 : List Int) (n : Int) (hn : wrap64 (a0 - a1) = n) (w : World) (hr5 : Kd.C k39 w A5 l5.length l5) (hr6 : Kd.C (Kd.int .i64) w A6 l6.length l6) :
  Calls Try.prog 39 #[.agg #[.int .i64 a0, .int .i64 a1, .slice A2 l2.length c2, .bool b3, .slice A4 l4.length c4, .slice A5 l5.length c5, .slice A6 l6.length c6]] w fun e w' => e = .returned (.bool (rfencesB l5 l6 n)) ∧ Below w.heap.size w w' := by
 have HN := Aside0.mk hn
 clear hn
 have HR5 := Aside0.mk hr5
 have HR6 := Aside0.mk hr6
 clear hr5 hr6
 by_cases h17 : 17 < l5.length
 ·have hd : decide ((17 : Int) < l5.length) = true := decide_eq_true (by omega)
  have HV : Aside0 (rfencesB l5 l6 n = false) := ⟨by unfold rfencesB; rw [if_pos h17]⟩
  go_enter Try.func39, Try.ntmps39
  go_upto_region 1 with ((with_reducible refine gate_dst (N := 1) rfl ?_); refine box_ 1 (cs := #[.int .i64 a0, .int .i64 a1, .slice A2 l2.length c2, .bool b3, .slice A4 l4.length c4, .slice A5 l5.length c5, .slice A6 l6.length c6]) (t := 26) ?_; intro gb hg_ w1 hbox hb; have BK := Aside0.mk hbox; have HB := Aside0.mk hb; have hgb : w.heap.size ≤ gb := Nat.le_of_eq hg_.symm; clear hb hbox hg_)
  have HS1 : Aside0 (∀ W, Below w1.heap.size w1 W → (W.cell? ⟨gb, 0, none⟩ = some (.int .i64 a0) ∧ W.cell? ⟨gb, 1, none⟩ = some (.int .i64 a1) ∧ W.cell? ⟨gb, 2, none⟩ = some (.slice A2 l2.length c2) ∧ W.cell? ⟨gb, 3, none⟩ = some (.bool b3) ∧ W.cell? ⟨gb, 4, none⟩ = some (.slice A4 l4.length c4) ∧ W.cell? ⟨gb, 5, none⟩ = some (.slice A5 l5.length c5) ∧ W.cell? ⟨gb, 6, none⟩ = some (.slice A6 l6.length c6))) := ⟨fun W hb => by
   have h_ := blk_below BK.out hb
   exact ⟨(blk_cell h_ 0).trans rfl, (blk_cell h_ 1).trans rfl, (blk_cell h_ 2).trans rfl, (blk_cell h_ 3).trans rfl, (blk_cell h_ 4).trans rfl, (blk_cell h_ 5).trans rfl, (blk_cell h_ 6).trans rfl⟩⟩
  have HY1 := Aside0.mk (below_drew1 (Below.refl w1.heap.size w1))
  refine start_ (n := 7) (S := fun w' => w'.cell? ⟨gb, 0, none⟩ = some (.int .i64 a0) ∧ w'.cell? ⟨gb, 1, none⟩ = some (.int .i64 a1) ∧ w'.cell? ⟨gb, 2, none⟩ = some (.slice A2 l2.length c2) ∧ w'.cell? ⟨gb, 3, none⟩ = some (.bool b3) ∧ w'.cell? ⟨gb, 4, none⟩ = some (.slice A4 l4.length c4) ∧ w'.cell? ⟨gb, 5, none⟩ = some (.slice A5 l5.length c5) ∧ w'.cell? ⟨gb, 6, none⟩ = some (.slice A6 l6.length c6)) (ds := []) #[false, false, false, false, false, false, false] (by kernel_rfl) rfl rfl (HS1.out _ HY1.out) (fun hHeld => ?_)
  refine with_tabW f39_tab1 f39_bits1 (fun HT_ HW_ => ?_)
  generalize w1.drew = wd at HY1 hHeld ⊢
  refine tk_ HT_ HW_ 0 (some 9) hHeld ?_
  refine pu_ HT_ 2 (some 11) ?_
  refine tk_ HT_ HW_ 3 (some 12) hHeld ?_
  refine pu_ HT_ 4 (some 13) ?_
  refine on_ HT_ 1 (some 10) (fun K hK => ?_)
  refine goes_ Try.func80 (by kernel_rfl) rfl #[.agg #[.int .i64 a0, .int .i64 a1, .slice A2 l2.length c2, .bool b3, .slice A4 l4.length c4, .slice A5 l5.length c5, .slice A6 l6.length c6]] (by kernel_rfl) rfl rfl (by (try simp only [List.map_toArray, List.map_cons, List.map_nil]); first | done | rfl) ?_
  refine (f80_calls a0 a1 A2 c2 l2 b3 A4 c4 l4 A5 c5 l5 A6 c6 l6 n HN.out _).mono ?_
  rintro e w2 ⟨rfl, hb⟩
  refine ⟨_, rfl, ?_⟩
  have HY2 := Aside0.mk (HY1.out.trans (hb.mono HY1.out.size))
  clear hb
  refine hK.out _ _ (HS1.out _ HY2.out) (fun hHeld => ?_)
  clear hK K
  refine nm_ (some 10) ?_
  refine pu_ HT_ 5 (some 3) ?_
  refine pu_ HT_ 6 (some 4) ?_
  refine done_ (done_of HT_.out (by kernel_rfl)) ?_
  clear HT_ HW_ hHeld
  have HBn : Aside0 (Below w.heap.size w w2) := ⟨HB.out.trans (HY2.out.mono (below_size HB.out))⟩
  have BKn : Aside0 (w2.heap[gb]? = some (.cells #[.int .i64 a0, .int .i64 a1, .slice A2 l2.length c2, .bool b3, .slice A4 l4.length c4, .slice A5 l5.length c5, .slice A6 l6.length c6] 26 (0, 0))) := ⟨blk_below BK.out HY2.out⟩
  clear BK HB HS1 HY1 HY2
  have BK := BKn
  have HB := HBn
  clear BKn HBn
  have b5 : w2.cell? ⟨gb, 5, none⟩ = some (.slice A5 l5.length c5) := (blk_cell BK.out 5).trans rfl
  have b6 : w2.cell? ⟨gb, 6, none⟩ = some (.slice A6 l6.length c6) := (blk_cell BK.out 6).trans rfl
  go_wp2
  go_ret
  exact ⟨by rw [HV.out]; rfl, HB.out⟩
 have hd17 : decide ((17 : Int) < l5.length) = false := decide_eq_false (by omega)
 obtain ⟨kb, hkb⟩ : ∃ b, ((l5.length : Int) == 0) = b := ⟨_, rfl⟩
 obtain ⟨nb, hnb⟩ : ∃ b, (n == 0) = b := ⟨_, rfl⟩
 have hcase : (kb = true ∧ nb = false) ∨ (kb = false ∧ nb = true) ∨ kb = nb := by cases kb <;> cases nb <;> simp
 rcases hcase with ⟨rfl, rfl⟩ | ⟨rfl, rfl⟩ | rfl
 ·have HV : Aside0 (rfencesB l5 l6 n = false) := ⟨by
   unfold rfencesB
   rw [if_neg h17, if_neg]
   intro h
   have h1 : l5.length = 0 := by have := eq_of_beq hkb; omega
   have h2 : ¬ n = 0 := by simpa using hnb
   exact h2 (h ▸ h1)⟩
  go_enter Try.func39, Try.ntmps39
  go_upto_region 1 with ((with_reducible refine gate_dst (N := 1) rfl ?_); refine box_ 1 (cs := #[.int .i64 a0, .int .i64 a1, .slice A2 l2.length c2, .bool b3, .slice A4 l4.length c4, .slice A5 l5.length c5, .slice A6 l6.length c6]) (t := 26) ?_; intro gb hg_ w1 hbox hb; have BK := Aside0.mk hbox; have HB := Aside0.mk hb; have hgb : w.heap.size ≤ gb := Nat.le_of_eq hg_.symm; clear hb hbox hg_)
  have HS1 : Aside0 (∀ W, Below w1.heap.size w1 W → (W.cell? ⟨gb, 0, none⟩ = some (.int .i64 a0) ∧ W.cell? ⟨gb, 1, none⟩ = some (.int .i64 a1) ∧ W.cell? ⟨gb, 2, none⟩ = some (.slice A2 l2.length c2) ∧ W.cell? ⟨gb, 3, none⟩ = some (.bool b3) ∧ W.cell? ⟨gb, 4, none⟩ = some (.slice A4 l4.length c4) ∧ W.cell? ⟨gb, 5, none⟩ = some (.slice A5 l5.length c5) ∧ W.cell? ⟨gb, 6, none⟩ = some (.slice A6 l6.length c6))) := ⟨fun W hb => by
   have h_ := blk_below BK.out hb
   exact ⟨(blk_cell h_ 0).trans rfl, (blk_cell h_ 1).trans rfl, (blk_cell h_ 2).trans rfl, (blk_cell h_ 3).trans rfl, (blk_cell h_ 4).trans rfl, (blk_cell h_ 5).trans rfl, (blk_cell h_ 6).trans rfl⟩⟩
  have HY1 := Aside0.mk (below_drew1 (Below.refl w1.heap.size w1))
  refine start_ (n := 7) (S := fun w' => w'.cell? ⟨gb, 0, none⟩ = some (.int .i64 a0) ∧ w'.cell? ⟨gb, 1, none⟩ = some (.int .i64 a1) ∧ w'.cell? ⟨gb, 2, none⟩ = some (.slice A2 l2.length c2) ∧ w'.cell? ⟨gb, 3, none⟩ = some (.bool b3) ∧ w'.cell? ⟨gb, 4, none⟩ = some (.slice A4 l4.length c4) ∧ w'.cell? ⟨gb, 5, none⟩ = some (.slice A5 l5.length c5) ∧ w'.cell? ⟨gb, 6, none⟩ = some (.slice A6 l6.length c6)) (ds := []) #[false, false, false, false, false, false, false] (by kernel_rfl) rfl rfl (HS1.out _ HY1.out) (fun hHeld => ?_)
  refine with_tabW f39_tab1 f39_bits1 (fun HT_ HW_ => ?_)
  generalize w1.drew = wd at HY1 hHeld ⊢
  refine tk_ HT_ HW_ 0 (some 9) hHeld ?_
  refine pu_ HT_ 2 (some 11) ?_
  refine tk_ HT_ HW_ 3 (some 12) hHeld ?_
  refine pu_ HT_ 4 (some 13) ?_
  refine on_ HT_ 1 (some 10) (fun K hK => ?_)
  refine goes_ Try.func80 (by kernel_rfl) rfl #[.agg #[.int .i64 a0, .int .i64 a1, .slice A2 l2.length c2, .bool b3, .slice A4 l4.length c4, .slice A5 l5.length c5, .slice A6 l6.length c6]] (by kernel_rfl) rfl rfl (by (try simp only [List.map_toArray, List.map_cons, List.map_nil]); first | done | rfl) ?_
  refine (f80_calls a0 a1 A2 c2 l2 b3 A4 c4 l4 A5 c5 l5 A6 c6 l6 n HN.out _).mono ?_
  rintro e w2 ⟨rfl, hb⟩
  refine ⟨_, rfl, ?_⟩
  have HY2 := Aside0.mk (HY1.out.trans (hb.mono HY1.out.size))
  clear hb
  refine hK.out _ _ (HS1.out _ HY2.out) (fun hHeld => ?_)
  clear hK K
  refine nm_ (some 10) ?_
  refine pu_ HT_ 5 (some 3) ?_
  refine pu_ HT_ 6 (some 4) ?_
  refine done_ (done_of HT_.out (by kernel_rfl)) ?_
  clear HT_ HW_ hHeld
  have HBn : Aside0 (Below w.heap.size w w2) := ⟨HB.out.trans (HY2.out.mono (below_size HB.out))⟩
  have BKn : Aside0 (w2.heap[gb]? = some (.cells #[.int .i64 a0, .int .i64 a1, .slice A2 l2.length c2, .bool b3, .slice A4 l4.length c4, .slice A5 l5.length c5, .slice A6 l6.length c6] 26 (0, 0))) := ⟨blk_below BK.out HY2.out⟩
  clear BK HB HS1 HY1 HY2
  have BK := BKn
  have HB := HBn
  clear BKn HBn
  have b5 : w2.cell? ⟨gb, 5, none⟩ = some (.slice A5 l5.length c5) := (blk_cell BK.out 5).trans rfl
  have b6 : w2.cell? ⟨gb, 6, none⟩ = some (.slice A6 l6.length c6) := (blk_cell BK.out 6).trans rfl
  go_wp2
  go_ret
  exact ⟨by rw [HV.out]; rfl, HB.out⟩
 ·have HV : Aside0 (rfencesB l5 l6 n = false) := ⟨by
   unfold rfencesB
   rw [if_neg h17, if_neg]
   intro h
   have h1 : n = 0 := eq_of_beq hnb
   have h2 : ¬ l5.length = 0 := by have : ¬ ((l5.length : Int) = 0) := by simpa using hkb
                                   omega
   exact h2 (h.symm ▸ h1)⟩
  go_enter Try.func39, Try.ntmps39
  go_upto_region 1 with ((with_reducible refine gate_dst (N := 1) rfl ?_); refine box_ 1 (cs := #[.int .i64 a0, .int .i64 a1, .slice A2 l2.length c2, .bool b3, .slice A4 l4.length c4, .slice A5 l5.length c5, .slice A6 l6.length c6]) (t := 26) ?_; intro gb hg_ w1 hbox hb; have BK := Aside0.mk hbox; have HB := Aside0.mk hb; have hgb : w.heap.size ≤ gb := Nat.le_of_eq hg_.symm; clear hb hbox hg_)
  have HS1 : Aside0 (∀ W, Below w1.heap.size w1 W → (W.cell? ⟨gb, 0, none⟩ = some (.int .i64 a0) ∧ W.cell? ⟨gb, 1, none⟩ = some (.int .i64 a1) ∧ W.cell? ⟨gb, 2, none⟩ = some (.slice A2 l2.length c2) ∧ W.cell? ⟨gb, 3, none⟩ = some (.bool b3) ∧ W.cell? ⟨gb, 4, none⟩ = some (.slice A4 l4.length c4) ∧ W.cell? ⟨gb, 5, none⟩ = some (.slice A5 l5.length c5) ∧ W.cell? ⟨gb, 6, none⟩ = some (.slice A6 l6.length c6))) := ⟨fun W hb => by
   have h_ := blk_below BK.out hb
   exact ⟨(blk_cell h_ 0).trans rfl, (blk_cell h_ 1).trans rfl, (blk_cell h_ 2).trans rfl, (blk_cell h_ 3).trans rfl, (blk_cell h_ 4).trans rfl, (blk_cell h_ 5).trans rfl, (blk_cell h_ 6).trans rfl⟩⟩
  have HY1 := Aside0.mk (below_drew1 (Below.refl w1.heap.size w1))
  refine start_ (n := 7) (S := fun w' => w'.cell? ⟨gb, 0, none⟩ = some (.int .i64 a0) ∧ w'.cell? ⟨gb, 1, none⟩ = some (.int .i64 a1) ∧ w'.cell? ⟨gb, 2, none⟩ = some (.slice A2 l2.length c2) ∧ w'.cell? ⟨gb, 3, none⟩ = some (.bool b3) ∧ w'.cell? ⟨gb, 4, none⟩ = some (.slice A4 l4.length c4) ∧ w'.cell? ⟨gb, 5, none⟩ = some (.slice A5 l5.length c5) ∧ w'.cell? ⟨gb, 6, none⟩ = some (.slice A6 l6.length c6)) (ds := []) #[false, false, false, false, false, false, false] (by kernel_rfl) rfl rfl (HS1.out _ HY1.out) (fun hHeld => ?_)
  refine with_tabW f39_tab1 f39_bits1 (fun HT_ HW_ => ?_)
  generalize w1.drew = wd at HY1 hHeld ⊢
  refine tk_ HT_ HW_ 0 (some 9) hHeld ?_
  refine pu_ HT_ 2 (some 11) ?_
  refine tk_ HT_ HW_ 3 (some 12) hHeld ?_
  refine pu_ HT_ 4 (some 13) ?_
  refine on_ HT_ 1 (some 10) (fun K hK => ?_)
  refine goes_ Try.func80 (by kernel_rfl) rfl #[.agg #[.int .i64 a0, .int .i64 a1, .slice A2 l2.length c2, .bool b3, .slice A4 l4.length c4, .slice A5 l5.length c5, .slice A6 l6.length c6]] (by kernel_rfl) rfl rfl (by (try simp only [List.map_toArray, List.map_cons, List.map_nil]); first | done | rfl) ?_
  refine (f80_calls a0 a1 A2 c2 l2 b3 A4 c4 l4 A5 c5 l5 A6 c6 l6 n HN.out _).mono ?_
  rintro e w2 ⟨rfl, hb⟩
  refine ⟨_, rfl, ?_⟩
  have HY2 := Aside0.mk (HY1.out.trans (hb.mono HY1.out.size))
  clear hb
  refine hK.out _ _ (HS1.out _ HY2.out) (fun hHeld => ?_)
  clear hK K
  refine nm_ (some 10) ?_
  refine pu_ HT_ 5 (some 3) ?_
  refine pu_ HT_ 6 (some 4) ?_
  refine done_ (done_of HT_.out (by kernel_rfl)) ?_
  clear HT_ HW_ hHeld
  have HBn : Aside0 (Below w.heap.size w w2) := ⟨HB.out.trans (HY2.out.mono (below_size HB.out))⟩
  have BKn : Aside0 (w2.heap[gb]? = some (.cells #[.int .i64 a0, .int .i64 a1, .slice A2 l2.length c2, .bool b3, .slice A4 l4.length c4, .slice A5 l5.length c5, .slice A6 l6.length c6] 26 (0, 0))) := ⟨blk_below BK.out HY2.out⟩
  clear BK HB HS1 HY1 HY2
  have BK := BKn
  have HB := HBn
  clear BKn HBn
  have b5 : w2.cell? ⟨gb, 5, none⟩ = some (.slice A5 l5.length c5) := (blk_cell BK.out 5).trans rfl
  have b6 : w2.cell? ⟨gb, 6, none⟩ = some (.slice A6 l6.length c6) := (blk_cell BK.out 6).trans rfl
  go_wp2
  go_ret
  exact ⟨by rw [HV.out]; rfl, HB.out⟩
 have hd0 : (kb != kb) = false := by cases kb <;> rfl
 have hdw : IntKind.i64.wrap (2 * (l5.length : Int)) = ((2 * l5.length : Nat) : Int) := by rw [i64_w]; unfold wrap64; omega
 have HKN : Aside0 ((l5.length = 0) = (n = 0)) := ⟨by
  rw [eq_iff_iff]
  have h1 : (l5.length = 0) ↔ kb = true := by rw [← hkb, beq_iff_eq]; omega
  have h2 : (n = 0) ↔ kb = true := by rw [← hnb, beq_iff_eq]
  rw [h1, h2]⟩
 by_cases h6 : ¬ l6.length = 2 * l5.length
 ·have hd : ((l6.length : Int) != ((2 * l5.length : Nat) : Int)) = true := by simp; omega
  have HV : Aside0 (rfencesB l5 l6 n = false) := ⟨by
   unfold rfencesB
   rw [if_neg h17, if_pos HKN.out, if_neg h6]⟩
  go_enter Try.func39, Try.ntmps39
  go_upto_region 1 with ((with_reducible refine gate_dst (N := 1) rfl ?_); refine box_ 1 (cs := #[.int .i64 a0, .int .i64 a1, .slice A2 l2.length c2, .bool b3, .slice A4 l4.length c4, .slice A5 l5.length c5, .slice A6 l6.length c6]) (t := 26) ?_; intro gb hg_ w1 hbox hb; have BK := Aside0.mk hbox; have HB := Aside0.mk hb; have hgb : w.heap.size ≤ gb := Nat.le_of_eq hg_.symm; clear hb hbox hg_)
  have HS1 : Aside0 (∀ W, Below w1.heap.size w1 W → (W.cell? ⟨gb, 0, none⟩ = some (.int .i64 a0) ∧ W.cell? ⟨gb, 1, none⟩ = some (.int .i64 a1) ∧ W.cell? ⟨gb, 2, none⟩ = some (.slice A2 l2.length c2) ∧ W.cell? ⟨gb, 3, none⟩ = some (.bool b3) ∧ W.cell? ⟨gb, 4, none⟩ = some (.slice A4 l4.length c4) ∧ W.cell? ⟨gb, 5, none⟩ = some (.slice A5 l5.length c5) ∧ W.cell? ⟨gb, 6, none⟩ = some (.slice A6 l6.length c6))) := ⟨fun W hb => by
   have h_ := blk_below BK.out hb
   exact ⟨(blk_cell h_ 0).trans rfl, (blk_cell h_ 1).trans rfl, (blk_cell h_ 2).trans rfl, (blk_cell h_ 3).trans rfl, (blk_cell h_ 4).trans rfl, (blk_cell h_ 5).trans rfl, (blk_cell h_ 6).trans rfl⟩⟩
  have HY1 := Aside0.mk (below_drew1 (Below.refl w1.heap.size w1))
  refine start_ (n := 7) (S := fun w' => w'.cell? ⟨gb, 0, none⟩ = some (.int .i64 a0) ∧ w'.cell? ⟨gb, 1, none⟩ = some (.int .i64 a1) ∧ w'.cell? ⟨gb, 2, none⟩ = some (.slice A2 l2.length c2) ∧ w'.cell? ⟨gb, 3, none⟩ = some (.bool b3) ∧ w'.cell? ⟨gb, 4, none⟩ = some (.slice A4 l4.length c4) ∧ w'.cell? ⟨gb, 5, none⟩ = some (.slice A5 l5.length c5) ∧ w'.cell? ⟨gb, 6, none⟩ = some (.slice A6 l6.length c6)) (ds := []) #[false, false, false, false, false, false, false] (by kernel_rfl) rfl rfl (HS1.out _ HY1.out) (fun hHeld => ?_)
  refine with_tabW f39_tab1 f39_bits1 (fun HT_ HW_ => ?_)
  generalize w1.drew = wd at HY1 hHeld ⊢
  refine tk_ HT_ HW_ 0 (some 9) hHeld ?_
  refine pu_ HT_ 2 (some 11) ?_
  refine tk_ HT_ HW_ 3 (some 12) hHeld ?_
  refine pu_ HT_ 4 (some 13) ?_
  refine on_ HT_ 1 (some 10) (fun K hK => ?_)
  refine goes_ Try.func80 (by kernel_rfl) rfl #[.agg #[.int .i64 a0, .int .i64 a1, .slice A2 l2.length c2, .bool b3, .slice A4 l4.length c4, .slice A5 l5.length c5, .slice A6 l6.length c6]] (by kernel_rfl) rfl rfl (by (try simp only [List.map_toArray, List.map_cons, List.map_nil]); first | done | rfl) ?_
  refine (f80_calls a0 a1 A2 c2 l2 b3 A4 c4 l4 A5 c5 l5 A6 c6 l6 n HN.out _).mono ?_
  rintro e w2 ⟨rfl, hb⟩
  refine ⟨_, rfl, ?_⟩
  have HY2 := Aside0.mk (HY1.out.trans (hb.mono HY1.out.size))
  clear hb
  refine hK.out _ _ (HS1.out _ HY2.out) (fun hHeld => ?_)
  clear hK K
  refine nm_ (some 10) ?_
  refine pu_ HT_ 5 (some 3) ?_
  refine pu_ HT_ 6 (some 4) ?_
  refine done_ (done_of HT_.out (by kernel_rfl)) ?_
  clear HT_ HW_ hHeld
  have HBn : Aside0 (Below w.heap.size w w2) := ⟨HB.out.trans (HY2.out.mono (below_size HB.out))⟩
  have BKn : Aside0 (w2.heap[gb]? = some (.cells #[.int .i64 a0, .int .i64 a1, .slice A2 l2.length c2, .bool b3, .slice A4 l4.length c4, .slice A5 l5.length c5, .slice A6 l6.length c6] 26 (0, 0))) := ⟨blk_below BK.out HY2.out⟩
  clear BK HB HS1 HY1 HY2
  have BK := BKn
  have HB := HBn
  clear BKn HBn
  have b5 : w2.cell? ⟨gb, 5, none⟩ = some (.slice A5 l5.length c5) := (blk_cell BK.out 5).trans rfl
  have b6 : w2.cell? ⟨gb, 6, none⟩ = some (.slice A6 l6.length c6) := (blk_cell BK.out 6).trans rfl
  go_wp2
  go_ret
  exact ⟨by rw [HV.out]; rfl, HB.out⟩
 have h6 : l6.length = 2 * l5.length := by omega
 have hd6 : ((l6.length : Int) != ((2 * l5.length : Nat) : Int)) = false := by simp; omega
 have hd6b : ((l6.length : Int) != 2 * (l5.length : Int)) = false := by simp; omega
 have h5 : l5.length ≤ 17 := by omega
 have HV : Aside0 (rfencesB l5 l6 n = allN (fun i => rF l5 i && rR l6 n l5.length i) 0 l5.length) := ⟨by
  unfold rfencesB
  rw [if_neg h17, if_pos HKN.out, if_pos h6]⟩
 have HL6 := Aside0.mk h6
 clear h17 h6
 go_enter Try.func39, Try.ntmps39
 go_upto_region 1 with ((with_reducible refine gate_dst (N := 1) rfl ?_); refine box_ 1 (cs := #[.int .i64 a0, .int .i64 a1, .slice A2 l2.length c2, .bool b3, .slice A4 l4.length c4, .slice A5 l5.length c5, .slice A6 l6.length c6]) (t := 26) ?_; intro gb hg_ w1 hbox hb; have BK := Aside0.mk hbox; have HB := Aside0.mk hb; have hgb : w.heap.size ≤ gb := Nat.le_of_eq hg_.symm; clear hb hbox hg_)
 have HS1 : Aside0 (∀ W, Below w1.heap.size w1 W → (W.cell? ⟨gb, 0, none⟩ = some (.int .i64 a0) ∧ W.cell? ⟨gb, 1, none⟩ = some (.int .i64 a1) ∧ W.cell? ⟨gb, 2, none⟩ = some (.slice A2 l2.length c2) ∧ W.cell? ⟨gb, 3, none⟩ = some (.bool b3) ∧ W.cell? ⟨gb, 4, none⟩ = some (.slice A4 l4.length c4) ∧ W.cell? ⟨gb, 5, none⟩ = some (.slice A5 l5.length c5) ∧ W.cell? ⟨gb, 6, none⟩ = some (.slice A6 l6.length c6))) := ⟨fun W hb => by
  have h_ := blk_below BK.out hb
  exact ⟨(blk_cell h_ 0).trans rfl, (blk_cell h_ 1).trans rfl, (blk_cell h_ 2).trans rfl, (blk_cell h_ 3).trans rfl, (blk_cell h_ 4).trans rfl, (blk_cell h_ 5).trans rfl, (blk_cell h_ 6).trans rfl⟩⟩
 have HY1 := Aside0.mk (below_drew1 (Below.refl w1.heap.size w1))
 refine start_ (n := 7) (S := fun w' => w'.cell? ⟨gb, 0, none⟩ = some (.int .i64 a0) ∧ w'.cell? ⟨gb, 1, none⟩ = some (.int .i64 a1) ∧ w'.cell? ⟨gb, 2, none⟩ = some (.slice A2 l2.length c2) ∧ w'.cell? ⟨gb, 3, none⟩ = some (.bool b3) ∧ w'.cell? ⟨gb, 4, none⟩ = some (.slice A4 l4.length c4) ∧ w'.cell? ⟨gb, 5, none⟩ = some (.slice A5 l5.length c5) ∧ w'.cell? ⟨gb, 6, none⟩ = some (.slice A6 l6.length c6)) (ds := []) #[false, false, false, false, false, false, false] (by kernel_rfl) rfl rfl (HS1.out _ HY1.out) (fun hHeld => ?_)
 refine with_tabW f39_tab1 f39_bits1 (fun HT_ HW_ => ?_)
 generalize w1.drew = wd at HY1 hHeld ⊢
 refine tk_ HT_ HW_ 0 (some 9) hHeld ?_
 refine pu_ HT_ 2 (some 11) ?_
 refine tk_ HT_ HW_ 3 (some 12) hHeld ?_
 refine pu_ HT_ 4 (some 13) ?_
 refine on_ HT_ 1 (some 10) (fun K hK => ?_)
 refine goes_ Try.func80 (by kernel_rfl) rfl #[.agg #[.int .i64 a0, .int .i64 a1, .slice A2 l2.length c2, .bool b3, .slice A4 l4.length c4, .slice A5 l5.length c5, .slice A6 l6.length c6]] (by kernel_rfl) rfl rfl (by (try simp only [List.map_toArray, List.map_cons, List.map_nil]); first | done | rfl) ?_
 refine (f80_calls a0 a1 A2 c2 l2 b3 A4 c4 l4 A5 c5 l5 A6 c6 l6 n HN.out _).mono ?_
 rintro e w2 ⟨rfl, hb⟩
 refine ⟨_, rfl, ?_⟩
 have HY2 := Aside0.mk (HY1.out.trans (hb.mono HY1.out.size))
 clear hb
 refine hK.out _ _ (HS1.out _ HY2.out) (fun hHeld => ?_)
 clear hK K
 refine nm_ (some 10) ?_
 refine pu_ HT_ 5 (some 3) ?_
 refine pu_ HT_ 6 (some 4) ?_
 refine done_ (done_of HT_.out (by kernel_rfl)) ?_
 clear HT_ HW_ hHeld
 have HBn : Aside0 (Below w.heap.size w w2) := ⟨HB.out.trans (HY2.out.mono (below_size HB.out))⟩
 have BKn : Aside0 (w2.heap[gb]? = some (.cells #[.int .i64 a0, .int .i64 a1, .slice A2 l2.length c2, .bool b3, .slice A4 l4.length c4, .slice A5 l5.length c5, .slice A6 l6.length c6] 26 (0, 0))) := ⟨blk_below BK.out HY2.out⟩
 clear BK HB HS1 HY1 HY2
 have BK := BKn
 have HB := HBn
 clear BKn HBn
 have b5 : w2.cell? ⟨gb, 5, none⟩ = some (.slice A5 l5.length c5) := (blk_cell BK.out 5).trans rfl
 have b6 : w2.cell? ⟨gb, 6, none⟩ = some (.slice A6 l6.length c6) := (blk_cell BK.out 6).trans rfl
 go_wp2
 clear hkb hnb hd0 hdw hd6 hd6b hd17 b5 b6
 go_loopg [5] l5.length (fun kq v5 w' => ∃ i : Nat, v5 = .int .i64 i ∧ i ≤ l5.length ∧ Aside0 (kq + i = l5.length) ∧ Aside0 (rfencesB l5 l6 n = allN (fun i => rF l5 i && rR l6 n l5.length i) i kq) ∧ Aside0 (w'.heap[gb]? = some (.cells #[.int .i64 a0, .int .i64 a1, .slice A2 l2.length c2, .bool b3, .slice A4 l4.length c4, .slice A5 l5.length c5, .slice A6 l6.length c6] 26 (0, 0))) ∧ Aside0 (Below w.heap.size w w'))
 case atStart => exact ⟨0, rfl, Nat.zero_le _, ⟨by omega⟩, HV, BK, HB⟩
 case round =>
  clear BK HB
  obtain ⟨i, rfl, hi, HK, HQ, BK, HB⟩ := hrel
  by_cases hl : i < l5.length
  ·cases gk with
   | zero => exact absurd HK.out (by omega)
   | succ k1 =>
    have b5 : wr.cell? ⟨gb, 5, none⟩ = some (.slice A5 l5.length c5) := (blk_cell BK.out 5).trans rfl
    have hdl : decide ((i : Int) < l5.length) = true := decide_eq_true (by omega)
    obtain ⟨ad, rfl, hx0, hx1, hx2⟩ := at_T39 HR5.out (i : Int) (by omega) (by omega)
    rw [Int.toNat_natCast] at hx0 hx1 hx2
    have HX0 := Aside0.mk hx0
    have HX1 := Aside0.mk hx1
    have HX2 := Aside0.mk hx2
    replace hx0 := up_ HB.out hx0
    replace hx1 := up_ HB.out hx1
    replace hx2 := up_ HB.out hx2
    obtain ⟨x, hxx⟩ : ∃ x, rd_T39 l5 i = x := ⟨_, rfl⟩
    rw [hxx] at hx0 hx1 hx2
    have HXX := Aside0.mk hxx
    clear hxx
    go_upto_region 8 with (fail)
    clear b5 hdl
    have hji : i - 1 < l5.length := by omega
    obtain ⟨ad1, e1, hy0, hy1, hy2⟩ := at_T39 HR5.out ((i - 1 : Nat) : Int) (by omega) (by omega)
    obtain rfl := Option.some.inj e1
    clear e1
    obtain ⟨ad1, e1, hv0, hv1, hv2⟩ := at_T39 HR5.out 0 (by omega) (by omega)
    obtain rfl := Option.some.inj e1
    clear e1 hv1 hv2
    rw [Int.toNat_natCast] at hy0 hy1 hy2
    obtain ⟨y, hyy⟩ : ∃ y, rd_T39 l5 ((i - 1 : Nat) : Int) = y := ⟨_, rfl⟩
    obtain ⟨v, hvv⟩ : ∃ y, rd_T39 l5 0 = y := ⟨_, rfl⟩
    rw [hyy] at hy0 hy1 hy2
    rw [hvv] at hv0
    obtain ⟨vb, hvb⟩ : ∃ b, rvV x = b := ⟨_, rfl⟩
    obtain ⟨zb, hzb⟩ : ∃ b, (x.f0 == 0) = b := ⟨_, rfl⟩
    obtain ⟨qb, hqb⟩ : ∃ b, (x.f0 != v.f0) = b := ⟨_, rfl⟩
    obtain ⟨ib, hib⟩ : ∃ b, decide (0 < i) = b := ⟨_, rfl⟩
    obtain ⟨cc, hcc⟩ : ∃ c, rcV y x = c := ⟨_, rfl⟩
    obtain ⟨cb, hcb⟩ : ∃ b, decide (0 ≤ cc) = b := ⟨_, rfl⟩
    have HOK : Aside0 (rF l5 i = (vb && !zb && !qb && !(ib && cb))) := ⟨by
     unfold rF
     rw [HXX.out, hvv, hvb, hzb, hqb]
     by_cases h0 : 0 < i
     ·rw [show ((i : Int) - 1) = ((i - 1 : Nat) : Int) from by omega, hyy, hcc, hcb, ← hib]
      (try simp [h0])
     ·obtain rfl : ib = false := by rw [← hib]; simpa using h0
      simp [h0]⟩
    have HVB := Aside0.mk hvb
    have HCC := Aside0.mk hcc
    have HY : Aside0 (∀ W, Below w.heap.size w W → W.cell? (ad.add ((i - 1) * 3)) = some (.int .i64 y.f0) ∧ W.cell? ⟨(ad.add ((i - 1) * 3)).block, (ad.add ((i - 1) * 3)).off + 1, none⟩ = some (.int .i64 y.f1) ∧ W.cell? ⟨(ad.add ((i - 1) * 3)).block, (ad.add ((i - 1) * 3)).off + 2, none⟩ = some (.string y.f2) ∧ W.cell? (ad.add ((0 : Int).toNat * 3)) = some (.int .i64 v.f0)) := ⟨fun W hb => ⟨(hb.cell (World.block_lt_of_cell? w _ hy0)).trans hy0, (hb.cell (World.block_lt_of_cell? w _ hy1)).trans hy1, (hb.cell (World.block_lt_of_cell? w _ hy2)).trans hy2, (hb.cell (World.block_lt_of_cell? w _ hv0)).trans hv0⟩⟩
    have BKa := Aside0.mk (blk_alloc BK.out (.cells #[.int .i64 x.f0, .int .i64 x.f1, .string x.f2] 39))
    have BNa := Aside0.mk (heap_alloc_new wr (.cells #[.int .i64 x.f0, .int .i64 x.f1, .string x.f2] 39))
    have HBa := Aside0.mk (below_alloc HB.out (.cells #[.int .i64 x.f0, .int .i64 x.f1, .string x.f2] 39))
    obtain ⟨wa, hwa⟩ : ∃ wa, wr.alloc (.cells #[.int .i64 x.f0, .int .i64 x.f1, .string x.f2] 39) = wa := ⟨_, rfl⟩
    rw [hwa] at BKa BNa HBa ⊢
    have hg7 := blk_lt BNa.out
    have hgb7 := blk_lt BKa.out
    clear hwa BK hx0 hx1 hx2 hy0 hy1 hy2 hv0 hvb hcc hyy hvv HX0 HX1 HX2
    generalize wr.heap.size = g7 at *
    have HS : Aside0 (∀ W, Below wa.heap.size wa W → (W.cell? ⟨g7, 0, none⟩ = some (.int .i64 x.f0) ∧ W.cell? ⟨g7, 1, none⟩ = some (.int .i64 x.f1) ∧ W.cell? ⟨g7, 2, none⟩ = some (.string x.f2) ∧ W.cell? ⟨gb, 5, none⟩ = some (.slice (some ad) l5.length c5) ∧ W.cell? (ad.add ((i - 1) * 3)) = some (.int .i64 y.f0) ∧ W.cell? ⟨(ad.add ((i - 1) * 3)).block, (ad.add ((i - 1) * 3)).off + 1, none⟩ = some (.int .i64 y.f1) ∧ W.cell? ⟨(ad.add ((i - 1) * 3)).block, (ad.add ((i - 1) * 3)).off + 2, none⟩ = some (.string y.f2) ∧ W.cell? ad = some (.int .i64 v.f0))) := ⟨fun W hb => by
     obtain ⟨y0, y1, y2, y3⟩ := HY.out W (HBa.out.trans (hb.mono (below_size HBa.out)))
     have h7 := blk_below BNa.out hb
     have hq := blk_below BKa.out hb
     exact ⟨(blk_cell h7 0).trans rfl, (blk_cell h7 1).trans rfl, (blk_cell h7 2).trans rfl, (blk_cell hq 5).trans rfl, y0, y1, y2, by simpa [Addr.add] using y3⟩⟩
    have HYd := Aside0.mk (below_drew1 (Below.refl wa.heap.size wa))
    have hd0 : decide ((0 : Int) < l5.length) = true := decide_eq_true (by omega)
    have hln : 0 < l5.length := by omega
    have hd1 : decide ((l5.length : Int) ≤ 0) = false := decide_eq_false (by omega)
    have hwi1 : IntKind.i64.wrap ((i : Int) + 1) = ((i + 1 : Nat) : Int) := by rw [i64_w]; unfold wrap64; omega
    refine start_ (n := 33) (S := fun w' => w'.cell? ⟨g7, 0, none⟩ = some (.int .i64 x.f0) ∧ w'.cell? ⟨g7, 1, none⟩ = some (.int .i64 x.f1) ∧ w'.cell? ⟨g7, 2, none⟩ = some (.string x.f2) ∧ w'.cell? ⟨gb, 5, none⟩ = some (.slice (some ad) l5.length c5) ∧ w'.cell? (ad.add ((i - 1) * 3)) = some (.int .i64 y.f0) ∧ w'.cell? ⟨(ad.add ((i - 1) * 3)).block, (ad.add ((i - 1) * 3)).off + 1, none⟩ = some (.int .i64 y.f1) ∧ w'.cell? ⟨(ad.add ((i - 1) * 3)).block, (ad.add ((i - 1) * 3)).off + 2, none⟩ = some (.string y.f2) ∧ w'.cell? ad = some (.int .i64 v.f0)) (ds := []) #[false, false, false, false, false, false, false, false, false, false, false, false, false, false, false, false, false, false, false, false, false, false, false, false, false, false, false, false, false, false, false, false, false] (by kernel_rfl) rfl rfl (HS.out _ HYd.out) (fun hHeld => ?_)
    refine with_tabW f39_tab8 f39_bits8 (fun HT_ HW_ => ?_)
    generalize wa.drew = wd at HYd hHeld ⊢
    refine tk_ HT_ HW_ 0 (some 41) hHeld ?_
    refine on_ HT_ 1 (some 42) (fun K hK => ?_)
    refine goes_ Try.func21 (by kernel_rfl) rfl #[.agg #[.int .i64 x.f0, .int .i64 x.f1, .string x.f2]] (by kernel_rfl) rfl rfl (by (try simp only [List.map_toArray, List.map_cons, List.map_nil]); first | done | rfl) ?_
    refine (rvV_calls x vb HVB.out _).mono ?_
    rintro e w4 ⟨rfl, hb⟩
    refine ⟨_, rfl, ?_⟩
    have HY4 := Aside0.mk (HYd.out.trans (hb.mono HYd.out.size))
    clear hb
    refine hK.out _ _ (HS.out _ HY4.out) (fun hHeld => ?_)
    clear hK K
    refine nm_ (some 42) ?_
    refine pu_ HT_ 2 (some 43) ?_
    refine pu_ HT_ 3 (some 44) ?_
    cases vb with
    | true =>
     refine pu_ HT_ 4 (some 45) ?_
     refine tk_ HT_ HW_ 5 (some 46) hHeld ?_
     refine pu_ HT_ 6 (some 47) ?_
     refine pu_ HT_ 7 (some 48) ?_
     refine pu_ HT_ 8 (some 49) ?_
     cases zb with
     | true =>
      refine sk_ HT_ 9 (some 50) ?_
      refine sk_ HT_ 10 (some 51) ?_
      refine sk_ HT_ 11 (some 52) ?_
      refine sk_ HT_ 12 (some 53) ?_
      refine sk_ HT_ 13 (some 54) ?_
      refine sk_ HT_ 14 (some 55) ?_
      refine sk_ HT_ 15 (some 56) ?_
      refine sk_ HT_ 16 (some 57) ?_
      refine pu_ HT_ 17 (some 58) ?_
      refine pu_ HT_ 18 (some 59) ?_
      refine sk_ HT_ 19 (some 60) ?_
      refine sk_ HT_ 20 (some 61) ?_
      refine sk_ HT_ 21 (some 62) ?_
      refine sk_ HT_ 22 (some 63) ?_
      refine sk_ HT_ 23 (some 64) ?_
      refine sk_ HT_ 24 (some 65) ?_
      refine sk_ HT_ 25 (some 66) ?_
      refine sk_ HT_ 26 (some 67) ?_
      refine sk_ HT_ 27 (some 68) ?_
      refine sk_ HT_ 28 (some 69) ?_
      refine sk_ HT_ 29 (some 70) ?_
      refine sk_ HT_ 30 (some 71) ?_
      refine sk_ HT_ 31 (some 72) ?_
      refine pu_ HT_ 32 (some 73) ?_
      refine done_ (done_of HT_.out (by kernel_rfl)) ?_
      clear HT_ HW_ hHeld
      have HF : Aside0 (rfencesB l5 l6 n = false) := ⟨by rw [HQ.out]; exact allN_bad _ _ _ (by rw [HOK.out]; rfl)⟩
      go_wp2
      go_ret
      exact ⟨by rw [HF.out]; rfl, HBa.out.trans (HY4.out.mono (below_size HBa.out))⟩
     | false =>
      refine pu_ HT_ 9 (some 50) ?_
      refine tk_ HT_ HW_ 10 (some 51) hHeld ?_
      refine pu_ HT_ 11 (some 52) ?_
      refine tk_ HT_ HW_ 12 (some 53) hHeld ?_
      refine tk_ HT_ HW_ 13 (some 54) hHeld ?_
      refine pu_ HT_ 14 (some 55) ?_
      refine tk_ HT_ HW_ 15 (some 56) hHeld ?_
      refine pu_ HT_ 16 (some 57) ?_
      refine pu_ HT_ 17 (some 58) ?_
      refine pu_ HT_ 18 (some 59) ?_
      cases qb with
      | true =>
       refine sk_ HT_ 19 (some 60) ?_
       refine sk_ HT_ 20 (some 61) ?_
       refine sk_ HT_ 21 (some 62) ?_
       refine sk_ HT_ 22 (some 63) ?_
       refine sk_ HT_ 23 (some 64) ?_
       refine sk_ HT_ 24 (some 65) ?_
       refine sk_ HT_ 25 (some 66) ?_
       refine sk_ HT_ 26 (some 67) ?_
       refine sk_ HT_ 27 (some 68) ?_
       refine sk_ HT_ 28 (some 69) ?_
       refine sk_ HT_ 29 (some 70) ?_
       refine sk_ HT_ 30 (some 71) ?_
       refine sk_ HT_ 31 (some 72) ?_
       refine pu_ HT_ 32 (some 73) ?_
       refine done_ (done_of HT_.out (by kernel_rfl)) ?_
       clear HT_ HW_ hHeld
       have HF : Aside0 (rfencesB l5 l6 n = false) := ⟨by rw [HQ.out]; exact allN_bad _ _ _ (by rw [HOK.out]; rfl)⟩
       go_wp2
       go_ret
       exact ⟨by rw [HF.out]; rfl, HBa.out.trans (HY4.out.mono (below_size HBa.out))⟩
      | false =>
       refine pu_ HT_ 19 (some 60) ?_
       refine pu_ HT_ 20 (some 61) ?_
       refine pu_ HT_ 21 (some 62) ?_
       cases ib with
       | true =>
        have hwi : IntKind.i64.wrap ((i : Int) - 1) = ((i - 1 : Nat) : Int) := by rw [i64_w]; have := of_decide_eq_true hib; unfold wrap64; omega
        have hdi : decide (((i - 1 : Nat) : Int) < l5.length) = true := decide_eq_true (by omega)
        have hdi2 : decide ((l5.length : Int) ≤ ((i - 1 : Nat) : Int)) = false := decide_eq_false (by omega)
        refine pu_ HT_ 22 (some 63) ?_
        refine tk_ HT_ HW_ 23 (some 64) hHeld ?_
        refine pu_ HT_ 24 (some 65) ?_
        refine pu_ HT_ 25 (some 66) ?_
        refine tk_ HT_ HW_ 26 (some 67) hHeld ?_
        refine tk_ HT_ HW_ 27 (some 68) hHeld ?_
        refine tk_ HT_ HW_ 28 (some 69) hHeld ?_
        refine on_ HT_ 29 (some 70) (fun K hK => ?_)
        refine goes_ Try.func32 (by kernel_rfl) rfl #[.agg #[.int .i64 y.f0, .int .i64 y.f1, .string y.f2], .agg #[.int .i64 x.f0, .int .i64 x.f1, .string x.f2]] (by kernel_rfl) rfl rfl (by (try simp only [List.map_toArray, List.map_cons, List.map_nil]); first | done | rfl) ?_
        refine (rcV_calls y x cc HCC.out _).mono ?_
        rintro e w5 ⟨rfl, hb⟩
        refine ⟨_, rfl, ?_⟩
        have HY5 := Aside0.mk (HY4.out.trans (hb.mono HY4.out.size))
        clear hb
        refine hK.out _ _ (HS.out _ HY5.out) (fun hHeld => ?_)
        clear hK K
        refine nm_ (some 70) ?_
        refine pu_ HT_ 30 (some 71) ?_
        refine pu_ HT_ 31 (some 72) ?_
        refine pu_ HT_ 32 (some 73) ?_
        refine done_ (done_of HT_.out (by kernel_rfl)) ?_
        clear HT_ HW_ hHeld
        cases cb with
        | true =>
         have HF : Aside0 (rfencesB l5 l6 n = false) := ⟨by rw [HQ.out]; exact allN_bad _ _ _ (by rw [HOK.out]; rfl)⟩
         go_wp2
         go_ret
         exact ⟨by rw [HF.out]; rfl, HBa.out.trans (HY5.out.mono (below_size HBa.out))⟩
        | false =>
         have HBz : Aside0 (Below w.heap.size w w5) := ⟨HBa.out.trans (HY5.out.mono (below_size HBa.out))⟩
         have BKz : Aside0 (w5.heap[gb]? = some (.cells #[.int .i64 a0, .int .i64 a1, .slice A2 l2.length c2, .bool b3, .slice A4 l4.length c4, .slice (some ad) l5.length c5, .slice A6 l6.length c6] 26 (0, 0))) := ⟨blk_below BKa.out HY5.out⟩
         clear HBa BKa BNa HS HYd HY4 HY5 HY hg7 hgb7
         have h6 := HL6.out
         obtain ⟨ae, rfl, hx0⟩ := Kd.at_int HR6.out ((2 * i : Nat) : Int) (by omega) (by omega)
         obtain ⟨ad2, e2, hy0⟩ := Kd.at_int HR6.out ((2 * i + 1 : Nat) : Int) (by omega) (by omega)
         obtain rfl := Option.some.inj e2
         clear e2
         rw [Int.toNat_natCast] at hx0 hy0
         rw [show ae.add (2 * i + 1) = ⟨ae.block, ae.off + (2 * i + 1), none⟩ from by simp [Addr.add]] at hy0
         replace hx0 := (HBz.out.cell (World.block_lt_of_cell? w _ hx0)).trans hx0
         replace hy0 := (HBz.out.cell (World.block_lt_of_cell? w _ hy0)).trans hy0
         obtain ⟨a, ha_⟩ : ∃ x, rd l6 ((2 * i : Nat) : Int) = x := ⟨_, rfl⟩
         obtain ⟨b, hb_⟩ : ∃ x, rd l6 ((2 * i + 1 : Nat) : Int) = x := ⟨_, rfl⟩
         rw [ha_] at hx0
         rw [hb_] at hy0
         obtain ⟨p, hp_⟩ : ∃ x, rd l6 (2 * (i : Int) - 2) = x := ⟨_, rfl⟩
         obtain ⟨q, hq_⟩ : ∃ x, rd l6 (2 * (i : Int) - 1) = x := ⟨_, rfl⟩
         have HP := Aside0.mk hp_
         have HQQ := Aside0.mk hq_
         have HRR : Aside0 (rR l6 n l5.length i = (!(decide (a < 0)) && !(decide (n < a)) && !(decide (b < 0)) && !(decide (n < b)) && !(i == 0 && a != 0) && !(i + 1 == l5.length && b != n) && !(decide (0 < i) && (decide (a < p) || decide (b < q) || decide (a < q))))) := ⟨by
          unfold rR
          rw [show (2 * (i : Int)) = ((2 * i : Nat) : Int) from by omega, show (((2 * i : Nat) : Int) + 1) = ((2 * i + 1 : Nat) : Int) from by omega, ha_, hb_, show (((2 * i : Nat) : Int) - 2) = (2 * (i : Int) - 2) from by omega, show (((2 * i : Nat) : Int) - 1) = (2 * (i : Int) - 1) from by omega, hp_, hq_]⟩
         have hw1 : IntKind.i64.wrap (2 * (i : Int)) = ((2 * i : Nat) : Int) := by rw [i64_w]; unfold wrap64; omega
         have hwz1 : wrap64 (2 * (i : Int)) = ((2 * i : Nat) : Int) := by unfold wrap64; omega
         have hwz2 : wrap64 (2 * (i : Int) + 1) = ((2 * i + 1 : Nat) : Int) := by unfold wrap64; omega
         have hm1 : 2 * (i : Int) < l6.length := by omega
         have hm2 : 2 * (i : Int) + 1 < l6.length := by omega
         have hm3 : 0 ≤ 2 * (i : Int) := by omega
         have hm4 : 0 ≤ 2 * (i : Int) + 1 := by omega
         have hm5 : (2 * (i : Int)).toNat = 2 * i := by omega
         have hm6 : (2 * (i : Int) + 1).toNat = 2 * i + 1 := by omega
         have hwk : IntKind.i64.wrap ((l5.length : Int) - 1) = ((l5.length - 1 : Nat) : Int) := by rw [i64_w]; unfold wrap64; omega
         have b6 : w5.cell? ⟨gb, 6, none⟩ = some (.slice (some ae) l6.length c6) := (blk_cell BKz.out 6).trans rfl
         obtain ⟨ad2, e2, hp0⟩ := Kd.at_int HR6.out ((2 * i - 2 : Nat) : Int) (by omega) (by omega)
         obtain rfl := Option.some.inj e2
         clear e2
         obtain ⟨ad2, e2, hq0⟩ := Kd.at_int HR6.out ((2 * i - 1 : Nat) : Int) (by have := of_decide_eq_true hib; omega) (by omega)
         obtain rfl := Option.some.inj e2
         clear e2
         rw [Int.toNat_natCast] at hp0 hq0
         rw [show ((2 * i - 2 : Nat) : Int) = (2 * (i : Int) - 2) from by have := of_decide_eq_true hib; omega, hp_] at hp0
         rw [show ((2 * i - 1 : Nat) : Int) = (2 * (i : Int) - 1) from by have := of_decide_eq_true hib; omega, hq_] at hq0
         have HP0 := Aside0.mk hp0
         have HQ0 := Aside0.mk hq0
         clear hp0 hq0
         clear ha_ hb_ hp_ hq_ h6
         have HS10 : (w5.drew.cell? ⟨gb, 6, none⟩ = some (.slice (some ae) l6.length c6) ∧ w5.drew.cell? (ae.add (2 * i)) = some (.int .i64 a) ∧ w5.drew.cell? ⟨ae.block, ae.off + (2 * i + 1), none⟩ = some (.int .i64 b)) := ⟨b6, hx0, hy0⟩
         replace HBz := Aside0.mk (below_drew1 HBz.out)
         replace BKz := Aside0.mk (blk_drew BKz.out)
         clear b6
         have b6 : w5.drew.cell? ⟨gb, 6, none⟩ = some (.slice (some ae) l6.length c6) := HS10.1
         go_upto_region 10 with (fail)
         refine start_ (n := 15) (S := fun w' => w'.cell? ⟨gb, 6, none⟩ = some (.slice (some ae) l6.length c6) ∧ w'.cell? (ae.add (2 * i)) = some (.int .i64 a) ∧ w'.cell? ⟨ae.block, ae.off + (2 * i + 1), none⟩ = some (.int .i64 b)) (ds := []) #[false, false, false, false, false, false, false, false, false, false, false, false, false, false, false] (by kernel_rfl) rfl rfl HS10 (fun hHeld => ?_)
         refine with_tabW f39_tab10 f39_bits10 (fun HT_ HW_ => ?_)
         generalize w5.drew = wz at HBz BKz b6 hHeld HS10 ⊢
         refine pu_ HT_ 0 (some 74) ?_
         refine tk_ HT_ HW_ 1 (some 75) hHeld ?_
         refine pu_ HT_ 2 (some 76) ?_
         refine pu_ HT_ 3 (some 77) ?_
         refine tk_ HT_ HW_ 4 (some 78) hHeld ?_
         refine tk_ HT_ HW_ 5 (some 79) hHeld ?_
         refine pu_ HT_ 6 (some 80) ?_
         refine tk_ HT_ HW_ 7 (some 81) hHeld ?_
         refine pu_ HT_ 8 (some 82) ?_
         refine pu_ HT_ 9 (some 83) ?_
         refine pu_ HT_ 10 (some 84) ?_
         refine tk_ HT_ HW_ 11 (some 85) hHeld ?_
         refine tk_ HT_ HW_ 12 (some 86) hHeld ?_
         refine pu_ HT_ 13 (some 7) ?_
         refine pu_ HT_ 14 (some 8) ?_
         refine done_ (done_of HT_.out (by kernel_rfl)) ?_
         clear HT_ HW_ hHeld
         clear HS10 hx0 hy0 hm1 hm2 hm3 hm4 hm5 hm6 hwz1 hwz2
         by_cases hc0 : a < 0
         ·have hc0d : decide (a < 0) = true := decide_eq_true hc0
          have HF : Aside0 (rfencesB l5 l6 n = false) := ⟨by rw [HQ.out]; exact allN_bad _ _ _ (by rw [HOK.out, HRR.out]; simp [hc0])⟩
          clear HRR
          go_wp2
          go_ret
          exact ⟨by rw [HF.out]; rfl, HBz.out⟩
         have hc0d : decide (a < 0) = false := decide_eq_false hc0
         by_cases hc1 : n < a
         ·have hc1d : decide (n < a) = true := decide_eq_true hc1
          have HF : Aside0 (rfencesB l5 l6 n = false) := ⟨by rw [HQ.out]; exact allN_bad _ _ _ (by rw [HOK.out, HRR.out]; simp [hc1])⟩
          clear HRR
          go_wp2
          go_ret
          exact ⟨by rw [HF.out]; rfl, HBz.out⟩
         have hc1d : decide (n < a) = false := decide_eq_false hc1
         by_cases hc2 : b < 0
         ·have hc2d : decide (b < 0) = true := decide_eq_true hc2
          have HF : Aside0 (rfencesB l5 l6 n = false) := ⟨by rw [HQ.out]; exact allN_bad _ _ _ (by rw [HOK.out, HRR.out]; simp [hc2])⟩
          clear HRR
          go_wp2
          go_ret
          exact ⟨by rw [HF.out]; rfl, HBz.out⟩
         have hc2d : decide (b < 0) = false := decide_eq_false hc2
         by_cases hc3 : n < b
         ·have hc3d : decide (n < b) = true := decide_eq_true hc3
          have HF : Aside0 (rfencesB l5 l6 n = false) := ⟨by rw [HQ.out]; exact allN_bad _ _ _ (by rw [HOK.out, HRR.out]; simp [hc3])⟩
          clear HRR
          go_wp2
          go_ret
          exact ⟨by rw [HF.out]; rfl, HBz.out⟩
         have hc3d : decide (n < b) = false := decide_eq_false hc3
         have hi0b : ((i : Int) == 0) = false := beq_eq_false_iff_ne.2 (by have := of_decide_eq_true hib; omega)
         have hi0b2 : (i == 0) = false := beq_eq_false_iff_ne.2 (by have := of_decide_eq_true hib; omega)
         obtain ⟨lb, hlb⟩ : ∃ q, ((i : Int) == ((l5.length - 1 : Nat) : Int)) = q := ⟨_, rfl⟩
         have hlb2 : (i + 1 == l5.length) = lb := by rw [← hlb, Bool.eq_iff_iff, beq_iff_eq, beq_iff_eq]; omega
         obtain ⟨nb, hnb⟩ : ∃ q, (b != n) = q := ⟨_, rfl⟩
         have HLB := Aside0.mk hlb2
         have HNB := Aside0.mk hnb
         clear hlb2
         cases lb with
         | false =>
          have hi1 : 0 < i := of_decide_eq_true hib
          have hw2 : IntKind.i64.wrap (2 * (i : Int) - 2) = ((2 * i - 2 : Nat) : Int) := by rw [i64_w]; unfold wrap64; omega
          have hw3 : IntKind.i64.wrap (2 * (i : Int) - 1) = ((2 * i - 1 : Nat) : Int) := by rw [i64_w]; unfold wrap64; omega
          have h6 := HL6.out
          have hm1 : 2 * i - 2 < l6.length := by omega
          have hm2 : 2 * i - 1 < l6.length := by omega
          have hp0 := (HBz.out.cell (World.block_lt_of_cell? w _ HP0.out)).trans HP0.out
          have hq0 := (HBz.out.cell (World.block_lt_of_cell? w _ HQ0.out)).trans HQ0.out
          clear h6
          by_cases hd0 : a < p
          ·have hd0d : decide (a < p) = true := decide_eq_true hd0
           have HF : Aside0 (rfencesB l5 l6 n = false) := ⟨by rw [HQ.out]; exact allN_bad _ _ _ (by rw [HOK.out, HRR.out]; simp [hib, hd0])⟩
           clear HRR
           go_wp2
           go_ret
           exact ⟨by rw [HF.out]; rfl, HBz.out⟩
          have hd0d : decide (a < p) = false := decide_eq_false hd0
          by_cases hd1 : b < q
          ·have hd1d : decide (b < q) = true := decide_eq_true hd1
           have HF : Aside0 (rfencesB l5 l6 n = false) := ⟨by rw [HQ.out]; exact allN_bad _ _ _ (by rw [HOK.out, HRR.out]; simp [hib, hd1])⟩
           clear HRR
           go_wp2
           go_ret
           exact ⟨by rw [HF.out]; rfl, HBz.out⟩
          have hd1d : decide (b < q) = false := decide_eq_false hd1
          by_cases hd2 : a < q
          ·have hd2d : decide (a < q) = true := decide_eq_true hd2
           have HF : Aside0 (rfencesB l5 l6 n = false) := ⟨by rw [HQ.out]; exact allN_bad _ _ _ (by rw [HOK.out, HRR.out]; simp [hib, hd2])⟩
           clear HRR
           go_wp2
           go_ret
           exact ⟨by rw [HF.out]; rfl, HBz.out⟩
          have hd2d : decide (a < q) = false := decide_eq_false hd2
          have HF : Aside0 (rfencesB l5 l6 n = allN (fun i => rF l5 i && rR l6 n l5.length i) (i + 1) k1) := ⟨by rw [HQ.out, allN_next _ _ _ (by rw [HOK.out, HRR.out]; simp [hib, hi0b2, hc0, hc1, hc2, hc3, hd0, hd1, hd2, HLB.out])]⟩
          clear HRR
          go_wp2
          go_roundg k1
          case measure => omega
          case rel => exact ⟨i + 1, int_eq (by omega), by omega, ⟨by have := HK.out; omega⟩, HF, BKz, HBz⟩
         | true =>
          cases nb with
          | true =>
           have HF : Aside0 (rfencesB l5 l6 n = false) := ⟨by rw [HQ.out]; exact allN_bad _ _ _ (by rw [HOK.out, HRR.out]; simp [HLB.out, HNB.out])⟩
           clear HRR
           go_wp2
           go_ret
           exact ⟨by rw [HF.out]; rfl, HBz.out⟩
          | false =>
           have hi1 : 0 < i := of_decide_eq_true hib
           have hw2 : IntKind.i64.wrap (2 * (i : Int) - 2) = ((2 * i - 2 : Nat) : Int) := by rw [i64_w]; unfold wrap64; omega
           have hw3 : IntKind.i64.wrap (2 * (i : Int) - 1) = ((2 * i - 1 : Nat) : Int) := by rw [i64_w]; unfold wrap64; omega
           have h6 := HL6.out
           have hm1 : 2 * i - 2 < l6.length := by omega
           have hm2 : 2 * i - 1 < l6.length := by omega
           have hp0 := (HBz.out.cell (World.block_lt_of_cell? w _ HP0.out)).trans HP0.out
           have hq0 := (HBz.out.cell (World.block_lt_of_cell? w _ HQ0.out)).trans HQ0.out
           clear h6
           by_cases hd0 : a < p
           ·have hd0d : decide (a < p) = true := decide_eq_true hd0
            have HF : Aside0 (rfencesB l5 l6 n = false) := ⟨by rw [HQ.out]; exact allN_bad _ _ _ (by rw [HOK.out, HRR.out]; simp [hib, hd0])⟩
            clear HRR
            go_wp2
            go_ret
            exact ⟨by rw [HF.out]; rfl, HBz.out⟩
           have hd0d : decide (a < p) = false := decide_eq_false hd0
           by_cases hd1 : b < q
           ·have hd1d : decide (b < q) = true := decide_eq_true hd1
            have HF : Aside0 (rfencesB l5 l6 n = false) := ⟨by rw [HQ.out]; exact allN_bad _ _ _ (by rw [HOK.out, HRR.out]; simp [hib, hd1])⟩
            clear HRR
            go_wp2
            go_ret
            exact ⟨by rw [HF.out]; rfl, HBz.out⟩
           have hd1d : decide (b < q) = false := decide_eq_false hd1
           by_cases hd2 : a < q
           ·have hd2d : decide (a < q) = true := decide_eq_true hd2
            have HF : Aside0 (rfencesB l5 l6 n = false) := ⟨by rw [HQ.out]; exact allN_bad _ _ _ (by rw [HOK.out, HRR.out]; simp [hib, hd2])⟩
            clear HRR
            go_wp2
            go_ret
            exact ⟨by rw [HF.out]; rfl, HBz.out⟩
           have hd2d : decide (a < q) = false := decide_eq_false hd2
           have HF : Aside0 (rfencesB l5 l6 n = allN (fun i => rF l5 i && rR l6 n l5.length i) (i + 1) k1) := ⟨by rw [HQ.out, allN_next _ _ _ (by rw [HOK.out, HRR.out]; simp [hib, hi0b2, hc0, hc1, hc2, hc3, hd0, hd1, hd2, HLB.out, HNB.out])]⟩
           clear HRR
           go_wp2
           go_roundg k1
           case measure => omega
           case rel => exact ⟨i + 1, int_eq (by omega), by omega, ⟨by have := HK.out; omega⟩, HF, BKz, HBz⟩
       | false =>
        refine sk_ HT_ 22 (some 63) ?_
        refine sk_ HT_ 23 (some 64) ?_
        refine sk_ HT_ 24 (some 65) ?_
        refine sk_ HT_ 25 (some 66) ?_
        refine sk_ HT_ 26 (some 67) ?_
        refine sk_ HT_ 27 (some 68) ?_
        refine sk_ HT_ 28 (some 69) ?_
        refine sk_ HT_ 29 (some 70) ?_
        refine sk_ HT_ 30 (some 71) ?_
        refine pu_ HT_ 31 (some 72) ?_
        refine pu_ HT_ 32 (some 73) ?_
        refine done_ (done_of HT_.out (by kernel_rfl)) ?_
        clear HT_ HW_ hHeld
        have HBz : Aside0 (Below w.heap.size w w4) := ⟨HBa.out.trans (HY4.out.mono (below_size HBa.out))⟩
        have BKz : Aside0 (w4.heap[gb]? = some (.cells #[.int .i64 a0, .int .i64 a1, .slice A2 l2.length c2, .bool b3, .slice A4 l4.length c4, .slice (some ad) l5.length c5, .slice A6 l6.length c6] 26 (0, 0))) := ⟨blk_below BKa.out HY4.out⟩
        clear HBa BKa BNa HS HYd HY4 HY hg7 hgb7
        have h6 := HL6.out
        obtain ⟨ae, rfl, hx0⟩ := Kd.at_int HR6.out ((2 * i : Nat) : Int) (by omega) (by omega)
        obtain ⟨ad2, e2, hy0⟩ := Kd.at_int HR6.out ((2 * i + 1 : Nat) : Int) (by omega) (by omega)
        obtain rfl := Option.some.inj e2
        clear e2
        rw [Int.toNat_natCast] at hx0 hy0
        rw [show ae.add (2 * i + 1) = ⟨ae.block, ae.off + (2 * i + 1), none⟩ from by simp [Addr.add]] at hy0
        replace hx0 := (HBz.out.cell (World.block_lt_of_cell? w _ hx0)).trans hx0
        replace hy0 := (HBz.out.cell (World.block_lt_of_cell? w _ hy0)).trans hy0
        obtain ⟨a, ha_⟩ : ∃ x, rd l6 ((2 * i : Nat) : Int) = x := ⟨_, rfl⟩
        obtain ⟨b, hb_⟩ : ∃ x, rd l6 ((2 * i + 1 : Nat) : Int) = x := ⟨_, rfl⟩
        rw [ha_] at hx0
        rw [hb_] at hy0
        obtain ⟨p, hp_⟩ : ∃ x, rd l6 (2 * (i : Int) - 2) = x := ⟨_, rfl⟩
        obtain ⟨q, hq_⟩ : ∃ x, rd l6 (2 * (i : Int) - 1) = x := ⟨_, rfl⟩
        have HP := Aside0.mk hp_
        have HQQ := Aside0.mk hq_
        have HRR : Aside0 (rR l6 n l5.length i = (!(decide (a < 0)) && !(decide (n < a)) && !(decide (b < 0)) && !(decide (n < b)) && !(i == 0 && a != 0) && !(i + 1 == l5.length && b != n) && !(decide (0 < i) && (decide (a < p) || decide (b < q) || decide (a < q))))) := ⟨by
         unfold rR
         rw [show (2 * (i : Int)) = ((2 * i : Nat) : Int) from by omega, show (((2 * i : Nat) : Int) + 1) = ((2 * i + 1 : Nat) : Int) from by omega, ha_, hb_, show (((2 * i : Nat) : Int) - 2) = (2 * (i : Int) - 2) from by omega, show (((2 * i : Nat) : Int) - 1) = (2 * (i : Int) - 1) from by omega, hp_, hq_]⟩
        have hw1 : IntKind.i64.wrap (2 * (i : Int)) = ((2 * i : Nat) : Int) := by rw [i64_w]; unfold wrap64; omega
        have hwz1 : wrap64 (2 * (i : Int)) = ((2 * i : Nat) : Int) := by unfold wrap64; omega
        have hwz2 : wrap64 (2 * (i : Int) + 1) = ((2 * i + 1 : Nat) : Int) := by unfold wrap64; omega
        have hm1 : 2 * (i : Int) < l6.length := by omega
        have hm2 : 2 * (i : Int) + 1 < l6.length := by omega
        have hm3 : 0 ≤ 2 * (i : Int) := by omega
        have hm4 : 0 ≤ 2 * (i : Int) + 1 := by omega
        have hm5 : (2 * (i : Int)).toNat = 2 * i := by omega
        have hm6 : (2 * (i : Int) + 1).toNat = 2 * i + 1 := by omega
        have hwk : IntKind.i64.wrap ((l5.length : Int) - 1) = ((l5.length - 1 : Nat) : Int) := by rw [i64_w]; unfold wrap64; omega
        have b6 : w4.cell? ⟨gb, 6, none⟩ = some (.slice (some ae) l6.length c6) := (blk_cell BKz.out 6).trans rfl
        clear ha_ hb_ hp_ hq_ h6
        have HS10 : (w4.drew.cell? ⟨gb, 6, none⟩ = some (.slice (some ae) l6.length c6) ∧ w4.drew.cell? (ae.add (2 * i)) = some (.int .i64 a) ∧ w4.drew.cell? ⟨ae.block, ae.off + (2 * i + 1), none⟩ = some (.int .i64 b)) := ⟨b6, hx0, hy0⟩
        replace HBz := Aside0.mk (below_drew1 HBz.out)
        replace BKz := Aside0.mk (blk_drew BKz.out)
        clear b6
        have b6 : w4.drew.cell? ⟨gb, 6, none⟩ = some (.slice (some ae) l6.length c6) := HS10.1
        go_upto_region 10 with (fail)
        refine start_ (n := 15) (S := fun w' => w'.cell? ⟨gb, 6, none⟩ = some (.slice (some ae) l6.length c6) ∧ w'.cell? (ae.add (2 * i)) = some (.int .i64 a) ∧ w'.cell? ⟨ae.block, ae.off + (2 * i + 1), none⟩ = some (.int .i64 b)) (ds := []) #[false, false, false, false, false, false, false, false, false, false, false, false, false, false, false] (by kernel_rfl) rfl rfl HS10 (fun hHeld => ?_)
        refine with_tabW f39_tab10 f39_bits10 (fun HT_ HW_ => ?_)
        generalize w4.drew = wz at HBz BKz b6 hHeld HS10 ⊢
        refine pu_ HT_ 0 (some 74) ?_
        refine tk_ HT_ HW_ 1 (some 75) hHeld ?_
        refine pu_ HT_ 2 (some 76) ?_
        refine pu_ HT_ 3 (some 77) ?_
        refine tk_ HT_ HW_ 4 (some 78) hHeld ?_
        refine tk_ HT_ HW_ 5 (some 79) hHeld ?_
        refine pu_ HT_ 6 (some 80) ?_
        refine tk_ HT_ HW_ 7 (some 81) hHeld ?_
        refine pu_ HT_ 8 (some 82) ?_
        refine pu_ HT_ 9 (some 83) ?_
        refine pu_ HT_ 10 (some 84) ?_
        refine tk_ HT_ HW_ 11 (some 85) hHeld ?_
        refine tk_ HT_ HW_ 12 (some 86) hHeld ?_
        refine pu_ HT_ 13 (some 7) ?_
        refine pu_ HT_ 14 (some 8) ?_
        refine done_ (done_of HT_.out (by kernel_rfl)) ?_
        clear HT_ HW_ hHeld
        clear HS10 hx0 hy0 hm1 hm2 hm3 hm4 hm5 hm6 hwz1 hwz2
        by_cases hc0 : a < 0
        ·have hc0d : decide (a < 0) = true := decide_eq_true hc0
         have HF : Aside0 (rfencesB l5 l6 n = false) := ⟨by rw [HQ.out]; exact allN_bad _ _ _ (by rw [HOK.out, HRR.out]; simp [hc0])⟩
         clear HRR
         go_wp2
         go_ret
         exact ⟨by rw [HF.out]; rfl, HBz.out⟩
        have hc0d : decide (a < 0) = false := decide_eq_false hc0
        by_cases hc1 : n < a
        ·have hc1d : decide (n < a) = true := decide_eq_true hc1
         have HF : Aside0 (rfencesB l5 l6 n = false) := ⟨by rw [HQ.out]; exact allN_bad _ _ _ (by rw [HOK.out, HRR.out]; simp [hc1])⟩
         clear HRR
         go_wp2
         go_ret
         exact ⟨by rw [HF.out]; rfl, HBz.out⟩
        have hc1d : decide (n < a) = false := decide_eq_false hc1
        by_cases hc2 : b < 0
        ·have hc2d : decide (b < 0) = true := decide_eq_true hc2
         have HF : Aside0 (rfencesB l5 l6 n = false) := ⟨by rw [HQ.out]; exact allN_bad _ _ _ (by rw [HOK.out, HRR.out]; simp [hc2])⟩
         clear HRR
         go_wp2
         go_ret
         exact ⟨by rw [HF.out]; rfl, HBz.out⟩
        have hc2d : decide (b < 0) = false := decide_eq_false hc2
        by_cases hc3 : n < b
        ·have hc3d : decide (n < b) = true := decide_eq_true hc3
         have HF : Aside0 (rfencesB l5 l6 n = false) := ⟨by rw [HQ.out]; exact allN_bad _ _ _ (by rw [HOK.out, HRR.out]; simp [hc3])⟩
         clear HRR
         go_wp2
         go_ret
         exact ⟨by rw [HF.out]; rfl, HBz.out⟩
        have hc3d : decide (n < b) = false := decide_eq_false hc3
        have hi0b : ((i : Int) == 0) = true := beq_iff_eq.2 (by have := of_decide_eq_false hib; omega)
        have hi0b2 : (i == 0) = true := beq_iff_eq.2 (by have := of_decide_eq_false hib; omega)
        obtain ⟨zb, hzb⟩ : ∃ q, (a != 0) = q := ⟨_, rfl⟩
        cases zb with
        | true =>
         have HF : Aside0 (rfencesB l5 l6 n = false) := ⟨by rw [HQ.out]; exact allN_bad _ _ _ (by rw [HOK.out, HRR.out]; simp [hi0b2, hzb])⟩
         clear HRR
         go_wp2
         go_ret
         exact ⟨by rw [HF.out]; rfl, HBz.out⟩
        | false =>
         obtain ⟨lb, hlb⟩ : ∃ q, ((i : Int) == ((l5.length - 1 : Nat) : Int)) = q := ⟨_, rfl⟩
         have hlb2 : (i + 1 == l5.length) = lb := by rw [← hlb, Bool.eq_iff_iff, beq_iff_eq, beq_iff_eq]; omega
         obtain ⟨nb, hnb⟩ : ∃ q, (b != n) = q := ⟨_, rfl⟩
         have HLB := Aside0.mk hlb2
         have HNB := Aside0.mk hnb
         clear hlb2
         cases lb with
         | false =>
          have HF : Aside0 (rfencesB l5 l6 n = allN (fun i => rF l5 i && rR l6 n l5.length i) (i + 1) k1) := ⟨by rw [HQ.out, allN_next _ _ _ (by rw [HOK.out, HRR.out]; simp [hib, hi0b2, hzb, hc0, hc1, hc2, hc3, HLB.out])]⟩
          clear HRR
          go_wp2
          go_roundg k1
          case measure => omega
          case rel => exact ⟨i + 1, int_eq (by omega), by omega, ⟨by have := HK.out; omega⟩, HF, BKz, HBz⟩
         | true =>
          cases nb with
          | true =>
           have HF : Aside0 (rfencesB l5 l6 n = false) := ⟨by rw [HQ.out]; exact allN_bad _ _ _ (by rw [HOK.out, HRR.out]; simp [HLB.out, HNB.out])⟩
           clear HRR
           go_wp2
           go_ret
           exact ⟨by rw [HF.out]; rfl, HBz.out⟩
          | false =>
           have HF : Aside0 (rfencesB l5 l6 n = allN (fun i => rF l5 i && rR l6 n l5.length i) (i + 1) k1) := ⟨by rw [HQ.out, allN_next _ _ _ (by rw [HOK.out, HRR.out]; simp [hib, hi0b2, hzb, hc0, hc1, hc2, hc3, HLB.out, HNB.out])]⟩
           clear HRR
           go_wp2
           go_roundg k1
           case measure => omega
           case rel => exact ⟨i + 1, int_eq (by omega), by omega, ⟨by have := HK.out; omega⟩, HF, BKz, HBz⟩
    | false =>
     refine sk_ HT_ 4 (some 45) ?_
     refine sk_ HT_ 5 (some 46) ?_
     refine sk_ HT_ 6 (some 47) ?_
     refine pu_ HT_ 7 (some 48) ?_
     refine pu_ HT_ 8 (some 49) ?_
     refine sk_ HT_ 9 (some 50) ?_
     refine sk_ HT_ 10 (some 51) ?_
     refine sk_ HT_ 11 (some 52) ?_
     refine sk_ HT_ 12 (some 53) ?_
     refine sk_ HT_ 13 (some 54) ?_
     refine sk_ HT_ 14 (some 55) ?_
     refine sk_ HT_ 15 (some 56) ?_
     refine sk_ HT_ 16 (some 57) ?_
     refine pu_ HT_ 17 (some 58) ?_
     refine pu_ HT_ 18 (some 59) ?_
     refine sk_ HT_ 19 (some 60) ?_
     refine sk_ HT_ 20 (some 61) ?_
     refine sk_ HT_ 21 (some 62) ?_
     refine sk_ HT_ 22 (some 63) ?_
     refine sk_ HT_ 23 (some 64) ?_
     refine sk_ HT_ 24 (some 65) ?_
     refine sk_ HT_ 25 (some 66) ?_
     refine sk_ HT_ 26 (some 67) ?_
     refine sk_ HT_ 27 (some 68) ?_
     refine sk_ HT_ 28 (some 69) ?_
     refine sk_ HT_ 29 (some 70) ?_
     refine sk_ HT_ 30 (some 71) ?_
     refine sk_ HT_ 31 (some 72) ?_
     refine pu_ HT_ 32 (some 73) ?_
     refine done_ (done_of HT_.out (by kernel_rfl)) ?_
     clear HT_ HW_ hHeld
     have HF : Aside0 (rfencesB l5 l6 n = false) := ⟨by rw [HQ.out]; exact allN_bad _ _ _ (by rw [HOK.out]; rfl)⟩
     go_wp2
     go_ret
     exact ⟨by rw [HF.out]; rfl, HBa.out.trans (HY4.out.mono (below_size HBa.out))⟩
  ·obtain rfl : i = l5.length := by omega
   cases gk with
   | succ k1 => exact absurd HK.out (by omega)
   | zero =>
   have HF : Aside0 (rfencesB l5 l6 n = true) := ⟨by rw [HQ.out]; rfl⟩
   have hdl : decide ((l5.length : Int) < l5.length) = false := decide_eq_false (by omega)
   go_wp2
   go_ret
   exact ⟨by rw [HF.out]; rfl, HB.out⟩
end Go.Proofs.Ytackcingpffidaa.P
