/- What Go functions of the given program return, told as Lean functions, and the walks that show it, with plain facts on them: laminalaw16_integer, U5, H72. Conditions: the hypotheses that stand at each theorem. -/
import Derived.Test.YtackcingpffidaaZv0
import Derived.Test.YtackcingpffidaaZv1
import Derived.Test.YtackcingpffidaaZv2
import Derived.Test.YtackcingpffidaaZv8
namespace Go.Proofs.Ytackcingpffidaa.P
open Go.RowKit Go.Proofs.YtackcingpffidaaW.PrintWords Go.Proofs.YtackcingpffidaaW.PrintLast Go.Proofs.YtackcingpffidaaW.PrintMore
attribute [local go_sem] max2_int min2_int max_two min_two max_three min_three max_four min_four Go.Proofs.YtackcingpffidaaQ.str_gtr Go.Proofs.YtackcingpffidaaQ.str_leq Go.Proofs.YtackcingpffidaaQ.str_geq   -- for this text's walks alone
set_option linter.unusedVariables false
set_option linter.unusedSimpArgs false
/-! ### laminalaw16_integer: function 40 -/
def laminalaw16_integer.f (a0 : Int) : Option (Int × Int × ByteArray) := some (2, a0, (⟨#[]⟩ : ByteArray))
set_option maxHeartbeats 8000000 in
set_option maxRecDepth 100000 in
theorem laminalaw16_integer.calls (a0 : Int) (r1 : Int) (r2 : Int) (r3 : ByteArray) (w : World) (h : laminalaw16_integer.f a0 = some (r1, r2, r3)) :
    Calls Try.prog 40 #[.int .i64 a0] w fun e w' => e = .returned (.agg #[.int .i64 r1, .int .i64 r2, .string r3]) ∧ Below w.heap.size w w' := by
  have hu39 := Try.underlying39
  have HB := Aside0.mk (Below.refl w.heap.size w)
  have H : (some (2, a0, (⟨#[]⟩ : ByteArray))) = some (r1, r2, r3) := h
  clear h
  simp only [Option.some.injEq, Prod.mk.injEq] at H
  obtain ⟨rfl, rfl, rfl⟩ := H
  go_enter Try.func40, Try.ntmps40
  go_wp2_with (first | ((with_reducible refine gate_dst (N := 2) rfl ?_); refine box_event ?hg (N := 2) ?hd (cs := #[.int .i64 0, .int .i64 0, .string (⟨#[]⟩ : ByteArray)]) (t := 39) ?hr ?_; (case hd => rfl); (case hg => rfl); (case hr => first | (go_simp; done) | (go_simp; rfl)); intro gb476 hg w2 hbox hb; have n0_ := Aside0.mk (below_step (by repeat (first | (with_reducible first | exact HB.out | apply below_alloc | apply pw_below_drewN | apply below_drew1) | exact HB.out)) hb); have n1_ := Aside0.mk (hbox); have n2_ := Aside0.mk ((by rw [hg]; exact (below_size (by repeat (first | (with_reducible first | exact HB.out | apply below_alloc | apply pw_below_drewN | apply below_drew1) | exact HB.out))) : w.heap.size ≤ gb476)); have n3_ := Aside0.mk ((by rw [hg]; exact (below_size (by repeat (first | (with_reducible first | exact HB.out | apply below_alloc | apply pw_below_drewN | apply below_drew1) | exact HB.out))) : w.heap.size ≤ gb476)); clear HB; have HB := n0_; have BK476 := n1_; have GW476 := n2_; have GE476 := n3_; clear n0_ n1_ n2_ n3_; clear hb hbox hg; have hcz3_0 : w2.cell? ⟨gb476, 0, none⟩ = some (.int .i64 0) := (blk_cell BK476.out 0).trans rfl; have hcz3_1 : w2.cell? ⟨gb476, 1, none⟩ = some (.int .i64 0) := (blk_cell BK476.out 1).trans rfl; have hcz3_2 : w2.cell? ⟨gb476, 2, none⟩ = some (.string (⟨#[]⟩ : ByteArray)) := (blk_cell BK476.out 2).trans rfl; have hfz3_0 := blk_frozen BK476.out 0; have hfz3_1 := blk_frozen BK476.out 1; have hfz3_2 := blk_frozen BK476.out 2))
  refine bodyPost_ret (results_cell_row rfl _ _ gb476 39 #[.int .i64 2, .int .i64 a0, .string (⟨#[]⟩ : ByteArray)] (0, 0) _ rfl (by (with_reducible repeat (first | refine blk_drewN ?_ _ | refine blk_drew ?_ | refine blk_alloc ?_ _)); refine blk_put (cs := #[.int .i64 2, .int .i64 a0, .string (⟨#[]⟩ : ByteArray)]) ?_ 2 _ rfl; (with_reducible repeat (first | refine blk_drewN ?_ _ | refine blk_drew ?_ | refine blk_alloc ?_ _)); refine blk_put (cs := #[.int .i64 2, .int .i64 0, .string (⟨#[]⟩ : ByteArray)]) ?_ 1 _ rfl; (with_reducible repeat (first | refine blk_drewN ?_ _ | refine blk_drew ?_ | refine blk_alloc ?_ _)); refine blk_put (cs := #[.int .i64 0, .int .i64 0, .string (⟨#[]⟩ : ByteArray)]) ?_ 0 _ rfl; (with_reducible repeat (first | refine blk_drewN ?_ _ | refine blk_drew ?_ | refine blk_alloc ?_ _)); exact BK476.out) Try.underlying39 rfl (by kernel_rfl)) rfl ?_
  exact ⟨by first | rfl | (simp [errW_none, errW_some] <;> rfl) | (simp [*, errW_none, errW_some] <;> rfl), by repeat (first | (with_reducible first | exact HB.out | apply below_alloc | apply pw_below_drewN | apply below_drew1 | refine below_set ?_ GE476.out) | exact HB.out)⟩
end Go.Proofs.Ytackcingpffidaa.P
namespace Go.Proofs.Ytackcingpffidaa.P
set_option linter.unusedVariables false
open Go.RowKit Go.Proofs.YtackcingpffidaaW.PrintWords Go.Proofs.YtackcingpffidaaW.PrintLast Go.Proofs.YtackcingpffidaaW.PrintMore
def put2 (w : World) (g : Nat) (u0 u1 : Value) : World := (w.setCell ⟨g, 0, none⟩ u0).setCell ⟨g, 1, none⟩ u1
theorem put2_blk {w : World} {g : Nat} {t : TypeId} {a0 a1 : Value} (h : w.heap[g]? = some (.cells #[a0, a1] t (0, 0))) (u0 u1 : Value) : (put2 w g u0 u1).heap[g]? = some (.cells #[u0, u1] t (0, 0)) :=
  blk_put (cs' := #[u0, u1]) (blk_put (cs' := #[u0, a1]) h 0 u0 rfl) 1 u1 rfl
theorem put2_below {b : Nat} {w0 w : World} (h : Below b w0 w) {g : Nat} (hg : b ≤ g) (u0 u1 : Value) : Below b w0 (put2 w g u0 u1) :=
  (h.setCell (p := ⟨g, 0, none⟩) hg u0).setCell (p := ⟨g, 1, none⟩) hg u1
/-- No fence is of the value's kind, or the value lies outside the fences. -/
def gateB (F : List S39) (v : S39) : Bool := v.f0 == 0 || F.length == 0 || v.f0 != (rd_T39 F 0).f0 || decide (cV v (rd_T39 F 0) < 0) || decide (0 < cV v (rd_T39 F ((F.length : Int) - 1)))
/-- How many fences are less than the value; are they the first ones. -/
def partS (F : List S39) (v : S39) : Nat := (F.filter fun x => decide (cV x v < 0)).length
def partB (F : List S39) (v : S39) : Bool := decide (F.length ≤ 1000) && allN (fun i => decide (i < partS F v) == decide (cV (rd_T39 F i) v < 0)) 0 F.length
theorem partS_le (F : List S39) (v : S39) : partS F v ≤ F.length := List.length_filter_le _ _
theorem allN_spec (p : Nat → Bool) : ∀ m i, allN p i m = true → ∀ j, i ≤ j → j < i + m → p j = true
  | 0, _, _, j, h1, h2 => by omega
  | m + 1, i, h, j, h1, h2 => by
    simp only [allN, Bool.and_eq_true] at h
    by_cases e : j = i
    · subst e; exact h.1
    · exact allN_spec p m (i + 1) h.2 j (by omega) (by omega)
theorem partB_spec {F : List S39} {v : S39} (h : partB F v = true) : F.length ≤ 1000 ∧ ∀ i : Nat, i < F.length → (i < partS F v ↔ cV (rd_T39 F i) v < 0) := by
  unfold partB at h
  rw [Bool.and_eq_true] at h
  refine ⟨of_decide_eq_true h.1, fun i hi => ?_⟩
  have := allN_spec _ _ _ h.2 i (Nat.zero_le _) (by omega)
  simpa using this
def lowS (F : List S39) (R : List Int) (v : S39) : Option Int :=
  if decide (partS F v < F.length) && (cV (rd_T39 F (partS F v : Nat)) v == 0) then (if 2 * partS F v + 1 < R.length then some (mx 0 (wrap64 (rd R ((2 * partS F v + 1 : Nat) : Int) - rd R ((2 * partS F v : Nat) : Int)))) else none) else some 0
def minsS (k : Nat) (v : S39) (C : List Int) : Int → Nat → Nat → Option Int
  | high, _, 0 => some high
  | high, r, m + 1 => (sketch_cell.f k r v.f0 v.f1 v.f2).bind fun c => if 0 ≤ c ∧ c < 64 ∧ r * 64 + c.toNat < C.length then minsS k v C (mn high (rd C ((r * 64 + c.toNat : Nat) : Int))) (r + 1) m else none
theorem minsS_next {k : Nat} {v : S39} {C : List Int} {high x : Int} {r m : Nat} (h : minsS k v C high r (m + 1) = some x) : ∃ c : Int, sketch_cell.f k r v.f0 v.f1 v.f2 = some c ∧ 0 ≤ c ∧ c < 64 ∧ r * 64 + c.toNat < C.length ∧ minsS k v C (mn high (rd C ((r * 64 + c.toNat : Nat) : Int))) (r + 1) m = some x := by
  unfold minsS at h
  obtain ⟨c, h1, h2⟩ := Option.bind_eq_some_iff.mp h
  by_cases hc : 0 ≤ c ∧ c < 64 ∧ r * 64 + c.toNat < C.length
  · rw [if_pos hc] at h2
    exact ⟨c, h1, hc.1, hc.2.1, hc.2.2, h2⟩
  · rw [if_neg hc] at h2
    exact absurd h2 (by simp)
theorem minsS.mono (k : Nat) (v : S39) (C : List Int) : ∀ m high r, LeO (minsS k v C high r m) (minsS (k + 1) v C high r m)
  | 0, _, _ => LeO.refl _
  | m + 1, high, r => LeO.bind (sketch_cell.mono _ _ _ _ _) (fun _ => LeO.ite (minsS.mono k v C m _ _) (LeO.none _))
def sketch_CountEqual.f (k : Nat) (a0_0 : Int) (a0_1 : Int) (l0_2 : List Int) (a0_3 : Bool) (l0_4 : List Int) (l0_5 : List (S39)) (l0_6 : List Int) (a1_0 : Int) (a1_1 : Int) (a1_2 : ByteArray) : Option (Int × Int) :=
  if gateB l0_5 ⟨a1_0, a1_1, a1_2⟩ then some (0, 0) else
  (value_Hash.f k 3 [(⟨a1_0, a1_1, a1_2⟩ : S39)]).bind fun h => (slices_BinarySearch_uint64_uint64.f k l0_2 h).bind fun ib => if a0_3 && !ib.2 then some (0, 0) else
  (sketch_upper.f k a0_0 a0_1 l0_2 a0_3 l0_4 l0_5 l0_6 a1_0 a1_1 a1_2 false).bind fun up => (sketch_lower.f k a0_0 a0_1 l0_2 a0_3 l0_4 l0_5 l0_6 a1_0 a1_1 a1_2 false).bind fun lo =>
  if partB l0_5 ⟨a1_0, a1_1, a1_2⟩ then (lowS l0_5 l0_6 ⟨a1_0, a1_1, a1_2⟩).bind fun low => (minsS k ⟨a1_0, a1_1, a1_2⟩ l0_4 (wrap64 (up - lo)) 0 4).bind fun high => some (low, high) else none
theorem sketch_CountEqual.mono : ∀ a0 a1 a2 a3 a4 a5 a6 a7 a8 a9 k, LeO (sketch_CountEqual.f k a0 a1 a2 a3 a4 a5 a6 a7 a8 a9) (sketch_CountEqual.f (k + 1) a0 a1 a2 a3 a4 a5 a6 a7 a8 a9) := by
  intro a0 a1 a2 a3 a4 a5 a6 a7 a8 a9 k
  unfold sketch_CountEqual.f
  refine LeO.ite (LeO.refl _) (LeO.bind (value_Hash.mono _ _ _) (fun _ => LeO.bind (slices_BinarySearch_uint64_uint64.mono _ _ _) (fun _ => LeO.ite (LeO.refl _) (LeO.bind (sketch_upper.mono _ _ _ _ _ _ _ _ _ _ _ _) (fun _ => LeO.bind (sketch_lower.mono _ _ _ _ _ _ _ _ _ _ _ _) (fun _ => LeO.ite (LeO.bind (LeO.refl _) (fun _ => LeO.bind (minsS.mono _ _ _ _ _ _) (fun _ => LeO.refl _))) (LeO.none _)))))))
end Go.Proofs.Ytackcingpffidaa.P
namespace Go.Proofs.Ytackcingpffidaa.P
open Go.RowKit Go.Proofs.YtackcingpffidaaW.PrintWords Go.Proofs.YtackcingpffidaaW.PrintLast Go.Proofs.YtackcingpffidaaW.PrintMore
set_option linter.unusedVariables false
set_option linter.unusedSimpArgs false
def f72_T5 : Bool × List (List Nat × List Nat) := (true, [([], []), ([], []), ([], []), ([1, 2], [1, 2]), ([3], [3]), ([], []), ([0, 4, 5], [0, 4, 5]), ([6], [6])])
def f72_B5 : List Nat := [0, 0, 0, 6, 14, 0, 63, 127]
set_option maxRecDepth 100000 in
theorem f72_tab5 : rtab .any (opsOf Try.f72 5) = f72_T5 := by kernel_rfl
theorem f72_bits5 : waitsOk f72_T5.2 f72_B5 = true := by kernel_rfl
def f72_T8 : Bool × List (List Nat × List Nat) := (true, [([], []), ([], []), ([], []), ([1, 2], [1, 2]), ([3], [3]), ([4], [4]), ([4], [4]), ([4], [4]), ([6, 7, 4], [4, 6, 7]), ([8, 4], [4, 8]), ([4], [4]), ([5, 9, 10, 4, 4], [4, 5, 9, 10]), ([11, 4], [4, 11]), ([4, 12], [4, 12]), ([0, 11, 0], [0]), ([13, 14, 0, 1, 2, 3, 4, 5, 6, 7, 8, 9, 10, 11, 12, 13, 14], [13])])
def f72_B8 : List Nat := [0, 0, 0, 6, 14, 30, 30, 30, 222, 478, 30, 2046, 4094, 8190, 4095, 32767]
set_option maxRecDepth 100000 in
theorem f72_tab8 : rtab .any (opsOf Try.f72 8) = f72_T8 := by kernel_rfl
theorem f72_bits8 : waitsOk f72_T8.2 f72_B8 = true := by kernel_rfl
set_option maxHeartbeats 4000000 in
set_option maxRecDepth 100000 in
theorem f72_calls (A : Option Addr) (c : Nat) (l : List S39) (s : S39) (w : World) (hr : Kd.C k39 w A l.length l) (hc : l.length ≤ c) (hlen : l.length ≤ 1000) (p : Nat) (hp : p ≤ l.length) (hlt : ∀ i : Nat, i < l.length → (i < p ↔ cV (rd_T39 l i) s < 0)) :
    Calls Try.prog 72 #[.slice A l.length c, .agg #[.int .i64 s.f0, .int .i64 s.f1, .string s.f2], .func (.func 53) #[] #[]] w fun e w' => e = .returned (.tuple #[.int .i64 p, .bool (decide (p < l.length) && cV (rd_T39 l p) s == 0)]) ∧ Below w.heap.size w w' := by
  have HR := Aside0.mk hr
  have HLT := Aside0.mk hlt
  clear hr hlt
  go_enter Try.func72, Try.ntmps72
  go_wp2_with ((with_reducible refine gate_dst (N := 4) rfl ?_); refine box_event ?hg (N := 4) ?hd (cs := #[.int .i64 s.f0, .int .i64 s.f1, .string s.f2]) (t := 39) ?hr ?_; (case hd => rfl); (case hg => rfl); (case hr => first | (go_simp; done) | (go_simp; rfl)); intro gb hg_ w1 hbox hb; have BK := Aside0.mk hbox; have HB := Aside0.mk hb; have hgb : w.heap.size ≤ gb := Nat.le_of_eq hg_.symm; clear hb hbox hg_)
  go_loopg [9, 10] l.length (fun kq v9 v10 w' => ∃ i j : Nat, v9 = .int .i64 i ∧ v10 = .int .i64 j ∧ i ≤ p ∧ p ≤ j ∧ j ≤ l.length ∧ Aside0 (j ≤ kq + i) ∧ Aside0 (w'.heap[gb]? = some (.cells #[.int .i64 s.f0, .int .i64 s.f1, .string s.f2] 39 (0, 0))) ∧ Aside0 (Below w.heap.size w w'))
  case atStart => exact ⟨0, l.length, rfl, rfl, Nat.zero_le _, hp, Nat.le_refl _, ⟨by omega⟩, BK, HB⟩
  case round =>
    clear BK HB
    obtain ⟨i, j, rfl, rfl, h1, h2, h3, HM, BK, HB⟩ := hrel
    by_cases hij : i < j
    · cases gk with
      | zero => exact absurd HM.out (by omega)
      | succ k1 =>
        have hm0 : (0 : Int) ≤ ((i : Int) + j) / 2 := by omega
        have hm1 : ((i : Int) + j) / 2 < l.length := by omega
        obtain ⟨ad, rfl, hx0, hx1, hx2⟩ := at_T39 HR.out (((i : Int) + j) / 2) hm0 hm1
        obtain ⟨x, hxx⟩ : ∃ x, rd_T39 l (((i : Int) + j) / 2) = x := ⟨_, rfl⟩
        have hz := HLT.out (((i : Int) + j) / 2).toNat (by omega)
        rw [Int.toNat_of_nonneg hm0, hxx] at hz
        rw [hxx] at hx0 hx1 hx2
        obtain ⟨cc, hcc⟩ : ∃ c, cV x s = c := ⟨_, rfl⟩
        rw [hcc] at hz
        have HCC := Aside0.mk hcc
        clear hxx hcc
        by_cases hcm : cc < 0
        · have hd : decide (cc < 0) = true := decide_eq_true hcm
          have hz := hz.2 hcm
          have HS : Aside0 (∀ W, Below w.heap.size w W → W.heap[gb]? = some (.cells #[.int .i64 s.f0, .int .i64 s.f1, .string s.f2] 39 (0, 0)) → (W.cell? (ad.add ((((i : Int) + j) / 2).toNat * 3)) = some (.int .i64 x.f0) ∧ W.cell? ⟨(ad.add ((((i : Int) + j) / 2).toNat * 3)).block, (ad.add ((((i : Int) + j) / 2).toNat * 3)).off + 1, none⟩ = some (.int .i64 x.f1) ∧ W.cell? ⟨(ad.add ((((i : Int) + j) / 2).toNat * 3)).block, (ad.add ((((i : Int) + j) / 2).toNat * 3)).off + 2, none⟩ = some (.string x.f2) ∧ W.cell? ⟨gb, 0, none⟩ = some (.int .i64 s.f0) ∧ W.cell? ⟨gb, 1, none⟩ = some (.int .i64 s.f1) ∧ W.cell? ⟨gb, 2, none⟩ = some (.string s.f2))) := ⟨fun W hB_ hG_ => ⟨(hB_.cell (World.block_lt_of_cell? w _ hx0)).trans hx0, (hB_.cell (World.block_lt_of_cell? w _ hx1)).trans hx1, (hB_.cell (World.block_lt_of_cell? w _ hx2)).trans hx2, (blk_cell hG_ 0).trans rfl, (blk_cell hG_ 1).trans rfl, (blk_cell hG_ 2).trans rfl⟩⟩
          clear hx0 hx1 hx2
          have HBd := Aside0.mk (below_drew1 HB.out)
          have BKd := Aside0.mk (blk_drew BK.out)
          go_upto_region 5 with (fail)
          refine start_ (n := 8) (S := fun w' => w'.cell? (ad.add ((((i : Int) + j) / 2).toNat * 3)) = some (.int .i64 x.f0) ∧ w'.cell? ⟨(ad.add ((((i : Int) + j) / 2).toNat * 3)).block, (ad.add ((((i : Int) + j) / 2).toNat * 3)).off + 1, none⟩ = some (.int .i64 x.f1) ∧ w'.cell? ⟨(ad.add ((((i : Int) + j) / 2).toNat * 3)).block, (ad.add ((((i : Int) + j) / 2).toNat * 3)).off + 2, none⟩ = some (.string x.f2) ∧ w'.cell? ⟨gb, 0, none⟩ = some (.int .i64 s.f0) ∧ w'.cell? ⟨gb, 1, none⟩ = some (.int .i64 s.f1) ∧ w'.cell? ⟨gb, 2, none⟩ = some (.string s.f2)) (ds := []) #[false, false, false, false, false, false, false, false] (by kernel_rfl) rfl rfl (HS.out _ HBd.out BKd.out) (fun hHeld => ?_)
          refine with_tabW f72_tab5 f72_bits5 (fun HT_ HW_ => ?_)
          generalize wr.drew = wd at HBd BKd hHeld ⊢
          refine pu_ HT_ 0 (some 24) ?_
          refine pu_ HT_ 1 (some 25) ?_
          refine pu_ HT_ 2 (some 26) ?_
          refine tk_ HT_ HW_ 3 (some 27) hHeld ?_
          refine tk_ HT_ HW_ 4 (some 28) hHeld ?_
          refine tk_ HT_ HW_ 5 (some 29) hHeld ?_
          refine on_ HT_ 6 (some 30) (fun K hK => ?_)
          refine call_ 53 #[.agg #[.int .i64 x.f0, .int .i64 x.f1, .string x.f2], .agg #[.int .i64 s.f0, .int .i64 s.f1, .string s.f2]] (by kernel_rfl) rfl (by go_simp; first | done | rfl) ?_
          refine (cV_calls x s cc HCC.out _).mono ?_
          rintro e w2 ⟨rfl, hb⟩
          refine ⟨_, rfl, ?_⟩
          have HB2 := Aside0.mk (HBd.out.trans (hb.mono (below_size HBd.out)))
          have BK2 := Aside0.mk (blk_below BKd.out hb)
          clear hb
          refine hK.out _ _ (HS.out _ HB2.out BK2.out) (fun hHeld => ?_)
          clear hK K
          refine norm_ (a' := ?_) ?_ ?_
          rotate_left
          · show Act.put _ (some 30) _ = _
            simp only [Act.put, List.setIfInBounds_toArray, List.set_cons_zero, List.set_cons_succ, i64_w, i32_w]
            rfl
          refine pu_ HT_ 7 (some 31) ?_
          refine done_ (done_of HT_.out (by kernel_rfl)) ?_
          clear HT_ HW_ hHeld
          go_wp2
          go_roundg k1
          case measure => omega
          case rel => exact ⟨(((i : Int) + j) / 2).toNat + 1, j, int_eq (by omega), rfl, by omega, h2, h3, ⟨by have := HM.out; omega⟩, BK2, HB2⟩
        · have hd : decide (cc < 0) = false := decide_eq_false hcm
          have hz : ¬ (((i : Int) + j) / 2).toNat < p := fun h => hcm (hz.1 h)
          have HS : Aside0 (∀ W, Below w.heap.size w W → W.heap[gb]? = some (.cells #[.int .i64 s.f0, .int .i64 s.f1, .string s.f2] 39 (0, 0)) → (W.cell? (ad.add ((((i : Int) + j) / 2).toNat * 3)) = some (.int .i64 x.f0) ∧ W.cell? ⟨(ad.add ((((i : Int) + j) / 2).toNat * 3)).block, (ad.add ((((i : Int) + j) / 2).toNat * 3)).off + 1, none⟩ = some (.int .i64 x.f1) ∧ W.cell? ⟨(ad.add ((((i : Int) + j) / 2).toNat * 3)).block, (ad.add ((((i : Int) + j) / 2).toNat * 3)).off + 2, none⟩ = some (.string x.f2) ∧ W.cell? ⟨gb, 0, none⟩ = some (.int .i64 s.f0) ∧ W.cell? ⟨gb, 1, none⟩ = some (.int .i64 s.f1) ∧ W.cell? ⟨gb, 2, none⟩ = some (.string s.f2))) := ⟨fun W hB_ hG_ => ⟨(hB_.cell (World.block_lt_of_cell? w _ hx0)).trans hx0, (hB_.cell (World.block_lt_of_cell? w _ hx1)).trans hx1, (hB_.cell (World.block_lt_of_cell? w _ hx2)).trans hx2, (blk_cell hG_ 0).trans rfl, (blk_cell hG_ 1).trans rfl, (blk_cell hG_ 2).trans rfl⟩⟩
          clear hx0 hx1 hx2
          have HBd := Aside0.mk (below_drew1 HB.out)
          have BKd := Aside0.mk (blk_drew BK.out)
          go_upto_region 5 with (fail)
          refine start_ (n := 8) (S := fun w' => w'.cell? (ad.add ((((i : Int) + j) / 2).toNat * 3)) = some (.int .i64 x.f0) ∧ w'.cell? ⟨(ad.add ((((i : Int) + j) / 2).toNat * 3)).block, (ad.add ((((i : Int) + j) / 2).toNat * 3)).off + 1, none⟩ = some (.int .i64 x.f1) ∧ w'.cell? ⟨(ad.add ((((i : Int) + j) / 2).toNat * 3)).block, (ad.add ((((i : Int) + j) / 2).toNat * 3)).off + 2, none⟩ = some (.string x.f2) ∧ w'.cell? ⟨gb, 0, none⟩ = some (.int .i64 s.f0) ∧ w'.cell? ⟨gb, 1, none⟩ = some (.int .i64 s.f1) ∧ w'.cell? ⟨gb, 2, none⟩ = some (.string s.f2)) (ds := []) #[false, false, false, false, false, false, false, false] (by kernel_rfl) rfl rfl (HS.out _ HBd.out BKd.out) (fun hHeld => ?_)
          refine with_tabW f72_tab5 f72_bits5 (fun HT_ HW_ => ?_)
          generalize wr.drew = wd at HBd BKd hHeld ⊢
          refine pu_ HT_ 0 (some 24) ?_
          refine pu_ HT_ 1 (some 25) ?_
          refine pu_ HT_ 2 (some 26) ?_
          refine tk_ HT_ HW_ 3 (some 27) hHeld ?_
          refine tk_ HT_ HW_ 4 (some 28) hHeld ?_
          refine tk_ HT_ HW_ 5 (some 29) hHeld ?_
          refine on_ HT_ 6 (some 30) (fun K hK => ?_)
          refine call_ 53 #[.agg #[.int .i64 x.f0, .int .i64 x.f1, .string x.f2], .agg #[.int .i64 s.f0, .int .i64 s.f1, .string s.f2]] (by kernel_rfl) rfl (by go_simp; first | done | rfl) ?_
          refine (cV_calls x s cc HCC.out _).mono ?_
          rintro e w2 ⟨rfl, hb⟩
          refine ⟨_, rfl, ?_⟩
          have HB2 := Aside0.mk (HBd.out.trans (hb.mono (below_size HBd.out)))
          have BK2 := Aside0.mk (blk_below BKd.out hb)
          clear hb
          refine hK.out _ _ (HS.out _ HB2.out BK2.out) (fun hHeld => ?_)
          clear hK K
          refine norm_ (a' := ?_) ?_ ?_
          rotate_left
          · show Act.put _ (some 30) _ = _
            simp only [Act.put, List.setIfInBounds_toArray, List.set_cons_zero, List.set_cons_succ, i64_w, i32_w]
            rfl
          refine pu_ HT_ 7 (some 31) ?_
          refine done_ (done_of HT_.out (by kernel_rfl)) ?_
          clear HT_ HW_ hHeld
          go_wp2
          go_roundg k1
          case measure => omega
          case rel => exact ⟨i, (((i : Int) + j) / 2).toNat, rfl, int_eq (by omega), h1, by omega, by omega, ⟨by have := HM.out; omega⟩, BK2, HB2⟩
    · obtain rfl : i = p := by omega
      by_cases hpl : i < l.length
      · obtain ⟨ad, rfl, hx0, hx1, hx2⟩ := at_T39 HR.out (i : Int) (by omega) (by omega)
        rw [Int.toNat_natCast] at hx0 hx1 hx2
        obtain ⟨x, hxx⟩ : ∃ x, rd_T39 l (i : Int) = x := ⟨_, rfl⟩
        rw [hxx] at hx0 hx1 hx2
        obtain ⟨cc, hcc⟩ : ∃ c, cV x s = c := ⟨_, rfl⟩
        have HXX := Aside0.mk hxx
        have hil : i < l.length := hpl
        have HCC := Aside0.mk hcc
        clear hxx hcc
        have HS : Aside0 (∀ W, Below w.heap.size w W → W.heap[gb]? = some (.cells #[.int .i64 s.f0, .int .i64 s.f1, .string s.f2] 39 (0, 0)) → (W.cell? (ad.add (i * 3)) = some (.int .i64 x.f0) ∧ W.cell? ⟨(ad.add (i * 3)).block, (ad.add (i * 3)).off + 1, none⟩ = some (.int .i64 x.f1) ∧ W.cell? ⟨(ad.add (i * 3)).block, (ad.add (i * 3)).off + 2, none⟩ = some (.string x.f2) ∧ W.cell? ⟨gb, 0, none⟩ = some (.int .i64 s.f0) ∧ W.cell? ⟨gb, 1, none⟩ = some (.int .i64 s.f1) ∧ W.cell? ⟨gb, 2, none⟩ = some (.string s.f2))) := ⟨fun W hB_ hG_ => ⟨(hB_.cell (World.block_lt_of_cell? w _ hx0)).trans hx0, (hB_.cell (World.block_lt_of_cell? w _ hx1)).trans hx1, (hB_.cell (World.block_lt_of_cell? w _ hx2)).trans hx2, (blk_cell hG_ 0).trans rfl, (blk_cell hG_ 1).trans rfl, (blk_cell hG_ 2).trans rfl⟩⟩
        clear hx0 hx1 hx2
        have HBd := Aside0.mk (below_drew1 HB.out)
        have BKd := Aside0.mk (blk_drew BK.out)
        go_upto_region 8 with (fail)
        refine start_ (n := 16) (S := fun w' => w'.cell? (ad.add (i * 3)) = some (.int .i64 x.f0) ∧ w'.cell? ⟨(ad.add (i * 3)).block, (ad.add (i * 3)).off + 1, none⟩ = some (.int .i64 x.f1) ∧ w'.cell? ⟨(ad.add (i * 3)).block, (ad.add (i * 3)).off + 2, none⟩ = some (.string x.f2) ∧ w'.cell? ⟨gb, 0, none⟩ = some (.int .i64 s.f0) ∧ w'.cell? ⟨gb, 1, none⟩ = some (.int .i64 s.f1) ∧ w'.cell? ⟨gb, 2, none⟩ = some (.string s.f2)) (ds := []) #[false, false, false, false, false, false, false, false, false, false, false, false, false, false, false, false] (by kernel_rfl) rfl rfl (HS.out _ HBd.out BKd.out) (fun hHeld => ?_)
        refine with_tabW f72_tab8 f72_bits8 (fun HT_ HW_ => ?_)
        generalize wr.drew = wd at HBd BKd hHeld ⊢
        refine pu_ HT_ 0 (some 35) ?_
        refine pu_ HT_ 1 (some 36) ?_
        refine pu_ HT_ 2 (some 37) ?_
        refine pu_ HT_ 3 (some 38) ?_
        refine pu_ HT_ 4 (some 39) ?_
        refine pu_ HT_ 5 (some 40) ?_
        refine pu_ HT_ 6 (some 41) ?_
        refine pu_ HT_ 7 (some 42) ?_
        refine tk_ HT_ HW_ 8 (some 43) hHeld ?_
        refine tk_ HT_ HW_ 9 (some 44) hHeld ?_
        refine tk_ HT_ HW_ 10 (some 45) hHeld ?_
        refine on_ HT_ 11 (some 46) (fun K hK => ?_)
        refine call_ 53 #[.agg #[.int .i64 x.f0, .int .i64 x.f1, .string x.f2], .agg #[.int .i64 s.f0, .int .i64 s.f1, .string s.f2]] (by kernel_rfl) rfl (by go_simp; first | done | rfl) ?_
        refine (cV_calls x s cc HCC.out _).mono ?_
        rintro e w2 ⟨rfl, hb⟩
        refine ⟨_, rfl, ?_⟩
        have HB2 := Aside0.mk (HBd.out.trans (hb.mono (below_size HBd.out)))
        have BK2 := Aside0.mk (blk_below BKd.out hb)
        clear hb
        refine hK.out _ _ (HS.out _ HB2.out BK2.out) (fun hHeld => ?_)
        clear hK K
        refine norm_ (a' := ?_) ?_ ?_
        rotate_left
        · show Act.put _ (some 46) _ = _
          simp only [Act.put, List.setIfInBounds_toArray, List.set_cons_zero, List.set_cons_succ, i64_w, i32_w]
          rfl
        refine pu_ HT_ 12 (some 47) ?_
        refine pu_ HT_ 13 (some 48) ?_
        refine pu_ HT_ 14 (some 6) ?_
        refine pu_ HT_ 15 (some 7) ?_
        refine done_ (done_of HT_.out (by kernel_rfl)) ?_
        clear HT_ HW_ hHeld
        go_wp2
        go_ret2
        exact ⟨by rw [HXX.out, HCC.out]; simp [hpl], HB2.out⟩
      · have hil : ¬ i < l.length := hpl
        have HBd := Aside0.mk (below_drew1 HB.out)
        go_upto_region 8 with (fail)
        refine start_ (n := 16) (S := fun w' => True) (ds := []) #[false, false, false, false, false, false, false, false, false, false, false, false, false, false, false, false] (by kernel_rfl) rfl rfl trivial (fun hHeld => ?_)
        refine with_tabW f72_tab8 f72_bits8 (fun HT_ HW_ => ?_)
        generalize wr.drew = wd at HBd hHeld ⊢
        refine pu_ HT_ 0 (some 35) ?_
        refine pu_ HT_ 1 (some 36) ?_
        refine pu_ HT_ 2 (some 37) ?_
        refine pu_ HT_ 3 (some 38) ?_
        refine pu_ HT_ 4 (some 39) ?_
        refine sk_ HT_ 5 (some 40) ?_
        refine sk_ HT_ 6 (some 41) ?_
        refine sk_ HT_ 7 (some 42) ?_
        refine sk_ HT_ 8 (some 43) ?_
        refine sk_ HT_ 9 (some 44) ?_
        refine sk_ HT_ 10 (some 45) ?_
        refine sk_ HT_ 11 (some 46) ?_
        refine sk_ HT_ 12 (some 47) ?_
        refine pu_ HT_ 13 (some 48) ?_
        refine pu_ HT_ 14 (some 6) ?_
        refine pu_ HT_ 15 (some 7) ?_
        refine done_ (done_of HT_.out (by kernel_rfl)) ?_
        clear HT_ HW_ hHeld
        go_wp2
        go_ret2
        exact ⟨by simp [hpl], HBd.out⟩
end Go.Proofs.Ytackcingpffidaa.P
