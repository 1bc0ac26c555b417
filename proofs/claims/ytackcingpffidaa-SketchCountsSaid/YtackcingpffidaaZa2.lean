/- What Go functions of the given program return, told as Lean functions, and the walks that show it, with plain facts on them: sketch_spread, sketch_count, U3, U4, U8, UC, HB, sketch_span, sketch_CountLess, cmp_isNaN_uint64, cmp_Less_uint64, slices_isNaN_uint64, slices_BinarySearch_uint64_uint64, laminalaw16_integer, U5, U6, laminaref16_Cell. Conditions: the hypotheses that stand at each theorem. -/
import Derived.Test.YtackcingpffidaaZa0
import Derived.Test.YtackcingpffidaaZa1
namespace Go.Proofs.Ytackcingpffidaa.P
open Go.RowKit Go.Proofs.YtackcingpffidaaW.PrintWords Go.Proofs.YtackcingpffidaaW.PrintLast Go.Proofs.YtackcingpffidaaW.PrintMore
attribute [local go_sem] max2_int min2_int max_two min_two max_three min_three max_four min_four Go.Proofs.YtackcingpffidaaQ.str_gtr Go.Proofs.YtackcingpffidaaQ.str_leq Go.Proofs.YtackcingpffidaaQ.str_geq   -- for this text's walks alone
set_option linter.unusedVariables false
set_option linter.unusedSimpArgs false
/-! ### sketch_spread: function 58 -/
mutual
def sketch_spread.l0 : Nat → Int → List Int → Int → Option (List Int)
 | 0, _, _, _ => none
 | k + 1, x0, x3, x4 => if x4 < 17 then (sketch_spread.j1 k x0 x3 x4 (decide (x0 > 0))) else (sketch_spread.j1 k x0 x3 x4 false)
def sketch_spread.j1 : Nat → Int → List Int → Int → Bool → Option (List Int)
 | 0, _, _, _, _ => none
 | k + 1, x0, x3, x4, x11 => if x11 = true then (if (x3.length : Int) = 0 then (if x3.length < 17592186044416 then (sketch_spread.l0 k x0 (x3 ++ [wrap64 (Int.tdiv (wrap64 (x4 * (wrap64 (x0 - 1)))) 16)]) (wrap64 (x4 + 1))) else (none)) else (if 0 ≤ (wrap64 ((x3.length : Int) - 1)) then (if (wrap64 ((x3.length : Int) - 1)) < (x3.length : Int) then (if (rd x3 (wrap64 ((x3.length : Int) - 1))) = (wrap64 (Int.tdiv (wrap64 (x4 * (wrap64 (x0 - 1)))) 16)) then (sketch_spread.l0 k x0 x3 (wrap64 (x4 + 1))) else (if x3.length < 17592186044416 then (sketch_spread.l0 k x0 (x3 ++ [wrap64 (Int.tdiv (wrap64 (x4 * (wrap64 (x0 - 1)))) 16)]) (wrap64 (x4 + 1))) else (none))) else (none)) else (none))) else (some x3)
end
def sketch_spread.f (k : Nat) (a0 : Int) : Option (List Int) := sketch_spread.l0 k a0 ([] : List Int) 0
theorem sketch_spread.mono_l : ∀ k, (∀ y0 y1 y2, LeO (sketch_spread.l0 k y0 y1 y2) (sketch_spread.l0 (k + 1) y0 y1 y2)) ∧ (∀ y0 y1 y2 y3, LeO (sketch_spread.j1 k y0 y1 y2 y3) (sketch_spread.j1 (k + 1) y0 y1 y2 y3))
 | 0 => ⟨fun _ _ _ r h => by simp [sketch_spread.l0] at h, fun _ _ _ _ r h => by simp [sketch_spread.j1] at h⟩
 | k + 1 => by
  obtain ⟨ih0, ih1⟩ := sketch_spread.mono_l k
  refine ⟨?_, ?_⟩
  ·intro y0 y1 y2
   unfold sketch_spread.l0
   repeat' first
   | (with_reducible exact ih0 _ _ _)
   | (with_reducible exact ih1 _ _ _ _)
   | (with_reducible exact LeO.refl _)
   | (with_reducible exact LeO.none _)
   | (with_reducible refine LeO.ite ?_ ?_)
   | (with_reducible refine LeO.bind ?_ (fun _ => ?_))
   | exact ih0 _ _ _
   | exact ih1 _ _ _ _
   | exact LeO.none _
   | refine LeO.ite ?_ ?_
   | refine LeO.bind ?_ (fun _ => ?_)
  ·intro y0 y1 y2 y3
   unfold sketch_spread.j1
   repeat' first
   | (with_reducible exact ih0 _ _ _)
   | (with_reducible exact ih1 _ _ _ _)
   | (with_reducible exact LeO.refl _)
   | (with_reducible exact LeO.none _)
   | (with_reducible refine LeO.ite ?_ ?_)
   | (with_reducible refine LeO.bind ?_ (fun _ => ?_))
   | exact ih0 _ _ _
   | exact ih1 _ _ _ _
   | exact LeO.none _
   | refine LeO.ite ?_ ?_
   | refine LeO.bind ?_ (fun _ => ?_)
theorem sketch_spread.mono : ∀ a0 k, LeO (sketch_spread.f k a0) (sketch_spread.f (k + 1) a0) := by
 intro a0 k
 obtain ⟨ih0, ih1⟩ := sketch_spread.mono_l k
 unfold sketch_spread.f
 repeat' first
   | (with_reducible exact ih0 _ _ _)
   | (with_reducible exact ih1 _ _ _ _)
   | (with_reducible exact LeO.refl _)
   | (with_reducible exact LeO.none _)
   | (with_reducible refine LeO.ite ?_ ?_)
   | (with_reducible refine LeO.bind ?_ (fun _ => ?_))
   | exact ih0 _ _ _
   | exact ih1 _ _ _ _
   | exact LeO.none _
   | refine LeO.ite ?_ ?_
   | refine LeO.bind ?_ (fun _ => ?_)
set_option maxHeartbeats 8000000 in
set_option maxRecDepth 100000 in
theorem sketch_spread.calls (k : Nat) (a0 : Int) (r : List Int) (w : World) (h : sketch_spread.f k a0 = some r) :
  Calls Try.prog 58 #[.int .i64 a0] w fun e w' => ∃ v0_ : Value, e = .returned (v0_) ∧ Kd.R (Kd.int .i64) 3 w' w.heap.size (fun _ => True) v0_ r ∧ Below w.heap.size w w' := by
 have HB := Aside0.mk (Below.refl w.heap.size w)
 have H : (sketch_spread.l0 k a0 ([] : List Int) 0) = some r := h
 clear h
 have H' := Aside0.mk H
 clear H
 go_enter Try.func58, Try.ntmps58
 go_wp2
 go_loopg [3, 4] k (fun kq v3 v4 w' => ∃ (x3_1 : List Int) (x4_1 : Int), v4 = .int .i64 x4_1 ∧ Aside0 (sketch_spread.l0 kq a0 x3_1 x4_1 = some r) ∧ Aside0 (kq ≤ k) ∧ Aside0 (Kd.R (Kd.int .i64) 3 w' w.heap.size (fun _ => True) v3 x3_1) ∧ Aside0 (Below w.heap.size w w'))
 case atStart => exact ⟨(([] : List Int)), (0), (by first | rfl | (simp; done) | (simp [*]; done)), H', ⟨Nat.le_refl _⟩, ⟨by first | exact Kd.R_nil _ _ _ _ _ | exact Kd.N_nil _ _ _ _ _ | exact Kd.V_nil _ _ _ _ _ | exact Kd.Q_nil _ _ _ _ _ | exact Kd.S_nil _ _ _ _ _⟩, ⟨(hb_ HB.out)⟩⟩
 case round =>
  clear H'
  obtain ⟨x3_1, x4_1, rfl, HA, HK1, HO_3, HB⟩ := hrel
  cases gk with
  | zero => exact absurd HA.out (by simp [sketch_spread.l0])
  | succ k1 =>
   have H := HA.out
   clear HA
   simp only [sketch_spread.l0] at H
   have HC2 := Aside0.mk H
   clear H
   go_upto_region 3 with (fail)
   go_cut [11] (fun v11 wc => ∃ (kq : Nat) (x11_1 : Bool), v11 = .bool x11_1 ∧ Aside0 (sketch_spread.j1 kq a0 x3_1 x4_1 x11_1 = some r) ∧ Aside0 (kq ≤ k1) ∧ Aside0 (Kd.R (Kd.int .i64) 3 wc w.heap.size (fun _ => True) u3 x3_1) ∧ Aside0 (Below w.heap.size w wc))
   case first =>
    have H := HC2.out
    clear HC2
    by_cases c3 : x4_1 < 17
    ·rw [if_pos c3] at H
     have c3b0 : decide (x4_1 < 17) = true := decide_eq_true c3
     clear c3
     (first | rw [c3b0] | (simp only [i64_w, i32_w]; rw [c3b0]) | skip)
     have H' := Aside0.mk H
     clear H
     go_wp2
     go_meet
     case rel => exact ⟨_, (decide (a0 > 0)), (by first | rfl | (simp; done) | (simp [*]; done)), H', ⟨by have := HK1.out; first | omega | exact Nat.le_refl _⟩, ⟨by (with_reducible repeat (first | apply Kd.R_alloc | apply Kd.R_drewN | apply Kd.R_drew)); exact HO_3.out⟩, ⟨(hb_ HB.out)⟩⟩
    ·rw [if_neg c3] at H
     have c3b0 : decide (x4_1 < 17) = false := decide_eq_false c3
     clear c3
     (first | rw [c3b0] | (simp only [i64_w, i32_w]; rw [c3b0]) | skip)
     have H' := Aside0.mk H
     clear H
     go_wp2
     go_meet
     case rel => exact ⟨_, (false), (by first | rfl | (simp; done) | (simp [*]; done)), H', ⟨by have := HK1.out; first | omega | exact Nat.le_refl _⟩, ⟨by (with_reducible repeat (first | apply Kd.R_alloc | apply Kd.R_drewN | apply Kd.R_drew)); exact HO_3.out⟩, ⟨(hb_ HB.out)⟩⟩
   case rest =>
    clear HC2
    try clear p2
    try clear c3
    try clear c3b0
    obtain ⟨kq, x11_1, rfl, HA, HJ1, HO_3, HB⟩ := hcut
    cases kq with
    | zero => exact absurd HA.out (by simp [sketch_spread.j1])
    | succ kj1 =>
     have H := HA.out
     clear HA
     simp only [sketch_spread.j1] at H
     by_cases c4 : x11_1 = true
     ·subst c4
      have H1 : (if (x3_1.length : Int) = 0 then (if x3_1.length < 17592186044416 then (sketch_spread.l0 kj1 a0 (x3_1 ++ [wrap64 (Int.tdiv (wrap64 (x4_1 * (wrap64 (a0 - 1)))) 16)]) (wrap64 (x4_1 + 1))) else (none)) else (if 0 ≤ (wrap64 ((x3_1.length : Int) - 1)) then (if (wrap64 ((x3_1.length : Int) - 1)) < (x3_1.length : Int) then (if (rd x3_1 (wrap64 ((x3_1.length : Int) - 1))) = (wrap64 (Int.tdiv (wrap64 (x4_1 * (wrap64 (a0 - 1)))) 16)) then (sketch_spread.l0 kj1 a0 x3_1 (wrap64 (x4_1 + 1))) else (if x3_1.length < 17592186044416 then (sketch_spread.l0 kj1 a0 (x3_1 ++ [wrap64 (Int.tdiv (wrap64 (x4_1 * (wrap64 (a0 - 1)))) 16)]) (wrap64 (x4_1 + 1))) else (none))) else (none)) else (none))) = some r := by rw [if_pos rfl] at H; exact H
      clear H
      have H := H1
      clear H1
      by_cases c5 : (x3_1.length : Int) = 0
      ·rw [if_pos c5] at H
       have c5b0 : ((x3_1.length : Int) == 0) = true := beq_iff_eq.mpr c5
       have c5b1 : ((x3_1.length : Int) != 0) = false := bne_eq_false_iff_eq.mpr c5
       clear c5
       by_cases c6 : x3_1.length < 17592186044416
       ·rw [if_pos c6] at H
        have LMc6 := Aside0.mk c6
        clear c6
        obtain ⟨y429, hy429⟩ : ∃ y_ : List Int, y_ = (x3_1 ++ [wrap64 (Int.tdiv (wrap64 (x4_1 * (wrap64 (a0 - 1)))) 16)]) := ⟨_, rfl⟩
        replace H : (sketch_spread.l0 kj1 a0 y429 (wrap64 (x4_1 + 1))) = some r := by first | (rw [hy429]; with_reducible exact H) | (have H2_ := (Option.bind_some _ _).symm.trans H; rw [hy429]; with_reducible exact H2_) | (have H2_ := (Option.bind_some _ _).symm.trans H; with_reducible exact H2_) | with_reducible exact H | (rw [hy429]; exact H) | exact H
        have Ny429 := Aside0.mk hy429
        clear hy429
        have H' := Aside0.mk H
        clear H
        obtain ⟨Ao7, co7, eo7⟩ := Kd.R_slice HO_3.out
        subst eo7
        go_wp2_with (first | ((with_reducible refine gate_builtin (b := .append) (xs := #[.tmp 32, .tmp 34]) rfl ?_); (try (refine gate_guard (by rfl) ?_; dsimp only)); at_builtin; refine Kd.R_append (Kd.int .i64) (w0 := w) w.heap.size rfl (.tmp 32) (.tmp 34) 23 3 (.int .i64 0) 8 rfl Try.underlying23 info3 rfl (by decide) (by omega) (.slice Ao7 x3_1.length co7) x3_1 (wrap64 (Int.tdiv (wrap64 (x4_1 * (wrap64 (a0 - 1)))) 16)) [.int .i64 (wrap64 (Int.tdiv (wrap64 (x4_1 * (wrap64 (a0 - 1)))) 16))] (fun _ => True) (fun _ => False) rfl rfl ?aP (fun _ hk => hk.elim) ?aF ?aO ?aB ?aS ?aL ?_; (case aP => exact rfl); (case aB => exact (hb_ HB.out)); (case aF => exact (fun _ _ => trivial)); (case aO => exact (ra_ HO_3.out)); (case aS => exact (below_size (hb_ HB.out))); (case aL => have := LMc6.out; omega); intro v430 w8 ho hb hg hat; rw [← Ny429.out] at ho; have n0_ := Aside0.mk (hb); have n1_ := Aside0.mk (ho); clear HB; clear HO_3; have HB := n0_; have HO431 := n1_; clear n0_ n1_; clear ho hb hg hat))
        go_roundg kj1
        case measure => have := HK1.out; have := HJ1.out; omega
        case rel => exact ⟨(y429), (wrap64 (x4_1 + 1)), (by first | rfl | (simp; done) | (simp [*]; done)), H', ⟨by have := HK1.out; have := HJ1.out; omega⟩, ⟨by (with_reducible repeat (first | apply Kd.R_alloc | apply Kd.R_drewN | apply Kd.R_drew)); exact HO431.out⟩, ⟨(hb_ HB.out)⟩⟩
       ·rw [if_neg c6] at H
        exact absurd H (by simp)
      ·rw [if_neg c5] at H
       have c5b0 : ((x3_1.length : Int) == 0) = false := beq_eq_false_iff_ne.mpr c5
       have c5b1 : ((x3_1.length : Int) != 0) = true := bne_iff_ne.mpr c5
       have c5b2 : ¬ (x3_1 = []) := fun h_ => c5 (by rw [h_]; rfl)
       obtain ⟨ji9, hji9⟩ : ∃ j_ : Int, (wrap64 ((x3_1.length : Int) - 1)) = j_ := ⟨_, rfl⟩
       replace H : (if 0 ≤ (ji9) then (if (ji9) < (x3_1.length : Int) then (if (rd x3_1 (ji9)) = (wrap64 (Int.tdiv (wrap64 (x4_1 * (wrap64 (a0 - 1)))) 16)) then (sketch_spread.l0 kj1 a0 x3_1 (wrap64 (x4_1 + 1))) else (if x3_1.length < 17592186044416 then (sketch_spread.l0 kj1 a0 (x3_1 ++ [wrap64 (Int.tdiv (wrap64 (x4_1 * (wrap64 (a0 - 1)))) 16)]) (wrap64 (x4_1 + 1))) else (none))) else (none)) else (none)) = some r := by first | (rw [hji9] at H; exact H) | (simp only [hji9] at H ⊢; exact H)
       have hji9w : (IntKind.i64.wrap ((x3_1.length : Int) - 1)) = ji9 := (i64_w _).trans hji9
       by_cases c10 : 0 ≤ (ji9)
       ·rw [if_pos c10] at H
        have c10b0 : decide (0 ≤ (ji9)) = true := decide_eq_true c10
        clear c10
        by_cases c11 : (ji9) < (x3_1.length : Int)
        ·rw [if_pos c11] at H
         have c11b0 : decide ((ji9) < (x3_1.length : Int)) = true := decide_eq_true c11
         clear c11
         by_cases c12 : (rd x3_1 (ji9)) = (wrap64 (Int.tdiv (wrap64 (x4_1 * (wrap64 (a0 - 1)))) 16))
         ·rw [if_pos c12] at H
          have c12b0 : ((rd x3_1 (ji9)) == (wrap64 (Int.tdiv (wrap64 (x4_1 * (wrap64 (a0 - 1)))) 16))) = true := beq_iff_eq.mpr c12
          have c12b1 : ((rd x3_1 (ji9)) != (wrap64 (Int.tdiv (wrap64 (x4_1 * (wrap64 (a0 - 1)))) 16))) = false := bne_eq_false_iff_eq.mpr c12
          clear c12
          have H' := Aside0.mk H
          clear H
          obtain ⟨Ao13, co13, eo13⟩ := Kd.R_slice HO_3.out
          subst eo13
          have p432 : 0 ≤ ((ji9) : Int) := of_decide_eq_true (by first | (with_reducible assumption) | assumption)
          have q432 : (ji9) < (x3_1.length : Int) := of_decide_eq_true (by first | (with_reducible assumption) | assumption)
          obtain ⟨ad432, e432, hx432_0⟩ := Kd.at_int (Kd.R_reads' HO_3.out).2.2 (ji9) p432 q432
          cases e432
          replace p432 := eq_true p432
          replace q432 := eq_true q432
          go_wp2
          go_roundg kj1
          case measure => have := HK1.out; have := HJ1.out; omega
          case rel => exact ⟨(x3_1), (wrap64 (x4_1 + 1)), (by first | rfl | (simp; done) | (simp [*]; done)), H', ⟨by have := HK1.out; have := HJ1.out; omega⟩, ⟨by (with_reducible repeat (first | apply Kd.R_alloc | apply Kd.R_drewN | apply Kd.R_drew)); exact HO_3.out⟩, ⟨(hb_ HB.out)⟩⟩
         ·rw [if_neg c12] at H
          have c12b0 : ((rd x3_1 (ji9)) == (wrap64 (Int.tdiv (wrap64 (x4_1 * (wrap64 (a0 - 1)))) 16))) = false := beq_eq_false_iff_ne.mpr c12
          have c12b1 : ((rd x3_1 (ji9)) != (wrap64 (Int.tdiv (wrap64 (x4_1 * (wrap64 (a0 - 1)))) 16))) = true := bne_iff_ne.mpr c12
          by_cases c14 : x3_1.length < 17592186044416
          ·rw [if_pos c14] at H
           have LMc14 := Aside0.mk c14
           clear c14
           obtain ⟨y433, hy433⟩ : ∃ y_ : List Int, y_ = (x3_1 ++ [wrap64 (Int.tdiv (wrap64 (x4_1 * (wrap64 (a0 - 1)))) 16)]) := ⟨_, rfl⟩
           replace H : (sketch_spread.l0 kj1 a0 y433 (wrap64 (x4_1 + 1))) = some r := by first | (rw [hy433]; with_reducible exact H) | (have H2_ := (Option.bind_some _ _).symm.trans H; rw [hy433]; with_reducible exact H2_) | (have H2_ := (Option.bind_some _ _).symm.trans H; with_reducible exact H2_) | with_reducible exact H | (rw [hy433]; exact H) | exact H
           have Ny433 := Aside0.mk hy433
           clear hy433
           have H' := Aside0.mk H
           clear H
           obtain ⟨Ao15, co15, eo15⟩ := Kd.R_slice HO_3.out
           subst eo15
           have p432 : 0 ≤ ((ji9) : Int) := of_decide_eq_true (by first | (with_reducible assumption) | assumption)
           have q432 : (ji9) < (x3_1.length : Int) := of_decide_eq_true (by first | (with_reducible assumption) | assumption)
           obtain ⟨ad432, e432, hx432_0⟩ := Kd.at_int (Kd.R_reads' HO_3.out).2.2 (ji9) p432 q432
           cases e432
           replace p432 := eq_true p432
           replace q432 := eq_true q432
           go_wp2_with (first | ((with_reducible refine gate_builtin (b := .append) (xs := #[.tmp 32, .tmp 34]) rfl ?_); (try (refine gate_guard (by rfl) ?_; dsimp only)); at_builtin; refine Kd.R_append (Kd.int .i64) (w0 := w) w.heap.size rfl (.tmp 32) (.tmp 34) 23 3 (.int .i64 0) 8 rfl Try.underlying23 info3 rfl (by decide) (by omega) (.slice (some ad432) x3_1.length co15) x3_1 (wrap64 (Int.tdiv (wrap64 (x4_1 * (wrap64 (a0 - 1)))) 16)) [.int .i64 (wrap64 (Int.tdiv (wrap64 (x4_1 * (wrap64 (a0 - 1)))) 16))] (fun _ => True) (fun _ => False) rfl rfl ?aP (fun _ hk => hk.elim) ?aF ?aO ?aB ?aS ?aL ?_; (case aP => exact rfl); (case aB => exact (hb_ HB.out)); (case aF => exact (fun _ _ => trivial)); (case aO => exact (ra_ HO_3.out)); (case aS => exact (below_size (hb_ HB.out))); (case aL => have := LMc14.out; omega); intro v434 w16 ho hb hg hat; rw [← Ny433.out] at ho; have n0_ := Aside0.mk (hb); have n1_ := Aside0.mk (ho); clear HB; clear HO_3; have HB := n0_; have HO435 := n1_; clear n0_ n1_; clear ho hb hg hat))
           go_roundg kj1
           case measure => have := HK1.out; have := HJ1.out; omega
           case rel => exact ⟨(y433), (wrap64 (x4_1 + 1)), (by first | rfl | (simp; done) | (simp [*]; done)), H', ⟨by have := HK1.out; have := HJ1.out; omega⟩, ⟨by (with_reducible repeat (first | apply Kd.R_alloc | apply Kd.R_drewN | apply Kd.R_drew)); exact HO435.out⟩, ⟨(hb_ HB.out)⟩⟩
          ·rw [if_neg c14] at H
           exact absurd H (by simp)
        ·rw [if_neg c11] at H
         exact absurd H (by simp)
       ·rw [if_neg c10] at H
        exact absurd H (by simp)
     ·replace c4 := Bool.eq_false_iff.mpr c4
      subst c4
      have H1 : (some x3_1) = some r := by rw [if_neg (show ¬ (false = true) by decide)] at H; exact H
      clear H
      have H := H1
      clear H1
      obtain rfl := Option.some.inj H
      go_wp2
      go_ret
      exact ⟨_, by first | rfl | (simp [errW_none, errW_some] <;> rfl) | (simp [*, errW_none, errW_some] <;> rfl), by (with_reducible repeat (first | apply Kd.R_alloc | apply Kd.R_drewN | apply Kd.R_drew)); exact HO_3.out, (hb_ HB.out)⟩
/-! ### sketch_count: function 66 -/
def sketch_count.f (a0_0 : Int) (a0_1 : Int) (l0_2 : List Int) (a0_3 : Bool) (l0_4 : List Int) (l0_5 : List (S39)) (l0_6 : List Int) : Option (Int) := some (wrap64 (a0_0 - a0_1))
set_option maxHeartbeats 8000000 in
set_option maxRecDepth 100000 in
theorem sketch_count.calls (a0_0 : Int) (a0_1 : Int) (A0_2 : Option Addr) (c0_2 : Nat) (l0_2 : List Int) (a0_3 : Bool) (A0_4 : Option Addr) (c0_4 : Nat) (l0_4 : List Int) (A0_5 : Option Addr) (c0_5 : Nat) (l0_5 : List (S39)) (A0_6 : Option Addr) (c0_6 : Nat) (l0_6 : List Int) (r : Int) (w : World) (hr0_2 : Kd.C (Kd.int .u64) w A0_2 l0_2.length l0_2) (hc0_2 : l0_2.length ≤ c0_2) (hr0_4 : Kd.C (Kd.int .i64) w A0_4 l0_4.length l0_4) (hc0_4 : l0_4.length ≤ c0_4) (hr0_5 : Kd.C k39 w A0_5 l0_5.length l0_5) (hc0_5 : l0_5.length ≤ c0_5) (hr0_6 : Kd.C (Kd.int .i64) w A0_6 l0_6.length l0_6) (hc0_6 : l0_6.length ≤ c0_6) (h : sketch_count.f a0_0 a0_1 l0_2 a0_3 l0_4 l0_5 l0_6 = some r) :
  Calls Try.prog 66 #[.agg #[.int .i64 a0_0, .int .i64 a0_1, .slice A0_2 l0_2.length c0_2, .bool a0_3, .slice A0_4 l0_4.length c0_4, .slice A0_5 l0_5.length c0_5, .slice A0_6 l0_6.length c0_6]] w fun e w' => e = .returned (.int .i64 r) ∧ Below w.heap.size w w' := by
 have hu26 := Try.underlying26
 have HR0_2 := Aside0.mk hr0_2
 have HC0_2 := Aside0.mk hc0_2
 clear hr0_2 hc0_2
 have HR0_4 := Aside0.mk hr0_4
 have HC0_4 := Aside0.mk hc0_4
 clear hr0_4 hc0_4
 have HR0_5 := Aside0.mk hr0_5
 have HC0_5 := Aside0.mk hc0_5
 clear hr0_5 hc0_5
 have HR0_6 := Aside0.mk hr0_6
 have HC0_6 := Aside0.mk hc0_6
 clear hr0_6 hc0_6
 have HB := Aside0.mk (Below.refl w.heap.size w)
 have H : (some (wrap64 (a0_0 - a0_1))) = some r := h
 clear h
 obtain rfl := Option.some.inj H
 go_enter Try.func66, Try.ntmps66
 go_wp2_with (first | ((with_reducible refine gate_dst (N := 1) rfl ?_); refine box_ 1 (cs := #[.int .i64 a0_0, .int .i64 a0_1, .slice A0_2 l0_2.length c0_2, .bool a0_3, .slice A0_4 l0_4.length c0_4, .slice A0_5 l0_5.length c0_5, .slice A0_6 l0_6.length c0_6]) (t := 26) ?_; intro gb436 hg w2 hbox hb; have BK436 := Aside0.mk (hbox); have GW436 := Aside0.mk ((by rw [hg]; exact (below_size (hb_ HB.out)) : w.heap.size ≤ gb436)); have GE436 := Aside0.mk ((by rw [hg]; exact (below_size (hb_ HB.out)) : w.heap.size ≤ gb436)); replace HB := Aside0.mk (below_step (hb_ HB.out) hb); clear hb hbox hg; obtain ⟨hcz3_0, hcz3_1, hcz3_2, hcz3_3, hcz3_4, hcz3_5, hcz3_6, hfz3_0, hfz3_1, hfz3_2, hfz3_3, hfz3_4, hfz3_5, hfz3_6⟩ := bf7 BK436.out))
 go_ret
 exact er_ ((hb1_ HB.out GE436.out))
end Go.Proofs.Ytackcingpffidaa.P
namespace Go.Proofs.Ytackcingpffidaa.P
open Go.RowKit Go.Proofs.YtackcingpffidaaW.PrintWords Go.Proofs.YtackcingpffidaaW.PrintLast Go.Proofs.YtackcingpffidaaW.PrintMore
theorem eqV_calls (x y : S39) (b : Bool) (h : (cV x y == 0) = b) (w : World) : Calls Try.prog 59 #[.agg #[.int .i64 x.f0, .int .i64 x.f1, .string x.f2], .agg #[.int .i64 y.f0, .int .i64 y.f1, .string y.f2]] w fun e w' => e = .returned (.bool b) ∧ Below w.heap.size w w' :=
  value_Equal.calls _ _ _ _ _ _ b w (by unfold value_Equal.f; rw [cV_is]; exact congrArg some h)
/-- The values that are not NULL. -/
def someS (l : List S39) : List S39 := l.filter fun v => !(v.f0 == 0)
/-- Their hashes, as they come. -/
def hashS (k : Nat) : List S39 → Option (List Int)
  | [] => some []
  | v :: vs => (value_Hash.f k 3 [v]).bind fun h => (hashS k vs).bind fun r => some (h :: r)
/-- One counter more, in row r. -/
def bump (k : Nat) (v : S39) (cs : List Int) (r : Nat) : Option (List Int) := (sketch_cell.f k r v.f0 v.f1 v.f2).bind fun c => if 0 ≤ c ∧ c < 64 then some (cs.set (r * 64 + c.toNat) (wrap64 (cs.getD (r * 64 + c.toNat) 0 + 1))) else none
def bumps (k : Nat) (v : S39) : List Int → Nat → Nat → Option (List Int)
  | cs, _, 0 => some cs
  | cs, r, m + 1 => (bump k v cs r).bind fun cs' => bumps k v cs' (r + 1) m
def counts (k : Nat) : List S39 → List Int → Option (List Int)
  | [], cs => some cs
  | v :: vs, cs => (bumps k v cs 0 4).bind fun cs' => counts k vs cs'
/-- The first place of the values equal to the one at kk, from f downwards; the first place behind them, upwards. -/
def fromS (s : List S39) (kk : Int) : Nat → Nat
  | 0 => 0
  | f + 1 => if cV (rd_T39 s f) (rd_T39 s kk) == 0 then fromS s kk f else f + 1
def toS (s : List S39) (kk : Int) : Nat → Nat → Nat
  | t, 0 => t
  | t, m + 1 => if cV (rd_T39 s t) (rd_T39 s kk) == 0 then toS s kk (t + 1) m else t
def fenceS (s : List S39) : List Int → List S39 → List Int → List S39 × List Int
  | [], F, R => (F, R)
  | kk :: ks, F, R => if decide (0 < F.length) && (cV (rd_T39 F ((F.length : Int) - 1)) (rd_T39 s kk) == 0) then fenceS s ks F R else fenceS s ks (F ++ [rd_T39 s kk]) (R ++ [(fromS s kk kk.toNat : Int), (toS s kk (kk.toNat + 1) (s.length - (kk.toNat + 1)) : Int)])
end Go.Proofs.Ytackcingpffidaa.P
namespace Go.Proofs.Ytackcingpffidaa.P
open Go.RowKit Go.Proofs.YtackcingpffidaaW.PrintWords Go.Proofs.YtackcingpffidaaW.PrintLast Go.Proofs.YtackcingpffidaaW.PrintMore
set_option linter.unusedVariables false
theorem C1 {w : World} {g : Nat} {x : S39} (h : w.heap[g]? = some (.cells #[.int .i64 x.f0, .int .i64 x.f1, .string x.f2] 39 (0, 0))) : Kd.C k39 w (some ⟨g, 0, none⟩) 1 [x] := by
  refine ⟨rfl, by decide, fun _ => ⟨_, rfl, fun j p hj => ?_⟩⟩
  cases j with
  | succ j => simp at hj
  | zero =>
    obtain rfl : x = p := by simpa using hj
    refine ⟨[.int .i64 x.f0, .int .i64 x.f1, .string x.f2], rfl, k39_mk w x, fun i u hu => ?_⟩
    have h0 := blk_cell h i
    rw [Nat.zero_mul, Nat.zero_add]
    have e : (⟨g, 0, none⟩ : Addr).add i = ⟨g, i, none⟩ := by unfold Addr.add; split <;> simp_all
    rw [e, h0]
    simpa using hu
theorem hash1 (k : Nat) (x : S39) (h : Int) (hh : value_Hash.f k 3 [x] = some h) {w : World} {g : Nat} (hb : w.heap[g]? = some (.cells #[.int .i64 x.f0, .int .i64 x.f1, .string x.f2] 39 (0, 0))) :
    Calls Try.prog 54 #[.int .u64 3, .slice (some ⟨g, 0, none⟩) 1 1] w fun e w' => e = .returned (.int .u64 h) ∧ Below w.heap.size w w' :=
  value_Hash.calls k 3 (some ⟨g, 0, none⟩) 1 [x] h w (C1 hb) (Nat.le_refl _) hh
theorem hashS_len {k : Nat} : ∀ {S : List S39} {hs : List Int}, hashS k S = some hs → hs.length = S.length
  | [], hs, h => by obtain rfl := Option.some.inj h; rfl
  | v :: vs, hs, h => by
    obtain ⟨a, h1, h2⟩ := Option.bind_eq_some_iff.mp h
    obtain ⟨b, h3, h4⟩ := Option.bind_eq_some_iff.mp h2
    obtain rfl := Option.some.inj h4
    simp [hashS_len h3]
theorem hashS_at {k : Nat} : ∀ {S : List S39} {hs : List Int}, hashS k S = some hs → ∀ i : Nat, i < S.length → value_Hash.f k 3 [rd_T39 S i] = some (rd hs i)
  | [], hs, h, i, hi => by simp at hi
  | v :: vs, hs, h, i, hi => by
    obtain ⟨a, h1, h2⟩ := Option.bind_eq_some_iff.mp h
    obtain ⟨b, h3, h4⟩ := Option.bind_eq_some_iff.mp h2
    obtain rfl := Option.some.inj h4
    cases i with
    | zero => exact h1
    | succ i =>
      have := hashS_at h3 i (by simpa using hi)
      simpa [rd_T39, rd] using this
theorem take_rd (hs : List Int) (i : Nat) (h : i < hs.length) : hs.take (i + 1) = hs.take i ++ [rd hs i] := by
  rw [List.take_succ_eq_append_getElem h]
  unfold rd
  rw [Int.toNat_natCast, List.getD_eq_getElem?_getD, List.getElem?_eq_getElem h]
  rfl
theorem drop_rd39 (S : List S39) (i : Nat) (h : i < S.length) : S.drop i = rd_T39 S i :: S.drop (i + 1) := by
  rw [List.drop_eq_getElem_cons h]
  congr 1
  unfold rd_T39
  rw [Int.toNat_natCast, List.getD_eq_getElem?_getD, List.getElem?_eq_getElem h]
  rfl
/-- One value's four counters, then the other values. -/
theorem counts_next {k : Nat} {S : List S39} {i : Nat} (h : i < S.length) {cur cs : List Int} (hc : counts k (S.drop i) cur = some cs) : ∃ c2, bumps k (rd_T39 S i) cur 0 4 = some c2 ∧ counts k (S.drop (i + 1)) c2 = some cs := by
  rw [drop_rd39 S i h] at hc
  exact Option.bind_eq_some_iff.mp hc
theorem bumps_next {k : Nat} {v : S39} {cur c2 : List Int} {r m : Nat} (h : bumps k v cur r (m + 1) = some c2) : ∃ c : Int, sketch_cell.f k r v.f0 v.f1 v.f2 = some c ∧ 0 ≤ c ∧ c < 64 ∧ bumps k v (cur.set (r * 64 + c.toNat) (wrap64 (cur.getD (r * 64 + c.toNat) 0 + 1))) (r + 1) m = some c2 := by
  obtain ⟨a, h1, h2⟩ := Option.bind_eq_some_iff.mp h
  unfold bump at h1
  obtain ⟨c, h3, h4⟩ := Option.bind_eq_some_iff.mp h1
  by_cases hc : 0 ≤ c ∧ c < 64
  · rw [if_pos hc] at h4
    obtain rfl := Option.some.inj h4
    exact ⟨c, h3, hc.1, hc.2, h2⟩
  · rw [if_neg hc] at h4
    exact absurd h4 (by simp)
/-- The counters' block. -/
def cntO (cur : List Int) : Obj := .cells (cur.map (Value.int .i64)).toArray 77 (0, 0)
theorem cnt_cell {w : World} {g : Nat} {cur : List Int} (h : w.heap[g]? = some (cntO cur)) (j : Nat) (hj : j < cur.length) : w.cell? ⟨g, j, none⟩ = some (.int .i64 (cur.getD j 0)) := by
  have h0 := blk_cell h j
  rw [h0]
  simp [hj]
theorem cnt_put {w : World} {g : Nat} {cur : List Int} (h : w.heap[g]? = some (cntO cur)) (j : Nat) (x : Int) : (w.setCell ⟨g, j, none⟩ (.int .i64 x)).heap[g]? = some (cntO (cur.set j x)) := by
  refine blk_put h j _ ?_
  apply Array.ext'
  simp [List.map_set]
theorem cnt_zero : Obj.cells Try.zeroCells77 77 (0, 0) = cntO (List.replicate 256 0) := by
  unfold cntO
  rw [List.map_replicate]
  kernel_rfl
theorem C2 {w : World} {g : Nat} {a b : Int} (h : w.heap[g]? = some (.cells #[.int .i64 a, .int .i64 b] 3 (0, 0))) : Kd.C (Kd.int .i64) w (some ⟨g, 0, none⟩) 2 [a, b] := by
  refine Kd.C_of_reads (enc := Value.int .i64) (d := (0 : Int)) (h1 := fun _ => rfl) ⟨rfl, by decide, fun _ => ⟨_, rfl, fun j hj => ?_⟩⟩
  have h0 := blk_cell h j
  rw [show (⟨g, 0, none⟩ : Addr).add j = ⟨g, j, none⟩ from by unfold Addr.add; split <;> simp_all, h0]
  match j, hj with
  | 0, _ => rfl
  | 1, _ => rfl
def put7 (w : World) (g : Nat) (u0 u1 u2 u3 u4 u5 u6 : Value) : World := ((((((w.setCell ⟨g, 0, none⟩ u0).setCell ⟨g, 1, none⟩ u1).setCell ⟨g, 2, none⟩ u2).setCell ⟨g, 3, none⟩ u3).setCell ⟨g, 4, none⟩ u4).setCell ⟨g, 5, none⟩ u5).setCell ⟨g, 6, none⟩ u6
theorem put7_blk {w : World} {g : Nat} {t : TypeId} {a0 a1 a2 a3 a4 a5 a6 : Value} (h : w.heap[g]? = some (.cells #[a0, a1, a2, a3, a4, a5, a6] t (0, 0))) (u0 u1 u2 u3 u4 u5 u6 : Value) : (put7 w g u0 u1 u2 u3 u4 u5 u6).heap[g]? = some (.cells #[u0, u1, u2, u3, u4, u5, u6] t (0, 0)) := by
  have h0 := blk_put (cs' := #[u0, a1, a2, a3, a4, a5, a6]) h 0 u0 rfl
  have h1 := blk_put (cs' := #[u0, u1, a2, a3, a4, a5, a6]) h0 1 u1 rfl
  have h2 := blk_put (cs' := #[u0, u1, u2, a3, a4, a5, a6]) h1 2 u2 rfl
  have h3 := blk_put (cs' := #[u0, u1, u2, u3, a4, a5, a6]) h2 3 u3 rfl
  have h4 := blk_put (cs' := #[u0, u1, u2, u3, u4, a5, a6]) h3 4 u4 rfl
  have h5 := blk_put (cs' := #[u0, u1, u2, u3, u4, u5, a6]) h4 5 u5 rfl
  exact blk_put (cs' := #[u0, u1, u2, u3, u4, u5, u6]) h5 6 u6 rfl
theorem typ_set {w : World} {g : Nat} {t : TypeId} (h : ∃ cs, w.heap[g]? = some (.cells cs t (0, 0))) (j : Nat) (u : Value) : ∃ cs, (w.setCell ⟨g, j, none⟩ u).heap[g]? = some (.cells cs t (0, 0)) := by
  obtain ⟨cs, h⟩ := h
  exact ⟨_, blk_set h j u⟩
theorem R_setE {w : World} {g : Nat} {t : TypeId} (h : ∃ cs, w.heap[g]? = some (.cells cs t (0, 0))) {α : Type} {d : Kd α} {e base : Nat} {ok : Nat → Prop} {v : Value} {xs : List α} (hr : d.R e w base ok v xs) (ht : ∀ q, q ∈ e :: d.E → q ≠ t) (j : Nat) (u : Value) : d.R e (w.setCell ⟨g, j, none⟩ u) base ok v xs := by
  obtain ⟨cs, h⟩ := h
  exact Kd.R_set hr h ht j u
theorem put7_R {w : World} {g : Nat} {t : TypeId} {cs : Array Value} (h : w.heap[g]? = some (.cells cs t (0, 0))) (u0 u1 u2 u3 u4 u5 u6 : Value) {α : Type} {d : Kd α} {e base : Nat} {ok : Nat → Prop} {v : Value} {xs : List α} (hr : d.R e w base ok v xs) (ht : ∀ q, q ∈ e :: d.E → q ≠ t) : d.R e (put7 w g u0 u1 u2 u3 u4 u5 u6) base ok v xs := by
  have t0 : ∃ cs, w.heap[g]? = some (.cells cs t (0, 0)) := ⟨_, h⟩
  have t1 := typ_set t0 0 u0
  have t2 := typ_set t1 1 u1
  have t3 := typ_set t2 2 u2
  have t4 := typ_set t3 3 u3
  have t5 := typ_set t4 4 u4
  have t6 := typ_set t5 5 u5
  exact R_setE t6 (R_setE t5 (R_setE t4 (R_setE t3 (R_setE t2 (R_setE t1 (R_setE t0 hr ht 0 u0) ht 1 u1) ht 2 u2) ht 3 u3) ht 4 u4) ht 5 u5) ht 6 u6
theorem put7_below {b : Nat} {w0 w : World} (h : Below b w0 w) {g : Nat} (hg : b ≤ g) (u0 u1 u2 u3 u4 u5 u6 : Value) : Below b w0 (put7 w g u0 u1 u2 u3 u4 u5 u6) :=
  ((((((h.setCell (p := ⟨g, 0, none⟩) hg u0).setCell (p := ⟨g, 1, none⟩) hg u1).setCell (p := ⟨g, 2, none⟩) hg u2).setCell (p := ⟨g, 3, none⟩) hg u3).setCell (p := ⟨g, 4, none⟩) hg u4).setCell (p := ⟨g, 5, none⟩) hg u5).setCell (p := ⟨g, 6, none⟩) hg u6
theorem drop_rd (S : List Int) (i : Nat) (h : i < S.length) : S.drop i = rd S i :: S.drop (i + 1) := by
  rw [List.drop_eq_getElem_cons h]
  congr 1
  unfold rd
  rw [Int.toNat_natCast, List.getD_eq_getElem?_getD, List.getElem?_eq_getElem h]
  rfl
theorem fence_same {T : List S39} {sp : List Int} {j : Nat} {Fj F : List S39} {Rj R : List Int} {x y : S39} (h : fenceS T (sp.drop j) Fj Rj = (F, R)) (hj : j < sp.length) (hx : rd_T39 Fj ((Fj.length : Int) - 1) = x) (hy : rd_T39 T (rd sp j) = y) (he : (cV x y == 0) = true) (hF : 0 < Fj.length) : fenceS T (sp.drop (j + 1)) Fj Rj = (F, R) := by
  rw [drop_rd sp j hj] at h
  unfold fenceS at h
  rw [if_pos (by rw [hx, hy, he, decide_eq_true hF]; rfl)] at h
  exact h
theorem fence_more {T : List S39} {sp : List Int} {j : Nat} {Fj F : List S39} {Rj R : List Int} {y : S39} (h : fenceS T (sp.drop j) Fj Rj = (F, R)) (hj : j < sp.length) (hy : rd_T39 T (rd sp j) = y) (he : (decide (0 < Fj.length) && (cV (rd_T39 Fj ((Fj.length : Int) - 1)) y == 0)) = false) :
    fenceS T (sp.drop (j + 1)) (Fj ++ [y]) (Rj ++ [(fromS T (rd sp j) (rd sp j).toNat : Int), (toS T (rd sp j) ((rd sp j).toNat + 1) (T.length - ((rd sp j).toNat + 1)) : Int)]) = (F, R) := by
  rw [drop_rd sp j hj] at h
  unfold fenceS at h
  rw [if_neg (by rw [hy, he]; simp), hy] at h
  exact h
theorem from_zero (T : List S39) (kk : Int) : fromS T kk 0 = 0 := rfl
theorem from_down {T : List S39} {kk : Int} {f r : Nat} (h : fromS T kk (f + 1) = r) (he : (cV (rd_T39 T f) (rd_T39 T kk) == 0) = true) : fromS T kk f = r := by unfold fromS at h; rw [if_pos he] at h; exact h
theorem from_stay {T : List S39} {kk : Int} {f r : Nat} (h : fromS T kk (f + 1) = r) (he : (cV (rd_T39 T f) (rd_T39 T kk) == 0) = false) : f + 1 = r := by unfold fromS at h; rw [if_neg (by rw [he]; simp)] at h; exact h
theorem to_up {T : List S39} {kk : Int} {t m r : Nat} (h : toS T kk t (m + 1) = r) (he : (cV (rd_T39 T t) (rd_T39 T kk) == 0) = true) : toS T kk (t + 1) m = r := by unfold toS at h; rw [if_pos he] at h; exact h
theorem to_stay {T : List S39} {kk : Int} {t m r : Nat} (h : toS T kk t (m + 1) = r) (he : (cV (rd_T39 T t) (rd_T39 T kk) == 0) = false) : t = r := by unfold toS at h; rw [if_neg (by rw [he]; simp)] at h; exact h
theorem to_le (T : List S39) (kk : Int) : ∀ m t, toS T kk t m ≤ t + m
  | 0, t => Nat.le_refl _
  | m + 1, t => by unfold toS; split; (have := to_le T kk m (t + 1); omega); omega
theorem from_le (T : List S39) (kk : Int) : ∀ f, fromS T kk f ≤ f
  | 0 => Nat.le_refl _
  | f + 1 => by unfold fromS; split; (have := from_le T kk f; omega); omega
end Go.Proofs.Ytackcingpffidaa.P
namespace Go.Proofs.Ytackcingpffidaa.P
set_option linter.unusedVariables false
open Go.RowKit Go.Proofs.YtackcingpffidaaW.PrintWords Go.Proofs.YtackcingpffidaaW.PrintLast Go.Proofs.YtackcingpffidaaW.PrintMore
/-- A fence. -/
def fe (F : List S39) (i : Nat) : S39 := rd_T39 F (i : Int)
def upS (cm : S39 → S39 → Int) (F : List S39) (R : List Int) (v : S39) (q : Bool) (n : Int) : Nat → Nat → Int
  | 0, _ => n
  | m + 1, i => if decide (0 < cm (fe F i) v) || (cm (fe F i) v == 0 && q) then rd R ((2 * i : Nat) : Int) else upS cm F R v q n m (i + 1)
def loS (cm : S39 → S39 → Int) (F : List S39) (R : List Int) (v : S39) (q : Bool) : Nat → Int
  | 0 => 0
  | i + 1 => if decide (cm (fe F i) v < 0) || (cm (fe F i) v == 0 && q) then rd R ((2 * i + 1 : Nat) : Int) else loS cm F R v q i
def rkB (F : List S39) (R : List Int) : Bool := R.length == 2 * F.length && decide (F.length ≤ 1000)
theorem rk_of {F : List S39} {R : List Int} {α : Type} {x : α} {r : α} (h : (if rkB F R then some x else none) = some r) : R.length = 2 * F.length ∧ F.length ≤ 1000 ∧ x = r := by
  unfold rkB at h
  cases hb : (R.length == 2 * F.length && decide (F.length ≤ 1000)) with
  | false => rw [hb] at h; exact absurd h (by simp)
  | true =>
    rw [hb] at h
    rw [Bool.and_eq_true] at hb
    exact ⟨by simpa using hb.1, of_decide_eq_true hb.2, Option.some.inj h⟩
def sketch_upper.f (k : Nat) (a0_0 : Int) (a0_1 : Int) (l0_2 : List Int) (a0_3 : Bool) (l0_4 : List Int) (l0_5 : List (S39)) (l0_6 : List Int) (a1_0 : Int) (a1_1 : Int) (a1_2 : ByteArray) (a2 : Bool) : Option Int := if rkB l0_5 l0_6 then some (upS cV l0_5 l0_6 ⟨a1_0, a1_1, a1_2⟩ a2 (wrap64 (a0_0 - a0_1)) l0_5.length 0) else none
theorem sketch_upper.mono : ∀ a0 a1 a2 a3 a4 a5 a6 a7 a8 a9 a10 k, LeO (sketch_upper.f k a0 a1 a2 a3 a4 a5 a6 a7 a8 a9 a10) (sketch_upper.f (k + 1) a0 a1 a2 a3 a4 a5 a6 a7 a8 a9 a10) := fun _ _ _ _ _ _ _ _ _ _ _ _ => LeO.refl _
def sketch_lower.f (k : Nat) (a0_0 : Int) (a0_1 : Int) (l0_2 : List Int) (a0_3 : Bool) (l0_4 : List Int) (l0_5 : List (S39)) (l0_6 : List Int) (a1_0 : Int) (a1_1 : Int) (a1_2 : ByteArray) (a2 : Bool) : Option Int := if rkB l0_5 l0_6 then some (loS cV l0_5 l0_6 ⟨a1_0, a1_1, a1_2⟩ a2 l0_5.length) else none
theorem sketch_lower.mono : ∀ a0 a1 a2 a3 a4 a5 a6 a7 a8 a9 a10 k, LeO (sketch_lower.f k a0 a1 a2 a3 a4 a5 a6 a7 a8 a9 a10) (sketch_lower.f (k + 1) a0 a1 a2 a3 a4 a5 a6 a7 a8 a9 a10) := fun _ _ _ _ _ _ _ _ _ _ _ _ => LeO.refl _
def laminaref16_LessMax.f (k : Nat) (a0_0 : Int) (a0_1 : Int) (l0_2 : List Int) (a0_3 : Bool) (l0_4 : List Int) (l0_5 : List (S39)) (l0_6 : List Int) (a1_0 : Int) (a1_1 : Int) (a1_2 : ByteArray) (a2 : Bool) : Option Int := if rkB l0_5 l0_6 then some (upS rcV l0_5 l0_6 ⟨a1_0, a1_1, a1_2⟩ (!a2) (wrap64 (a0_0 - a0_1)) l0_5.length 0) else none
theorem laminaref16_LessMax.mono : ∀ a0 a1 a2 a3 a4 a5 a6 a7 a8 a9 a10 k, LeO (laminaref16_LessMax.f k a0 a1 a2 a3 a4 a5 a6 a7 a8 a9 a10) (laminaref16_LessMax.f (k + 1) a0 a1 a2 a3 a4 a5 a6 a7 a8 a9 a10) := fun _ _ _ _ _ _ _ _ _ _ _ _ => LeO.refl _
def laminaref16_LessMin.f (k : Nat) (a0_0 : Int) (a0_1 : Int) (l0_2 : List Int) (a0_3 : Bool) (l0_4 : List Int) (l0_5 : List (S39)) (l0_6 : List Int) (a1_0 : Int) (a1_1 : Int) (a1_2 : ByteArray) (a2 : Bool) : Option Int := if rkB l0_5 l0_6 then some (loS rcV l0_5 l0_6 ⟨a1_0, a1_1, a1_2⟩ a2 l0_5.length) else none
theorem laminaref16_LessMin.mono : ∀ a0 a1 a2 a3 a4 a5 a6 a7 a8 a9 a10 k, LeO (laminaref16_LessMin.f k a0 a1 a2 a3 a4 a5 a6 a7 a8 a9 a10) (laminaref16_LessMin.f (k + 1) a0 a1 a2 a3 a4 a5 a6 a7 a8 a9 a10) := fun _ _ _ _ _ _ _ _ _ _ _ _ => LeO.refl _
end Go.Proofs.Ytackcingpffidaa.P
namespace Go.Proofs.Ytackcingpffidaa.P
set_option linter.unusedVariables false
open Go.RowKit Go.Proofs.YtackcingpffidaaW.PrintWords Go.Proofs.YtackcingpffidaaW.PrintLast Go.Proofs.YtackcingpffidaaW.PrintMore
section
variable {P : Program} {ops : Array Oper} {Q : Exit → Act → World → Prop} {S : World → Prop} {ds : List Nat} {T : Bool × List (List Nat × List Nat)} {B : List Nat}
/-- A call by its contract, what follows told by K. -/
theorem cK_ {oi : Oper} {N : Option Tmp} {a : Act} {w : World} {K : Act → World → Prop} {f : FuncId} {fn : Func} {ops2 : Array Operand} {ts : Array TypeId} {args : Array Value} {v : Value} (hf : P.funcs[f]? = some fn)
    (hc : Calls P f args w fun e w' => e = .returned v ∧ Below w.heap.size w w') (h : ∀ w', Below w.heap.size w w' → K (a.put N v) w') (hN : oi.dst = N := by rfl)
    (hop : oi.op = .call { callee := .value (.func f), args := ops2, argTypes := ts } := by rfl) (hw : Region.wanted oi (yielded ops a.tmps) = true := by rfl) (hname : (fn.name == "runtime.NumGoroutine") = false := by rfl) (hb : fn.body.isSome = true := by rfl)
    (hargs : ops2.map a.eval = args := by ((try simp only [List.map_toArray, List.map_cons, List.map_nil]); first | done | rfl)) : if Region.wanted oi (yielded ops a.tmps) = true then Oper.wp P oi a w K Q else K (a.put N undef) w :=
  goes_ hf hname hb args hw hN hop hargs (hc.mono fun e w' hh => ⟨v, hh.1, h w' hh.2⟩)
/-- A call that alone may come up; HY: what stands since the world V. -/
theorem cl_ {V : World} (HT : Aside0 (rtab .any ops = T)) (i : Nat) (N : Option Tmp) {oi : Oper} {fuel : Nat} {l : Array Bool} {a a' : Act} {w : World} {f : FuncId} {fn : Func} {ops2 : Array Operand} {ts : Array TypeId} {args : Array Value} {v : Value} (hf : P.funcs[f]? = some fn)
    (hc : Calls P f args w fun e w' => e = .returned v ∧ Below w.heap.size w w') (HY : Aside0 (Below V.heap.size V w)) (HS : Aside0 (∀ W, Below V.heap.size V W → S W)) (h : ∀ w', Aside0 (Below V.heap.size V w') → S w' → wpAnyLast P .any ops Q S ds fuel (l.setIfInBounds i true) a' w')
    (hi : ops[i]? = some oi := by rfl) (hN : oi.dst = N := by rfl) (hop : oi.op = .call { callee := .value (.func f), args := ops2, argTypes := ts } := by rfl) (hk : (readyT T.2 l.toList == [i] && l.toList.set i true == (l.setIfInBounds i true).toList) = true := by kernel_rfl) (hd : i ∉ ds := by decide)
    (hw : Region.wanted oi (yielded ops a.tmps) = true := by rfl) (hname : (fn.name == "runtime.NumGoroutine") = false := by rfl) (hb : fn.body.isSome = true := by rfl)
    (hargs : ops2.map a.eval = args := by ((try simp only [List.map_toArray, List.map_cons, List.map_nil]); first | done | rfl))
    (ha : a.put N v = a' := by (simp only [Act.put, List.setIfInBounds_toArray, List.set_cons_zero, List.set_cons_succ, i64_w, i32_w]; rfl)) : wpAnyLast P .any ops Q S ds (fuel + 1) l a w :=
  on_ HT i N (fun K hK => cK_ hf hc (fun w' hb => hK.out _ _ (HS.out _ (HY.out.trans (hb.mono HY.out.size))) fun s => by rw [ha]; exact h w' ⟨HY.out.trans (hb.mono HY.out.size)⟩ s) hN hop hw hname hb hargs) hi hN hk hd
/-- The same where several may come up (two_, three_). -/
theorem ck_ {V : World} {W : Act → World → Prop} {K : Act → World → Prop} (hK : Shut (∀ a' w', S w' → (S w' → W a' w') → K a' w')) {oi : Oper} {N : Option Tmp} {a a' : Act} {w : World} {f : FuncId} {fn : Func} {ops2 : Array Operand} {ts : Array TypeId} {args : Array Value} {v : Value} (hf : P.funcs[f]? = some fn)
    (hc : Calls P f args w fun e w' => e = .returned v ∧ Below w.heap.size w w') (HY : Aside0 (Below V.heap.size V w)) (HS : Aside0 (∀ W, Below V.heap.size V W → S W)) (h : ∀ w', Aside0 (Below V.heap.size V w') → Below w.heap.size w w' → S w' → W a' w') (hN : oi.dst = N := by rfl)
    (hop : oi.op = .call { callee := .value (.func f), args := ops2, argTypes := ts } := by rfl) (hw : Region.wanted oi (yielded ops a.tmps) = true := by rfl) (hname : (fn.name == "runtime.NumGoroutine") = false := by rfl) (hb : fn.body.isSome = true := by rfl)
    (hargs : ops2.map a.eval = args := by ((try simp only [List.map_toArray, List.map_cons, List.map_nil]); first | done | rfl))
    (ha : a.put N v = a' := by (simp only [Act.put, List.setIfInBounds_toArray, List.set_cons_zero, List.set_cons_succ, i64_w, i32_w]; rfl)) : if Region.wanted oi (yielded ops a.tmps) = true then Oper.wp P oi a w K Q else K (a.put N undef) w :=
  cK_ hf hc (fun w' hb => hK.out _ _ (HS.out _ (HY.out.trans (hb.mono HY.out.size))) fun s => by rw [ha]; exact h w' ⟨HY.out.trans (hb.mono HY.out.size)⟩ hb s) hN hop hw hname hb hargs
/-- A making of a block, where several may come up. -/
theorem ak_ {V : World} {W : Act → World → Prop} {K : Act → World → Prop} (hK : Shut (∀ a' w', S w' → (S w' → W a' w') → K a' w')) {oi : Oper} {a : Act} {a' : Nat → Act} {w : World} (N : Tmp) (cs : Array Value) (t : TypeId) (HY : Aside0 (Below V.heap.size V w)) (HS : Aside0 (∀ W, Below V.heap.size V W → S W))
    (h : ∀ g w', g = w.heap.size → Aside0 (V.heap.size ≤ g) → Aside0 (w'.heap[g]? = some (.cells cs t (0, 0))) → Aside0 (Below V.heap.size V w') → Below w.heap.size w w' → S w' → W (a' g) w') (hN : oi.dst = some N := by rfl)
    (hr : (execOp a.eval oi).run P w = .ok (.value (.pointer (some ⟨w.heap.size, 0, none⟩))) (w.alloc (.cells cs t (0, 0))) := by first | (go_simp; done) | (go_simp; rfl)) (hw : Region.wanted oi (yielded ops a.tmps) = true := by rfl)
    (ha : ∀ g, a.put (some N) (.pointer (some ⟨g, 0, none⟩)) = a' g := by (intro g; simp only [Act.put, List.setIfInBounds_toArray, List.set_cons_zero, List.set_cons_succ, i64_w, i32_w]; rfl)) : if Region.wanted oi (yielded ops a.tmps) = true then Oper.wp P oi a w K Q else K (a.put (some N) undef) w := by
  have h0 := box_step (Q := Q) (Kc := K) hw hN hr (fun g hg w' hbx hb => hK.out _ _ (HS.out _ (HY.out.trans (hb.mono HY.out.size))) fun s => by rw [hN, ha]; exact h g w' hg ⟨by rw [hg]; exact HY.out.size⟩ ⟨hbx⟩ ⟨HY.out.trans (hb.mono HY.out.size)⟩ hb s)
  rw [hN] at h0
  exact h0
/-- A making that alone may come up. -/
theorem al_ {V : World} (HT : Aside0 (rtab .any ops = T)) (i : Nat) {oi : Oper} {fuel : Nat} {l : Array Bool} {a : Act} {a' : Nat → Act} {w : World} (N : Tmp) (cs : Array Value) (t : TypeId) (HY : Aside0 (Below V.heap.size V w)) (HS : Aside0 (∀ W, Below V.heap.size V W → S W))
    (h : ∀ g w', g = w.heap.size → Aside0 (V.heap.size ≤ g) → Aside0 (w'.heap[g]? = some (.cells cs t (0, 0))) → Aside0 (Below V.heap.size V w') → Below w.heap.size w w' → S w' → wpAnyLast P .any ops Q S ds fuel (l.setIfInBounds i true) (a' g) w')
    (hi : ops[i]? = some oi := by rfl) (hN : oi.dst = some N := by rfl) (hk : (readyT T.2 l.toList == [i] && l.toList.set i true == (l.setIfInBounds i true).toList) = true := by kernel_rfl) (hd : i ∉ ds := by decide)
    (hr : (execOp a.eval oi).run P w = .ok (.value (.pointer (some ⟨w.heap.size, 0, none⟩))) (w.alloc (.cells cs t (0, 0))) := by first | (go_simp; done) | (go_simp; rfl)) (hw : Region.wanted oi (yielded ops a.tmps) = true := by rfl)
    (ha : ∀ g, a.put (some N) (.pointer (some ⟨g, 0, none⟩)) = a' g := by (intro g; simp only [Act.put, List.setIfInBounds_toArray, List.set_cons_zero, List.set_cons_succ, i64_w, i32_w]; rfl)) : wpAnyLast P .any ops Q S ds (fuel + 1) l a w :=
  on_ HT i (some N) (fun K hK => ak_ hK N cs t HY HS h hN hr hw ha) hi hN hk hd
/-- Two operations may come up; three. -/
theorem tw_ (HT : Aside0 (rtab .any ops = T)) (i j : Nat) (Ni Nj : Option Tmp) {oi oj : Oper} {fuel : Nat} {l : Array Bool} {a : Act} {w : World}
    (h1 : ∀ K : Act → World → Prop, Shut (∀ a' w', S w' → (S w' → wpAnyLast P .any ops Q S ds fuel (l.setIfInBounds i true) a' w') → K a' w') → if Region.wanted oi (yielded ops a.tmps) = true then Oper.wp P oi a w K Q else K (a.put Ni undef) w)
    (h2 : ∀ K : Act → World → Prop, Shut (∀ a' w', S w' → (S w' → wpAnyLast P .any ops Q S ds fuel (l.setIfInBounds j true) a' w') → K a' w') → if Region.wanted oj (yielded ops a.tmps) = true then Oper.wp P oj a w K Q else K (a.put Nj undef) w)
    (hi : ops[i]? = some oi := by rfl) (hj : ops[j]? = some oj := by rfl) (hNi : oi.dst = Ni := by rfl) (hNj : oj.dst = Nj := by rfl)
    (hk : (readyT T.2 l.toList == [i, j] && l.toList.set i true == (l.setIfInBounds i true).toList && l.toList.set j true == (l.setIfInBounds j true).toList) = true := by kernel_rfl) (hdi : i ∉ ds := by decide) (hdj : j ∉ ds := by decide) : wpAnyLast P .any ops Q S ds (fuel + 1) l a w :=
  two_ _ _ hi hj hNi hNj (two_of HT.out hk) hdi hdj h1 h2
theorem th_ (HT : Aside0 (rtab .any ops = T)) (i j k : Nat) (Ni Nj Nk : Option Tmp) {oi oj ok : Oper} {fuel : Nat} {l : Array Bool} {a : Act} {w : World}
    (h1 : ∀ K : Act → World → Prop, Shut (∀ a' w', S w' → (S w' → wpAnyLast P .any ops Q S ds fuel (l.setIfInBounds i true) a' w') → K a' w') → if Region.wanted oi (yielded ops a.tmps) = true then Oper.wp P oi a w K Q else K (a.put Ni undef) w)
    (h2 : ∀ K : Act → World → Prop, Shut (∀ a' w', S w' → (S w' → wpAnyLast P .any ops Q S ds fuel (l.setIfInBounds j true) a' w') → K a' w') → if Region.wanted oj (yielded ops a.tmps) = true then Oper.wp P oj a w K Q else K (a.put Nj undef) w)
    (h3 : ∀ K : Act → World → Prop, Shut (∀ a' w', S w' → (S w' → wpAnyLast P .any ops Q S ds fuel (l.setIfInBounds k true) a' w') → K a' w') → if Region.wanted ok (yielded ops a.tmps) = true then Oper.wp P ok a w K Q else K (a.put Nk undef) w)
    (hi : ops[i]? = some oi := by rfl) (hj : ops[j]? = some oj := by rfl) (hk' : ops[k]? = some ok := by rfl) (hNi : oi.dst = Ni := by rfl) (hNj : oj.dst = Nj := by rfl) (hNk : ok.dst = Nk := by rfl)
    (hk : (readyT T.2 l.toList == [i, j, k] && l.toList.set i true == (l.setIfInBounds i true).toList && l.toList.set j true == (l.setIfInBounds j true).toList && l.toList.set k true == (l.setIfInBounds k true).toList) = true := by kernel_rfl) (hdi : i ∉ ds := by decide) (hdj : j ∉ ds := by decide) (hdk : k ∉ ds := by decide) : wpAnyLast P .any ops Q S ds (fuel + 1) l a w :=
  three_ _ _ _ hi hj hk' hNi hNj hNk (three_of HT.out hk) hdi hdj hdk h1 h2 h3
/-- A store that alone may come up: the world behind it is w1. -/
theorem st_ (HT : Aside0 (rtab .any ops = T)) (i : Nat) {oi : Oper} {fuel : Nat} {l : Array Bool} {a : Act} {w : World} (w1 : World) (hrun : (execOp a.eval oi).run P w = .ok .skip w1) (hS : S w1) (h : S w1 → wpAnyLast P .any ops Q S ds fuel (l.setIfInBounds i true) a w1)
    (hi : ops[i]? = some oi := by rfl) (hN : oi.dst = none := by rfl) (hk : (readyT T.2 l.toList == [i] && l.toList.set i true == (l.setIfInBounds i true).toList) = true := by kernel_rfl) (hd : i ∉ ds := by decide)
    (hw : Region.wanted oi (yielded ops a.tmps) = true := by rfl) : wpAnyLast P .any ops Q S ds (fuel + 1) l a w :=
  on_ HT i none (fun K hK => skip_ hw hN hrun (hK.out _ _ hS h)) hi hN hk hd
end
/-- A sketch's slices lie in a world. -/
structure SK (w : World) (A2 : Option Addr) (c2 : Nat) (l2 : List Int) (A4 : Option Addr) (c4 : Nat) (l4 : List Int) (A5 : Option Addr) (c5 : Nat) (l5 : List S39) (A6 : Option Addr) (c6 : Nat) (l6 : List Int) : Prop where
  r2 : Kd.C (Kd.int .u64) w A2 l2.length l2
  h2 : l2.length ≤ c2
  r4 : Kd.C (Kd.int .i64) w A4 l4.length l4
  h4 : l4.length ≤ c4
  r5 : Kd.C k39 w A5 l5.length l5
  h5 : l5.length ≤ c5
  r6 : Kd.C (Kd.int .i64) w A6 l6.length l6
  h6 : l6.length ≤ c6
theorem SK.below {w W : World} {A2 : Option Addr} {c2 : Nat} {l2 : List Int} {A4 : Option Addr} {c4 : Nat} {l4 : List Int} {A5 : Option Addr} {c5 : Nat} {l5 : List S39} {A6 : Option Addr} {c6 : Nat} {l6 : List Int} (h : SK w A2 c2 l2 A4 c4 l4 A5 c5 l5 A6 c6 l6) (hb : Below w.heap.size w W) : SK W A2 c2 l2 A4 c4 l4 A5 c5 l5 A6 c6 l6 :=
  ⟨Kd.C_below h.r2 hb, h.h2, Kd.C_below h.r4 hb, h.h4, Kd.C_below h.r5 hb, h.h5, Kd.C_below h.r6 hb, h.h6⟩
theorem un8 {w : World} {A2 : Option Addr} {c2 : Nat} {l2 : List Int} {A4 : Option Addr} {c4 : Nat} {l4 : List Int} {A5 : Option Addr} {c5 : Nat} {l5 : List S39} {A6 : Option Addr} {c6 : Nat} {l6 : List Int} {H C : Prop}
    (f : Kd.C (Kd.int .u64) w A2 l2.length l2 → l2.length ≤ c2 → Kd.C (Kd.int .i64) w A4 l4.length l4 → l4.length ≤ c4 → Kd.C k39 w A5 l5.length l5 → l5.length ≤ c5 → Kd.C (Kd.int .i64) w A6 l6.length l6 → l6.length ≤ c6 → H → C) (h : SK w A2 c2 l2 A4 c4 l4 A5 c5 l5 A6 c6 l6) (e : H) : C :=
  f h.r2 h.h2 h.r4 h.h4 h.r5 h.h5 h.r6 h.h6 e
/-- What a call's own boxes hold: a sketch, a predicate, a value, two numbers; q: what else. -/
def sk7 (g : Nat) (a0 a1 : Int) (A2 : Option Addr) (c2 : Nat) (l2 : List Int) (b3 : Bool) (A4 : Option Addr) (c4 : Nat) (l4 : List Int) (A5 : Option Addr) (c5 : Nat) (l5 : List S39) (A6 : Option Addr) (c6 : Nat) (l6 : List Int) (W : World) (q : Prop) : Prop :=
  W.cell? ⟨g, 0, none⟩ = some (.int .i64 a0) ∧ W.cell? ⟨g, 1, none⟩ = some (.int .i64 a1) ∧ W.cell? ⟨g, 2, none⟩ = some (.slice A2 l2.length c2) ∧ W.cell? ⟨g, 3, none⟩ = some (.bool b3) ∧ W.cell? ⟨g, 4, none⟩ = some (.slice A4 l4.length c4) ∧ W.cell? ⟨g, 5, none⟩ = some (.slice A5 l5.length c5) ∧ W.cell? ⟨g, 6, none⟩ = some (.slice A6 l6.length c6) ∧ q
def p5 (g : Nat) (p0 op : Int) (v : S39) (W : World) (q : Prop) : Prop :=
  W.cell? ⟨g, 0, none⟩ = some (.int .i64 p0) ∧ W.cell? ⟨g, 1, none⟩ = some (.int .i64 op) ∧ W.cell? ⟨g, 2, none⟩ = some (.int .i64 v.f0) ∧ W.cell? ⟨g, 3, none⟩ = some (.int .i64 v.f1) ∧ W.cell? ⟨g, 4, none⟩ = some (.string v.f2) ∧ q
def v3 (g : Nat) (v : S39) (W : World) (q : Prop) : Prop := W.cell? ⟨g, 0, none⟩ = some (.int .i64 v.f0) ∧ W.cell? ⟨g, 1, none⟩ = some (.int .i64 v.f1) ∧ W.cell? ⟨g, 2, none⟩ = some (.string v.f2) ∧ q
def i2 (g : Nat) (a b : Int) (W : World) (q : Prop) : Prop := W.cell? ⟨g, 0, none⟩ = some (.int .i64 a) ∧ W.cell? ⟨g, 1, none⟩ = some (.int .i64 b) ∧ q
theorem sk7_of {W : World} {g : Nat} {t : TypeId} {a0 a1 : Int} {A2 : Option Addr} {c2 : Nat} {l2 : List Int} {b3 : Bool} {A4 : Option Addr} {c4 : Nat} {l4 : List Int} {A5 : Option Addr} {c5 : Nat} {l5 : List S39} {A6 : Option Addr} {c6 : Nat} {l6 : List Int} {q : Prop}
    (h : W.heap[g]? = some (.cells #[.int .i64 a0, .int .i64 a1, .slice A2 l2.length c2, .bool b3, .slice A4 l4.length c4, .slice A5 l5.length c5, .slice A6 l6.length c6] t (0, 0))) (k : q) : sk7 g a0 a1 A2 c2 l2 b3 A4 c4 l4 A5 c5 l5 A6 c6 l6 W q := ap7 (bc7 h) k
theorem p5_of {W : World} {g : Nat} {t : TypeId} {p0 op : Int} {v : S39} {q : Prop} (h : W.heap[g]? = some (.cells #[.int .i64 p0, .int .i64 op, .int .i64 v.f0, .int .i64 v.f1, .string v.f2] t (0, 0))) (k : q) : p5 g p0 op v W q := ap5 (bc5 h) k
theorem v3_of {W : World} {g : Nat} {t : TypeId} {v : S39} {q : Prop} (h : W.heap[g]? = some (.cells #[.int .i64 v.f0, .int .i64 v.f1, .string v.f2] t (0, 0))) (k : q) : v3 g v W q := ap3 (bc3 h) k
theorem i2_of {W : World} {g : Nat} {t : TypeId} {a b : Int} {q : Prop} (h : W.heap[g]? = some (.cells #[.int .i64 a, .int .i64 b] t (0, 0))) (k : q) : i2 g a b W q := ap2 (bc2 h) k
section
variable {P : Program} {md : Region.Mode} {ops : Array Oper} {Q : Exit → Act → World → Prop} {S : World → Prop} {ds : List Nat}
/-- Some destinations filled, written out. -/
theorem pr_ {fuel : Nat} {l : Array Bool} {a a' : Act} {s : List (Tmp × Value)} {w : World} (h : wpAnyLast P md ops Q S ds fuel l a' w) (ha : putAll a s = a' := by (simp only [putAll, Act.put, List.setIfInBounds_toArray, List.set_cons_zero, List.set_cons_succ]; rfl)) : wpAnyLast P md ops Q S ds fuel l (putAll a s) w := norm_ ha h
theorem pl_ {fuel : Nat} {l : Array Bool} {a a' : Act} {s : List (Tmp × Value)} {w : World} (h : wpAnyLast P md ops Q S ds fuel l (putAll a' s) w) (ha : a = putAll a' s := by (simp only [putAll, Act.put, List.setIfInBounds_toArray, List.set_cons_zero, List.set_cons_succ])) : wpAnyLast P md ops Q S ds fuel l a w := norm_ ha h
end
/-- A call's last: two numbers are returned. -/
theorem ret2_ {b : Nat} {w0 w : World} {g : Nat} {t : TypeId} {x y : Value} (hb : w.heap[g]? = some (.cells #[x, y] t (0, 0))) (HB : Below b w0 w) (hg : b ≤ g) (u0 u1 : Value) {p : World → Prop} (h : ∀ W, W.cell? ⟨g, 0, none⟩ = some u0 → W.cell? ⟨g, 1, none⟩ = some u1 → Below b w0 W → p W) : p ((w.setCell ⟨g, 0, none⟩ u0).setCell ⟨g, 1, none⟩ u1) := by
  have P2 : ((w.setCell ⟨g, 0, none⟩ u0).setCell ⟨g, 1, none⟩ u1).heap[g]? = some (.cells #[u0, u1] t (0, 0)) := blk_put (cs' := #[u0, u1]) (blk_put (cs' := #[u0, y]) hb 0 u0 rfl) 1 u1 rfl
  exact h _ ((blk_cell P2 0).trans rfl) ((blk_cell P2 1).trans rfl) ((HB.setCell (p := ⟨g, 0, none⟩) hg u0).setCell (p := ⟨g, 1, none⟩) hg u1)
def put3 (w : World) (g : Nat) (u0 u1 u2 : Value) : World := ((w.setCell ⟨g, 0, none⟩ u0).setCell ⟨g, 1, none⟩ u1).setCell ⟨g, 2, none⟩ u2
theorem put3_blk {w : World} {g : Nat} {t : TypeId} {a0 a1 a2 : Value} (h : w.heap[g]? = some (.cells #[a0, a1, a2] t (0, 0))) (u0 u1 u2 : Value) : (put3 w g u0 u1 u2).heap[g]? = some (.cells #[u0, u1, u2] t (0, 0)) :=
  blk_put (cs' := #[u0, u1, u2]) (blk_put (cs' := #[u0, u1, a2]) (blk_put (cs' := #[u0, a1, a2]) h 0 u0 rfl) 1 u1 rfl) 2 u2 rfl
theorem put3_below {b : Nat} {w0 w : World} (h : Below b w0 w) {g : Nat} (hg : b ≤ g) (u0 u1 u2 : Value) : Below b w0 (put3 w g u0 u1 u2) :=
  ((h.setCell (p := ⟨g, 0, none⟩) hg u0).setCell (p := ⟨g, 1, none⟩) hg u1).setCell (p := ⟨g, 2, none⟩) hg u2
end Go.Proofs.Ytackcingpffidaa.P
namespace Go.Proofs.Ytackcingpffidaa.P
open Go.RowKit Go.Proofs.YtackcingpffidaaW.PrintWords Go.Proofs.YtackcingpffidaaW.PrintLast Go.Proofs.YtackcingpffidaaW.PrintMore
set_option linter.unusedVariables false
set_option linter.unusedSimpArgs false
set_option maxHeartbeats 8000000 in
set_option maxRecDepth 100000 in
theorem sketch_upper.calls0 (k : Nat) (a0 a1 : Int) (A2 : Option Addr) (c2 : Nat) (l2 : List Int) (b3 : Bool) (A4 : Option Addr) (c4 : Nat) (l4 : List Int) (A5 : Option Addr) (c5 : Nat) (l5 : List S39) (A6 : Option Addr) (c6 : Nat) (l6 : List Int) (v : S39) (q : Bool) (r : Int) (w : World) (hr2 : Kd.C (Kd.int .u64) w A2 l2.length l2) (hc2 : l2.length ≤ c2) (hr4 : Kd.C (Kd.int .i64) w A4 l4.length l4) (hc4 : l4.length ≤ c4) (hr5 : Kd.C k39 w A5 l5.length l5) (hc5 : l5.length ≤ c5) (hr6 : Kd.C (Kd.int .i64) w A6 l6.length l6) (hc6 : l6.length ≤ c6) (h : sketch_upper.f k a0 a1 l2 b3 l4 l5 l6 v.f0 v.f1 v.f2 q = some r) :
    Calls Try.prog 70 #[.agg #[.int .i64 a0, .int .i64 a1, .slice A2 l2.length c2, .bool b3, .slice A4 l4.length c4, .slice A5 l5.length c5, .slice A6 l6.length c6], .agg #[.int .i64 v.f0, .int .i64 v.f1, .string v.f2], .bool q] w fun e w' => e = .returned (.int .i64 r) ∧ Below w.heap.size w w' := by
  obtain ⟨hR, hF, hz⟩ := rk_of h
  have HRL := Aside0.mk hR
  clear h hR
  obtain ⟨n, hn⟩ : ∃ n, wrap64 (a0 - a1) = n := ⟨_, rfl⟩
  have HN : Aside0 (sketch_count.f a0 a1 l2 b3 l4 l5 l6 = some n) := ⟨by unfold sketch_count.f; rw [hn]⟩
  rw [hn] at hz
  have HZ : Aside0 (upS cV l5 l6 v q n l5.length 0 = r) := ⟨hz⟩
  clear hz hn
  have HKw : SK w A2 c2 l2 A4 c4 l4 A5 c5 l5 A6 c6 l6 := ⟨hr2, hc2, hr4, hc4, hr5, hc5, hr6, hc6⟩
  have HR5 := Aside0.mk hr5
  have HR6 := Aside0.mk hr6
  replace HKw := Aside0.mk HKw
  clear hr2 hr4 hr5 hr6
  go_enter Try.func70, Try.ntmps70
  go_upto_region 1 with (first | (refine box_ 3 (cs := #[.int .i64 a0, .int .i64 a1, .slice A2 l2.length c2, .bool b3, .slice A4 l4.length c4, .slice A5 l5.length c5, .slice A6 l6.length c6]) (t := 26) (fun g2 hg_ w1 BK2 HB => ?_); clear hg_; replace BK2 := Aside0.mk BK2; replace HB := Aside0.mk HB) | (refine box_ 4 (cs := #[.int .i64 v.f0, .int .i64 v.f1, .string v.f2]) (t := 39) (fun g3 hg_ V BK3 hb => ?_); clear hg_; replace BK2 := Aside0.mk (blk_below BK2.out hb); replace BK3 := Aside0.mk BK3; replace HB := Aside0.mk (HB.out.trans (hb.mono (below_size HB.out))); clear hb))
  have HS : Aside0 (∀ W, Below V.heap.size V W → sk7 g2 a0 a1 A2 c2 l2 b3 A4 c4 l4 A5 c5 l5 A6 c6 l6 W (v3 g3 v W (True))) := ⟨fun W hb => sk7_of (blk_below BK2.out hb) (v3_of (blk_below BK3.out hb) trivial)⟩
  have HK : Aside0 (∀ W, Below V.heap.size V W → SK W A2 c2 l2 A4 c4 l4 A5 c5 l5 A6 c6 l6) := ⟨fun W hb => HKw.out.below (HB.out.trans (hb.mono (below_size HB.out)))⟩
  have HBV := HB
  clear BK2 BK3 HKw HB
  have HY := Aside0.mk (Below.refl V.heap.size V)
  obtain ⟨t0, t1, t2, t3, t4, t5, t6, t7, t8, t9, _⟩ := HS.out V HY.out
  go_wp2
  go_loopg [13] l5.length (fun kq v13 w' => ∃ i : Nat, v13 = .int .i64 i ∧ i ≤ l5.length ∧ Aside0 (kq + i = l5.length) ∧ Aside0 (upS cV l5 l6 v q n kq i = r) ∧ Aside0 (Below V.heap.size V w'))
  case atStart => exact ⟨0, rfl, Nat.zero_le _, ⟨rfl⟩, HZ, HY⟩
  case round =>
    clear HZ HY t0 t1 t2 t3 t4 t5 t6 t7 t8 t9
    obtain ⟨i, rfl, hi, HK2, HZ, HY⟩ := hrel
    by_cases hr : i < l5.length
    rotate_left
    · obtain rfl : i = l5.length := by omega
      have hk0 : gk = 0 := by have := HK2.out; omega
      subst hk0
      have hid : decide ((l5.length : Int) < l5.length) = false := decide_eq_false (by omega)
      obtain rfl : n = r := HZ.out
      obtain ⟨t0, t1, t2, t3, t4, t5, t6, t7, t8, t9, _⟩ := HS.out wr HY.out
      go_wp2_with (go_at_call 66; refine (un8 (sketch_count.calls a0 a1 _ _ _ _ _ _ _ _ _ _ _ _ _ n _) (HK.out _ HY.out) HN.out).mono ?_; rintro e w9 ⟨rfl, hb⟩; replace HY := Aside0.mk (HY.out.trans (hb.mono HY.out.size)); clear hb)
      go_ret
      exact ⟨rfl, HBV.out.trans (HY.out.mono (below_size HBV.out))⟩
    obtain ⟨k2, rfl⟩ : ∃ k2, gk = k2 + 1 := ⟨gk - 1, by have := HK2.out; omega⟩
    have hst : (if decide (0 < cV (fe l5 i) v) || (cV (fe l5 i) v == 0 && q) then rd l6 ((2 * i : Nat) : Int) else upS cV l5 l6 v q n k2 (i + 1)) = r := HZ.out
    clear HZ
    obtain ⟨ad, rfl, hy0, hy1, hy2⟩ := at_T39 HR5.out (i : Int) (by omega) (by omega)
    rw [Int.toNat_natCast] at hy0 hy1 hy2
    obtain ⟨x, hxx⟩ : ∃ x, fe l5 i = x := ⟨_, rfl⟩
    rw [show rd_T39 l5 (i : Int) = x from hxx] at hy0 hy1 hy2
    obtain ⟨c, hc⟩ : ∃ c, cV x v = c := ⟨_, rfl⟩
    have HC := Aside0.mk hc
    rw [hxx, hc] at hst
    have HST := Aside0.mk hst
    have HSE : Aside0 (∀ W, Below V.heap.size V W → sk7 g2 a0 a1 A2 c2 l2 b3 A4 c4 l4 (some ad) c5 l5 A6 c6 l6 W (v3 g3 v W (W.cell? (ad.add (i * 3)) = some (.int .i64 x.f0) ∧ W.cell? ⟨(ad.add (i * 3)).block, (ad.add (i * 3)).off + 1, none⟩ = some (.int .i64 x.f1) ∧ W.cell? ⟨(ad.add (i * 3)).block, (ad.add (i * 3)).off + 2, none⟩ = some (.string x.f2)))) := ⟨fun W hb => by
      obtain ⟨t0, t1, t2, t3, t4, t5, t6, t7, t8, t9, _⟩ := HS.out W hb
      have hbw := HBV.out.trans (hb.mono (below_size HBV.out))
      exact ⟨t0, t1, t2, t3, t4, t5, t6, t7, t8, t9, up_ hbw hy0, up_ hbw hy1, up_ hbw hy2⟩⟩
    have hid : decide ((i : Int) < l5.length) = true := decide_eq_true (by omega)
    have hid2 : decide ((l5.length : Int) ≤ i) = false := decide_eq_false (by omega)
    have hi0 : decide (0 ≤ (i : Int)) = true := decide_eq_true (by omega)
    clear hxx hc hst
    obtain ⟨t0, t1, t2, t3, t4, t5, t6, t7, t8, t9, _⟩ := HS.out wr HY.out
    obtain ⟨_, _, _, _, _, _, _, _, _, _, hy0, hy1, hy2⟩ := HSE.out wr HY.out
    go_upto_region 4 with (refine box_ 8 (cs := #[.int .i64 0, .int .i64 0, .string ⟨#[]⟩]) (t := 39) (fun g8 hg_ w7 BB hb => ?_); have hg8 : V.heap.size ≤ g8 := (by rw [hg_]; exact below_size HY.out); replace HY := Aside0.mk (HY.out.trans (hb.mono HY.out.size)); replace BB := Aside0.mk BB; clear hb hg_; obtain ⟨e0, e1, e2, z0, z1, z2⟩ := bf3 BB.out)
    have P3 := put3_blk BB.out (.int .i64 x.f0) (.int .i64 x.f1) (.string x.f2)
    have PB := put3_below HY.out hg8 (.int .i64 x.f0) (.int .i64 x.f1) (.string x.f2)
    unfold put3 at P3 PB
    clear t0 t1 t2 t3 t4 t5 t6 t7 t8 t9 hy0 hy1 hy2 e0 e1 e2 z0 z1 z2 HY
    generalize ((w7.setCell ⟨g8, 0, none⟩ (.int .i64 x.f0)).setCell ⟨g8, 1, none⟩ (.int .i64 x.f1)).setCell ⟨g8, 2, none⟩ (.string x.f2) = U at P3 PB ⊢
    have HY := Aside0.mk PB
    obtain ⟨e0, e1, e2⟩ := bc3 P3
    obtain ⟨t0, t1, t2, t3, t4, t5, t6, t7, t8, t9, _⟩ := HS.out U HY.out
    clear P3 PB
    go_upto_region 5 with (go_at_call 53; refine (cV_calls x v c HC.out _).mono ?_; rintro e w9 ⟨rfl, hb⟩; replace HY := Aside0.mk (HY.out.trans (hb.mono HY.out.size)); clear hb)
    clear t0 t1 t2 t3 t4 t5 t6 t7 t8 t9 e0 e1 e2
    obtain ⟨t0, t1, t2, t3, t4, t5, t6, t7, t8, t9, _⟩ := HS.out w9 HY.out
    by_cases h1 : 0 < c
    · have hb1 : decide (0 < c) = true := decide_eq_true h1
      have HSR : Aside0 (rd l6 ((2 * i : Nat) : Int) = r) := ⟨by have h_ := HST.out; rw [hb1, Bool.true_or, if_pos rfl] at h_; exact h_⟩
      replace HSR := HSR.out
      have hR6 : 2 * i < l6.length := by have := HRL.out; omega
      obtain ⟨m0, hm0⟩ : ∃ m : Nat, 2 * i = m := ⟨_, rfl⟩
      obtain ⟨m1, hm1⟩ : ∃ m : Nat, 2 * i = m := ⟨_, rfl⟩
      rw [hm1] at hR6 HSR
      obtain ⟨ad6, rfl, hx0⟩ := Kd.at_int HR6.out (m1 : Int) (by omega) (by omega)
      rw [Int.toNat_natCast] at hx0
      obtain ⟨y, hy⟩ : ∃ y, rd l6 (m1 : Int) = y := ⟨_, rfl⟩
      rw [hy] at hx0 HSR
      replace hx0 := up_ (HBV.out.trans (HY.out.mono (below_size HBV.out))) hx0
      have hw2a : IntKind.i64.wrap (2 * (i : Int)) = (m0 : Int) := by rw [i64_w]; unfold wrap64; omega
      have hw2c : wrap64 (2 * (i : Int)) = (m0 : Int) := by unfold wrap64; omega
      have hdB : decide ((m1 : Int) < l6.length) = true := decide_eq_true (by omega)
      obtain rfl : m1 = m0 := by omega
      clear hy hm0 hm1
      replace HSR := Aside0.mk HSR
      obtain rfl := HSR.out
      go_wp2
      go_ret
      exact ⟨rfl, HBV.out.trans (HY.out.mono (below_size HBV.out))⟩
    have hb1 : decide (0 < c) = false := decide_eq_false h1
    by_cases h2 : c = 0
    · have hb2 : (c == 0) = true := by simp [h2]
      cases q with
      | true =>
        have HSR : Aside0 (rd l6 ((2 * i : Nat) : Int) = r) := ⟨by have h_ := HST.out; rw [hb1, hb2, Bool.false_or, Bool.true_and, if_pos rfl] at h_; exact h_⟩
        replace HSR := HSR.out
        have hR6 : 2 * i < l6.length := by have := HRL.out; omega
        obtain ⟨m0, hm0⟩ : ∃ m : Nat, 2 * i = m := ⟨_, rfl⟩
        obtain ⟨m1, hm1⟩ : ∃ m : Nat, 2 * i = m := ⟨_, rfl⟩
        rw [hm1] at hR6 HSR
        obtain ⟨ad6, rfl, hx0⟩ := Kd.at_int HR6.out (m1 : Int) (by omega) (by omega)
        rw [Int.toNat_natCast] at hx0
        obtain ⟨y, hy⟩ : ∃ y, rd l6 (m1 : Int) = y := ⟨_, rfl⟩
        rw [hy] at hx0 HSR
        replace hx0 := up_ (HBV.out.trans (HY.out.mono (below_size HBV.out))) hx0
        have hw2a : IntKind.i64.wrap (2 * (i : Int)) = (m0 : Int) := by rw [i64_w]; unfold wrap64; omega
        have hw2c : wrap64 (2 * (i : Int)) = (m0 : Int) := by unfold wrap64; omega
        have hdB : decide ((m1 : Int) < l6.length) = true := decide_eq_true (by omega)
        obtain rfl : m1 = m0 := by omega
        clear hy hm0 hm1
        replace HSR := Aside0.mk HSR
        obtain rfl := HSR.out
        go_wp2
        go_ret
        exact ⟨rfl, HBV.out.trans (HY.out.mono (below_size HBV.out))⟩
      | false =>
        have HSR : Aside0 (upS cV l5 l6 v false n k2 (i + 1) = r) := ⟨by have h_ := HST.out; rw [hb1, hb2, Bool.false_or, Bool.true_and, if_neg (by decide)] at h_; exact h_⟩
        have hwi : IntKind.i64.wrap ((i : Int) + 1) = ((i + 1 : Nat) : Int) := by rw [i64_w]; unfold wrap64; omega
        go_wp2
        go_roundg k2
        case measure => omega
        case rel => exact ⟨i + 1, int_eq (by omega), by omega, ⟨by have := HK2.out; omega⟩, HSR, HY⟩
    have hb2 : (c == 0) = false := by simp [h2]
    have HSR : Aside0 (upS cV l5 l6 v q n k2 (i + 1) = r) := ⟨by have h_ := HST.out; rw [hb1, hb2, Bool.false_or, Bool.false_and, if_neg (by decide)] at h_; exact h_⟩
    have hwi : IntKind.i64.wrap ((i : Int) + 1) = ((i + 1 : Nat) : Int) := by rw [i64_w]; unfold wrap64; omega
    go_wp2
    go_roundg k2
    case measure => omega
    case rel => exact ⟨i + 1, int_eq (by omega), by omega, ⟨by have := HK2.out; omega⟩, HSR, HY⟩
theorem sketch_upper.calls (k : Nat) (a0_0 : Int) (a0_1 : Int) (A0_2 : Option Addr) (c0_2 : Nat) (l0_2 : List Int) (a0_3 : Bool) (A0_4 : Option Addr) (c0_4 : Nat) (l0_4 : List Int) (A0_5 : Option Addr) (c0_5 : Nat) (l0_5 : List (S39)) (A0_6 : Option Addr) (c0_6 : Nat) (l0_6 : List Int) (a1_0 : Int) (a1_1 : Int) (a1_2 : ByteArray) (a2 : Bool) (r : Int) (w : World) (hr0_2 : Kd.C (Kd.int .u64) w A0_2 l0_2.length l0_2) (hc0_2 : l0_2.length ≤ c0_2) (hr0_4 : Kd.C (Kd.int .i64) w A0_4 l0_4.length l0_4) (hc0_4 : l0_4.length ≤ c0_4) (hr0_5 : Kd.C k39 w A0_5 l0_5.length l0_5) (hc0_5 : l0_5.length ≤ c0_5) (hr0_6 : Kd.C (Kd.int .i64) w A0_6 l0_6.length l0_6) (hc0_6 : l0_6.length ≤ c0_6) (h : sketch_upper.f k a0_0 a0_1 l0_2 a0_3 l0_4 l0_5 l0_6 a1_0 a1_1 a1_2 a2 = some r) :
    Calls Try.prog 70 #[.agg #[.int .i64 a0_0, .int .i64 a0_1, .slice A0_2 l0_2.length c0_2, .bool a0_3, .slice A0_4 l0_4.length c0_4, .slice A0_5 l0_5.length c0_5, .slice A0_6 l0_6.length c0_6], .agg #[.int .i64 a1_0, .int .i64 a1_1, .string a1_2], .bool a2] w fun e w' => e = .returned (.int .i64 r) ∧ Below w.heap.size w w' :=
  sketch_upper.calls0 k a0_0 a0_1 A0_2 c0_2 l0_2 a0_3 A0_4 c0_4 l0_4 A0_5 c0_5 l0_5 A0_6 c0_6 l0_6 ⟨a1_0, a1_1, a1_2⟩ a2 r w hr0_2 hc0_2 hr0_4 hc0_4 hr0_5 hc0_5 hr0_6 hc0_6 h
def f71_T4 : Bool × List (List Nat × List Nat) := (true, [([], []), ([0], [0]), ([], []), ([1, 2], [1, 2]), ([3], [3]), ([], []), ([4, 5], [4, 5]), ([6, 6, 0, 1, 2, 3, 4, 5, 6], [6])])
def f71_B4 : List Nat := [0, 1, 0, 7, 15, 0, 63, 127]
set_option maxRecDepth 100000 in
theorem f71_tab4 : rtab .any (opsOf Try.f71 4) = f71_T4 := by kernel_rfl
theorem f71_bits4 : waitsOk f71_T4.2 f71_B4 = true := by kernel_rfl
set_option maxHeartbeats 8000000 in
set_option maxRecDepth 100000 in
theorem sketch_lower.calls0 (k : Nat) (a0 a1 : Int) (A2 : Option Addr) (c2 : Nat) (l2 : List Int) (b3 : Bool) (A4 : Option Addr) (c4 : Nat) (l4 : List Int) (A5 : Option Addr) (c5 : Nat) (l5 : List S39) (A6 : Option Addr) (c6 : Nat) (l6 : List Int) (v : S39) (q : Bool) (r : Int) (w : World) (hr2 : Kd.C (Kd.int .u64) w A2 l2.length l2) (hc2 : l2.length ≤ c2) (hr4 : Kd.C (Kd.int .i64) w A4 l4.length l4) (hc4 : l4.length ≤ c4) (hr5 : Kd.C k39 w A5 l5.length l5) (hc5 : l5.length ≤ c5) (hr6 : Kd.C (Kd.int .i64) w A6 l6.length l6) (hc6 : l6.length ≤ c6) (h : sketch_lower.f k a0 a1 l2 b3 l4 l5 l6 v.f0 v.f1 v.f2 q = some r) :
    Calls Try.prog 71 #[.agg #[.int .i64 a0, .int .i64 a1, .slice A2 l2.length c2, .bool b3, .slice A4 l4.length c4, .slice A5 l5.length c5, .slice A6 l6.length c6], .agg #[.int .i64 v.f0, .int .i64 v.f1, .string v.f2], .bool q] w fun e w' => e = .returned (.int .i64 r) ∧ Below w.heap.size w w' := by
  obtain ⟨hR, hF, hz⟩ := rk_of h
  have HRL := Aside0.mk hR
  clear h hR
  have HZ : Aside0 (loS cV l5 l6 v q l5.length = r) := ⟨hz⟩
  clear hz
  have HKw : SK w A2 c2 l2 A4 c4 l4 A5 c5 l5 A6 c6 l6 := ⟨hr2, hc2, hr4, hc4, hr5, hc5, hr6, hc6⟩
  have HR5 := Aside0.mk hr5
  have HR6 := Aside0.mk hr6
  replace HKw := Aside0.mk HKw
  clear hr2 hr4 hr5 hr6
  go_enter Try.func71, Try.ntmps71
  go_upto_region 1 with (first | (refine box_ 3 (cs := #[.int .i64 a0, .int .i64 a1, .slice A2 l2.length c2, .bool b3, .slice A4 l4.length c4, .slice A5 l5.length c5, .slice A6 l6.length c6]) (t := 26) (fun g2 hg_ w1 BK2 HB => ?_); clear hg_; replace BK2 := Aside0.mk BK2; replace HB := Aside0.mk HB) | (refine box_ 4 (cs := #[.int .i64 v.f0, .int .i64 v.f1, .string v.f2]) (t := 39) (fun g3 hg_ V BK3 hb => ?_); clear hg_; replace BK2 := Aside0.mk (blk_below BK2.out hb); replace BK3 := Aside0.mk BK3; replace HB := Aside0.mk (HB.out.trans (hb.mono (below_size HB.out))); clear hb))
  have HS : Aside0 (∀ W, Below V.heap.size V W → sk7 g2 a0 a1 A2 c2 l2 b3 A4 c4 l4 A5 c5 l5 A6 c6 l6 W (v3 g3 v W (True))) := ⟨fun W hb => sk7_of (blk_below BK2.out hb) (v3_of (blk_below BK3.out hb) trivial)⟩
  have HK : Aside0 (∀ W, Below V.heap.size V W → SK W A2 c2 l2 A4 c4 l4 A5 c5 l5 A6 c6 l6) := ⟨fun W hb => HKw.out.below (HB.out.trans (hb.mono (below_size HB.out)))⟩
  have HBV := HB
  clear BK2 BK3 HKw HB
  have HY := Aside0.mk (Below.refl V.heap.size V)
  obtain ⟨t0, t1, t2, t3, t4, t5, t6, t7, t8, t9, _⟩ := HS.out V HY.out
  have hw0 : IntKind.i64.wrap ((l5.length : Int) - 1) = (l5.length : Int) - 1 := by rw [i64_w]; unfold wrap64; omega
  go_wp2
  go_loopg [7] l5.length (fun kq v7 w' => v7 = .int .i64 ((kq : Int) - 1) ∧ kq ≤ l5.length ∧ Aside0 (loS cV l5 l6 v q kq = r) ∧ Aside0 (Below V.heap.size V w'))
  case atStart => exact ⟨rfl, Nat.le_refl _, HZ, HY⟩
  case round =>
    clear HZ HY t0 t1 t2 t3 t4 t5 t6 t7 t8 t9
    obtain ⟨rfl, hi, HZ, HY⟩ := hrel
    cases gk with
    | zero =>
      have hid : decide (((0 : Nat) : Int) - 1 ≥ 0) = false := decide_eq_false (by omega)
      obtain rfl := HZ.out
      go_wp2
      go_ret
      exact ⟨rfl, HBV.out.trans (HY.out.mono (below_size HBV.out))⟩
    | succ i =>
      have hil : i < l5.length := by omega
      rw [show ((i + 1 : Nat) : Int) - 1 = (i : Int) from by omega]
      have hst : (if decide (cV (fe l5 i) v < 0) || (cV (fe l5 i) v == 0 && q) then rd l6 ((2 * i + 1 : Nat) : Int) else loS cV l5 l6 v q i) = r := HZ.out
      clear HZ
      obtain ⟨ad, rfl, hy0, hy1, hy2⟩ := at_T39 HR5.out (i : Int) (by omega) (by omega)
      rw [Int.toNat_natCast] at hy0 hy1 hy2
      obtain ⟨x, hxx⟩ : ∃ x, fe l5 i = x := ⟨_, rfl⟩
      rw [show rd_T39 l5 (i : Int) = x from hxx] at hy0 hy1 hy2
      obtain ⟨c, hc⟩ : ∃ c, cV x v = c := ⟨_, rfl⟩
      have HC := Aside0.mk hc
      rw [hxx, hc] at hst
      have HST := Aside0.mk hst
      have HSE : Aside0 (∀ W, Below V.heap.size V W → sk7 g2 a0 a1 A2 c2 l2 b3 A4 c4 l4 (some ad) c5 l5 A6 c6 l6 W (v3 g3 v W (W.cell? (ad.add (i * 3)) = some (.int .i64 x.f0) ∧ W.cell? ⟨(ad.add (i * 3)).block, (ad.add (i * 3)).off + 1, none⟩ = some (.int .i64 x.f1) ∧ W.cell? ⟨(ad.add (i * 3)).block, (ad.add (i * 3)).off + 2, none⟩ = some (.string x.f2)))) := ⟨fun W hb => by
        obtain ⟨t0, t1, t2, t3, t4, t5, t6, t7, t8, t9, _⟩ := HS.out W hb
        have hbw := HBV.out.trans (hb.mono (below_size HBV.out))
        exact ⟨t0, t1, t2, t3, t4, t5, t6, t7, t8, t9, up_ hbw hy0, up_ hbw hy1, up_ hbw hy2⟩⟩
      have hid : decide ((i : Int) < l5.length) = true := decide_eq_true (by omega)
      have hid2 : decide ((l5.length : Int) ≤ i) = false := decide_eq_false (by omega)
      have hi0 : decide (0 ≤ (i : Int)) = true := decide_eq_true (by omega)
      clear hxx hc hst
      obtain ⟨t0, t1, t2, t3, t4, t5, t6, t7, t8, t9, _⟩ := HS.out wr HY.out
      go_upto_region 4 with (fail)
      clear t0 t1 t2 t3 t4 t5 t6 t7 t8 t9
      replace HY := Aside0.mk (below_drew1 HY.out)
      refine start_ (n := 8) (S := fun W => sk7 g2 a0 a1 A2 c2 l2 b3 A4 c4 l4 (some ad) c5 l5 A6 c6 l6 W (v3 g3 v W (W.cell? (ad.add (i * 3)) = some (.int .i64 x.f0) ∧ W.cell? ⟨(ad.add (i * 3)).block, (ad.add (i * 3)).off + 1, none⟩ = some (.int .i64 x.f1) ∧ W.cell? ⟨(ad.add (i * 3)).block, (ad.add (i * 3)).off + 2, none⟩ = some (.string x.f2)))) (ds := []) #[false, false, false, false, false, false, false, false] (by kernel_rfl) rfl rfl (HSE.out _ HY.out) (fun hHeld => ?_)
      refine with_tabW f71_tab4 f71_bits4 (fun HT_ HW_ => ?_)
      generalize wr.drew = wd at HY hHeld ⊢
      refine pu_ HT_ 0 (some 17) ?_
      refine tk_ HT_ HW_ 1 (some 18) hHeld ?_
      refine pu_ HT_ 2 (some 19) ?_
      refine tk_ HT_ HW_ 3 (some 20) hHeld ?_
      refine tk_ HT_ HW_ 4 (some 21) hHeld ?_
      refine tk_ HT_ HW_ 5 (some 22) hHeld ?_
      refine cl_ HT_ 6 (some 23) Try.func53 (cV_calls x v c HC.out _) HY HSE (fun w9 HY hHeld => ?_)
      refine pu_ HT_ 7 (some 8) ?_
      refine done_ (done_of HT_.out (by kernel_rfl)) ?_
      clear HT_ HW_ hHeld
      obtain ⟨t0, t1, t2, t3, t4, t5, t6, t7, t8, t9, _⟩ := HS.out w9 HY.out
      by_cases h1 : c < 0
      · have hb1 : decide (c < 0) = true := decide_eq_true h1
        have HSR : Aside0 (rd l6 ((2 * i + 1 : Nat) : Int) = r) := ⟨by have h_ := HST.out; rw [hb1, Bool.true_or, if_pos rfl] at h_; exact h_⟩
        replace HSR := HSR.out
        have hR6 : 2 * i + 1 < l6.length := by have := HRL.out; omega
        obtain ⟨m0, hm0⟩ : ∃ m : Nat, 2 * i = m := ⟨_, rfl⟩
        obtain ⟨m1, hm1⟩ : ∃ m : Nat, 2 * i + 1 = m := ⟨_, rfl⟩
        rw [hm1] at hR6 HSR
        obtain ⟨ad6, rfl, hx0⟩ := Kd.at_int HR6.out (m1 : Int) (by omega) (by omega)
        rw [Int.toNat_natCast] at hx0
        obtain ⟨y, hy⟩ : ∃ y, rd l6 (m1 : Int) = y := ⟨_, rfl⟩
        rw [hy] at hx0 HSR
        replace hx0 := up_ (HBV.out.trans (HY.out.mono (below_size HBV.out))) hx0
        have hw2a : IntKind.i64.wrap (2 * (i : Int)) = (m0 : Int) := by rw [i64_w]; unfold wrap64; omega
        have hw2c : wrap64 (2 * (i : Int)) = (m0 : Int) := by unfold wrap64; omega
        have hw2b : IntKind.i64.wrap ((m0 : Int) + 1) = (m1 : Int) := by rw [i64_w]; unfold wrap64; omega
        have hdB : decide ((m1 : Int) < l6.length) = true := decide_eq_true (by omega)
        have hw2d : wrap64 ((m0 : Int) + 1) = (m1 : Int) := by unfold wrap64; omega
        clear hy hm0 hm1
        replace HSR := Aside0.mk HSR
        obtain rfl := HSR.out
        go_wp2
        go_ret
        exact ⟨rfl, HBV.out.trans (HY.out.mono (below_size HBV.out))⟩
      have hb1 : decide (c < 0) = false := decide_eq_false h1
      by_cases h2 : c = 0
      · have hb2 : (c == 0) = true := by simp [h2]
        cases q with
        | true =>
          have HSR : Aside0 (rd l6 ((2 * i + 1 : Nat) : Int) = r) := ⟨by have h_ := HST.out; rw [hb1, hb2, Bool.false_or, Bool.true_and, if_pos rfl] at h_; exact h_⟩
          replace HSR := HSR.out
          have hR6 : 2 * i + 1 < l6.length := by have := HRL.out; omega
          obtain ⟨m0, hm0⟩ : ∃ m : Nat, 2 * i = m := ⟨_, rfl⟩
          obtain ⟨m1, hm1⟩ : ∃ m : Nat, 2 * i + 1 = m := ⟨_, rfl⟩
          rw [hm1] at hR6 HSR
          obtain ⟨ad6, rfl, hx0⟩ := Kd.at_int HR6.out (m1 : Int) (by omega) (by omega)
          rw [Int.toNat_natCast] at hx0
          obtain ⟨y, hy⟩ : ∃ y, rd l6 (m1 : Int) = y := ⟨_, rfl⟩
          rw [hy] at hx0 HSR
          replace hx0 := up_ (HBV.out.trans (HY.out.mono (below_size HBV.out))) hx0
          have hw2a : IntKind.i64.wrap (2 * (i : Int)) = (m0 : Int) := by rw [i64_w]; unfold wrap64; omega
          have hw2c : wrap64 (2 * (i : Int)) = (m0 : Int) := by unfold wrap64; omega
          have hw2b : IntKind.i64.wrap ((m0 : Int) + 1) = (m1 : Int) := by rw [i64_w]; unfold wrap64; omega
          have hdB : decide ((m1 : Int) < l6.length) = true := decide_eq_true (by omega)
          have hw2d : wrap64 ((m0 : Int) + 1) = (m1 : Int) := by unfold wrap64; omega
          clear hy hm0 hm1
          replace HSR := Aside0.mk HSR
          obtain rfl := HSR.out
          go_wp2
          go_ret
          exact ⟨rfl, HBV.out.trans (HY.out.mono (below_size HBV.out))⟩
        | false =>
          have HSR : Aside0 (loS cV l5 l6 v false i = r) := ⟨by have h_ := HST.out; rw [hb1, hb2, Bool.false_or, Bool.true_and, if_neg (by decide)] at h_; exact h_⟩
          have hwi : IntKind.i64.wrap ((i : Int) - 1) = (i : Int) - 1 := by rw [i64_w]; unfold wrap64; omega
          go_wp2
          go_roundg i
          case measure => omega
          case rel => exact ⟨rfl, by omega, HSR, HY⟩
      have hb2 : (c == 0) = false := by simp [h2]
      have HSR : Aside0 (loS cV l5 l6 v q i = r) := ⟨by have h_ := HST.out; rw [hb1, hb2, Bool.false_or, Bool.false_and, if_neg (by decide)] at h_; exact h_⟩
      have hwi : IntKind.i64.wrap ((i : Int) - 1) = (i : Int) - 1 := by rw [i64_w]; unfold wrap64; omega
      go_wp2
      go_roundg i
      case measure => omega
      case rel => exact ⟨rfl, by omega, HSR, HY⟩
theorem sketch_lower.calls (k : Nat) (a0_0 : Int) (a0_1 : Int) (A0_2 : Option Addr) (c0_2 : Nat) (l0_2 : List Int) (a0_3 : Bool) (A0_4 : Option Addr) (c0_4 : Nat) (l0_4 : List Int) (A0_5 : Option Addr) (c0_5 : Nat) (l0_5 : List (S39)) (A0_6 : Option Addr) (c0_6 : Nat) (l0_6 : List Int) (a1_0 : Int) (a1_1 : Int) (a1_2 : ByteArray) (a2 : Bool) (r : Int) (w : World) (hr0_2 : Kd.C (Kd.int .u64) w A0_2 l0_2.length l0_2) (hc0_2 : l0_2.length ≤ c0_2) (hr0_4 : Kd.C (Kd.int .i64) w A0_4 l0_4.length l0_4) (hc0_4 : l0_4.length ≤ c0_4) (hr0_5 : Kd.C k39 w A0_5 l0_5.length l0_5) (hc0_5 : l0_5.length ≤ c0_5) (hr0_6 : Kd.C (Kd.int .i64) w A0_6 l0_6.length l0_6) (hc0_6 : l0_6.length ≤ c0_6) (h : sketch_lower.f k a0_0 a0_1 l0_2 a0_3 l0_4 l0_5 l0_6 a1_0 a1_1 a1_2 a2 = some r) :
    Calls Try.prog 71 #[.agg #[.int .i64 a0_0, .int .i64 a0_1, .slice A0_2 l0_2.length c0_2, .bool a0_3, .slice A0_4 l0_4.length c0_4, .slice A0_5 l0_5.length c0_5, .slice A0_6 l0_6.length c0_6], .agg #[.int .i64 a1_0, .int .i64 a1_1, .string a1_2], .bool a2] w fun e w' => e = .returned (.int .i64 r) ∧ Below w.heap.size w w' :=
  sketch_lower.calls0 k a0_0 a0_1 A0_2 c0_2 l0_2 a0_3 A0_4 c0_4 l0_4 A0_5 c0_5 l0_5 A0_6 c0_6 l0_6 ⟨a1_0, a1_1, a1_2⟩ a2 r w hr0_2 hc0_2 hr0_4 hc0_4 hr0_5 hc0_5 hr0_6 hc0_6 h
def f77_T4 : Bool × List (List Nat × List Nat) := (true, [([], []), ([0], [0]), ([], []), ([1, 2], [1, 2]), ([3], [3]), ([], []), ([4, 5], [4, 5]), ([6, 6, 0, 1, 2, 3, 4, 5, 6], [6])])
def f77_B4 : List Nat := [0, 1, 0, 7, 15, 0, 63, 127]
set_option maxRecDepth 100000 in
theorem f77_tab4 : rtab .any (opsOf Try.f77 4) = f77_T4 := by kernel_rfl
theorem f77_bits4 : waitsOk f77_T4.2 f77_B4 = true := by kernel_rfl
set_option maxHeartbeats 8000000 in
set_option maxRecDepth 100000 in
theorem laminaref16_LessMax.calls0 (k : Nat) (a0 a1 : Int) (A2 : Option Addr) (c2 : Nat) (l2 : List Int) (b3 : Bool) (A4 : Option Addr) (c4 : Nat) (l4 : List Int) (A5 : Option Addr) (c5 : Nat) (l5 : List S39) (A6 : Option Addr) (c6 : Nat) (l6 : List Int) (v : S39) (q : Bool) (r : Int) (w : World) (hr2 : Kd.C (Kd.int .u64) w A2 l2.length l2) (hc2 : l2.length ≤ c2) (hr4 : Kd.C (Kd.int .i64) w A4 l4.length l4) (hc4 : l4.length ≤ c4) (hr5 : Kd.C k39 w A5 l5.length l5) (hc5 : l5.length ≤ c5) (hr6 : Kd.C (Kd.int .i64) w A6 l6.length l6) (hc6 : l6.length ≤ c6) (h : laminaref16_LessMax.f k a0 a1 l2 b3 l4 l5 l6 v.f0 v.f1 v.f2 q = some r) :
    Calls Try.prog 77 #[.agg #[.int .i64 a0, .int .i64 a1, .slice A2 l2.length c2, .bool b3, .slice A4 l4.length c4, .slice A5 l5.length c5, .slice A6 l6.length c6], .agg #[.int .i64 v.f0, .int .i64 v.f1, .string v.f2], .bool q] w fun e w' => e = .returned (.int .i64 r) ∧ Below w.heap.size w w' := by
  obtain ⟨hR, hF, hz⟩ := rk_of h
  have HRL := Aside0.mk hR
  clear h hR
  obtain ⟨n, hn⟩ : ∃ n, wrap64 (a0 - a1) = n := ⟨_, rfl⟩
  have HN : Aside0 (laminaref16_values.f a0 a1 l2 b3 l4 l5 l6 = some n) := ⟨by unfold laminaref16_values.f; rw [hn]⟩
  rw [hn] at hz
  have HZ : Aside0 (upS rcV l5 l6 v (!q) n l5.length 0 = r) := ⟨hz⟩
  clear hz hn
  have HKw : SK w A2 c2 l2 A4 c4 l4 A5 c5 l5 A6 c6 l6 := ⟨hr2, hc2, hr4, hc4, hr5, hc5, hr6, hc6⟩
  have HR5 := Aside0.mk hr5
  have HR6 := Aside0.mk hr6
  replace HKw := Aside0.mk HKw
  clear hr2 hr4 hr5 hr6
  go_enter Try.func77, Try.ntmps77
  go_upto_region 1 with (first | (refine box_ 3 (cs := #[.int .i64 a0, .int .i64 a1, .slice A2 l2.length c2, .bool b3, .slice A4 l4.length c4, .slice A5 l5.length c5, .slice A6 l6.length c6]) (t := 26) (fun g2 hg_ w1 BK2 HB => ?_); clear hg_; replace BK2 := Aside0.mk BK2; replace HB := Aside0.mk HB) | (refine box_ 4 (cs := #[.int .i64 v.f0, .int .i64 v.f1, .string v.f2]) (t := 39) (fun g3 hg_ V BK3 hb => ?_); clear hg_; replace BK2 := Aside0.mk (blk_below BK2.out hb); replace BK3 := Aside0.mk BK3; replace HB := Aside0.mk (HB.out.trans (hb.mono (below_size HB.out))); clear hb))
  have HS : Aside0 (∀ W, Below V.heap.size V W → sk7 g2 a0 a1 A2 c2 l2 b3 A4 c4 l4 A5 c5 l5 A6 c6 l6 W (v3 g3 v W (True))) := ⟨fun W hb => sk7_of (blk_below BK2.out hb) (v3_of (blk_below BK3.out hb) trivial)⟩
  have HK : Aside0 (∀ W, Below V.heap.size V W → SK W A2 c2 l2 A4 c4 l4 A5 c5 l5 A6 c6 l6) := ⟨fun W hb => HKw.out.below (HB.out.trans (hb.mono (below_size HB.out)))⟩
  have HBV := HB
  clear BK2 BK3 HKw HB
  have HY := Aside0.mk (Below.refl V.heap.size V)
  obtain ⟨t0, t1, t2, t3, t4, t5, t6, t7, t8, t9, _⟩ := HS.out V HY.out
  go_wp2
  go_loopg [7] l5.length (fun kq v7 w' => ∃ i : Nat, v7 = .int .i64 i ∧ i ≤ l5.length ∧ Aside0 (kq + i = l5.length) ∧ Aside0 (upS rcV l5 l6 v (!q) n kq i = r) ∧ Aside0 (Below V.heap.size V w'))
  case atStart => exact ⟨0, rfl, Nat.zero_le _, ⟨rfl⟩, HZ, HY⟩
  case round =>
    clear HZ HY t0 t1 t2 t3 t4 t5 t6 t7 t8 t9
    obtain ⟨i, rfl, hi, HK2, HZ, HY⟩ := hrel
    by_cases hr : i < l5.length
    rotate_left
    · obtain rfl : i = l5.length := by omega
      have hk0 : gk = 0 := by have := HK2.out; omega
      subst hk0
      have hid : decide ((l5.length : Int) < l5.length) = false := decide_eq_false (by omega)
      obtain rfl : n = r := HZ.out
      obtain ⟨t0, t1, t2, t3, t4, t5, t6, t7, t8, t9, _⟩ := HS.out wr HY.out
      go_wp2_with (go_at_call 80; refine (un8 (laminaref16_values.calls a0 a1 _ _ _ _ _ _ _ _ _ _ _ _ _ n _) (HK.out _ HY.out) HN.out).mono ?_; rintro e w9 ⟨rfl, hb⟩; replace HY := Aside0.mk (HY.out.trans (hb.mono HY.out.size)); clear hb)
      go_ret
      exact ⟨rfl, HBV.out.trans (HY.out.mono (below_size HBV.out))⟩
    obtain ⟨k2, rfl⟩ : ∃ k2, gk = k2 + 1 := ⟨gk - 1, by have := HK2.out; omega⟩
    have hst : (if decide (0 < rcV (fe l5 i) v) || (rcV (fe l5 i) v == 0 && (!q)) then rd l6 ((2 * i : Nat) : Int) else upS rcV l5 l6 v (!q) n k2 (i + 1)) = r := HZ.out
    clear HZ
    obtain ⟨ad, rfl, hy0, hy1, hy2⟩ := at_T39 HR5.out (i : Int) (by omega) (by omega)
    rw [Int.toNat_natCast] at hy0 hy1 hy2
    obtain ⟨x, hxx⟩ : ∃ x, fe l5 i = x := ⟨_, rfl⟩
    rw [show rd_T39 l5 (i : Int) = x from hxx] at hy0 hy1 hy2
    obtain ⟨c, hc⟩ : ∃ c, rcV x v = c := ⟨_, rfl⟩
    have HC := Aside0.mk hc
    rw [hxx, hc] at hst
    have HST := Aside0.mk hst
    have HSE : Aside0 (∀ W, Below V.heap.size V W → sk7 g2 a0 a1 A2 c2 l2 b3 A4 c4 l4 (some ad) c5 l5 A6 c6 l6 W (v3 g3 v W (W.cell? (ad.add (i * 3)) = some (.int .i64 x.f0) ∧ W.cell? ⟨(ad.add (i * 3)).block, (ad.add (i * 3)).off + 1, none⟩ = some (.int .i64 x.f1) ∧ W.cell? ⟨(ad.add (i * 3)).block, (ad.add (i * 3)).off + 2, none⟩ = some (.string x.f2)))) := ⟨fun W hb => by
      obtain ⟨t0, t1, t2, t3, t4, t5, t6, t7, t8, t9, _⟩ := HS.out W hb
      have hbw := HBV.out.trans (hb.mono (below_size HBV.out))
      exact ⟨t0, t1, t2, t3, t4, t5, t6, t7, t8, t9, up_ hbw hy0, up_ hbw hy1, up_ hbw hy2⟩⟩
    have hid : decide ((i : Int) < l5.length) = true := decide_eq_true (by omega)
    have hid2 : decide ((l5.length : Int) ≤ i) = false := decide_eq_false (by omega)
    have hi0 : decide (0 ≤ (i : Int)) = true := decide_eq_true (by omega)
    clear hxx hc hst
    obtain ⟨t0, t1, t2, t3, t4, t5, t6, t7, t8, t9, _⟩ := HS.out wr HY.out
    go_upto_region 4 with (fail)
    clear t0 t1 t2 t3 t4 t5 t6 t7 t8 t9
    replace HY := Aside0.mk (below_drew1 HY.out)
    refine start_ (n := 8) (S := fun W => sk7 g2 a0 a1 A2 c2 l2 b3 A4 c4 l4 (some ad) c5 l5 A6 c6 l6 W (v3 g3 v W (W.cell? (ad.add (i * 3)) = some (.int .i64 x.f0) ∧ W.cell? ⟨(ad.add (i * 3)).block, (ad.add (i * 3)).off + 1, none⟩ = some (.int .i64 x.f1) ∧ W.cell? ⟨(ad.add (i * 3)).block, (ad.add (i * 3)).off + 2, none⟩ = some (.string x.f2)))) (ds := []) #[false, false, false, false, false, false, false, false] (by kernel_rfl) rfl rfl (HSE.out _ HY.out) (fun hHeld => ?_)
    refine with_tabW f77_tab4 f77_bits4 (fun HT_ HW_ => ?_)
    generalize wr.drew = wd at HY hHeld ⊢
    refine pu_ HT_ 0 (some 16) ?_
    refine tk_ HT_ HW_ 1 (some 17) hHeld ?_
    refine pu_ HT_ 2 (some 18) ?_
    refine tk_ HT_ HW_ 3 (some 19) hHeld ?_
    refine tk_ HT_ HW_ 4 (some 20) hHeld ?_
    refine tk_ HT_ HW_ 5 (some 21) hHeld ?_
    refine cl_ HT_ 6 (some 22) Try.func32 (rcV_calls x v c HC.out _) HY HSE (fun w9 HY hHeld => ?_)
    refine pu_ HT_ 7 (some 8) ?_
    refine done_ (done_of HT_.out (by kernel_rfl)) ?_
    clear HT_ HW_ hHeld
    obtain ⟨t0, t1, t2, t3, t4, t5, t6, t7, t8, t9, _⟩ := HS.out w9 HY.out
    by_cases h1 : 0 < c
    · have hb1 : decide (0 < c) = true := decide_eq_true h1
      have HSR : Aside0 (rd l6 ((2 * i : Nat) : Int) = r) := ⟨by have h_ := HST.out; rw [hb1, Bool.true_or, if_pos rfl] at h_; exact h_⟩
      replace HSR := HSR.out
      have hR6 : 2 * i < l6.length := by have := HRL.out; omega
      obtain ⟨m0, hm0⟩ : ∃ m : Nat, 2 * i = m := ⟨_, rfl⟩
      obtain ⟨m1, hm1⟩ : ∃ m : Nat, 2 * i = m := ⟨_, rfl⟩
      rw [hm1] at hR6 HSR
      obtain ⟨ad6, rfl, hx0⟩ := Kd.at_int HR6.out (m1 : Int) (by omega) (by omega)
      rw [Int.toNat_natCast] at hx0
      obtain ⟨y, hy⟩ : ∃ y, rd l6 (m1 : Int) = y := ⟨_, rfl⟩
      rw [hy] at hx0 HSR
      replace hx0 := up_ (HBV.out.trans (HY.out.mono (below_size HBV.out))) hx0
      have hw2a : IntKind.i64.wrap (2 * (i : Int)) = (m0 : Int) := by rw [i64_w]; unfold wrap64; omega
      have hw2c : wrap64 (2 * (i : Int)) = (m0 : Int) := by unfold wrap64; omega
      have hdB : decide ((m1 : Int) < l6.length) = true := decide_eq_true (by omega)
      obtain rfl : m1 = m0 := by omega
      clear hy hm0 hm1
      replace HSR := Aside0.mk HSR
      obtain rfl := HSR.out
      go_wp2
      go_ret
      exact ⟨rfl, HBV.out.trans (HY.out.mono (below_size HBV.out))⟩
    have hb1 : decide (0 < c) = false := decide_eq_false h1
    by_cases h2 : c = 0
    · have hb2 : (c == 0) = true := by simp [h2]
      cases q with
      | true =>
        have HSR : Aside0 (upS rcV l5 l6 v (!true) n k2 (i + 1) = r) := ⟨by have h_ := HST.out; rw [hb1, hb2, Bool.false_or, Bool.true_and, if_neg (by decide)] at h_; exact h_⟩
        have hwi : IntKind.i64.wrap ((i : Int) + 1) = ((i + 1 : Nat) : Int) := by rw [i64_w]; unfold wrap64; omega
        go_wp2
        go_roundg k2
        case measure => omega
        case rel => exact ⟨i + 1, int_eq (by omega), by omega, ⟨by have := HK2.out; omega⟩, HSR, HY⟩
      | false =>
        have HSR : Aside0 (rd l6 ((2 * i : Nat) : Int) = r) := ⟨by have h_ := HST.out; rw [hb1, hb2, Bool.false_or, Bool.true_and, if_pos (show (!false) = true from rfl)] at h_; exact h_⟩
        replace HSR := HSR.out
        have hR6 : 2 * i < l6.length := by have := HRL.out; omega
        obtain ⟨m0, hm0⟩ : ∃ m : Nat, 2 * i = m := ⟨_, rfl⟩
        obtain ⟨m1, hm1⟩ : ∃ m : Nat, 2 * i = m := ⟨_, rfl⟩
        rw [hm1] at hR6 HSR
        obtain ⟨ad6, rfl, hx0⟩ := Kd.at_int HR6.out (m1 : Int) (by omega) (by omega)
        rw [Int.toNat_natCast] at hx0
        obtain ⟨y, hy⟩ : ∃ y, rd l6 (m1 : Int) = y := ⟨_, rfl⟩
        rw [hy] at hx0 HSR
        replace hx0 := up_ (HBV.out.trans (HY.out.mono (below_size HBV.out))) hx0
        have hw2a : IntKind.i64.wrap (2 * (i : Int)) = (m0 : Int) := by rw [i64_w]; unfold wrap64; omega
        have hw2c : wrap64 (2 * (i : Int)) = (m0 : Int) := by unfold wrap64; omega
        have hdB : decide ((m1 : Int) < l6.length) = true := decide_eq_true (by omega)
        obtain rfl : m1 = m0 := by omega
        clear hy hm0 hm1
        replace HSR := Aside0.mk HSR
        obtain rfl := HSR.out
        go_wp2
        go_ret
        exact ⟨rfl, HBV.out.trans (HY.out.mono (below_size HBV.out))⟩
    have hb2 : (c == 0) = false := by simp [h2]
    have HSR : Aside0 (upS rcV l5 l6 v (!q) n k2 (i + 1) = r) := ⟨by have h_ := HST.out; rw [hb1, hb2, Bool.false_or, Bool.false_and, if_neg (by decide)] at h_; exact h_⟩
    have hwi : IntKind.i64.wrap ((i : Int) + 1) = ((i + 1 : Nat) : Int) := by rw [i64_w]; unfold wrap64; omega
    go_wp2
    go_roundg k2
    case measure => omega
    case rel => exact ⟨i + 1, int_eq (by omega), by omega, ⟨by have := HK2.out; omega⟩, HSR, HY⟩
theorem laminaref16_LessMax.calls (k : Nat) (a0_0 : Int) (a0_1 : Int) (A0_2 : Option Addr) (c0_2 : Nat) (l0_2 : List Int) (a0_3 : Bool) (A0_4 : Option Addr) (c0_4 : Nat) (l0_4 : List Int) (A0_5 : Option Addr) (c0_5 : Nat) (l0_5 : List (S39)) (A0_6 : Option Addr) (c0_6 : Nat) (l0_6 : List Int) (a1_0 : Int) (a1_1 : Int) (a1_2 : ByteArray) (a2 : Bool) (r : Int) (w : World) (hr0_2 : Kd.C (Kd.int .u64) w A0_2 l0_2.length l0_2) (hc0_2 : l0_2.length ≤ c0_2) (hr0_4 : Kd.C (Kd.int .i64) w A0_4 l0_4.length l0_4) (hc0_4 : l0_4.length ≤ c0_4) (hr0_5 : Kd.C k39 w A0_5 l0_5.length l0_5) (hc0_5 : l0_5.length ≤ c0_5) (hr0_6 : Kd.C (Kd.int .i64) w A0_6 l0_6.length l0_6) (hc0_6 : l0_6.length ≤ c0_6) (h : laminaref16_LessMax.f k a0_0 a0_1 l0_2 a0_3 l0_4 l0_5 l0_6 a1_0 a1_1 a1_2 a2 = some r) :
    Calls Try.prog 77 #[.agg #[.int .i64 a0_0, .int .i64 a0_1, .slice A0_2 l0_2.length c0_2, .bool a0_3, .slice A0_4 l0_4.length c0_4, .slice A0_5 l0_5.length c0_5, .slice A0_6 l0_6.length c0_6], .agg #[.int .i64 a1_0, .int .i64 a1_1, .string a1_2], .bool a2] w fun e w' => e = .returned (.int .i64 r) ∧ Below w.heap.size w w' :=
  laminaref16_LessMax.calls0 k a0_0 a0_1 A0_2 c0_2 l0_2 a0_3 A0_4 c0_4 l0_4 A0_5 c0_5 l0_5 A0_6 c0_6 l0_6 ⟨a1_0, a1_1, a1_2⟩ a2 r w hr0_2 hc0_2 hr0_4 hc0_4 hr0_5 hc0_5 hr0_6 hc0_6 h
def f78_T5 : Bool × List (List Nat × List Nat) := (true, [([], []), ([0], [0]), ([], []), ([1, 2], [1, 2]), ([3], [3]), ([], []), ([4, 5], [4, 5]), ([6, 6, 0, 1, 2, 3, 4, 5, 6], [6])])
def f78_B5 : List Nat := [0, 1, 0, 7, 15, 0, 63, 127]
set_option maxRecDepth 100000 in
theorem f78_tab5 : rtab .any (opsOf Try.f78 5) = f78_T5 := by kernel_rfl
theorem f78_bits5 : waitsOk f78_T5.2 f78_B5 = true := by kernel_rfl
set_option maxHeartbeats 8000000 in
set_option maxRecDepth 100000 in
theorem laminaref16_LessMin.calls0 (k : Nat) (a0 a1 : Int) (A2 : Option Addr) (c2 : Nat) (l2 : List Int) (b3 : Bool) (A4 : Option Addr) (c4 : Nat) (l4 : List Int) (A5 : Option Addr) (c5 : Nat) (l5 : List S39) (A6 : Option Addr) (c6 : Nat) (l6 : List Int) (v : S39) (q : Bool) (r : Int) (w : World) (hr2 : Kd.C (Kd.int .u64) w A2 l2.length l2) (hc2 : l2.length ≤ c2) (hr4 : Kd.C (Kd.int .i64) w A4 l4.length l4) (hc4 : l4.length ≤ c4) (hr5 : Kd.C k39 w A5 l5.length l5) (hc5 : l5.length ≤ c5) (hr6 : Kd.C (Kd.int .i64) w A6 l6.length l6) (hc6 : l6.length ≤ c6) (h : laminaref16_LessMin.f k a0 a1 l2 b3 l4 l5 l6 v.f0 v.f1 v.f2 q = some r) :
    Calls Try.prog 78 #[.agg #[.int .i64 a0, .int .i64 a1, .slice A2 l2.length c2, .bool b3, .slice A4 l4.length c4, .slice A5 l5.length c5, .slice A6 l6.length c6], .agg #[.int .i64 v.f0, .int .i64 v.f1, .string v.f2], .bool q] w fun e w' => e = .returned (.int .i64 r) ∧ Below w.heap.size w w' := by
  obtain ⟨hR, hF, hz⟩ := rk_of h
  have HRL := Aside0.mk hR
  clear h hR
  have HZ : Aside0 (loS rcV l5 l6 v q l5.length = r) := ⟨hz⟩
  clear hz
  have HKw : SK w A2 c2 l2 A4 c4 l4 A5 c5 l5 A6 c6 l6 := ⟨hr2, hc2, hr4, hc4, hr5, hc5, hr6, hc6⟩
  have HR5 := Aside0.mk hr5
  have HR6 := Aside0.mk hr6
  replace HKw := Aside0.mk HKw
  clear hr2 hr4 hr5 hr6
  go_enter Try.func78, Try.ntmps78
  go_upto_region 1 with (first | (refine box_ 3 (cs := #[.int .i64 a0, .int .i64 a1, .slice A2 l2.length c2, .bool b3, .slice A4 l4.length c4, .slice A5 l5.length c5, .slice A6 l6.length c6]) (t := 26) (fun g2 hg_ w1 BK2 HB => ?_); clear hg_; replace BK2 := Aside0.mk BK2; replace HB := Aside0.mk HB) | (refine box_ 4 (cs := #[.int .i64 v.f0, .int .i64 v.f1, .string v.f2]) (t := 39) (fun g3 hg_ V BK3 hb => ?_); clear hg_; replace BK2 := Aside0.mk (blk_below BK2.out hb); replace BK3 := Aside0.mk BK3; replace HB := Aside0.mk (HB.out.trans (hb.mono (below_size HB.out))); clear hb))
  have HS : Aside0 (∀ W, Below V.heap.size V W → sk7 g2 a0 a1 A2 c2 l2 b3 A4 c4 l4 A5 c5 l5 A6 c6 l6 W (v3 g3 v W (True))) := ⟨fun W hb => sk7_of (blk_below BK2.out hb) (v3_of (blk_below BK3.out hb) trivial)⟩
  have HK : Aside0 (∀ W, Below V.heap.size V W → SK W A2 c2 l2 A4 c4 l4 A5 c5 l5 A6 c6 l6) := ⟨fun W hb => HKw.out.below (HB.out.trans (hb.mono (below_size HB.out)))⟩
  have HBV := HB
  clear BK2 BK3 HKw HB
  have HY := Aside0.mk (Below.refl V.heap.size V)
  obtain ⟨t0, t1, t2, t3, t4, t5, t6, t7, t8, t9, _⟩ := HS.out V HY.out
  go_wp2
  go_loopg [7, 8] l5.length (fun kq v7 v8 w' => ∃ i : Nat, v8 = .int .i64 i ∧ v7 = .int .i64 (loS rcV l5 l6 v q i) ∧ i ≤ l5.length ∧ Aside0 (kq + i = l5.length) ∧ Aside0 (Below V.heap.size V w'))
  case atStart => exact ⟨0, rfl, rfl, Nat.zero_le _, ⟨rfl⟩, HY⟩
  case round =>
    clear HY t0 t1 t2 t3 t4 t5 t6 t7 t8 t9
    obtain ⟨i, rfl, rfl, hi, HK2, HY⟩ := hrel
    by_cases hr : i < l5.length
    rotate_left
    · obtain rfl : i = l5.length := by omega
      have hk0 : gk = 0 := by have := HK2.out; omega
      subst hk0
      have hid : decide ((l5.length : Int) < l5.length) = false := decide_eq_false (by omega)
      obtain rfl := HZ.out
      obtain ⟨t0, t1, t2, t3, t4, t5, t6, t7, t8, t9, _⟩ := HS.out wr HY.out
      go_wp2
      go_ret
      exact ⟨rfl, HBV.out.trans (HY.out.mono (below_size HBV.out))⟩
    obtain ⟨k2, rfl⟩ : ∃ k2, gk = k2 + 1 := ⟨gk - 1, by have := HK2.out; omega⟩
    obtain ⟨s, hs⟩ : ∃ s, loS rcV l5 l6 v q i = s := ⟨_, rfl⟩
    have hst : (if decide (rcV (fe l5 i) v < 0) || (rcV (fe l5 i) v == 0 && q) then rd l6 ((2 * i + 1 : Nat) : Int) else loS rcV l5 l6 v q i) = loS rcV l5 l6 v q (i + 1) := rfl
    rw [hs] at hst ⊢
    clear hs
    obtain ⟨ad, rfl, hy0, hy1, hy2⟩ := at_T39 HR5.out (i : Int) (by omega) (by omega)
    rw [Int.toNat_natCast] at hy0 hy1 hy2
    obtain ⟨x, hxx⟩ : ∃ x, fe l5 i = x := ⟨_, rfl⟩
    rw [show rd_T39 l5 (i : Int) = x from hxx] at hy0 hy1 hy2
    obtain ⟨c, hc⟩ : ∃ c, rcV x v = c := ⟨_, rfl⟩
    have HC := Aside0.mk hc
    rw [hxx, hc] at hst
    have HST := Aside0.mk hst
    have HSE : Aside0 (∀ W, Below V.heap.size V W → sk7 g2 a0 a1 A2 c2 l2 b3 A4 c4 l4 (some ad) c5 l5 A6 c6 l6 W (v3 g3 v W (W.cell? (ad.add (i * 3)) = some (.int .i64 x.f0) ∧ W.cell? ⟨(ad.add (i * 3)).block, (ad.add (i * 3)).off + 1, none⟩ = some (.int .i64 x.f1) ∧ W.cell? ⟨(ad.add (i * 3)).block, (ad.add (i * 3)).off + 2, none⟩ = some (.string x.f2)))) := ⟨fun W hb => by
      obtain ⟨t0, t1, t2, t3, t4, t5, t6, t7, t8, t9, _⟩ := HS.out W hb
      have hbw := HBV.out.trans (hb.mono (below_size HBV.out))
      exact ⟨t0, t1, t2, t3, t4, t5, t6, t7, t8, t9, up_ hbw hy0, up_ hbw hy1, up_ hbw hy2⟩⟩
    have hid : decide ((i : Int) < l5.length) = true := decide_eq_true (by omega)
    have hid2 : decide ((l5.length : Int) ≤ i) = false := decide_eq_false (by omega)
    have hi0 : decide (0 ≤ (i : Int)) = true := decide_eq_true (by omega)
    clear hxx hc hst
    obtain ⟨t0, t1, t2, t3, t4, t5, t6, t7, t8, t9, _⟩ := HS.out wr HY.out
    go_upto_region 5 with (fail)
    clear t0 t1 t2 t3 t4 t5 t6 t7 t8 t9
    replace HY := Aside0.mk (below_drew1 HY.out)
    refine start_ (n := 8) (S := fun W => sk7 g2 a0 a1 A2 c2 l2 b3 A4 c4 l4 (some ad) c5 l5 A6 c6 l6 W (v3 g3 v W (W.cell? (ad.add (i * 3)) = some (.int .i64 x.f0) ∧ W.cell? ⟨(ad.add (i * 3)).block, (ad.add (i * 3)).off + 1, none⟩ = some (.int .i64 x.f1) ∧ W.cell? ⟨(ad.add (i * 3)).block, (ad.add (i * 3)).off + 2, none⟩ = some (.string x.f2)))) (ds := []) #[false, false, false, false, false, false, false, false] (by kernel_rfl) rfl rfl (HSE.out _ HY.out) (fun hHeld => ?_)
    refine with_tabW f78_tab5 f78_bits5 (fun HT_ HW_ => ?_)
    generalize wr.drew = wd at HY hHeld ⊢
    refine pu_ HT_ 0 (some 17) ?_
    refine tk_ HT_ HW_ 1 (some 18) hHeld ?_
    refine pu_ HT_ 2 (some 19) ?_
    refine tk_ HT_ HW_ 3 (some 20) hHeld ?_
    refine tk_ HT_ HW_ 4 (some 21) hHeld ?_
    refine tk_ HT_ HW_ 5 (some 22) hHeld ?_
    refine cl_ HT_ 6 (some 23) Try.func32 (rcV_calls x v c HC.out _) HY HSE (fun w9 HY hHeld => ?_)
    refine pu_ HT_ 7 (some 9) ?_
    refine done_ (done_of HT_.out (by kernel_rfl)) ?_
    clear HT_ HW_ hHeld
    obtain ⟨t0, t1, t2, t3, t4, t5, t6, t7, t8, t9, _⟩ := HS.out w9 HY.out
    by_cases h1 : c < 0
    · have hb1 : decide (c < 0) = true := decide_eq_true h1
      have HSR : Aside0 (rd l6 ((2 * i + 1 : Nat) : Int) = loS rcV l5 l6 v q (i + 1)) := ⟨by have h_ := HST.out; rw [hb1, Bool.true_or, if_pos rfl] at h_; exact h_⟩
      replace HSR := HSR.out
      have hR6 : 2 * i + 1 < l6.length := by have := HRL.out; omega
      obtain ⟨m0, hm0⟩ : ∃ m : Nat, 2 * i = m := ⟨_, rfl⟩
      obtain ⟨m1, hm1⟩ : ∃ m : Nat, 2 * i + 1 = m := ⟨_, rfl⟩
      rw [hm1] at hR6 HSR
      obtain ⟨ad6, rfl, hx0⟩ := Kd.at_int HR6.out (m1 : Int) (by omega) (by omega)
      rw [Int.toNat_natCast] at hx0
      obtain ⟨y, hy⟩ : ∃ y, rd l6 (m1 : Int) = y := ⟨_, rfl⟩
      rw [hy] at hx0 HSR
      replace hx0 := up_ (HBV.out.trans (HY.out.mono (below_size HBV.out))) hx0
      have hw2a : IntKind.i64.wrap (2 * (i : Int)) = (m0 : Int) := by rw [i64_w]; unfold wrap64; omega
      have hw2c : wrap64 (2 * (i : Int)) = (m0 : Int) := by unfold wrap64; omega
      have hw2b : IntKind.i64.wrap ((m0 : Int) + 1) = (m1 : Int) := by rw [i64_w]; unfold wrap64; omega
      have hdB : decide ((m1 : Int) < l6.length) = true := decide_eq_true (by omega)
      have hw2d : wrap64 ((m0 : Int) + 1) = (m1 : Int) := by unfold wrap64; omega
      clear hy hm0 hm1
      replace HSR := Aside0.mk HSR
      have hwi : IntKind.i64.wrap ((i : Int) + 1) = ((i + 1 : Nat) : Int) := by rw [i64_w]; unfold wrap64; omega
      go_wp2
      go_roundg k2
      case measure => omega
      case rel => exact ⟨i + 1, int_eq (by omega), by rw [HSR.out], by omega, ⟨by have := HK2.out; omega⟩, HY⟩
    have hb1 : decide (c < 0) = false := decide_eq_false h1
    by_cases h2 : c = 0
    · have hb2 : (c == 0) = true := by simp [h2]
      cases q with
      | true =>
        have HSR : Aside0 (rd l6 ((2 * i + 1 : Nat) : Int) = loS rcV l5 l6 v true (i + 1)) := ⟨by have h_ := HST.out; rw [hb1, hb2, Bool.false_or, Bool.true_and, if_pos rfl] at h_; exact h_⟩
        replace HSR := HSR.out
        have hR6 : 2 * i + 1 < l6.length := by have := HRL.out; omega
        obtain ⟨m0, hm0⟩ : ∃ m : Nat, 2 * i = m := ⟨_, rfl⟩
        obtain ⟨m1, hm1⟩ : ∃ m : Nat, 2 * i + 1 = m := ⟨_, rfl⟩
        rw [hm1] at hR6 HSR
        obtain ⟨ad6, rfl, hx0⟩ := Kd.at_int HR6.out (m1 : Int) (by omega) (by omega)
        rw [Int.toNat_natCast] at hx0
        obtain ⟨y, hy⟩ : ∃ y, rd l6 (m1 : Int) = y := ⟨_, rfl⟩
        rw [hy] at hx0 HSR
        replace hx0 := up_ (HBV.out.trans (HY.out.mono (below_size HBV.out))) hx0
        have hw2a : IntKind.i64.wrap (2 * (i : Int)) = (m0 : Int) := by rw [i64_w]; unfold wrap64; omega
        have hw2c : wrap64 (2 * (i : Int)) = (m0 : Int) := by unfold wrap64; omega
        have hw2b : IntKind.i64.wrap ((m0 : Int) + 1) = (m1 : Int) := by rw [i64_w]; unfold wrap64; omega
        have hdB : decide ((m1 : Int) < l6.length) = true := decide_eq_true (by omega)
        have hw2d : wrap64 ((m0 : Int) + 1) = (m1 : Int) := by unfold wrap64; omega
        clear hy hm0 hm1
        replace HSR := Aside0.mk HSR
        have hwi : IntKind.i64.wrap ((i : Int) + 1) = ((i + 1 : Nat) : Int) := by rw [i64_w]; unfold wrap64; omega
        go_wp2
        go_roundg k2
        case measure => omega
        case rel => exact ⟨i + 1, int_eq (by omega), by rw [HSR.out], by omega, ⟨by have := HK2.out; omega⟩, HY⟩
      | false =>
        have HSR : Aside0 (s = loS rcV l5 l6 v false (i + 1)) := ⟨by have h_ := HST.out; rw [hb1, hb2, Bool.false_or, Bool.true_and, if_neg (by decide)] at h_; exact h_⟩
        have hwi : IntKind.i64.wrap ((i : Int) + 1) = ((i + 1 : Nat) : Int) := by rw [i64_w]; unfold wrap64; omega
        go_wp2
        go_roundg k2
        case measure => omega
        case rel => exact ⟨i + 1, int_eq (by omega), by rw [HSR.out], by omega, ⟨by have := HK2.out; omega⟩, HY⟩
    have hb2 : (c == 0) = false := by simp [h2]
    have HSR : Aside0 (s = loS rcV l5 l6 v q (i + 1)) := ⟨by have h_ := HST.out; rw [hb1, hb2, Bool.false_or, Bool.false_and, if_neg (by decide)] at h_; exact h_⟩
    have hwi : IntKind.i64.wrap ((i : Int) + 1) = ((i + 1 : Nat) : Int) := by rw [i64_w]; unfold wrap64; omega
    go_wp2
    go_roundg k2
    case measure => omega
    case rel => exact ⟨i + 1, int_eq (by omega), by rw [HSR.out], by omega, ⟨by have := HK2.out; omega⟩, HY⟩
theorem laminaref16_LessMin.calls (k : Nat) (a0_0 : Int) (a0_1 : Int) (A0_2 : Option Addr) (c0_2 : Nat) (l0_2 : List Int) (a0_3 : Bool) (A0_4 : Option Addr) (c0_4 : Nat) (l0_4 : List Int) (A0_5 : Option Addr) (c0_5 : Nat) (l0_5 : List (S39)) (A0_6 : Option Addr) (c0_6 : Nat) (l0_6 : List Int) (a1_0 : Int) (a1_1 : Int) (a1_2 : ByteArray) (a2 : Bool) (r : Int) (w : World) (hr0_2 : Kd.C (Kd.int .u64) w A0_2 l0_2.length l0_2) (hc0_2 : l0_2.length ≤ c0_2) (hr0_4 : Kd.C (Kd.int .i64) w A0_4 l0_4.length l0_4) (hc0_4 : l0_4.length ≤ c0_4) (hr0_5 : Kd.C k39 w A0_5 l0_5.length l0_5) (hc0_5 : l0_5.length ≤ c0_5) (hr0_6 : Kd.C (Kd.int .i64) w A0_6 l0_6.length l0_6) (hc0_6 : l0_6.length ≤ c0_6) (h : laminaref16_LessMin.f k a0_0 a0_1 l0_2 a0_3 l0_4 l0_5 l0_6 a1_0 a1_1 a1_2 a2 = some r) :
    Calls Try.prog 78 #[.agg #[.int .i64 a0_0, .int .i64 a0_1, .slice A0_2 l0_2.length c0_2, .bool a0_3, .slice A0_4 l0_4.length c0_4, .slice A0_5 l0_5.length c0_5, .slice A0_6 l0_6.length c0_6], .agg #[.int .i64 a1_0, .int .i64 a1_1, .string a1_2], .bool a2] w fun e w' => e = .returned (.int .i64 r) ∧ Below w.heap.size w w' :=
  laminaref16_LessMin.calls0 k a0_0 a0_1 A0_2 c0_2 l0_2 a0_3 A0_4 c0_4 l0_4 A0_5 c0_5 l0_5 A0_6 c0_6 l0_6 ⟨a1_0, a1_1, a1_2⟩ a2 r w hr0_2 hc0_2 hr0_4 hc0_4 hr0_5 hc0_5 hr0_6 hc0_6 h
end Go.Proofs.Ytackcingpffidaa.P
namespace Go.Proofs.Ytackcingpffidaa.P
open Go.RowKit Go.Proofs.YtackcingpffidaaW.PrintWords Go.Proofs.YtackcingpffidaaW.PrintLast Go.Proofs.YtackcingpffidaaW.PrintMore
attribute [local go_sem] max2_int min2_int max_two min_two max_three min_three max_four min_four Go.Proofs.YtackcingpffidaaQ.str_gtr Go.Proofs.YtackcingpffidaaQ.str_leq Go.Proofs.YtackcingpffidaaQ.str_geq   -- for this text's walks alone
set_option linter.unusedVariables false
set_option linter.unusedSimpArgs false
/-! ### sketch_span: function 73 -/
def sketch_span.f (a0 : Int) (a1 : Int) : Option (Int × Int) := some (a0, a1)
set_option maxHeartbeats 8000000 in
set_option maxRecDepth 100000 in
theorem sketch_span.calls (a0 : Int) (a1 : Int) (r1 : Int) (r2 : Int) (w : World) (h : sketch_span.f a0 a1 = some (r1, r2)) :
  Calls Try.prog 73 #[.int .i64 a0, .int .i64 a1] w fun e w' => e = .returned (.agg #[.int .i64 r1, .int .i64 r2]) ∧ Below w.heap.size w w' := by
 have hu44 := Try.underlying44
 have HB := Aside0.mk (Below.refl w.heap.size w)
 have H : (some (a0, a1)) = some (r1, r2) := h
 clear h
 simp only [Option.some.injEq, Prod.mk.injEq] at H
 obtain ⟨rfl, rfl⟩ := H
 go_enter Try.func73, Try.ntmps73
 go_wp2_with (first | ((with_reducible refine gate_dst (N := 4) rfl ?_); refine box_ 4 (cs := #[.int .i64 0, .int .i64 0]) (t := 44) ?_; intro gb453 hg w3 hbox hb; have BK453 := Aside0.mk (hbox); have GW453 := Aside0.mk ((by rw [hg]; exact (below_size (hb_ HB.out)) : w.heap.size ≤ gb453)); have GE453 := Aside0.mk ((by rw [hg]; exact (below_size (hb_ HB.out)) : w.heap.size ≤ gb453)); replace HB := Aside0.mk (below_step (hb_ HB.out) hb); clear hb hbox hg; obtain ⟨hcz4_0, hcz4_1, hfz4_0, hfz4_1⟩ := bf2 BK453.out))
 refine bodyPost_ret (results_cell_row rfl _ _ gb453 44 #[.int .i64 a0, .int .i64 a1] (0, 0) _ rfl (by (with_reducible repeat (first | refine blk_drewN ?_ _ | refine blk_drew ?_ | refine blk_alloc ?_ _)); refine blk_put (cs := #[.int .i64 a0, .int .i64 0]) ?_ 1 _ rfl; (with_reducible repeat (first | refine blk_drewN ?_ _ | refine blk_drew ?_ | refine blk_alloc ?_ _)); refine blk_put (cs := #[.int .i64 0, .int .i64 0]) ?_ 0 _ rfl; (with_reducible repeat (first | refine blk_drewN ?_ _ | refine blk_drew ?_ | refine blk_alloc ?_ _)); exact BK453.out) Try.underlying44 rfl (by kernel_rfl)) rfl ?_
 exact er_ ((hb1_ HB.out GE453.out))
/-! ### sketch_CountLess: function 24 -/
def sketch_CountLess.f (k : Nat) (a0_0 : Int) (a0_1 : Int) (l0_2 : List Int) (a0_3 : Bool) (l0_4 : List Int) (l0_5 : List (S39)) (l0_6 : List Int) (a1_0 : Int) (a1_1 : Int) (a1_2 : ByteArray) : Option (Int × Int) := if a1_0 = 0 then (some (0, 0)) else ((sketch_lower.f k a0_0 a0_1 l0_2 a0_3 l0_4 l0_5 l0_6 a1_0 a1_1 a1_2 false).bind fun t457 => ((sketch_upper.f k a0_0 a0_1 l0_2 a0_3 l0_4 l0_5 l0_6 a1_0 a1_1 a1_2 true).bind fun t458 => ((sketch_span.f t457 t458).bind fun bt459 => (some (bt459.1, bt459.2)))))
theorem sketch_CountLess.mono : ∀ a0 a1 a2 a3 a4 a5 a6 a7 a8 a9 k, LeO (sketch_CountLess.f k a0 a1 a2 a3 a4 a5 a6 a7 a8 a9) (sketch_CountLess.f (k + 1) a0 a1 a2 a3 a4 a5 a6 a7 a8 a9) := by
 intro a0 a1 a2 a3 a4 a5 a6 a7 a8 a9 k
 unfold sketch_CountLess.f
 repeat' first
   | (with_reducible exact sketch_lower.mono _ _ _ _ _ _ _ _ _ _ _ _)
   | (with_reducible exact sketch_upper.mono _ _ _ _ _ _ _ _ _ _ _ _)
   | (with_reducible exact LeO.refl _)
   | (with_reducible exact LeO.none _)
   | (with_reducible refine LeO.ite ?_ ?_)
   | (with_reducible refine LeO.bind ?_ (fun _ => ?_))
   | exact sketch_lower.mono _ _ _ _ _ _ _ _ _ _ _ _
   | exact sketch_upper.mono _ _ _ _ _ _ _ _ _ _ _ _
   | exact LeO.none _
   | refine LeO.ite ?_ ?_
   | refine LeO.bind ?_ (fun _ => ?_)
def sketch_CountLess.T3 : Bool × List (List Nat × List Nat) := (true, [([], []), ([], []), ([0, 1], [0, 1]), ([], []), ([], []), ([3, 4, 2], [3, 4]), ([2, 5, 5], [2, 5]), ([6, 6, 0, 1, 2, 3, 4, 5, 6], [6])])
def sketch_CountLess.B3 : List Nat := [0, 0, 3, 0, 0, 31, 63, 127]
theorem sketch_CountLess.tab3 : rtab .any (opsOf Try.f24 3) = sketch_CountLess.T3 := by kernel_rfl
theorem sketch_CountLess.bits3 : waitsOk sketch_CountLess.T3.2 sketch_CountLess.B3 = true := by kernel_rfl
set_option maxHeartbeats 8000000 in
set_option maxRecDepth 100000 in
theorem sketch_CountLess.calls (k : Nat) (a0_0 : Int) (a0_1 : Int) (A0_2 : Option Addr) (c0_2 : Nat) (l0_2 : List Int) (a0_3 : Bool) (A0_4 : Option Addr) (c0_4 : Nat) (l0_4 : List Int) (A0_5 : Option Addr) (c0_5 : Nat) (l0_5 : List (S39)) (A0_6 : Option Addr) (c0_6 : Nat) (l0_6 : List Int) (a1_0 : Int) (a1_1 : Int) (a1_2 : ByteArray) (r1 : Int) (r2 : Int) (w : World) (hr0_2 : Kd.C (Kd.int .u64) w A0_2 l0_2.length l0_2) (hc0_2 : l0_2.length ≤ c0_2) (hr0_4 : Kd.C (Kd.int .i64) w A0_4 l0_4.length l0_4) (hc0_4 : l0_4.length ≤ c0_4) (hr0_5 : Kd.C k39 w A0_5 l0_5.length l0_5) (hc0_5 : l0_5.length ≤ c0_5) (hr0_6 : Kd.C (Kd.int .i64) w A0_6 l0_6.length l0_6) (hc0_6 : l0_6.length ≤ c0_6) (h : sketch_CountLess.f k a0_0 a0_1 l0_2 a0_3 l0_4 l0_5 l0_6 a1_0 a1_1 a1_2 = some (r1, r2)) :
  Calls Try.prog 24 #[.agg #[.int .i64 a0_0, .int .i64 a0_1, .slice A0_2 l0_2.length c0_2, .bool a0_3, .slice A0_4 l0_4.length c0_4, .slice A0_5 l0_5.length c0_5, .slice A0_6 l0_6.length c0_6], .agg #[.int .i64 a1_0, .int .i64 a1_1, .string a1_2]] w fun e w' => e = .returned (.agg #[.int .i64 r1, .int .i64 r2]) ∧ Below w.heap.size w w' := by
 have hu26 := Try.underlying26
 have hu39 := Try.underlying39
 have hu44 := Try.underlying44
 have HR0_2 := Aside0.mk hr0_2
 have HC0_2 := Aside0.mk hc0_2
 clear hr0_2 hc0_2
 have HR0_4 := Aside0.mk hr0_4
 have HC0_4 := Aside0.mk hc0_4
 clear hr0_4 hc0_4
 have HR0_5 := Aside0.mk hr0_5
 have HC0_5 := Aside0.mk hc0_5
 clear hr0_5 hc0_5
 have HR0_6 := Aside0.mk hr0_6
 have HC0_6 := Aside0.mk hc0_6
 clear hr0_6 hc0_6
 have HB := Aside0.mk (Below.refl w.heap.size w)
 have H : (if a1_0 = 0 then (some (0, 0)) else ((sketch_lower.f k a0_0 a0_1 l0_2 a0_3 l0_4 l0_5 l0_6 a1_0 a1_1 a1_2 false).bind fun t457 => ((sketch_upper.f k a0_0 a0_1 l0_2 a0_3 l0_4 l0_5 l0_6 a1_0 a1_1 a1_2 true).bind fun t458 => ((sketch_span.f t457 t458).bind fun bt459 => (some (bt459.1, bt459.2)))))) = some (r1, r2) := h
 clear h
 by_cases c3 : a1_0 = 0
 ·rw [if_pos c3] at H
  have c3b0 : (a1_0 == 0) = true := beq_iff_eq.mpr c3
  have c3b1 : (a1_0 != 0) = false := bne_eq_false_iff_eq.mpr c3
  clear c3
  simp only [Option.some.injEq, Prod.mk.injEq] at H
  obtain ⟨rfl, rfl⟩ := H
  go_enter Try.func24, Try.ntmps24
  go_wp2_with (first | ((with_reducible refine gate_dst (N := 2) rfl ?_); refine box_ 2 (cs := #[.int .i64 a0_0, .int .i64 a0_1, .slice A0_2 l0_2.length c0_2, .bool a0_3, .slice A0_4 l0_4.length c0_4, .slice A0_5 l0_5.length c0_5, .slice A0_6 l0_6.length c0_6]) (t := 26) ?_; intro gb454 hg w4 hbox hb; have BK454 := Aside0.mk (hbox); have GW454 := Aside0.mk ((by rw [hg]; exact (below_size (hb_ HB.out)) : w.heap.size ≤ gb454)); have GE454 := Aside0.mk ((by rw [hg]; exact (below_size (hb_ HB.out)) : w.heap.size ≤ gb454)); replace HB := Aside0.mk (below_step (hb_ HB.out) hb); clear hb hbox hg) | ((with_reducible refine gate_dst (N := 3) rfl ?_); refine box_ 3 (cs := #[.int .i64 a1_0, .int .i64 a1_1, .string a1_2]) (t := 39) ?_; intro gb455 hg w5 hbox hb; have BK455 := Aside0.mk (hbox); have GW455 := Aside0.mk ((by rw [hg]; exact (below_size (hb1_ HB.out GE454.out)) : w.heap.size ≤ gb455)); have GE455 := Aside0.mk ((by rw [hg]; exact (below_size (hb1_ HB.out GE454.out)) : w.heap.size ≤ gb455)); have NB454_455 := Aside0.mk ((by rw [hg]; exact Nat.ne_of_lt (blk_lt (bk_ BK454.out)) : gb454 ≠ gb455)); have NB455_454 := Aside0.mk ((by rw [hg]; exact Nat.ne_of_gt (blk_lt (bk_ BK454.out)) : gb455 ≠ gb454)); replace BK454 := Aside0.mk (blk_below (bk_ BK454.out) hb); replace HB := Aside0.mk (below_step (hb1_ HB.out GE454.out) hb); clear hb hbox hg) | ((with_reducible refine gate_dst (N := 4) rfl ?_); refine box_ 4 (cs := #[.int .i64 0, .int .i64 0]) (t := 44) ?_; intro gb456 hg w6 hbox hb; have BK456 := Aside0.mk (hbox); have GW456 := Aside0.mk ((by rw [hg]; exact (below_size (hb2_ HB.out GE454.out GE455.out)) : w.heap.size ≤ gb456)); have GE456 := Aside0.mk ((by rw [hg]; exact (below_size (hb2_ HB.out GE454.out GE455.out)) : w.heap.size ≤ gb456)); have NB454_456 := Aside0.mk ((by rw [hg]; exact Nat.ne_of_lt (blk_lt (bk_ BK454.out)) : gb454 ≠ gb456)); have NB456_454 := Aside0.mk ((by rw [hg]; exact Nat.ne_of_gt (blk_lt (bk_ BK454.out)) : gb456 ≠ gb454)); have NB455_456 := Aside0.mk ((by rw [hg]; exact Nat.ne_of_lt (blk_lt (bk_ BK455.out)) : gb455 ≠ gb456)); have NB456_455 := Aside0.mk ((by rw [hg]; exact Nat.ne_of_gt (blk_lt (bk_ BK455.out)) : gb456 ≠ gb455)); replace BK454 := Aside0.mk (blk_below (bk_ BK454.out) hb); replace BK455 := Aside0.mk (blk_below (bk_ BK455.out) hb); replace HB := Aside0.mk (below_step (hb2_ HB.out GE454.out GE455.out) hb); clear hb hbox hg; have hnb7 := NB455_454.out; have hnc7 := NB454_455.out; have hnb8 := NB455_456.out; have hnc8 := NB456_455.out; obtain ⟨hcz9_0, hcz9_1, hcz9_2, hfz9_0, hfz9_1, hfz9_2⟩ := bf3 BK455.out; have hnb10 := NB456_454.out; have hnc10 := NB454_456.out; obtain ⟨hcz11_0, hcz11_1, hfz11_0, hfz11_1⟩ := bf2 BK456.out))
  refine bodyPost_ret (results_cell_row rfl _ _ gb456 44 #[.int .i64 0, .int .i64 0] (0, 0) _ rfl (by (with_reducible repeat (first | refine blk_drewN ?_ _ | refine blk_drew ?_ | refine blk_alloc ?_ _)); refine blk_put (cs := #[.int .i64 0, .int .i64 0]) ?_ 1 _ rfl; (with_reducible repeat (first | refine blk_drewN ?_ _ | refine blk_drew ?_ | refine blk_alloc ?_ _)); refine blk_put (cs := #[.int .i64 0, .int .i64 0]) ?_ 0 _ rfl; (with_reducible repeat (first | refine blk_drewN ?_ _ | refine blk_drew ?_ | refine blk_alloc ?_ _)); exact BK456.out) Try.underlying44 rfl (by kernel_rfl)) rfl ?_
  exact er_ (by repeat (first | (with_reducible first | exact HB.out | apply below_alloc | apply pw_below_drewN | apply below_drew1 | refine below_set ?_ GE454.out | refine below_set ?_ GE455.out | refine below_set ?_ GE456.out) | exact HB.out))
 ·rw [if_neg c3] at H
  have c3b0 : (a1_0 == 0) = false := beq_eq_false_iff_ne.mpr c3
  have c3b1 : (a1_0 != 0) = true := bne_iff_ne.mpr c3
  replace H := Option.bind_eq_some_iff.mp H
  obtain ⟨t457, A120, H⟩ := H
  replace H : ((sketch_upper.f k a0_0 a0_1 l0_2 a0_3 l0_4 l0_5 l0_6 a1_0 a1_1 a1_2 true).bind fun t458 => ((sketch_span.f t457 t458).bind fun bt459 => (some (bt459.1, bt459.2)))) = some (r1, r2) := H
  have A12 := Aside0.mk A120
  clear A120
  replace H := Option.bind_eq_some_iff.mp H
  obtain ⟨t458, A130, H⟩ := H
  replace H : ((sketch_span.f t457 t458).bind fun bt459 => (some (bt459.1, bt459.2))) = some (r1, r2) := H
  have A13 := Aside0.mk A130
  clear A130
  replace H := Option.bind_eq_some_iff.mp H
  obtain ⟨⟨t459, t460⟩, A140, H⟩ := H
  replace H : (some (t459, t460)) = some (r1, r2) := H
  have A14 := Aside0.mk A140
  clear A140
  simp only [Option.some.injEq, Prod.mk.injEq] at H
  obtain ⟨rfl, rfl⟩ := H
  go_enter Try.func24, Try.ntmps24
  try go_wp2_with (first | ((with_reducible refine gate_dst (N := 2) rfl ?_); refine box_ 2 (cs := #[.int .i64 a0_0, .int .i64 a0_1, .slice A0_2 l0_2.length c0_2, .bool a0_3, .slice A0_4 l0_4.length c0_4, .slice A0_5 l0_5.length c0_5, .slice A0_6 l0_6.length c0_6]) (t := 26) ?_; intro gb454 hg w15 hbox hb; have BK454 := Aside0.mk (hbox); have GW454 := Aside0.mk ((by rw [hg]; exact (below_size (hb_ HB.out)) : w.heap.size ≤ gb454)); have GE454 := Aside0.mk ((by rw [hg]; exact (below_size (hb_ HB.out)) : w.heap.size ≤ gb454)); replace HB := Aside0.mk (below_step (hb_ HB.out) hb); clear hb hbox hg) | ((with_reducible refine gate_dst (N := 3) rfl ?_); refine box_ 3 (cs := #[.int .i64 a1_0, .int .i64 a1_1, .string a1_2]) (t := 39) ?_; intro gb455 hg w16 hbox hb; have BK455 := Aside0.mk (hbox); have GW455 := Aside0.mk ((by rw [hg]; exact (below_size (hb1_ HB.out GE454.out)) : w.heap.size ≤ gb455)); have GE455 := Aside0.mk ((by rw [hg]; exact (below_size (hb1_ HB.out GE454.out)) : w.heap.size ≤ gb455)); have NB454_455 := Aside0.mk ((by rw [hg]; exact Nat.ne_of_lt (blk_lt (bk_ BK454.out)) : gb454 ≠ gb455)); have NB455_454 := Aside0.mk ((by rw [hg]; exact Nat.ne_of_gt (blk_lt (bk_ BK454.out)) : gb455 ≠ gb454)); replace BK454 := Aside0.mk (blk_below (bk_ BK454.out) hb); replace HB := Aside0.mk (below_step (hb1_ HB.out GE454.out) hb); clear hb hbox hg) | ((with_reducible refine gate_dst (N := 4) rfl ?_); refine box_ 4 (cs := #[.int .i64 0, .int .i64 0]) (t := 44) ?_; intro gb456 hg w17 hbox hb; have BK456 := Aside0.mk (hbox); have GW456 := Aside0.mk ((by rw [hg]; exact (below_size (hb2_ HB.out GE454.out GE455.out)) : w.heap.size ≤ gb456)); have GE456 := Aside0.mk ((by rw [hg]; exact (below_size (hb2_ HB.out GE454.out GE455.out)) : w.heap.size ≤ gb456)); have NB454_456 := Aside0.mk ((by rw [hg]; exact Nat.ne_of_lt (blk_lt (bk_ BK454.out)) : gb454 ≠ gb456)); have NB456_454 := Aside0.mk ((by rw [hg]; exact Nat.ne_of_gt (blk_lt (bk_ BK454.out)) : gb456 ≠ gb454)); have NB455_456 := Aside0.mk ((by rw [hg]; exact Nat.ne_of_lt (blk_lt (bk_ BK455.out)) : gb455 ≠ gb456)); have NB456_455 := Aside0.mk ((by rw [hg]; exact Nat.ne_of_gt (blk_lt (bk_ BK455.out)) : gb456 ≠ gb455)); replace BK454 := Aside0.mk (blk_below (bk_ BK454.out) hb); replace BK455 := Aside0.mk (blk_below (bk_ BK455.out) hb); replace HB := Aside0.mk (below_step (hb2_ HB.out GE454.out GE455.out) hb); clear hb hbox hg; have hnb18 := NB455_454.out; have hnc18 := NB454_455.out; have hnb19 := NB455_456.out; have hnc19 := NB456_455.out; obtain ⟨hcz20_0, hcz20_1, hcz20_2, hfz20_0, hfz20_1, hfz20_2⟩ := bf3 BK455.out))
  replace BK454 := Aside0.mk (blk_drew BK454.out)
  replace BK455 := Aside0.mk (blk_drew BK455.out)
  replace BK456 := Aside0.mk (blk_drew BK456.out)
  replace HB := Aside0.mk (below_drew1 HB.out)
  refine start_ (n := 8) (S := fun w' => w'.cell? ⟨gb454, 0, none⟩ = some (.int .i64 a0_0) ∧ w'.cell? ⟨gb454, 1, none⟩ = some (.int .i64 a0_1) ∧ w'.cell? ⟨gb454, 2, none⟩ = some (.slice A0_2 l0_2.length c0_2) ∧ w'.cell? ⟨gb454, 3, none⟩ = some (.bool a0_3) ∧ w'.cell? ⟨gb454, 4, none⟩ = some (.slice A0_4 l0_4.length c0_4) ∧ w'.cell? ⟨gb454, 5, none⟩ = some (.slice A0_5 l0_5.length c0_5) ∧ w'.cell? ⟨gb454, 6, none⟩ = some (.slice A0_6 l0_6.length c0_6) ∧ w'.cell? ⟨gb455, 0, none⟩ = some (.int .i64 a1_0) ∧ w'.cell? ⟨gb455, 1, none⟩ = some (.int .i64 a1_1) ∧ w'.cell? ⟨gb455, 2, none⟩ = some (.string a1_2)) (ds := []) #[false, false, false, false, false, false, false, false] (by kernel_rfl) rfl rfl (ap7 (bc7 BK454.out) (bc3 BK455.out)) (fun hHeld => ?_); refine with_tabW sketch_CountLess.tab3 sketch_CountLess.bits3 (fun HT_ HW_ => ?_)
  generalize w17.drew = w21 at BK454 BK455 BK456 HB hHeld ⊢
  refine tk_ HT_ HW_ 0 (some 9) hHeld ?_
  refine tk_ HT_ HW_ 1 (some 10) hHeld ?_
  refine tk_ HT_ HW_ 3 (some 12) hHeld ?_
  refine tk_ HT_ HW_ 4 (some 13) hHeld ?_
  refine on_ HT_ 2 (some 11) (fun K hK => ?_)
  refine gos_ Try.func71 #[.agg #[.int .i64 a0_0, .int .i64 a0_1, .slice A0_2 l0_2.length c0_2, .bool a0_3, .slice A0_4 l0_4.length c0_4, .slice A0_5 l0_5.length c0_5, .slice A0_6 l0_6.length c0_6], .agg #[.int .i64 a1_0, .int .i64 a1_1, .string a1_2], .bool false] ?_
  with_reducible refine (sketch_lower.calls k a0_0 a0_1 _ _ l0_2 a0_3 _ _ l0_4 _ _ l0_5 _ _ l0_6 a1_0 a1_1 a1_2 false t457 _ ?side1 ?side2 ?side3 ?side4 ?side5 ?side6 ?side7 ?side8 A12.out).mono ?_
  (case side1 => exact cb_ HR0_2.out HB.out)
  (case side2 => exact HC0_2.out)
  (case side3 => exact cb_ HR0_4.out HB.out)
  (case side4 => exact HC0_4.out)
  (case side5 => exact cb_ HR0_5.out HB.out)
  (case side6 => exact HC0_5.out)
  (case side7 => exact cb_ HR0_6.out HB.out)
  (case side8 => exact HC0_6.out)
  rintro e w22 ⟨rfl, hb⟩
  refine ⟨_, rfl, ?_⟩
  replace BK454 := Aside0.mk (blk_below (bk_ BK454.out) hb)
  replace BK455 := Aside0.mk (blk_below (bk_ BK455.out) hb)
  replace BK456 := Aside0.mk (blk_below (bk_ BK456.out) hb)
  replace HB := Aside0.mk (below_step (by repeat (first | (with_reducible first | exact HB.out | apply below_alloc | apply pw_below_drewN | apply below_drew1 | refine below_set ?_ GE454.out | refine below_set ?_ GE455.out | refine below_set ?_ GE456.out) | exact HB.out)) hb)
  (try clear hb)
  refine hK.out _ _ (ap7 (bc7 BK454.out) (bc3 BK455.out)) (fun hHeld => ?_)
  clear hK K
  refine nm_ (some 11) ?_
  refine on_ HT_ 5 (some 14) (fun K hK => ?_)
  refine gos_ Try.func70 #[.agg #[.int .i64 a0_0, .int .i64 a0_1, .slice A0_2 l0_2.length c0_2, .bool a0_3, .slice A0_4 l0_4.length c0_4, .slice A0_5 l0_5.length c0_5, .slice A0_6 l0_6.length c0_6], .agg #[.int .i64 a1_0, .int .i64 a1_1, .string a1_2], .bool true] ?_
  with_reducible refine (sketch_upper.calls k a0_0 a0_1 _ _ l0_2 a0_3 _ _ l0_4 _ _ l0_5 _ _ l0_6 a1_0 a1_1 a1_2 true t458 _ ?side1 ?side2 ?side3 ?side4 ?side5 ?side6 ?side7 ?side8 A13.out).mono ?_
  (case side1 => exact cb_ HR0_2.out HB.out)
  (case side2 => exact HC0_2.out)
  (case side3 => exact cb_ HR0_4.out HB.out)
  (case side4 => exact HC0_4.out)
  (case side5 => exact cb_ HR0_5.out HB.out)
  (case side6 => exact HC0_5.out)
  (case side7 => exact cb_ HR0_6.out HB.out)
  (case side8 => exact HC0_6.out)
  rintro e w23 ⟨rfl, hb⟩
  refine ⟨_, rfl, ?_⟩
  replace BK454 := Aside0.mk (blk_below (bk_ BK454.out) hb)
  replace BK455 := Aside0.mk (blk_below (bk_ BK455.out) hb)
  replace BK456 := Aside0.mk (blk_below (bk_ BK456.out) hb)
  replace HB := Aside0.mk (below_step (by repeat (first | (with_reducible first | exact HB.out | apply below_alloc | apply pw_below_drewN | apply below_drew1 | refine below_set ?_ GE454.out | refine below_set ?_ GE455.out | refine below_set ?_ GE456.out) | exact HB.out)) hb)
  (try clear hb)
  refine hK.out _ _ (ap7 (bc7 BK454.out) (bc3 BK455.out)) (fun hHeld => ?_)
  clear hK K
  refine nm_ (some 14) ?_
  refine on_ HT_ 6 (some 15) (fun K hK => ?_)
  refine gos_ Try.func73 #[.int .i64 t457, .int .i64 t458] ?_
  with_reducible refine (sketch_span.calls t457 t458 t459 t460 _ A14.out).mono ?_
  rintro e w24 ⟨rfl, hb⟩
  refine ⟨_, rfl, ?_⟩
  replace BK454 := Aside0.mk (blk_below (bk_ BK454.out) hb)
  replace BK455 := Aside0.mk (blk_below (bk_ BK455.out) hb)
  replace BK456 := Aside0.mk (blk_below (bk_ BK456.out) hb)
  replace HB := Aside0.mk (below_step (by repeat (first | (with_reducible first | exact HB.out | apply below_alloc | apply pw_below_drewN | apply below_drew1 | refine below_set ?_ GE454.out | refine below_set ?_ GE455.out | refine below_set ?_ GE456.out) | exact HB.out)) hb)
  (try clear hb)
  refine hK.out _ _ (ap7 (bc7 BK454.out) (bc3 BK455.out)) (fun hHeld => ?_)
  clear hK K
  refine nm_ (some 15) ?_
  refine on_ HT_ 7 (none) (fun K hK => ?_)
  have hs25 : w24.cell? ⟨gb456, 0, none⟩ = some (.int .i64 0) := (blk_cell BK456.out 0).trans rfl
  have hfs25 := blk_frozen BK456.out 0
  have hns25_0 := NB454_456.out
  have hns25_1 := NB455_456.out
  have hms25_0 := NB456_454.out
  have hms25_1 := NB456_455.out
  have hs26 : w24.cell? ⟨gb456, 1, none⟩ = some (.int .i64 0) := (blk_cell BK456.out 1).trans rfl
  have hfs26 := blk_frozen BK456.out 1
  have hns26_0 := NB454_456.out
  have hns26_1 := NB455_456.out
  have hms26_0 := NB456_454.out
  have hms26_1 := NB456_455.out
  refine skip_ (w1 := ?_) (by rfl) rfl ?_ ?_
  rotate_left
  ·go_simp
   rfl
  refine hK.out _ _ ⟨((cell_far (p := ⟨gb456, _, none⟩) NB454_456.out _).trans (((cell_far (p := ⟨gb456, _, none⟩) NB454_456.out _).trans (hHeld.1)))), ((cell_far (p := ⟨gb456, _, none⟩) NB454_456.out _).trans (((cell_far (p := ⟨gb456, _, none⟩) NB454_456.out _).trans (hHeld.2.1)))), ((cell_far (p := ⟨gb456, _, none⟩) NB454_456.out _).trans (((cell_far (p := ⟨gb456, _, none⟩) NB454_456.out _).trans (hHeld.2.2.1)))), ((cell_far (p := ⟨gb456, _, none⟩) NB454_456.out _).trans (((cell_far (p := ⟨gb456, _, none⟩) NB454_456.out _).trans (hHeld.2.2.2.1)))), ((cell_far (p := ⟨gb456, _, none⟩) NB454_456.out _).trans (((cell_far (p := ⟨gb456, _, none⟩) NB454_456.out _).trans (hHeld.2.2.2.2.1)))), ((cell_far (p := ⟨gb456, _, none⟩) NB454_456.out _).trans (((cell_far (p := ⟨gb456, _, none⟩) NB454_456.out _).trans (hHeld.2.2.2.2.2.1)))), ((cell_far (p := ⟨gb456, _, none⟩) NB454_456.out _).trans (((cell_far (p := ⟨gb456, _, none⟩) NB454_456.out _).trans (hHeld.2.2.2.2.2.2.1)))), ((cell_far (p := ⟨gb456, _, none⟩) NB455_456.out _).trans (((cell_far (p := ⟨gb456, _, none⟩) NB455_456.out _).trans (hHeld.2.2.2.2.2.2.2.1)))), ((cell_far (p := ⟨gb456, _, none⟩) NB455_456.out _).trans (((cell_far (p := ⟨gb456, _, none⟩) NB455_456.out _).trans (hHeld.2.2.2.2.2.2.2.2.1)))), ((cell_far (p := ⟨gb456, _, none⟩) NB455_456.out _).trans (((cell_far (p := ⟨gb456, _, none⟩) NB455_456.out _).trans (hHeld.2.2.2.2.2.2.2.2.2))))⟩ (fun hHeld => ?_)
  clear hK K
  refine done_ (done_of HT_.out (by kernel_rfl)) ?_
  try go_wp2
  refine bodyPost_ret (results_cell_row rfl _ _ gb456 44 #[.int .i64 t459, .int .i64 t460] (0, 0) _ rfl (by (with_reducible repeat (first | refine blk_drewN ?_ _ | refine blk_drew ?_ | refine blk_alloc ?_ _)); refine blk_put (cs := #[.int .i64 t459, .int .i64 0]) ?_ 1 _ rfl; (with_reducible repeat (first | refine blk_drewN ?_ _ | refine blk_drew ?_ | refine blk_alloc ?_ _)); refine blk_put (cs := #[.int .i64 0, .int .i64 0]) ?_ 0 _ rfl; (with_reducible repeat (first | refine blk_drewN ?_ _ | refine blk_drew ?_ | refine blk_alloc ?_ _)); exact BK456.out) Try.underlying44 rfl (by kernel_rfl)) rfl ?_
  exact er_ (by repeat (first | (with_reducible first | exact HB.out | apply below_alloc | apply pw_below_drewN | apply below_drew1 | refine below_set ?_ GE454.out | refine below_set ?_ GE455.out | refine below_set ?_ GE456.out) | exact HB.out))
/-! ### cmp_isNaN_uint64: function 125 -/
def cmp_isNaN_uint64.f (a0 : Int) : Option (Bool) := some (a0 != a0)
set_option maxHeartbeats 8000000 in
set_option maxRecDepth 100000 in
theorem cmp_isNaN_uint64.calls (a0 : Int) (r : Bool) (w : World) (h : cmp_isNaN_uint64.f a0 = some r) :
  Calls Try.prog 125 #[.int .u64 a0] w fun e w' => e = .returned (.bool r) ∧ Drawn0 w w' := by
 have H : (some (a0 != a0)) = some r := h
 clear h
 obtain rfl := Option.some.inj H
 go_enter Try.func125, Try.ntmps125
 go_wp2
 go_ret
 exact ⟨by first | rfl | (simp; done) | (simp [*]; done), by repeat (first | exact Drawn0.refl _ | apply Drawn0.step)⟩
/-! ### cmp_Less_uint64: function 108 -/
def cmp_Less_uint64.f (a0 : Int) (a1 : Int) : Option (Bool) := (cmp_isNaN_uint64.f a0).bind fun t461 => (if t461 = true then ((cmp_isNaN_uint64.f a1).bind fun t462 => (if t462 = true then (some (decide (a0 < a1))) else (some true))) else (some (decide (a0 < a1))))
set_option maxHeartbeats 8000000 in
set_option maxRecDepth 100000 in
theorem cmp_Less_uint64.calls (a0 : Int) (a1 : Int) (r : Bool) (w : World) (h : cmp_Less_uint64.f a0 a1 = some r) :
  Calls Try.prog 108 #[.int .u64 a0, .int .u64 a1] w fun e w' => e = .returned (.bool r) ∧ Drawn0 w w' := by
 have H : ((cmp_isNaN_uint64.f a0).bind fun t461 => (if t461 = true then ((cmp_isNaN_uint64.f a1).bind fun t462 => (if t462 = true then (some (decide (a0 < a1))) else (some true))) else (some (decide (a0 < a1))))) = some r := h
 clear h
 replace H := Option.bind_eq_some_iff.mp H
 obtain ⟨t461, A30, H⟩ := H
 replace H : (if t461 = true then ((cmp_isNaN_uint64.f a1).bind fun t462 => (if t462 = true then (some (decide (a0 < a1))) else (some true))) else (some (decide (a0 < a1)))) = some r := H
 have A3 := Aside0.mk A30
 clear A30
 by_cases c4 : t461 = true
 ·subst c4
  have H1 : ((cmp_isNaN_uint64.f a1).bind fun t462 => (if t462 = true then (some (decide (a0 < a1))) else (some true))) = some r := by rw [if_pos rfl] at H; exact H
  clear H
  have H := H1
  clear H1
  replace H := Option.bind_eq_some_iff.mp H
  obtain ⟨t462, A50, H⟩ := H
  replace H : (if t462 = true then (some (decide (a0 < a1))) else (some true)) = some r := H
  have A5 := Aside0.mk A50
  clear A50
  by_cases c6 : t462 = true
  ·subst c6
   have H1 : (some (decide (a0 < a1))) = some r := by rw [if_pos rfl] at H; exact H
   clear H
   have H := H1
   clear H1
   obtain rfl := Option.some.inj H
   go_enter Try.func108, Try.ntmps108
   go_wp2_with (first | ((with_reducible refine gate_callee (f := 125) rfl ?_); refine goesL_ (some 6) rfl rfl Try.func125 (by kernel_rfl) rfl #[.int .u64 a0] rfl (by (try simp only [List.map_toArray, List.map_cons, List.map_nil]); first | done | rfl | (simp only [List.length_drop, List.length_take]; rfl) | (simp only [Int.ofNat_lt, Int.ofNat_le, gt_iff_lt, ge_iff_le]; rfl)) ?_; (with_reducible refine (cmp_isNaN_uint64.calls a0 true _ A3.out).mono ?_); rintro e w' ⟨rfl, ⟨nd, rfl⟩⟩; refine ⟨_, rfl, ?_⟩) | (go_at_call 125; (with_reducible refine (cmp_isNaN_uint64.calls a1 true _ A5.out).mono ?_); rintro e w' ⟨rfl, ⟨nd, rfl⟩⟩))
   go_ret
   exact ⟨by first | rfl | (simp; done) | (simp [*]; done), by repeat (first | exact Drawn0.refl _ | apply Drawn0.step)⟩
  ·replace c6 := Bool.eq_false_iff.mpr c6
   subst c6
   have H1 : (some true) = some r := by rw [if_neg (show ¬ (false = true) by decide)] at H; exact H
   clear H
   have H := H1
   clear H1
   obtain rfl := Option.some.inj H
   go_enter Try.func108, Try.ntmps108
   go_wp2_with (first | ((with_reducible refine gate_callee (f := 125) rfl ?_); refine goesL_ (some 6) rfl rfl Try.func125 (by kernel_rfl) rfl #[.int .u64 a0] rfl (by (try simp only [List.map_toArray, List.map_cons, List.map_nil]); first | done | rfl | (simp only [List.length_drop, List.length_take]; rfl) | (simp only [Int.ofNat_lt, Int.ofNat_le, gt_iff_lt, ge_iff_le]; rfl)) ?_; (with_reducible refine (cmp_isNaN_uint64.calls a0 true _ A3.out).mono ?_); rintro e w' ⟨rfl, ⟨nd, rfl⟩⟩; refine ⟨_, rfl, ?_⟩) | (go_at_call 125; (with_reducible refine (cmp_isNaN_uint64.calls a1 false _ A5.out).mono ?_); rintro e w' ⟨rfl, ⟨nd, rfl⟩⟩))
   go_ret
   exact ⟨by first | rfl | (simp; done) | (simp [*]; done), by repeat (first | exact Drawn0.refl _ | apply Drawn0.step)⟩
 ·replace c4 := Bool.eq_false_iff.mpr c4
  subst c4
  have H1 : (some (decide (a0 < a1))) = some r := by rw [if_neg (show ¬ (false = true) by decide)] at H; exact H
  clear H
  have H := H1
  clear H1
  obtain rfl := Option.some.inj H
  go_enter Try.func108, Try.ntmps108
  go_wp2_with (first | ((with_reducible refine gate_callee (f := 125) rfl ?_); refine goesL_ (some 6) rfl rfl Try.func125 (by kernel_rfl) rfl #[.int .u64 a0] rfl (by (try simp only [List.map_toArray, List.map_cons, List.map_nil]); first | done | rfl | (simp only [List.length_drop, List.length_take]; rfl) | (simp only [Int.ofNat_lt, Int.ofNat_le, gt_iff_lt, ge_iff_le]; rfl)) ?_; (with_reducible refine (cmp_isNaN_uint64.calls a0 false _ A3.out).mono ?_); rintro e w' ⟨rfl, ⟨nd, rfl⟩⟩; refine ⟨_, rfl, ?_⟩))
  go_ret
  exact ⟨by first | rfl | (simp; done) | (simp [*]; done), by repeat (first | exact Drawn0.refl _ | apply Drawn0.step)⟩
/-! ### slices_isNaN_uint64: function 109 -/
def slices_isNaN_uint64.f (a0 : Int) : Option (Bool) := some (a0 != a0)
set_option maxHeartbeats 8000000 in
set_option maxRecDepth 100000 in
theorem slices_isNaN_uint64.calls (a0 : Int) (r : Bool) (w : World) (h : slices_isNaN_uint64.f a0 = some r) :
  Calls Try.prog 109 #[.int .u64 a0] w fun e w' => e = .returned (.bool r) ∧ Drawn0 w w' := by
 have H : (some (a0 != a0)) = some r := h
 clear h
 obtain rfl := Option.some.inj H
 go_enter Try.func109, Try.ntmps109
 go_wp2
 go_ret
 exact ⟨by first | rfl | (simp; done) | (simp [*]; done), by repeat (first | exact Drawn0.refl _ | apply Drawn0.step)⟩
/-! ### slices_BinarySearch_uint64_uint64: function 69 -/
def slices_BinarySearch_uint64_uint64.l0 : Nat → List Int → Int → Int → Int → Int → Option (Int × Bool)
 | 0, _, _, _, _, _ => none
 | k + 1, x0, x1, x6, x7, x8 => if x7 < x8 then (if 0 ≤ (wrap64 ((IntKind.u64.wrap (wrap64 (x7 + x8))) / 2)) then (if (wrap64 ((IntKind.u64.wrap (wrap64 (x7 + x8))) / 2)) < (x0.length : Int) then ((cmp_Less_uint64.f (rd x0 (wrap64 ((IntKind.u64.wrap (wrap64 (x7 + x8))) / 2))) x1).bind fun t464 => (if t464 = true then (slices_BinarySearch_uint64_uint64.l0 k x0 x1 x6 (wrap64 ((wrap64 ((IntKind.u64.wrap (wrap64 (x7 + x8))) / 2)) + 1)) x8) else (slices_BinarySearch_uint64_uint64.l0 k x0 x1 x6 x7 (wrap64 ((IntKind.u64.wrap (wrap64 (x7 + x8))) / 2))))) else (none)) else (none)) else (if x7 < x6 then (if 0 ≤ x7 then (if x7 < (x0.length : Int) then (if (rd x0 x7) = x1 then (some (x7, true)) else ((slices_isNaN_uint64.f (rd x0 x7)).bind fun t467 => (if t467 = true then ((slices_isNaN_uint64.f x1).bind fun t468 => (some (x7, t468))) else (some (x7, false))))) else (none)) else (none)) else (some (x7, false)))
def slices_BinarySearch_uint64_uint64.f (k : Nat) (l0 : List Int) (a1 : Int) : Option (Int × Bool) := slices_BinarySearch_uint64_uint64.l0 k l0 a1 (l0.length : Int) 0 (l0.length : Int)
theorem slices_BinarySearch_uint64_uint64.mono_l : ∀ k, (∀ y0 y1 y2 y3 y4, LeO (slices_BinarySearch_uint64_uint64.l0 k y0 y1 y2 y3 y4) (slices_BinarySearch_uint64_uint64.l0 (k + 1) y0 y1 y2 y3 y4))
 | 0 => fun _ _ _ _ _ r h => by simp [slices_BinarySearch_uint64_uint64.l0] at h
 | k + 1 => by
  have ih0 := slices_BinarySearch_uint64_uint64.mono_l k
  ·intro y0 y1 y2 y3 y4
   unfold slices_BinarySearch_uint64_uint64.l0
   repeat' first
   | (with_reducible exact ih0 _ _ _ _ _)
   | (with_reducible exact LeO.refl _)
   | (with_reducible exact LeO.none _)
   | (with_reducible refine LeO.ite ?_ ?_)
   | (with_reducible refine LeO.bind ?_ (fun _ => ?_))
   | exact ih0 _ _ _ _ _
   | exact LeO.none _
   | refine LeO.ite ?_ ?_
   | refine LeO.bind ?_ (fun _ => ?_)
theorem slices_BinarySearch_uint64_uint64.mono : ∀ a0 a1 k, LeO (slices_BinarySearch_uint64_uint64.f k a0 a1) (slices_BinarySearch_uint64_uint64.f (k + 1) a0 a1) := by
 intro a0 a1 k
 have ih0 := slices_BinarySearch_uint64_uint64.mono_l k
 unfold slices_BinarySearch_uint64_uint64.f
 repeat' first
   | (with_reducible exact ih0 _ _ _ _ _)
   | (with_reducible exact LeO.refl _)
   | (with_reducible exact LeO.none _)
   | (with_reducible refine LeO.ite ?_ ?_)
   | (with_reducible refine LeO.bind ?_ (fun _ => ?_))
   | exact ih0 _ _ _ _ _
   | exact LeO.none _
   | refine LeO.ite ?_ ?_
   | refine LeO.bind ?_ (fun _ => ?_)
set_option maxHeartbeats 8000000 in
set_option maxRecDepth 100000 in
theorem slices_BinarySearch_uint64_uint64.calls (k : Nat) (A0 : Option Addr) (c0 : Nat) (l0 : List Int) (a1 : Int) (r1 : Int) (r2 : Bool) (w : World) (hr0 : Kd.C (Kd.int .u64) w A0 l0.length l0) (hc0 : l0.length ≤ c0) (h : slices_BinarySearch_uint64_uint64.f k l0 a1 = some (r1, r2)) :
  Calls Try.prog 69 #[.slice A0 l0.length c0, .int .u64 a1] w fun e w' => e = .returned (.tuple #[.int .i64 r1, .bool r2]) ∧ Drawn0 w w' := by
 have HR0 := Aside0.mk hr0
 have HC0 := Aside0.mk hc0
 clear hr0 hc0
 have H : (slices_BinarySearch_uint64_uint64.l0 k l0 a1 (l0.length : Int) 0 (l0.length : Int)) = some (r1, r2) := h
 clear h
 have H' := Aside0.mk H
 clear H
 go_enter Try.func69, Try.ntmps69
 go_wp2
 go_loopg [7, 8] k (fun kq v7 v8 w' => ∃ (x7_1 : Int) (x8_1 : Int), v7 = .int .i64 x7_1 ∧ v8 = .int .i64 x8_1 ∧ Aside0 (slices_BinarySearch_uint64_uint64.l0 kq l0 a1 (l0.length : Int) x7_1 x8_1 = some (r1, r2)) ∧ Aside0 (kq ≤ k) ∧ Drawn0 w w')
 case atStart => exact ⟨(0), ((l0.length : Int)), (by first | rfl | (simp; done) | (simp [*]; done)), (by first | rfl | (simp; done) | (simp [*]; done)), H', ⟨Nat.le_refl _⟩, by repeat (first | exact Drawn0.refl _ | apply Drawn0.step)⟩
 case round =>
  clear H'
  try clear p2
  obtain ⟨x7_1, x8_1, rfl, rfl, HA, HK1, ⟨m1, rfl⟩⟩ := hrel
  cases gk with
  | zero => exact absurd HA.out (by simp [slices_BinarySearch_uint64_uint64.l0])
  | succ k1 =>
   have H := HA.out
   clear HA
   simp only [slices_BinarySearch_uint64_uint64.l0] at H
   by_cases c3 : x7_1 < x8_1
   ·rw [if_pos c3] at H
    have c3b0 : decide (x7_1 < x8_1) = true := decide_eq_true c3
    clear c3
    obtain ⟨ji4, hji4⟩ : ∃ j_ : Int, (wrap64 ((IntKind.u64.wrap (wrap64 (x7_1 + x8_1))) / 2)) = j_ := ⟨_, rfl⟩
    replace H : (if 0 ≤ (ji4) then (if (ji4) < (l0.length : Int) then ((cmp_Less_uint64.f (rd l0 (ji4)) a1).bind fun t464 => (if t464 = true then (slices_BinarySearch_uint64_uint64.l0 k1 l0 a1 (l0.length : Int) (wrap64 ((ji4) + 1)) x8_1) else (slices_BinarySearch_uint64_uint64.l0 k1 l0 a1 (l0.length : Int) x7_1 ji4))) else (none)) else (none)) = some (r1, r2) := by first | (rw [hji4] at H; exact H) | (simp only [hji4] at H ⊢; exact H)
    have hji4w : (IntKind.i64.wrap ((IntKind.u64.wrap (wrap64 (x7_1 + x8_1))) / 2)) = ji4 := (i64_w _).trans hji4
    by_cases c5 : 0 ≤ (ji4)
    ·rw [if_pos c5] at H
     have c5b0 : decide (0 ≤ (ji4)) = true := decide_eq_true c5
     clear c5
     by_cases c6 : (ji4) < (l0.length : Int)
     ·rw [if_pos c6] at H
      have c6b0 : decide ((ji4) < (l0.length : Int)) = true := decide_eq_true c6
      clear c6
      replace H := Option.bind_eq_some_iff.mp H
      obtain ⟨t464, A70, H⟩ := H
      replace H : (if t464 = true then (slices_BinarySearch_uint64_uint64.l0 k1 l0 a1 (l0.length : Int) (wrap64 ((ji4) + 1)) x8_1) else (slices_BinarySearch_uint64_uint64.l0 k1 l0 a1 (l0.length : Int) x7_1 ji4)) = some (r1, r2) := H
      have A7 := Aside0.mk A70
      clear A70
      by_cases c8 : t464 = true
      ·subst c8
       have H1 : (slices_BinarySearch_uint64_uint64.l0 k1 l0 a1 (l0.length : Int) (wrap64 ((ji4) + 1)) x8_1) = some (r1, r2) := by rw [if_pos rfl] at H; exact H
       clear H
       have H := H1
       clear H1
       have H' := Aside0.mk H
       clear H
       have p463 : 0 ≤ ((ji4) : Int) := of_decide_eq_true (by first | (with_reducible assumption) | assumption)
       have q463 : (ji4) < (l0.length : Int) := of_decide_eq_true (by first | (with_reducible assumption) | assumption)
       obtain ⟨ad463, e463, hx463_0⟩ := Kd.at_int HR0.out (ji4) p463 q463
       cases e463
       replace p463 := eq_true p463
       replace q463 := eq_true q463
       go_wp2_with (first | ((with_reducible refine gate_callee (f := 108) rfl ?_); refine goesL_ (some 27) rfl rfl Try.func108 (by kernel_rfl) rfl #[.int .u64 (rd l0 (ji4)), .int .u64 a1] rfl (by (try simp only [List.map_toArray, List.map_cons, List.map_nil]); first | done | (simp only [hji4]; rfl) | rfl | (simp only [List.length_drop, List.length_take]; rfl)) ?_; (with_reducible refine (cmp_Less_uint64.calls (rd l0 (ji4)) a1 true _ A7.out).mono ?_); rintro e w' ⟨rfl, ⟨nd, rfl⟩⟩; refine ⟨_, rfl, ?_⟩))
       go_roundg k1
       case measure => have := HK1.out; omega
       case rel => exact ⟨(wrap64 ((ji4) + 1)), (x8_1), (by first | rfl | (simp; done) | (simp only [← hji4] <;> (first | rfl | simp)) | (simp [*]; done)), (by first | rfl | (simp; done) | (simp [*]; done)), H', ⟨by have := HK1.out; omega⟩, by repeat (first | exact Drawn0.refl _ | apply Drawn0.step)⟩
      ·replace c8 := Bool.eq_false_iff.mpr c8
       subst c8
       have H1 : (slices_BinarySearch_uint64_uint64.l0 k1 l0 a1 (l0.length : Int) x7_1 ji4) = some (r1, r2) := by rw [if_neg (show ¬ (false = true) by decide)] at H; exact H
       clear H
       have H := H1
       clear H1
       have H' := Aside0.mk H
       clear H
       have p463 : 0 ≤ ((ji4) : Int) := of_decide_eq_true (by first | (with_reducible assumption) | assumption)
       have q463 : (ji4) < (l0.length : Int) := of_decide_eq_true (by first | (with_reducible assumption) | assumption)
       obtain ⟨ad463, e463, hx463_0⟩ := Kd.at_int HR0.out (ji4) p463 q463
       cases e463
       replace p463 := eq_true p463
       replace q463 := eq_true q463
       go_wp2_with (first | ((with_reducible refine gate_callee (f := 108) rfl ?_); refine goesL_ (some 27) rfl rfl Try.func108 (by kernel_rfl) rfl #[.int .u64 (rd l0 (ji4)), .int .u64 a1] rfl (by (try simp only [List.map_toArray, List.map_cons, List.map_nil]); first | done | (simp only [hji4]; rfl) | rfl | (simp only [List.length_drop, List.length_take]; rfl)) ?_; (with_reducible refine (cmp_Less_uint64.calls (rd l0 (ji4)) a1 false _ A7.out).mono ?_); rintro e w' ⟨rfl, ⟨nd, rfl⟩⟩; refine ⟨_, rfl, ?_⟩))
       go_roundg k1
       case measure => have := HK1.out; omega
       case rel => exact ⟨(x7_1), (ji4), (by first | rfl | (simp; done) | (simp [*]; done)), (by first | rfl | (simp; done) | (simp only [← hji4] <;> (first | rfl | simp)) | (simp [*]; done)), H', ⟨by have := HK1.out; omega⟩, by repeat (first | exact Drawn0.refl _ | apply Drawn0.step)⟩
     ·rw [if_neg c6] at H
      exact absurd H (by simp)
    ·rw [if_neg c5] at H
     exact absurd H (by simp)
   ·rw [if_neg c3] at H
    have c3b0 : decide (x7_1 < x8_1) = false := decide_eq_false c3
    clear c3
    by_cases c9 : x7_1 < (l0.length : Int)
    ·rw [if_pos c9] at H
     have c9b0 : decide (x7_1 < (l0.length : Int)) = true := decide_eq_true c9
     clear c9
     by_cases c10 : 0 ≤ x7_1
     ·rw [if_pos c10] at H
      have c10b0 : decide (0 ≤ x7_1) = true := decide_eq_true c10
      clear c10
      by_cases c11 : x7_1 < (l0.length : Int)
      ·rw [if_pos c11] at H
       have c11b0 : decide (x7_1 < (l0.length : Int)) = true := decide_eq_true c11
       clear c11
       by_cases c12 : (rd l0 x7_1) = a1
       ·rw [if_pos c12] at H
        have c12b0 : ((rd l0 x7_1) == a1) = true := beq_iff_eq.mpr c12
        have c12b1 : ((rd l0 x7_1) != a1) = false := bne_eq_false_iff_eq.mpr c12
        clear c12
        simp only [Option.some.injEq, Prod.mk.injEq] at H
        obtain ⟨rfl, rfl⟩ := H
        have p465 : 0 ≤ (x7_1 : Int) := of_decide_eq_true (by first | (with_reducible assumption) | assumption)
        have q465 : x7_1 < (l0.length : Int) := of_decide_eq_true (by first | (with_reducible assumption) | assumption)
        obtain ⟨ad465, e465, hx465_0⟩ := Kd.at_int HR0.out x7_1 p465 q465
        cases e465
        replace p465 := eq_true p465
        replace q465 := eq_true q465
        go_wp2
        go_ret2
        exact ⟨by first | rfl | (simp; done) | (simp [*]; done), by repeat (first | exact Drawn0.refl _ | apply Drawn0.step)⟩
       ·rw [if_neg c12] at H
        have c12b0 : ((rd l0 x7_1) == a1) = false := beq_eq_false_iff_ne.mpr c12
        have c12b1 : ((rd l0 x7_1) != a1) = true := bne_iff_ne.mpr c12
        replace H := Option.bind_eq_some_iff.mp H
        obtain ⟨t467, A130, H⟩ := H
        replace H : (if t467 = true then ((slices_isNaN_uint64.f a1).bind fun t468 => (some (x7_1, t468))) else (some (x7_1, false))) = some (r1, r2) := H
        have A13 := Aside0.mk A130
        clear A130
        by_cases c14 : t467 = true
        ·subst c14
         have H1 : ((slices_isNaN_uint64.f a1).bind fun t468 => (some (x7_1, t468))) = some (r1, r2) := by rw [if_pos rfl] at H; exact H
         clear H
         have H := H1
         clear H1
         replace H := Option.bind_eq_some_iff.mp H
         obtain ⟨t468, A150, H⟩ := H
         replace H : (some (x7_1, t468)) = some (r1, r2) := H
         have A15 := Aside0.mk A150
         clear A150
         simp only [Option.some.injEq, Prod.mk.injEq] at H
         obtain ⟨rfl, rfl⟩ := H
         have p465 : 0 ≤ (x7_1 : Int) := of_decide_eq_true (by first | (with_reducible assumption) | assumption)
         have q465 : x7_1 < (l0.length : Int) := of_decide_eq_true (by first | (with_reducible assumption) | assumption)
         obtain ⟨ad465, e465, hx465_0⟩ := Kd.at_int HR0.out x7_1 p465 q465
         cases e465
         replace p465 := eq_true p465
         replace q465 := eq_true q465
         have p466 : 0 ≤ (x7_1 : Int) := of_decide_eq_true (by first | (with_reducible assumption) | assumption)
         have q466 : x7_1 < (l0.length : Int) := of_decide_eq_true (by first | (with_reducible assumption) | assumption)
         obtain ⟨ad466, e466, hx466_0⟩ := Kd.at_int HR0.out x7_1 p466 q466
         obtain rfl : ad465 = ad466 := (by injection e466)
         replace p466 := eq_true p466
         replace q466 := eq_true q466
         go_wp2_with (first | (go_at_call 109; (with_reducible refine (slices_isNaN_uint64.calls (rd l0 x7_1) true _ A13.out).mono ?_); rintro e w' ⟨rfl, ⟨nd, rfl⟩⟩) | (go_at_call 109; (with_reducible refine (slices_isNaN_uint64.calls a1 t468 _ A15.out).mono ?_); rintro e w' ⟨rfl, ⟨nd, rfl⟩⟩))
         go_ret2
         exact ⟨by first | rfl | (simp; done) | (simp [*]; done), by repeat (first | exact Drawn0.refl _ | apply Drawn0.step)⟩
        ·replace c14 := Bool.eq_false_iff.mpr c14
         subst c14
         have H1 : (some (x7_1, false)) = some (r1, r2) := by rw [if_neg (show ¬ (false = true) by decide)] at H; exact H
         clear H
         have H := H1
         clear H1
         simp only [Option.some.injEq, Prod.mk.injEq] at H
         obtain ⟨rfl, rfl⟩ := H
         have p465 : 0 ≤ (x7_1 : Int) := of_decide_eq_true (by first | (with_reducible assumption) | assumption)
         have q465 : x7_1 < (l0.length : Int) := of_decide_eq_true (by first | (with_reducible assumption) | assumption)
         obtain ⟨ad465, e465, hx465_0⟩ := Kd.at_int HR0.out x7_1 p465 q465
         cases e465
         replace p465 := eq_true p465
         replace q465 := eq_true q465
         have p466 : 0 ≤ (x7_1 : Int) := of_decide_eq_true (by first | (with_reducible assumption) | assumption)
         have q466 : x7_1 < (l0.length : Int) := of_decide_eq_true (by first | (with_reducible assumption) | assumption)
         obtain ⟨ad466, e466, hx466_0⟩ := Kd.at_int HR0.out x7_1 p466 q466
         obtain rfl : ad465 = ad466 := (by injection e466)
         replace p466 := eq_true p466
         replace q466 := eq_true q466
         go_wp2_with (first | (go_at_call 109; (with_reducible refine (slices_isNaN_uint64.calls (rd l0 x7_1) false _ A13.out).mono ?_); rintro e w' ⟨rfl, ⟨nd, rfl⟩⟩))
         go_ret2
         exact ⟨by first | rfl | (simp; done) | (simp [*]; done), by repeat (first | exact Drawn0.refl _ | apply Drawn0.step)⟩
      ·rw [if_neg c11] at H
       exact absurd H (by simp)
     ·rw [if_neg c10] at H
      exact absurd H (by simp)
    ·rw [if_neg c9] at H
     have c9b0 : decide (x7_1 < (l0.length : Int)) = false := decide_eq_false c9
     clear c9
     simp only [Option.some.injEq, Prod.mk.injEq] at H
     obtain ⟨rfl, rfl⟩ := H
     go_wp2
     go_ret2
     exact ⟨by first | rfl | (simp; done) | (simp [*]; done), by repeat (first | exact Drawn0.refl _ | apply Drawn0.step)⟩
/-! ### laminalaw16_integer: function 40 -/
def laminalaw16_integer.f (a0 : Int) : Option (Int × Int × ByteArray) := some (2, a0, (⟨#[]⟩ : ByteArray))
set_option maxHeartbeats 8000000 in
set_option maxRecDepth 100000 in
theorem laminalaw16_integer.calls (a0 : Int) (r1 : Int) (r2 : Int) (r3 : ByteArray) (w : World) (h : laminalaw16_integer.f a0 = some (r1, r2, r3)) :
  Calls Try.prog 40 #[.int .i64 a0] w fun e w' => e = .returned (.agg #[.int .i64 r1, .int .i64 r2, .string r3]) ∧ Below w.heap.size w w' := by
 have hu39 := Try.underlying39
 have HB := Aside0.mk (Below.refl w.heap.size w)
 have H : (some (2, a0, (⟨#[]⟩ : ByteArray))) = some (r1, r2, r3) := h
 clear h
 simp only [Option.some.injEq, Prod.mk.injEq] at H
 obtain ⟨rfl, rfl, rfl⟩ := H
 go_enter Try.func40, Try.ntmps40
 go_wp2_with (first | ((with_reducible refine gate_dst (N := 2) rfl ?_); refine box_ 2 (cs := #[.int .i64 0, .int .i64 0, .string (⟨#[]⟩ : ByteArray)]) (t := 39) ?_; intro gb476 hg w2 hbox hb; have BK476 := Aside0.mk (hbox); have GW476 := Aside0.mk ((by rw [hg]; exact (below_size (hb_ HB.out)) : w.heap.size ≤ gb476)); have GE476 := Aside0.mk ((by rw [hg]; exact (below_size (hb_ HB.out)) : w.heap.size ≤ gb476)); replace HB := Aside0.mk (below_step (hb_ HB.out) hb); clear hb hbox hg; obtain ⟨hcz3_0, hcz3_1, hcz3_2, hfz3_0, hfz3_1, hfz3_2⟩ := bf3 BK476.out))
 refine bodyPost_ret (results_cell_row rfl _ _ gb476 39 #[.int .i64 2, .int .i64 a0, .string (⟨#[]⟩ : ByteArray)] (0, 0) _ rfl (by (with_reducible repeat (first | refine blk_drewN ?_ _ | refine blk_drew ?_ | refine blk_alloc ?_ _)); refine blk_put (cs := #[.int .i64 2, .int .i64 a0, .string (⟨#[]⟩ : ByteArray)]) ?_ 2 _ rfl; (with_reducible repeat (first | refine blk_drewN ?_ _ | refine blk_drew ?_ | refine blk_alloc ?_ _)); refine blk_put (cs := #[.int .i64 2, .int .i64 0, .string (⟨#[]⟩ : ByteArray)]) ?_ 1 _ rfl; (with_reducible repeat (first | refine blk_drewN ?_ _ | refine blk_drew ?_ | refine blk_alloc ?_ _)); refine blk_put (cs := #[.int .i64 0, .int .i64 0, .string (⟨#[]⟩ : ByteArray)]) ?_ 0 _ rfl; (with_reducible repeat (first | refine blk_drewN ?_ _ | refine blk_drew ?_ | refine blk_alloc ?_ _)); exact BK476.out) Try.underlying39 rfl (by kernel_rfl)) rfl ?_
 exact er_ ((hb1_ HB.out GE476.out))
end Go.Proofs.Ytackcingpffidaa.P
namespace Go.Proofs.Ytackcingpffidaa.P
set_option linter.unusedVariables false
open Go.RowKit Go.Proofs.YtackcingpffidaaW.PrintWords Go.Proofs.YtackcingpffidaaW.PrintLast Go.Proofs.YtackcingpffidaaW.PrintMore
def put2 (w : World) (g : Nat) (u0 u1 : Value) : World := (w.setCell ⟨g, 0, none⟩ u0).setCell ⟨g, 1, none⟩ u1
theorem put2_blk {w : World} {g : Nat} {t : TypeId} {a0 a1 : Value} (h : w.heap[g]? = some (.cells #[a0, a1] t (0, 0))) (u0 u1 : Value) : (put2 w g u0 u1).heap[g]? = some (.cells #[u0, u1] t (0, 0)) :=
  blk_put (cs' := #[u0, u1]) (blk_put (cs' := #[u0, a1]) h 0 u0 rfl) 1 u1 rfl
theorem put2_below {b : Nat} {w0 w : World} (h : Below b w0 w) {g : Nat} (hg : b ≤ g) (u0 u1 : Value) : Below b w0 (put2 w g u0 u1) :=
  (h.setCell (p := ⟨g, 0, none⟩) hg u0).setCell (p := ⟨g, 1, none⟩) hg u1
/-- No fence is of the value's kind, or the value lies outside the fences. -/
def gateB (F : List S39) (v : S39) : Bool := v.f0 == 0 || F.length == 0 || v.f0 != (rd_T39 F 0).f0 || decide (cV v (rd_T39 F 0) < 0) || decide (0 < cV v (rd_T39 F ((F.length : Int) - 1)))
/-- How many fences are less than the value; are they the first ones. -/
def partS (F : List S39) (v : S39) : Nat := (F.filter fun x => decide (cV x v < 0)).length
def partB (F : List S39) (v : S39) : Bool := decide (F.length ≤ 1000) && allN (fun i => decide (i < partS F v) == decide (cV (rd_T39 F i) v < 0)) 0 F.length
theorem partS_le (F : List S39) (v : S39) : partS F v ≤ F.length := List.length_filter_le _ _
theorem allN_spec (p : Nat → Bool) : ∀ m i, allN p i m = true → ∀ j, i ≤ j → j < i + m → p j = true
  | 0, _, _, j, h1, h2 => by omega
  | m + 1, i, h, j, h1, h2 => by
    simp only [allN, Bool.and_eq_true] at h
    by_cases e : j = i
    · subst e; exact h.1
    · exact allN_spec p m (i + 1) h.2 j (by omega) (by omega)
theorem partB_spec {F : List S39} {v : S39} (h : partB F v = true) : F.length ≤ 1000 ∧ ∀ i : Nat, i < F.length → (i < partS F v ↔ cV (rd_T39 F i) v < 0) := by
  unfold partB at h
  rw [Bool.and_eq_true] at h
  refine ⟨of_decide_eq_true h.1, fun i hi => ?_⟩
  have := allN_spec _ _ _ h.2 i (Nat.zero_le _) (by omega)
  simpa using this
def lowS (F : List S39) (R : List Int) (v : S39) : Option Int :=
  if decide (partS F v < F.length) && (cV (rd_T39 F (partS F v : Nat)) v == 0) then (if 2 * partS F v + 1 < R.length then some (mx 0 (wrap64 (rd R ((2 * partS F v + 1 : Nat) : Int) - rd R ((2 * partS F v : Nat) : Int)))) else none) else some 0
def minsS (k : Nat) (v : S39) (C : List Int) : Int → Nat → Nat → Option Int
  | high, _, 0 => some high
  | high, r, m + 1 => (sketch_cell.f k r v.f0 v.f1 v.f2).bind fun c => if 0 ≤ c ∧ c < 64 ∧ r * 64 + c.toNat < C.length then minsS k v C (mn high (rd C ((r * 64 + c.toNat : Nat) : Int))) (r + 1) m else none
theorem minsS_next {k : Nat} {v : S39} {C : List Int} {high x : Int} {r m : Nat} (h : minsS k v C high r (m + 1) = some x) : ∃ c : Int, sketch_cell.f k r v.f0 v.f1 v.f2 = some c ∧ 0 ≤ c ∧ c < 64 ∧ r * 64 + c.toNat < C.length ∧ minsS k v C (mn high (rd C ((r * 64 + c.toNat : Nat) : Int))) (r + 1) m = some x := by
  unfold minsS at h
  obtain ⟨c, h1, h2⟩ := Option.bind_eq_some_iff.mp h
  by_cases hc : 0 ≤ c ∧ c < 64 ∧ r * 64 + c.toNat < C.length
  · rw [if_pos hc] at h2
    exact ⟨c, h1, hc.1, hc.2.1, hc.2.2, h2⟩
  · rw [if_neg hc] at h2
    exact absurd h2 (by simp)
theorem minsS.mono (k : Nat) (v : S39) (C : List Int) : ∀ m high r, LeO (minsS k v C high r m) (minsS (k + 1) v C high r m)
  | 0, _, _ => LeO.refl _
  | m + 1, high, r => LeO.bind (sketch_cell.mono _ _ _ _ _) (fun _ => LeO.ite (minsS.mono k v C m _ _) (LeO.none _))
def sketch_CountEqual.f (k : Nat) (a0_0 : Int) (a0_1 : Int) (l0_2 : List Int) (a0_3 : Bool) (l0_4 : List Int) (l0_5 : List (S39)) (l0_6 : List Int) (a1_0 : Int) (a1_1 : Int) (a1_2 : ByteArray) : Option (Int × Int) :=
  if gateB l0_5 ⟨a1_0, a1_1, a1_2⟩ then some (0, 0) else
  (value_Hash.f k 3 [(⟨a1_0, a1_1, a1_2⟩ : S39)]).bind fun h => (slices_BinarySearch_uint64_uint64.f k l0_2 h).bind fun ib => if a0_3 && !ib.2 then some (0, 0) else
  (sketch_upper.f k a0_0 a0_1 l0_2 a0_3 l0_4 l0_5 l0_6 a1_0 a1_1 a1_2 false).bind fun up => (sketch_lower.f k a0_0 a0_1 l0_2 a0_3 l0_4 l0_5 l0_6 a1_0 a1_1 a1_2 false).bind fun lo =>
  if partB l0_5 ⟨a1_0, a1_1, a1_2⟩ then (lowS l0_5 l0_6 ⟨a1_0, a1_1, a1_2⟩).bind fun low => (minsS k ⟨a1_0, a1_1, a1_2⟩ l0_4 (wrap64 (up - lo)) 0 4).bind fun high => some (low, high) else none
theorem sketch_CountEqual.mono : ∀ a0 a1 a2 a3 a4 a5 a6 a7 a8 a9 k, LeO (sketch_CountEqual.f k a0 a1 a2 a3 a4 a5 a6 a7 a8 a9) (sketch_CountEqual.f (k + 1) a0 a1 a2 a3 a4 a5 a6 a7 a8 a9) := by
  intro a0 a1 a2 a3 a4 a5 a6 a7 a8 a9 k
  unfold sketch_CountEqual.f
  refine LeO.ite (LeO.refl _) (LeO.bind (value_Hash.mono _ _ _) (fun _ => LeO.bind (slices_BinarySearch_uint64_uint64.mono _ _ _) (fun _ => LeO.ite (LeO.refl _) (LeO.bind (sketch_upper.mono _ _ _ _ _ _ _ _ _ _ _ _) (fun _ => LeO.bind (sketch_lower.mono _ _ _ _ _ _ _ _ _ _ _ _) (fun _ => LeO.ite (LeO.bind (LeO.refl _) (fun _ => LeO.bind (minsS.mono _ _ _ _ _ _) (fun _ => LeO.refl _))) (LeO.none _)))))))
end Go.Proofs.Ytackcingpffidaa.P
namespace Go.Proofs.Ytackcingpffidaa.P
set_option linter.unusedVariables false
open Go.RowKit Go.Proofs.YtackcingpffidaaW.PrintWords Go.Proofs.YtackcingpffidaaW.PrintLast Go.Proofs.YtackcingpffidaaW.PrintMore
/-- What is left of n behind bounds. -/
def restS (n : Int) (b : Int × Int) : Int × Int := (wrap64 (n - b.2), wrap64 (n - b.1))
/-- The bounds by operator, once all ranks are known. -/
def switchS (op n lf ut lt uf : Int) (E : Option (Int × Int)) : Option (Int × Int) :=
  if op = 1 then E else if op = 2 then E.bind fun e => some (restS n e) else if op = 3 then some (lf, ut) else if op = 4 then some (lt, uf) else if op = 5 then some (restS n (lt, uf)) else if op = 6 then some (restS n (lf, ut)) else some (0, 0)
def sketch_CountMatching.f (k : Nat) (a0_0 : Int) (a0_1 : Int) (l0_2 : List Int) (a0_3 : Bool) (l0_4 : List Int) (l0_5 : List (S39)) (l0_6 : List Int) (a1_0 : Int) (a1_1 : Int) (a1_2 : Int) (a1_3 : Int) (a1_4 : ByteArray) : Option (Int × Int) :=
  if a1_1 = 20 then some (a0_1, a0_1) else if a1_1 = 21 then some (wrap64 (a0_0 - a0_1), wrap64 (a0_0 - a0_1)) else
  if wrap64 (a0_0 - a0_1) = 0 then some (0, 0) else if a1_2 = 0 then some (0, 0) else if l0_5.length = 0 then none else if a1_2 = (rd_T39 l0_5 0).f0 then
  (sketch_lower.f k a0_0 a0_1 l0_2 a0_3 l0_4 l0_5 l0_6 a1_2 a1_3 a1_4 false).bind fun lf => (sketch_upper.f k a0_0 a0_1 l0_2 a0_3 l0_4 l0_5 l0_6 a1_2 a1_3 a1_4 true).bind fun ut =>
  (sketch_lower.f k a0_0 a0_1 l0_2 a0_3 l0_4 l0_5 l0_6 a1_2 a1_3 a1_4 true).bind fun lt => (sketch_upper.f k a0_0 a0_1 l0_2 a0_3 l0_4 l0_5 l0_6 a1_2 a1_3 a1_4 false).bind fun uf =>
  switchS a1_1 (wrap64 (a0_0 - a0_1)) lf ut lt uf (sketch_CountEqual.f k a0_0 a0_1 l0_2 a0_3 l0_4 l0_5 l0_6 a1_2 a1_3 a1_4) else some (0, 0)
theorem switchS.mono (op n lf ut lt uf : Int) {E E' : Option (Int × Int)} (h : LeO E E') : LeO (switchS op n lf ut lt uf E) (switchS op n lf ut lt uf E') := by
  unfold switchS
  exact LeO.ite h (LeO.ite (LeO.bind h (fun _ => LeO.refl _)) (LeO.refl _))
theorem sketch_CountMatching.mono : ∀ a0 a1 a2 a3 a4 a5 a6 a7 a8 a9 a10 a11 k, LeO (sketch_CountMatching.f k a0 a1 a2 a3 a4 a5 a6 a7 a8 a9 a10 a11) (sketch_CountMatching.f (k + 1) a0 a1 a2 a3 a4 a5 a6 a7 a8 a9 a10 a11) := by
  intro a0 a1 a2 a3 a4 a5 a6 a7 a8 a9 a10 a11 k
  unfold sketch_CountMatching.f
  refine LeO.ite (LeO.refl _) (LeO.ite (LeO.refl _) (LeO.ite (LeO.refl _) (LeO.ite (LeO.refl _) (LeO.ite (LeO.refl _) (LeO.ite ?_ (LeO.refl _))))))
  exact LeO.bind (sketch_lower.mono _ _ _ _ _ _ _ _ _ _ _ _) (fun _ => LeO.bind (sketch_upper.mono _ _ _ _ _ _ _ _ _ _ _ _) (fun _ => LeO.bind (sketch_lower.mono _ _ _ _ _ _ _ _ _ _ _ _) (fun _ => LeO.bind (sketch_upper.mono _ _ _ _ _ _ _ _ _ _ _ _) (fun _ => switchS.mono _ _ _ _ _ _ (sketch_CountEqual.mono _ _ _ _ _ _ _ _ _ _ _)))))
end Go.Proofs.Ytackcingpffidaa.P
namespace Go.Proofs.Ytackcingpffidaa.P
open Go.RowKit Go.Proofs.YtackcingpffidaaW.PrintWords Go.Proofs.YtackcingpffidaaW.PrintLast Go.Proofs.YtackcingpffidaaW.PrintMore
attribute [local go_sem] max2_int min2_int max_two min_two max_three min_three max_four min_four Go.Proofs.YtackcingpffidaaQ.str_gtr Go.Proofs.YtackcingpffidaaQ.str_leq Go.Proofs.YtackcingpffidaaQ.str_geq   -- for this text's walks alone
set_option linter.unusedVariables false
set_option linter.unusedSimpArgs false
/-! ### laminaref16_Cell: function 63 -/
def laminaref16_Cell.f (k : Nat) (a0 : Int) (a1_0 : Int) (a1_1 : Int) (a1_2 : ByteArray) : Option (Int) := (laminaref04_Hash.f k (IntKind.u64.wrap (wrap64 (4 + a0))) (([(⟨a1_0, a1_1, a1_2⟩ : S39)] : List (S39)))).bind fun t155 => (some (wrap64 ((wrap64 (a0 * 64)) + (wrap64 (Int.tmod t155 64)))))
theorem laminaref16_Cell.mono : ∀ a0 a1 a2 a3 k, LeO (laminaref16_Cell.f k a0 a1 a2 a3) (laminaref16_Cell.f (k + 1) a0 a1 a2 a3) := by
 intro a0 a1 a2 a3 k
 unfold laminaref16_Cell.f
 repeat' first
   | (with_reducible exact laminaref04_Hash.mono _ _ _)
   | (with_reducible exact LeO.refl _)
   | (with_reducible exact LeO.none _)
   | (with_reducible refine LeO.ite ?_ ?_)
   | (with_reducible refine LeO.bind ?_ (fun _ => ?_))
   | exact laminaref04_Hash.mono _ _ _
   | exact LeO.none _
   | refine LeO.ite ?_ ?_
   | refine LeO.bind ?_ (fun _ => ?_)
set_option maxHeartbeats 8000000 in
set_option maxRecDepth 100000 in
theorem laminaref16_Cell.calls (k : Nat) (a0 : Int) (a1_0 : Int) (a1_1 : Int) (a1_2 : ByteArray) (r : Int) (w : World) (h : laminaref16_Cell.f k a0 a1_0 a1_1 a1_2 = some r) :
  Calls Try.prog 63 #[.int .i64 a0, .agg #[.int .i64 a1_0, .int .i64 a1_1, .string a1_2]] w fun e w' => e = .returned (.int .i64 r) ∧ Below w.heap.size w w' := by
 have hu39 := Try.underlying39
 have HB := Aside0.mk (Below.refl w.heap.size w)
 have H : ((laminaref04_Hash.f k (IntKind.u64.wrap (wrap64 (4 + a0))) (([(⟨a1_0, a1_1, a1_2⟩ : S39)] : List (S39)))).bind fun t155 => (some (wrap64 ((wrap64 (a0 * 64)) + (wrap64 (Int.tmod t155 64)))))) = some r := h
 clear h
 obtain ⟨y152, hy152⟩ : ∃ y_ : List (S39), y_ = (([(⟨a1_0, a1_1, a1_2⟩ : S39)] : List (S39))) := ⟨_, rfl⟩
 replace H : ((laminaref04_Hash.f k (IntKind.u64.wrap (wrap64 (4 + a0))) y152).bind fun t155 => (some (wrap64 ((wrap64 (a0 * 64)) + (wrap64 (Int.tmod t155 64)))))) = some r := by first | (rw [hy152]; with_reducible exact H) | (have H2_ := (Option.bind_some _ _).symm.trans H; rw [hy152]; with_reducible exact H2_) | (have H2_ := (Option.bind_some _ _).symm.trans H; with_reducible exact H2_) | with_reducible exact H | (rw [hy152]; exact H) | exact H
 have Ny152 := Aside0.mk hy152
 clear hy152
 replace H := Option.bind_eq_some_iff.mp H
 obtain ⟨t155, A30, H⟩ := H
 replace H : (some (wrap64 ((wrap64 (a0 * 64)) + (wrap64 (Int.tmod t155 64))))) = some r := H
 have A3 := Aside0.mk A30
 clear A30
 obtain rfl := Option.some.inj H
 go_enter Try.func63, Try.ntmps63
 go_wp2_with (first | ((with_reducible refine gate_dst (N := 3) rfl ?_); refine box_ 3 (cs := #[.int .i64 a1_0, .int .i64 a1_1, .string a1_2]) (t := 39) ?_; intro gb151 hg w4 hbox hb; have BK151 := Aside0.mk (hbox); have GW151 := Aside0.mk ((by rw [hg]; exact (below_size (hb_ HB.out)) : w.heap.size ≤ gb151)); have GE151 := Aside0.mk ((by rw [hg]; exact (below_size (hb_ HB.out)) : w.heap.size ≤ gb151)); replace HB := Aside0.mk (below_step (hb_ HB.out) hb); clear hb hbox hg; obtain ⟨hcz5_0, hcz5_1, hcz5_2, hfz5_0, hfz5_1, hfz5_2⟩ := bf3 BK151.out) | ((with_reducible refine gate_dst (N := 11) rfl ?_); refine Kd.R_lit k39 _ 39 ?hg (N := 11) ?hd (xs := ([(⟨a1_0, a1_1, a1_2⟩ : S39)] : List (S39))) (inner := [.int .i64 a1_0, .int .i64 a1_1, .string a1_2]) (ok := fun _ => True) (okp := fun _ => True) ?hr ?hp (fun _ hk => hk) trivial (Below.refl _ _) (Nat.le_refl _) (by simp) ?_; (case hd => rfl); (case hg => rfl); (case hr => first | (go_simp; done) | (go_simp; rfl)); (case hp => exact (Reps.c3 (show Kd.M k39 _ _ _ (⟨a1_0, a1_1, a1_2⟩ : S39) [.int .i64 a1_0, .int .i64 a1_1, .string a1_2] from (k39_mkM _ _ _ (⟨a1_0, a1_1, a1_2⟩ : S39) )) (Reps.none _ _))); intro v153 w6 ho7 hb hg_ hnew_; clear hg_ hnew_; (first | rw [← Ny152.out] at ho7 | (simp only [Int.reduceToNat] at ho7; rw [← Ny152.out] at ho7)); have HO154 := Aside0.mk (Kd.R_lower (Kd.R_newB ho7 (g := gb151) (o := .cells #[.int .i64 a1_0, .int .i64 a1_1, .string a1_2] 39 (0, 0)) (bk_ BK151.out)) (below_size (hb1_ HB.out GE151.out))); replace BK151 := Aside0.mk (blk_below (bk_ BK151.out) hb); replace HB := Aside0.mk (below_step (hb1_ HB.out GE151.out) hb); clear hb ho7; obtain ⟨Ao8, co8, eo8⟩ := Kd.R_slice HO154.out; subst eo8) | ((with_reducible refine gate_callee (f := 62) rfl ?_); refine goesL_ (some 12) rfl rfl Try.func62 (by kernel_rfl) rfl #[.int .u64 (IntKind.u64.wrap (wrap64 (4 + a0))), .slice Ao8 y152.length co8] rfl (by (try simp only [List.map_toArray, List.map_cons, List.map_nil]); first | done | rfl | (simp only [List.length_drop, List.length_take]; rfl) | (simp only [Int.ofNat_lt, Int.ofNat_le, gt_iff_lt, ge_iff_le]; rfl)) ?_; (with_reducible refine (laminaref04_Hash.calls k (IntKind.u64.wrap (wrap64 (4 + a0))) _ _ y152 t155 _ ?side1 ?side2 A3.out).mono ?_); (case side1 => repeat (first | exact (Kd.R_reads' HO154.out).2.2 | (with_reducible refine Kd.C_alloc ?_ _) | (with_reducible refine Kd.C_drewN ?_ _) | (with_reducible refine Kd.C_drew ?_))); (case side2 => exact (Kd.R_reads' HO154.out).2.1); rintro e w9 ⟨rfl, hb⟩; refine ⟨_, rfl, ?_⟩; replace HO154 := Aside0.mk (Kd.R_below (ra_ HO154.out) hb); replace BK151 := Aside0.mk (blk_below (bk_ BK151.out) hb); replace HB := Aside0.mk (below_step (hb1_ HB.out GE151.out) hb); (try clear hb)))
 go_ret
 exact er_ ((hb1_ HB.out GE151.out))
end Go.Proofs.Ytackcingpffidaa.P
