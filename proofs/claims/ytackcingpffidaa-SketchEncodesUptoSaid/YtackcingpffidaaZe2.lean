/- What Go functions of the given program return, told as Lean functions, and the walks that show it, with plain facts on them: sketch_spread, sketch_count, U3, U4, varint_Encode, varint_ZigZag, value_Encode, HP, H13, HR, HR3, H53, Sh, S18, S19, S20, U8. Conditions: the hypotheses that stand at each theorem. -/
import Derived.Sort.Grow
import Derived.Shelf.SlSortCmp.WholeK
import Derived.Shelf.SlicesE.Compact
import Derived.Sort.AssemblyPlain
import Derived.Shelf.SlSortCmp.NoneTotal
import Derived.Test.YtackcingpffidaaZe0
import Derived.Test.YtackcingpffidaaZe1
namespace Go.Proofs.Ytackcingpffidaa.P
open Go.RowKit Go.Proofs.YtackcingpffidaaW.PrintWords Go.Proofs.YtackcingpffidaaW.PrintLast Go.Proofs.YtackcingpffidaaW.PrintMore
attribute [local go_sem] max2_int min2_int max_two min_two max_three min_three max_four min_four Go.Proofs.YtackcingpffidaaQ.str_gtr Go.Proofs.YtackcingpffidaaQ.str_leq Go.Proofs.YtackcingpffidaaQ.str_geq   -- for this text's walks alone
set_option linter.unusedVariables false
set_option linter.unusedSimpArgs false
/-! ### sketch_spread: function 58 -/
mutual
def sketch_spread.l0 : Nat → Int → List Int → Int → Option (List Int)
 | 0, _, _, _ => none
 | k + 1, x0, x3, x4 => if x4 < 17 then (sketch_spread.j1 k x0 x3 x4 (decide (x0 > 0))) else (sketch_spread.j1 k x0 x3 x4 false)
def sketch_spread.j1 : Nat → Int → List Int → Int → Bool → Option (List Int)
 | 0, _, _, _, _ => none
 | k + 1, x0, x3, x4, x11 => if x11 = true then (if (x3.length : Int) = 0 then (if x3.length < 17592186044416 then (sketch_spread.l0 k x0 (x3 ++ [wrap64 (Int.tdiv (wrap64 (x4 * (wrap64 (x0 - 1)))) 16)]) (wrap64 (x4 + 1))) else (none)) else (if 0 ≤ (wrap64 ((x3.length : Int) - 1)) then (if (wrap64 ((x3.length : Int) - 1)) < (x3.length : Int) then (if (rd x3 (wrap64 ((x3.length : Int) - 1))) = (wrap64 (Int.tdiv (wrap64 (x4 * (wrap64 (x0 - 1)))) 16)) then (sketch_spread.l0 k x0 x3 (wrap64 (x4 + 1))) else (if x3.length < 17592186044416 then (sketch_spread.l0 k x0 (x3 ++ [wrap64 (Int.tdiv (wrap64 (x4 * (wrap64 (x0 - 1)))) 16)]) (wrap64 (x4 + 1))) else (none))) else (none)) else (none))) else (some x3)
end
def sketch_spread.f (k : Nat) (a0 : Int) : Option (List Int) := sketch_spread.l0 k a0 ([] : List Int) 0
set_option maxHeartbeats 8000000 in
set_option maxRecDepth 100000 in
theorem sketch_spread.calls (k : Nat) (a0 : Int) (r : List Int) (w : World) (h : sketch_spread.f k a0 = some r) :
  Calls Try.prog 58 #[.int .i64 a0] w fun e w' => ∃ v0_ : Value, e = .returned (v0_) ∧ Kd.R (Kd.int .i64) 3 w' w.heap.size (fun _ => True) v0_ r ∧ Below w.heap.size w w' := by
 have HB := Aside0.mk (Below.refl w.heap.size w)
 have H : (sketch_spread.l0 k a0 ([] : List Int) 0) = some r := h
 clear h
 have H' := Aside0.mk H
 clear H
 go_enter Try.func58, Try.ntmps58
 go_wp2
 go_loopg [3, 4] k (fun kq v3 v4 w' => ∃ (x3_1 : List Int) (x4_1 : Int), v4 = .int .i64 x4_1 ∧ Aside0 (sketch_spread.l0 kq a0 x3_1 x4_1 = some r) ∧ Aside0 (kq ≤ k) ∧ Aside0 (Kd.R (Kd.int .i64) 3 w' w.heap.size (fun _ => True) v3 x3_1) ∧ Aside0 (Below w.heap.size w w'))
 case atStart => exact ⟨(([] : List Int)), (0), (by first | rfl | (simp; done) | (simp [*]; done)), H', ⟨Nat.le_refl _⟩, ⟨by first | exact Kd.R_nil _ _ _ _ _ | exact Kd.N_nil _ _ _ _ _ | exact Kd.V_nil _ _ _ _ _ | exact Kd.Q_nil _ _ _ _ _ | exact Kd.S_nil _ _ _ _ _⟩, ⟨(hb_ HB.out)⟩⟩
 case round =>
  clear H'
  obtain ⟨x3_1, x4_1, rfl, HA, HK1, HO_3, HB⟩ := hrel
  cases gk with
  | zero => exact absurd HA.out (by simp [sketch_spread.l0])
  | succ k1 =>
   have H := HA.out
   clear HA
   simp only [sketch_spread.l0] at H
   have HC2 := Aside0.mk H
   clear H
   go_upto_region 3 with (fail)
   go_cut [11] (fun v11 wc => ∃ (kq : Nat) (x11_1 : Bool), v11 = .bool x11_1 ∧ Aside0 (sketch_spread.j1 kq a0 x3_1 x4_1 x11_1 = some r) ∧ Aside0 (kq ≤ k1) ∧ Aside0 (Kd.R (Kd.int .i64) 3 wc w.heap.size (fun _ => True) u3 x3_1) ∧ Aside0 (Below w.heap.size w wc))
   case first =>
    have H := HC2.out
    clear HC2
    by_cases c3 : x4_1 < 17
    ·rw [if_pos c3] at H
     have c3b0 : decide (x4_1 < 17) = true := decide_eq_true c3
     clear c3
     (first | rw [c3b0] | (simp only [i64_w, i32_w]; rw [c3b0]) | skip)
     have H' := Aside0.mk H
     clear H
     go_wp2
     go_meet
     case rel => exact ⟨_, (decide (a0 > 0)), (by first | rfl | (simp; done) | (simp [*]; done)), H', ⟨by have := HK1.out; first | omega | exact Nat.le_refl _⟩, ⟨by (with_reducible repeat (first | apply Kd.R_alloc | apply Kd.R_drewN | apply Kd.R_drew)); exact HO_3.out⟩, ⟨(hb_ HB.out)⟩⟩
    ·rw [if_neg c3] at H
     have c3b0 : decide (x4_1 < 17) = false := decide_eq_false c3
     clear c3
     (first | rw [c3b0] | (simp only [i64_w, i32_w]; rw [c3b0]) | skip)
     have H' := Aside0.mk H
     clear H
     go_wp2
     go_meet
     case rel => exact ⟨_, (false), (by first | rfl | (simp; done) | (simp [*]; done)), H', ⟨by have := HK1.out; first | omega | exact Nat.le_refl _⟩, ⟨by (with_reducible repeat (first | apply Kd.R_alloc | apply Kd.R_drewN | apply Kd.R_drew)); exact HO_3.out⟩, ⟨(hb_ HB.out)⟩⟩
   case rest =>
    clear HC2
    try clear p2
    try clear c3
    try clear c3b0
    obtain ⟨kq, x11_1, rfl, HA, HJ1, HO_3, HB⟩ := hcut
    cases kq with
    | zero => exact absurd HA.out (by simp [sketch_spread.j1])
    | succ kj1 =>
     have H := HA.out
     clear HA
     simp only [sketch_spread.j1] at H
     by_cases c4 : x11_1 = true
     ·subst c4
      have H1 : (if (x3_1.length : Int) = 0 then (if x3_1.length < 17592186044416 then (sketch_spread.l0 kj1 a0 (x3_1 ++ [wrap64 (Int.tdiv (wrap64 (x4_1 * (wrap64 (a0 - 1)))) 16)]) (wrap64 (x4_1 + 1))) else (none)) else (if 0 ≤ (wrap64 ((x3_1.length : Int) - 1)) then (if (wrap64 ((x3_1.length : Int) - 1)) < (x3_1.length : Int) then (if (rd x3_1 (wrap64 ((x3_1.length : Int) - 1))) = (wrap64 (Int.tdiv (wrap64 (x4_1 * (wrap64 (a0 - 1)))) 16)) then (sketch_spread.l0 kj1 a0 x3_1 (wrap64 (x4_1 + 1))) else (if x3_1.length < 17592186044416 then (sketch_spread.l0 kj1 a0 (x3_1 ++ [wrap64 (Int.tdiv (wrap64 (x4_1 * (wrap64 (a0 - 1)))) 16)]) (wrap64 (x4_1 + 1))) else (none))) else (none)) else (none))) = some r := by rw [if_pos rfl] at H; exact H
      clear H
      have H := H1
      clear H1
      by_cases c5 : (x3_1.length : Int) = 0
      ·rw [if_pos c5] at H
       have c5b0 : ((x3_1.length : Int) == 0) = true := beq_iff_eq.mpr c5
       have c5b1 : ((x3_1.length : Int) != 0) = false := bne_eq_false_iff_eq.mpr c5
       clear c5
       by_cases c6 : x3_1.length < 17592186044416
       ·rw [if_pos c6] at H
        have LMc6 := Aside0.mk c6
        clear c6
        obtain ⟨y429, hy429⟩ : ∃ y_ : List Int, y_ = (x3_1 ++ [wrap64 (Int.tdiv (wrap64 (x4_1 * (wrap64 (a0 - 1)))) 16)]) := ⟨_, rfl⟩
        replace H : (sketch_spread.l0 kj1 a0 y429 (wrap64 (x4_1 + 1))) = some r := by first | (rw [hy429]; with_reducible exact H) | (have H2_ := (Option.bind_some _ _).symm.trans H; rw [hy429]; with_reducible exact H2_) | (have H2_ := (Option.bind_some _ _).symm.trans H; with_reducible exact H2_) | with_reducible exact H | (rw [hy429]; exact H) | exact H
        have Ny429 := Aside0.mk hy429
        clear hy429
        have H' := Aside0.mk H
        clear H
        obtain ⟨Ao7, co7, eo7⟩ := Kd.R_slice HO_3.out
        subst eo7
        go_wp2_with (first | ((with_reducible refine gate_builtin (b := .append) (xs := #[.tmp 32, .tmp 34]) rfl ?_); (try (refine gate_guard (by rfl) ?_; dsimp only)); at_builtin; refine Kd.R_append (Kd.int .i64) (w0 := w) w.heap.size rfl (.tmp 32) (.tmp 34) 23 3 (.int .i64 0) 8 rfl Try.underlying23 info3 rfl (by decide) (by omega) (.slice Ao7 x3_1.length co7) x3_1 (wrap64 (Int.tdiv (wrap64 (x4_1 * (wrap64 (a0 - 1)))) 16)) [.int .i64 (wrap64 (Int.tdiv (wrap64 (x4_1 * (wrap64 (a0 - 1)))) 16))] (fun _ => True) (fun _ => False) rfl rfl ?aP (fun _ hk => hk.elim) ?aF ?aO ?aB ?aS ?aL ?_; (case aP => exact rfl); (case aB => exact (hb_ HB.out)); (case aF => exact (fun _ _ => trivial)); (case aO => exact (ra_ HO_3.out)); (case aS => exact (below_size (hb_ HB.out))); (case aL => have := LMc6.out; omega); intro v430 w8 ho hb hg hat; rw [← Ny429.out] at ho; have n0_ := Aside0.mk (hb); have n1_ := Aside0.mk (ho); clear HB; clear HO_3; have HB := n0_; have HO431 := n1_; clear n0_ n1_; clear ho hb hg hat))
        go_roundg kj1
        case measure => have := HK1.out; have := HJ1.out; omega
        case rel => exact ⟨(y429), (wrap64 (x4_1 + 1)), (by first | rfl | (simp; done) | (simp [*]; done)), H', ⟨by have := HK1.out; have := HJ1.out; omega⟩, ⟨by (with_reducible repeat (first | apply Kd.R_alloc | apply Kd.R_drewN | apply Kd.R_drew)); exact HO431.out⟩, ⟨(hb_ HB.out)⟩⟩
       ·rw [if_neg c6] at H
        exact absurd H (by simp)
      ·rw [if_neg c5] at H
       have c5b0 : ((x3_1.length : Int) == 0) = false := beq_eq_false_iff_ne.mpr c5
       have c5b1 : ((x3_1.length : Int) != 0) = true := bne_iff_ne.mpr c5
       have c5b2 : ¬ (x3_1 = []) := fun h_ => c5 (by rw [h_]; rfl)
       obtain ⟨ji9, hji9⟩ : ∃ j_ : Int, (wrap64 ((x3_1.length : Int) - 1)) = j_ := ⟨_, rfl⟩
       replace H : (if 0 ≤ (ji9) then (if (ji9) < (x3_1.length : Int) then (if (rd x3_1 (ji9)) = (wrap64 (Int.tdiv (wrap64 (x4_1 * (wrap64 (a0 - 1)))) 16)) then (sketch_spread.l0 kj1 a0 x3_1 (wrap64 (x4_1 + 1))) else (if x3_1.length < 17592186044416 then (sketch_spread.l0 kj1 a0 (x3_1 ++ [wrap64 (Int.tdiv (wrap64 (x4_1 * (wrap64 (a0 - 1)))) 16)]) (wrap64 (x4_1 + 1))) else (none))) else (none)) else (none)) = some r := by first | (rw [hji9] at H; exact H) | (simp only [hji9] at H ⊢; exact H)
       have hji9w : (IntKind.i64.wrap ((x3_1.length : Int) - 1)) = ji9 := (i64_w _).trans hji9
       by_cases c10 : 0 ≤ (ji9)
       ·rw [if_pos c10] at H
        have c10b0 : decide (0 ≤ (ji9)) = true := decide_eq_true c10
        clear c10
        by_cases c11 : (ji9) < (x3_1.length : Int)
        ·rw [if_pos c11] at H
         have c11b0 : decide ((ji9) < (x3_1.length : Int)) = true := decide_eq_true c11
         clear c11
         by_cases c12 : (rd x3_1 (ji9)) = (wrap64 (Int.tdiv (wrap64 (x4_1 * (wrap64 (a0 - 1)))) 16))
         ·rw [if_pos c12] at H
          have c12b0 : ((rd x3_1 (ji9)) == (wrap64 (Int.tdiv (wrap64 (x4_1 * (wrap64 (a0 - 1)))) 16))) = true := beq_iff_eq.mpr c12
          have c12b1 : ((rd x3_1 (ji9)) != (wrap64 (Int.tdiv (wrap64 (x4_1 * (wrap64 (a0 - 1)))) 16))) = false := bne_eq_false_iff_eq.mpr c12
          clear c12
          have H' := Aside0.mk H
          clear H
          obtain ⟨Ao13, co13, eo13⟩ := Kd.R_slice HO_3.out
          subst eo13
          have p432 : 0 ≤ ((ji9) : Int) := of_decide_eq_true (by first | (with_reducible assumption) | assumption)
          have q432 : (ji9) < (x3_1.length : Int) := of_decide_eq_true (by first | (with_reducible assumption) | assumption)
          obtain ⟨ad432, e432, hx432_0⟩ := Kd.at_int (Kd.R_reads' HO_3.out).2.2 (ji9) p432 q432
          cases e432
          replace p432 := eq_true p432
          replace q432 := eq_true q432
          go_wp2
          go_roundg kj1
          case measure => have := HK1.out; have := HJ1.out; omega
          case rel => exact ⟨(x3_1), (wrap64 (x4_1 + 1)), (by first | rfl | (simp; done) | (simp [*]; done)), H', ⟨by have := HK1.out; have := HJ1.out; omega⟩, ⟨by (with_reducible repeat (first | apply Kd.R_alloc | apply Kd.R_drewN | apply Kd.R_drew)); exact HO_3.out⟩, ⟨(hb_ HB.out)⟩⟩
         ·rw [if_neg c12] at H
          have c12b0 : ((rd x3_1 (ji9)) == (wrap64 (Int.tdiv (wrap64 (x4_1 * (wrap64 (a0 - 1)))) 16))) = false := beq_eq_false_iff_ne.mpr c12
          have c12b1 : ((rd x3_1 (ji9)) != (wrap64 (Int.tdiv (wrap64 (x4_1 * (wrap64 (a0 - 1)))) 16))) = true := bne_iff_ne.mpr c12
          by_cases c14 : x3_1.length < 17592186044416
          ·rw [if_pos c14] at H
           have LMc14 := Aside0.mk c14
           clear c14
           obtain ⟨y433, hy433⟩ : ∃ y_ : List Int, y_ = (x3_1 ++ [wrap64 (Int.tdiv (wrap64 (x4_1 * (wrap64 (a0 - 1)))) 16)]) := ⟨_, rfl⟩
           replace H : (sketch_spread.l0 kj1 a0 y433 (wrap64 (x4_1 + 1))) = some r := by first | (rw [hy433]; with_reducible exact H) | (have H2_ := (Option.bind_some _ _).symm.trans H; rw [hy433]; with_reducible exact H2_) | (have H2_ := (Option.bind_some _ _).symm.trans H; with_reducible exact H2_) | with_reducible exact H | (rw [hy433]; exact H) | exact H
           have Ny433 := Aside0.mk hy433
           clear hy433
           have H' := Aside0.mk H
           clear H
           obtain ⟨Ao15, co15, eo15⟩ := Kd.R_slice HO_3.out
           subst eo15
           have p432 : 0 ≤ ((ji9) : Int) := of_decide_eq_true (by first | (with_reducible assumption) | assumption)
           have q432 : (ji9) < (x3_1.length : Int) := of_decide_eq_true (by first | (with_reducible assumption) | assumption)
           obtain ⟨ad432, e432, hx432_0⟩ := Kd.at_int (Kd.R_reads' HO_3.out).2.2 (ji9) p432 q432
           cases e432
           replace p432 := eq_true p432
           replace q432 := eq_true q432
           go_wp2_with (first | ((with_reducible refine gate_builtin (b := .append) (xs := #[.tmp 32, .tmp 34]) rfl ?_); (try (refine gate_guard (by rfl) ?_; dsimp only)); at_builtin; refine Kd.R_append (Kd.int .i64) (w0 := w) w.heap.size rfl (.tmp 32) (.tmp 34) 23 3 (.int .i64 0) 8 rfl Try.underlying23 info3 rfl (by decide) (by omega) (.slice (some ad432) x3_1.length co15) x3_1 (wrap64 (Int.tdiv (wrap64 (x4_1 * (wrap64 (a0 - 1)))) 16)) [.int .i64 (wrap64 (Int.tdiv (wrap64 (x4_1 * (wrap64 (a0 - 1)))) 16))] (fun _ => True) (fun _ => False) rfl rfl ?aP (fun _ hk => hk.elim) ?aF ?aO ?aB ?aS ?aL ?_; (case aP => exact rfl); (case aB => exact (hb_ HB.out)); (case aF => exact (fun _ _ => trivial)); (case aO => exact (ra_ HO_3.out)); (case aS => exact (below_size (hb_ HB.out))); (case aL => have := LMc14.out; omega); intro v434 w16 ho hb hg hat; rw [← Ny433.out] at ho; have n0_ := Aside0.mk (hb); have n1_ := Aside0.mk (ho); clear HB; clear HO_3; have HB := n0_; have HO435 := n1_; clear n0_ n1_; clear ho hb hg hat))
           go_roundg kj1
           case measure => have := HK1.out; have := HJ1.out; omega
           case rel => exact ⟨(y433), (wrap64 (x4_1 + 1)), (by first | rfl | (simp; done) | (simp [*]; done)), H', ⟨by have := HK1.out; have := HJ1.out; omega⟩, ⟨by (with_reducible repeat (first | apply Kd.R_alloc | apply Kd.R_drewN | apply Kd.R_drew)); exact HO435.out⟩, ⟨(hb_ HB.out)⟩⟩
          ·rw [if_neg c14] at H
           exact absurd H (by simp)
        ·rw [if_neg c11] at H
         exact absurd H (by simp)
       ·rw [if_neg c10] at H
        exact absurd H (by simp)
     ·replace c4 := Bool.eq_false_iff.mpr c4
      subst c4
      have H1 : (some x3_1) = some r := by rw [if_neg (show ¬ (false = true) by decide)] at H; exact H
      clear H
      have H := H1
      clear H1
      obtain rfl := Option.some.inj H
      go_wp2
      go_ret
      exact ⟨_, by first | rfl | (simp [errW_none, errW_some] <;> rfl) | (simp [*, errW_none, errW_some] <;> rfl), by (with_reducible repeat (first | apply Kd.R_alloc | apply Kd.R_drewN | apply Kd.R_drew)); exact HO_3.out, (hb_ HB.out)⟩
/-! ### sketch_count: function 66 -/
def sketch_count.f (a0_0 : Int) (a0_1 : Int) (l0_2 : List Int) (a0_3 : Bool) (l0_4 : List Int) (l0_5 : List (S39)) (l0_6 : List Int) : Option (Int) := some (wrap64 (a0_0 - a0_1))
set_option maxHeartbeats 8000000 in
set_option maxRecDepth 100000 in
theorem sketch_count.calls (a0_0 : Int) (a0_1 : Int) (A0_2 : Option Addr) (c0_2 : Nat) (l0_2 : List Int) (a0_3 : Bool) (A0_4 : Option Addr) (c0_4 : Nat) (l0_4 : List Int) (A0_5 : Option Addr) (c0_5 : Nat) (l0_5 : List (S39)) (A0_6 : Option Addr) (c0_6 : Nat) (l0_6 : List Int) (r : Int) (w : World) (hr0_2 : Kd.C (Kd.int .u64) w A0_2 l0_2.length l0_2) (hc0_2 : l0_2.length ≤ c0_2) (hr0_4 : Kd.C (Kd.int .i64) w A0_4 l0_4.length l0_4) (hc0_4 : l0_4.length ≤ c0_4) (hr0_5 : Kd.C k39 w A0_5 l0_5.length l0_5) (hc0_5 : l0_5.length ≤ c0_5) (hr0_6 : Kd.C (Kd.int .i64) w A0_6 l0_6.length l0_6) (hc0_6 : l0_6.length ≤ c0_6) (h : sketch_count.f a0_0 a0_1 l0_2 a0_3 l0_4 l0_5 l0_6 = some r) :
  Calls Try.prog 66 #[.agg #[.int .i64 a0_0, .int .i64 a0_1, .slice A0_2 l0_2.length c0_2, .bool a0_3, .slice A0_4 l0_4.length c0_4, .slice A0_5 l0_5.length c0_5, .slice A0_6 l0_6.length c0_6]] w fun e w' => e = .returned (.int .i64 r) ∧ Below w.heap.size w w' := by
 have hu26 := Try.underlying26
 have HR0_2 := Aside0.mk hr0_2
 have HC0_2 := Aside0.mk hc0_2
 clear hr0_2 hc0_2
 have HR0_4 := Aside0.mk hr0_4
 have HC0_4 := Aside0.mk hc0_4
 clear hr0_4 hc0_4
 have HR0_5 := Aside0.mk hr0_5
 have HC0_5 := Aside0.mk hc0_5
 clear hr0_5 hc0_5
 have HR0_6 := Aside0.mk hr0_6
 have HC0_6 := Aside0.mk hc0_6
 clear hr0_6 hc0_6
 have HB := Aside0.mk (Below.refl w.heap.size w)
 have H : (some (wrap64 (a0_0 - a0_1))) = some r := h
 clear h
 obtain rfl := Option.some.inj H
 go_enter Try.func66, Try.ntmps66
 go_wp2_with (first | ((with_reducible refine gate_dst (N := 1) rfl ?_); refine box_ 1 (cs := #[.int .i64 a0_0, .int .i64 a0_1, .slice A0_2 l0_2.length c0_2, .bool a0_3, .slice A0_4 l0_4.length c0_4, .slice A0_5 l0_5.length c0_5, .slice A0_6 l0_6.length c0_6]) (t := 26) ?_; intro gb436 hg w2 hbox hb; have BK436 := Aside0.mk (hbox); have GW436 := Aside0.mk ((by rw [hg]; exact (below_size (hb_ HB.out)) : w.heap.size ≤ gb436)); have GE436 := Aside0.mk ((by rw [hg]; exact (below_size (hb_ HB.out)) : w.heap.size ≤ gb436)); replace HB := Aside0.mk (below_step (hb_ HB.out) hb); clear hb hbox hg; obtain ⟨hcz3_0, hcz3_1, hcz3_2, hcz3_3, hcz3_4, hcz3_5, hcz3_6, hfz3_0, hfz3_1, hfz3_2, hfz3_3, hfz3_4, hfz3_5, hfz3_6⟩ := bf7 BK436.out))
 go_ret
 exact er_ ((hb1_ HB.out GE436.out))
end Go.Proofs.Ytackcingpffidaa.P
namespace Go.Proofs.Ytackcingpffidaa.P
open Go.RowKit Go.Proofs.YtackcingpffidaaW.PrintWords Go.Proofs.YtackcingpffidaaW.PrintLast Go.Proofs.YtackcingpffidaaW.PrintMore
theorem eqV_calls (x y : S39) (b : Bool) (h : (cV x y == 0) = b) (w : World) : Calls Try.prog 59 #[.agg #[.int .i64 x.f0, .int .i64 x.f1, .string x.f2], .agg #[.int .i64 y.f0, .int .i64 y.f1, .string y.f2]] w fun e w' => e = .returned (.bool b) ∧ Below w.heap.size w w' :=
 value_Equal.calls _ _ _ _ _ _ b w (by unfold value_Equal.f; rw [cV_is]; exact congrArg some h)
/-- The values that are not NULL. -/
def someS (l : List S39) : List S39 := l.filter fun v => !(v.f0 == 0)
/-- Their hashes, as they come. -/
def hashS (k : Nat) : List S39 → Option (List Int)
 | [] => some []
 | v :: vs => (value_Hash.f k 3 [v]).bind fun h => (hashS k vs).bind fun r => some (h :: r)
/-- One counter more, in row r. -/
def bump (k : Nat) (v : S39) (cs : List Int) (r : Nat) : Option (List Int) := (sketch_cell.f k r v.f0 v.f1 v.f2).bind fun c => if 0 ≤ c ∧ c < 64 then some (cs.set (r * 64 + c.toNat) (wrap64 (cs.getD (r * 64 + c.toNat) 0 + 1))) else none
def bumps (k : Nat) (v : S39) : List Int → Nat → Nat → Option (List Int)
 | cs, _, 0 => some cs
 | cs, r, m + 1 => (bump k v cs r).bind fun cs' => bumps k v cs' (r + 1) m
def counts (k : Nat) : List S39 → List Int → Option (List Int)
 | [], cs => some cs
 | v :: vs, cs => (bumps k v cs 0 4).bind fun cs' => counts k vs cs'
/-- The first place of the values equal to the one at kk, from f downwards; the first place behind them, upwards. -/
def fromS (s : List S39) (kk : Int) : Nat → Nat
 | 0 => 0
 | f + 1 => if cV (rd_T39 s f) (rd_T39 s kk) == 0 then fromS s kk f else f + 1
def toS (s : List S39) (kk : Int) : Nat → Nat → Nat
 | t, 0 => t
 | t, m + 1 => if cV (rd_T39 s t) (rd_T39 s kk) == 0 then toS s kk (t + 1) m else t
def fenceS (s : List S39) : List Int → List S39 → List Int → List S39 × List Int
 | [], F, R => (F, R)
 | kk :: ks, F, R => if decide (0 < F.length) && (cV (rd_T39 F ((F.length : Int) - 1)) (rd_T39 s kk) == 0) then fenceS s ks F R else fenceS s ks (F ++ [rd_T39 s kk]) (R ++ [(fromS s kk kk.toNat : Int), (toS s kk (kk.toNat + 1) (s.length - (kk.toNat + 1)) : Int)])
end Go.Proofs.Ytackcingpffidaa.P
namespace Go.Proofs.Ytackcingpffidaa.P
open Go.RowKit Go.Proofs.YtackcingpffidaaW.PrintWords Go.Proofs.YtackcingpffidaaW.PrintLast Go.Proofs.YtackcingpffidaaW.PrintMore
set_option linter.unusedVariables false
theorem C1 {w : World} {g : Nat} {x : S39} (h : w.heap[g]? = some (.cells #[.int .i64 x.f0, .int .i64 x.f1, .string x.f2] 39 (0, 0))) : Kd.C k39 w (some ⟨g, 0, none⟩) 1 [x] := by
 refine ⟨rfl, by decide, fun _ => ⟨_, rfl, fun j p hj => ?_⟩⟩
 cases j with
 | succ j => simp at hj
 | zero =>
  obtain rfl : x = p := by simpa using hj
  refine ⟨[.int .i64 x.f0, .int .i64 x.f1, .string x.f2], rfl, k39_mk w x, fun i u hu => ?_⟩
  have h0 := blk_cell h i
  rw [Nat.zero_mul, Nat.zero_add]
  have e : (⟨g, 0, none⟩ : Addr).add i = ⟨g, i, none⟩ := by unfold Addr.add; split <;> simp_all
  rw [e, h0]
  simpa using hu
theorem hash1 (k : Nat) (x : S39) (h : Int) (hh : value_Hash.f k 3 [x] = some h) {w : World} {g : Nat} (hb : w.heap[g]? = some (.cells #[.int .i64 x.f0, .int .i64 x.f1, .string x.f2] 39 (0, 0))) :
  Calls Try.prog 54 #[.int .u64 3, .slice (some ⟨g, 0, none⟩) 1 1] w fun e w' => e = .returned (.int .u64 h) ∧ Below w.heap.size w w' :=
 value_Hash.calls k 3 (some ⟨g, 0, none⟩) 1 [x] h w (C1 hb) (Nat.le_refl _) hh
theorem hashS_len {k : Nat} : ∀ {S : List S39} {hs : List Int}, hashS k S = some hs → hs.length = S.length
 | [], hs, h => by obtain rfl := Option.some.inj h; rfl
 | v :: vs, hs, h => by
  obtain ⟨a, h1, h2⟩ := Option.bind_eq_some_iff.mp h
  obtain ⟨b, h3, h4⟩ := Option.bind_eq_some_iff.mp h2
  obtain rfl := Option.some.inj h4
  simp [hashS_len h3]
theorem hashS_at {k : Nat} : ∀ {S : List S39} {hs : List Int}, hashS k S = some hs → ∀ i : Nat, i < S.length → value_Hash.f k 3 [rd_T39 S i] = some (rd hs i)
 | [], hs, h, i, hi => by simp at hi
 | v :: vs, hs, h, i, hi => by
  obtain ⟨a, h1, h2⟩ := Option.bind_eq_some_iff.mp h
  obtain ⟨b, h3, h4⟩ := Option.bind_eq_some_iff.mp h2
  obtain rfl := Option.some.inj h4
  cases i with
  | zero => exact h1
  | succ i =>
   have := hashS_at h3 i (by simpa using hi)
   simpa [rd_T39, rd] using this
theorem take_rd (hs : List Int) (i : Nat) (h : i < hs.length) : hs.take (i + 1) = hs.take i ++ [rd hs i] := by
 rw [List.take_succ_eq_append_getElem h]
 unfold rd
 rw [Int.toNat_natCast, List.getD_eq_getElem?_getD, List.getElem?_eq_getElem h]
 rfl
theorem drop_rd39 (S : List S39) (i : Nat) (h : i < S.length) : S.drop i = rd_T39 S i :: S.drop (i + 1) := by
 rw [List.drop_eq_getElem_cons h]
 congr 1
 unfold rd_T39
 rw [Int.toNat_natCast, List.getD_eq_getElem?_getD, List.getElem?_eq_getElem h]
 rfl
/-- One value's four counters, then the other values. -/
theorem counts_next {k : Nat} {S : List S39} {i : Nat} (h : i < S.length) {cur cs : List Int} (hc : counts k (S.drop i) cur = some cs) : ∃ c2, bumps k (rd_T39 S i) cur 0 4 = some c2 ∧ counts k (S.drop (i + 1)) c2 = some cs := by
 rw [drop_rd39 S i h] at hc
 exact Option.bind_eq_some_iff.mp hc
theorem bumps_next {k : Nat} {v : S39} {cur c2 : List Int} {r m : Nat} (h : bumps k v cur r (m + 1) = some c2) : ∃ c : Int, sketch_cell.f k r v.f0 v.f1 v.f2 = some c ∧ 0 ≤ c ∧ c < 64 ∧ bumps k v (cur.set (r * 64 + c.toNat) (wrap64 (cur.getD (r * 64 + c.toNat) 0 + 1))) (r + 1) m = some c2 := by
 obtain ⟨a, h1, h2⟩ := Option.bind_eq_some_iff.mp h
 unfold bump at h1
 obtain ⟨c, h3, h4⟩ := Option.bind_eq_some_iff.mp h1
 by_cases hc : 0 ≤ c ∧ c < 64
 ·rw [if_pos hc] at h4
  obtain rfl := Option.some.inj h4
  exact ⟨c, h3, hc.1, hc.2, h2⟩
 ·rw [if_neg hc] at h4
  exact absurd h4 (by simp)
/-- The counters' block. -/
def cntO (cur : List Int) : Obj := .cells (cur.map (Value.int .i64)).toArray 77 (0, 0)
theorem cnt_cell {w : World} {g : Nat} {cur : List Int} (h : w.heap[g]? = some (cntO cur)) (j : Nat) (hj : j < cur.length) : w.cell? ⟨g, j, none⟩ = some (.int .i64 (cur.getD j 0)) := by
 have h0 := blk_cell h j
 rw [h0]
 simp [hj]
theorem cnt_put {w : World} {g : Nat} {cur : List Int} (h : w.heap[g]? = some (cntO cur)) (j : Nat) (x : Int) : (w.setCell ⟨g, j, none⟩ (.int .i64 x)).heap[g]? = some (cntO (cur.set j x)) := by
 refine blk_put h j _ ?_
 apply Array.ext'
 simp [List.map_set]
theorem cnt_zero : Obj.cells Try.zeroCells77 77 (0, 0) = cntO (List.replicate 256 0) := by
 unfold cntO
 rw [List.map_replicate]
 kernel_rfl
theorem C2 {w : World} {g : Nat} {a b : Int} (h : w.heap[g]? = some (.cells #[.int .i64 a, .int .i64 b] 3 (0, 0))) : Kd.C (Kd.int .i64) w (some ⟨g, 0, none⟩) 2 [a, b] := by
 refine Kd.C_of_reads (enc := Value.int .i64) (d := (0 : Int)) (h1 := fun _ => rfl) ⟨rfl, by decide, fun _ => ⟨_, rfl, fun j hj => ?_⟩⟩
 have h0 := blk_cell h j
 rw [show (⟨g, 0, none⟩ : Addr).add j = ⟨g, j, none⟩ from by unfold Addr.add; split <;> simp_all, h0]
 match j, hj with
 | 0, _ => rfl
 | 1, _ => rfl
def put7 (w : World) (g : Nat) (u0 u1 u2 u3 u4 u5 u6 : Value) : World := ((((((w.setCell ⟨g, 0, none⟩ u0).setCell ⟨g, 1, none⟩ u1).setCell ⟨g, 2, none⟩ u2).setCell ⟨g, 3, none⟩ u3).setCell ⟨g, 4, none⟩ u4).setCell ⟨g, 5, none⟩ u5).setCell ⟨g, 6, none⟩ u6
theorem put7_blk {w : World} {g : Nat} {t : TypeId} {a0 a1 a2 a3 a4 a5 a6 : Value} (h : w.heap[g]? = some (.cells #[a0, a1, a2, a3, a4, a5, a6] t (0, 0))) (u0 u1 u2 u3 u4 u5 u6 : Value) : (put7 w g u0 u1 u2 u3 u4 u5 u6).heap[g]? = some (.cells #[u0, u1, u2, u3, u4, u5, u6] t (0, 0)) := by
 have h0 := blk_put (cs' := #[u0, a1, a2, a3, a4, a5, a6]) h 0 u0 rfl
 have h1 := blk_put (cs' := #[u0, u1, a2, a3, a4, a5, a6]) h0 1 u1 rfl
 have h2 := blk_put (cs' := #[u0, u1, u2, a3, a4, a5, a6]) h1 2 u2 rfl
 have h3 := blk_put (cs' := #[u0, u1, u2, u3, a4, a5, a6]) h2 3 u3 rfl
 have h4 := blk_put (cs' := #[u0, u1, u2, u3, u4, a5, a6]) h3 4 u4 rfl
 have h5 := blk_put (cs' := #[u0, u1, u2, u3, u4, u5, a6]) h4 5 u5 rfl
 exact blk_put (cs' := #[u0, u1, u2, u3, u4, u5, u6]) h5 6 u6 rfl
theorem typ_set {w : World} {g : Nat} {t : TypeId} (h : ∃ cs, w.heap[g]? = some (.cells cs t (0, 0))) (j : Nat) (u : Value) : ∃ cs, (w.setCell ⟨g, j, none⟩ u).heap[g]? = some (.cells cs t (0, 0)) := by
 obtain ⟨cs, h⟩ := h
 exact ⟨_, blk_set h j u⟩
theorem R_setE {w : World} {g : Nat} {t : TypeId} (h : ∃ cs, w.heap[g]? = some (.cells cs t (0, 0))) {α : Type} {d : Kd α} {e base : Nat} {ok : Nat → Prop} {v : Value} {xs : List α} (hr : d.R e w base ok v xs) (ht : ∀ q, q ∈ e :: d.E → q ≠ t) (j : Nat) (u : Value) : d.R e (w.setCell ⟨g, j, none⟩ u) base ok v xs := by
 obtain ⟨cs, h⟩ := h
 exact Kd.R_set hr h ht j u
theorem put7_R {w : World} {g : Nat} {t : TypeId} {cs : Array Value} (h : w.heap[g]? = some (.cells cs t (0, 0))) (u0 u1 u2 u3 u4 u5 u6 : Value) {α : Type} {d : Kd α} {e base : Nat} {ok : Nat → Prop} {v : Value} {xs : List α} (hr : d.R e w base ok v xs) (ht : ∀ q, q ∈ e :: d.E → q ≠ t) : d.R e (put7 w g u0 u1 u2 u3 u4 u5 u6) base ok v xs := by
 have t0 : ∃ cs, w.heap[g]? = some (.cells cs t (0, 0)) := ⟨_, h⟩
 have t1 := typ_set t0 0 u0
 have t2 := typ_set t1 1 u1
 have t3 := typ_set t2 2 u2
 have t4 := typ_set t3 3 u3
 have t5 := typ_set t4 4 u4
 have t6 := typ_set t5 5 u5
 exact R_setE t6 (R_setE t5 (R_setE t4 (R_setE t3 (R_setE t2 (R_setE t1 (R_setE t0 hr ht 0 u0) ht 1 u1) ht 2 u2) ht 3 u3) ht 4 u4) ht 5 u5) ht 6 u6
theorem put7_below {b : Nat} {w0 w : World} (h : Below b w0 w) {g : Nat} (hg : b ≤ g) (u0 u1 u2 u3 u4 u5 u6 : Value) : Below b w0 (put7 w g u0 u1 u2 u3 u4 u5 u6) :=
 ((((((h.setCell (p := ⟨g, 0, none⟩) hg u0).setCell (p := ⟨g, 1, none⟩) hg u1).setCell (p := ⟨g, 2, none⟩) hg u2).setCell (p := ⟨g, 3, none⟩) hg u3).setCell (p := ⟨g, 4, none⟩) hg u4).setCell (p := ⟨g, 5, none⟩) hg u5).setCell (p := ⟨g, 6, none⟩) hg u6
theorem drop_rd (S : List Int) (i : Nat) (h : i < S.length) : S.drop i = rd S i :: S.drop (i + 1) := by
 rw [List.drop_eq_getElem_cons h]
 congr 1
 unfold rd
 rw [Int.toNat_natCast, List.getD_eq_getElem?_getD, List.getElem?_eq_getElem h]
 rfl
theorem fence_same {T : List S39} {sp : List Int} {j : Nat} {Fj F : List S39} {Rj R : List Int} {x y : S39} (h : fenceS T (sp.drop j) Fj Rj = (F, R)) (hj : j < sp.length) (hx : rd_T39 Fj ((Fj.length : Int) - 1) = x) (hy : rd_T39 T (rd sp j) = y) (he : (cV x y == 0) = true) (hF : 0 < Fj.length) : fenceS T (sp.drop (j + 1)) Fj Rj = (F, R) := by
 rw [drop_rd sp j hj] at h
 unfold fenceS at h
 rw [if_pos (by rw [hx, hy, he, decide_eq_true hF]; rfl)] at h
 exact h
theorem fence_more {T : List S39} {sp : List Int} {j : Nat} {Fj F : List S39} {Rj R : List Int} {y : S39} (h : fenceS T (sp.drop j) Fj Rj = (F, R)) (hj : j < sp.length) (hy : rd_T39 T (rd sp j) = y) (he : (decide (0 < Fj.length) && (cV (rd_T39 Fj ((Fj.length : Int) - 1)) y == 0)) = false) :
  fenceS T (sp.drop (j + 1)) (Fj ++ [y]) (Rj ++ [(fromS T (rd sp j) (rd sp j).toNat : Int), (toS T (rd sp j) ((rd sp j).toNat + 1) (T.length - ((rd sp j).toNat + 1)) : Int)]) = (F, R) := by
 rw [drop_rd sp j hj] at h
 unfold fenceS at h
 rw [if_neg (by rw [hy, he]; simp), hy] at h
 exact h
theorem from_down {T : List S39} {kk : Int} {f r : Nat} (h : fromS T kk (f + 1) = r) (he : (cV (rd_T39 T f) (rd_T39 T kk) == 0) = true) : fromS T kk f = r := by unfold fromS at h; rw [if_pos he] at h; exact h
theorem from_stay {T : List S39} {kk : Int} {f r : Nat} (h : fromS T kk (f + 1) = r) (he : (cV (rd_T39 T f) (rd_T39 T kk) == 0) = false) : f + 1 = r := by unfold fromS at h; rw [if_neg (by rw [he]; simp)] at h; exact h
theorem to_up {T : List S39} {kk : Int} {t m r : Nat} (h : toS T kk t (m + 1) = r) (he : (cV (rd_T39 T t) (rd_T39 T kk) == 0) = true) : toS T kk (t + 1) m = r := by unfold toS at h; rw [if_pos he] at h; exact h
theorem to_stay {T : List S39} {kk : Int} {t m r : Nat} (h : toS T kk t (m + 1) = r) (he : (cV (rd_T39 T t) (rd_T39 T kk) == 0) = false) : t = r := by unfold toS at h; rw [if_neg (by rw [he]; simp)] at h; exact h
theorem to_le (T : List S39) (kk : Int) : ∀ m t, toS T kk t m ≤ t + m
 | 0, t => Nat.le_refl _
 | m + 1, t => by unfold toS; split; (have := to_le T kk m (t + 1); omega); omega
theorem from_le (T : List S39) (kk : Int) : ∀ f, fromS T kk f ≤ f
 | 0 => Nat.le_refl _
 | f + 1 => by unfold fromS; split; (have := from_le T kk f; omega); omega
end Go.Proofs.Ytackcingpffidaa.P
namespace Go.Proofs.Ytackcingpffidaa.P
open Go.RowKit Go.Proofs.YtackcingpffidaaW.PrintWords Go.Proofs.YtackcingpffidaaW.PrintLast Go.Proofs.YtackcingpffidaaW.PrintMore
attribute [local go_sem] max2_int min2_int max_two min_two max_three min_three max_four min_four Go.Proofs.YtackcingpffidaaQ.str_gtr Go.Proofs.YtackcingpffidaaQ.str_leq Go.Proofs.YtackcingpffidaaQ.str_geq   -- for this text's walks alone
set_option linter.unusedVariables false
set_option linter.unusedSimpArgs false
/-! ### varint_Encode: function 42 -/
def varint_Encode.l0 : Nat → Int → List Int → Option (List Int)
 | 0, _, _ => none
 | k + 1, x0, x3 => if x0 ≥ 128 then (if x3.length < 140737488355328 then (varint_Encode.l0 k (x0 / 128) (x3 ++ [Go.bits .or .u8 ((x0) % 256) 128])) else (none)) else (if x3.length < 140737488355328 then (some (x3 ++ [(x0) % 256])) else (none))
def varint_Encode.f (k : Nat) (a0 : Int) : Option (List Int) := varint_Encode.l0 k a0 ([] : List Int)
set_option maxHeartbeats 8000000 in
set_option maxRecDepth 100000 in
theorem varint_Encode.calls (k : Nat) (a0 : Int) (r : List Int) (w : World) (h : varint_Encode.f k a0 = some r) :
  Calls Try.prog 42 #[.int .u64 a0] w fun e w' => ∃ v0_ : Value, e = .returned (v0_) ∧ Kd.R (Kd.int .u8) 5 w' w.heap.size (fun _ => True) v0_ r ∧ Below w.heap.size w w' := by
 have HB := Aside0.mk (Below.refl w.heap.size w)
 have H : (varint_Encode.l0 k a0 ([] : List Int)) = some r := h
 clear h
 have H' := Aside0.mk H
 clear H
 go_enter Try.func42, Try.ntmps42
 go_wp2
 go_loopg [0, 3] k (fun kq v0 v3 w' => ∃ (x0_1 : Int) (x3_1 : List Int), v0 = .int .u64 x0_1 ∧ Aside0 (varint_Encode.l0 kq x0_1 x3_1 = some r) ∧ Aside0 (kq ≤ k) ∧ Aside0 (Kd.R (Kd.int .u8) 5 w' w.heap.size (fun _ => True) v3 x3_1) ∧ Aside0 (Below w.heap.size w w'))
 case atStart => exact ⟨(a0), (([] : List Int)), (by first | rfl | (simp; done) | (simp [*]; done)), H', ⟨Nat.le_refl _⟩, ⟨by first | exact Kd.R_nil _ _ _ _ _ | exact Kd.N_nil _ _ _ _ _ | exact Kd.V_nil _ _ _ _ _ | exact Kd.Q_nil _ _ _ _ _ | exact Kd.S_nil _ _ _ _ _⟩, ⟨(hb_ HB.out)⟩⟩
 case round =>
  clear H'
  obtain ⟨x0_1, x3_1, rfl, HA, HK1, HO_3, HB⟩ := hrel
  cases gk with
  | zero => exact absurd HA.out (by simp [varint_Encode.l0])
  | succ k1 =>
   have H := HA.out
   clear HA
   simp only [varint_Encode.l0] at H
   by_cases c2 : x0_1 ≥ 128
   ·rw [if_pos c2] at H
    have c2b0 : decide (128 ≤ x0_1) = true := decide_eq_true c2
    clear c2
    by_cases c3 : x3_1.length < 140737488355328
    ·rw [if_pos c3] at H
     have LMc3 := Aside0.mk c3
     clear c3
     obtain ⟨y376, hy376⟩ : ∃ y_ : List Int, y_ = (x3_1 ++ [Go.bits .or .u8 ((x0_1) % 256) 128]) := ⟨_, rfl⟩
     replace H : (varint_Encode.l0 k1 (x0_1 / 128) y376) = some r := by first | (rw [hy376]; with_reducible exact H) | (have H2_ := (Option.bind_some _ _).symm.trans H; rw [hy376]; with_reducible exact H2_) | (have H2_ := (Option.bind_some _ _).symm.trans H; with_reducible exact H2_) | with_reducible exact H | (rw [hy376]; exact H) | exact H
     have Ny376 := Aside0.mk hy376
     clear hy376
     have H' := Aside0.mk H
     clear H
     go_wp2_with (first | ((with_reducible refine gate_builtin (b := .append) (xs := #[.tmp 6, .tmp 10]) rfl ?_); at_builtin; refine Kd.R_append (Kd.int .u8) (w0 := w) w.heap.size rfl (.tmp 6) (.tmp 10) 27 5 (.int .u8 0) 1 rfl Try.underlying27 info5 rfl (by decide) (by omega) u3 x3_1 (Go.bits .or .u8 ((x0_1) % 256) 128) [.int .u8 (Go.bits .or .u8 ((x0_1) % 256) 128)] (fun _ => True) (fun _ => False) rfl rfl ?aP (fun _ hk => hk.elim) ?aF ?aO ?aB ?aS ?aL ?_; (case aP => exact rfl); (case aB => exact (hb_ HB.out)); (case aF => exact (fun _ _ => trivial)); (case aO => exact (ra_ HO_3.out)); (case aS => exact (below_size (hb_ HB.out))); (case aL => have := LMc3.out; omega); intro v377 w4 ho hb hg hat; rw [← Ny376.out] at ho; have n0_ := Aside0.mk (hb); have n1_ := Aside0.mk (ho); clear HB; clear HO_3; have HB := n0_; have HO378 := n1_; clear n0_ n1_; clear ho hb hg hat))
     go_roundg k1
     case measure => have := HK1.out; omega
     case rel => exact ⟨(x0_1 / 128), (y376), (by first | rfl | (simp; done) | (simp [*]; done)), H', ⟨by have := HK1.out; omega⟩, ⟨by (with_reducible repeat (first | apply Kd.R_alloc | apply Kd.R_drewN | apply Kd.R_drew)); exact HO378.out⟩, ⟨(hb_ HB.out)⟩⟩
    ·rw [if_neg c3] at H
     exact absurd H (by simp)
   ·rw [if_neg c2] at H
    have c2b0 : decide (128 ≤ x0_1) = false := decide_eq_false c2
    clear c2
    by_cases c5 : x3_1.length < 140737488355328
    ·rw [if_pos c5] at H
     have LMc5 := Aside0.mk c5
     clear c5
     obtain ⟨y379, hy379⟩ : ∃ y_ : List Int, y_ = (x3_1 ++ [(x0_1) % 256]) := ⟨_, rfl⟩
     replace H : (some y379) = some r := by first | (rw [hy379]; with_reducible exact H) | (have H2_ := (Option.bind_some _ _).symm.trans H; rw [hy379]; with_reducible exact H2_) | (have H2_ := (Option.bind_some _ _).symm.trans H; with_reducible exact H2_) | with_reducible exact H | (rw [hy379]; exact H) | exact H
     have Ny379 := Aside0.mk hy379
     clear hy379
     obtain rfl := Option.some.inj H
     go_wp2_with (first | ((with_reducible refine gate_builtin (b := .append) (xs := #[.tmp 14, .tmp 17]) rfl ?_); at_builtin; refine Kd.R_append (Kd.int .u8) (w0 := w) w.heap.size rfl (.tmp 14) (.tmp 17) 27 5 (.int .u8 0) 1 rfl Try.underlying27 info5 rfl (by decide) (by omega) u3 x3_1 ((x0_1) % 256) [.int .u8 ((x0_1) % 256)] (fun _ => True) (fun _ => False) rfl rfl ?aP (fun _ hk => hk.elim) ?aF ?aO ?aB ?aS ?aL ?_; (case aP => exact rfl); (case aB => exact (hb_ HB.out)); (case aF => exact (fun _ _ => trivial)); (case aO => exact (ra_ HO_3.out)); (case aS => exact (below_size (hb_ HB.out))); (case aL => have := LMc5.out; omega); intro v380 w6 ho hb hg hat; rw [← Ny379.out] at ho; have n0_ := Aside0.mk (hb); have n1_ := Aside0.mk (ho); clear HB; clear HO_3; have HB := n0_; have HO381 := n1_; clear n0_ n1_; clear ho hb hg hat))
     go_ret
     exact ⟨_, by first | rfl | (simp [errW_none, errW_some] <;> rfl) | (simp [*, errW_none, errW_some] <;> rfl), by (with_reducible repeat (first | apply Kd.R_alloc | apply Kd.R_drewN | apply Kd.R_drew)); exact HO381.out, (hb_ HB.out)⟩
    ·rw [if_neg c5] at H
     exact absurd H (by simp)
/-! ### varint_ZigZag: function 91 -/
def varint_ZigZag.f (a0 : Int) : Option (Int) := some (Go.bits .xor .u64 (IntKind.u64.wrap ((IntKind.u64.wrap (a0)) * 2)) (IntKind.u64.wrap (a0 / 9223372036854775808)))
set_option maxHeartbeats 8000000 in
set_option maxRecDepth 100000 in
theorem varint_ZigZag.calls (a0 : Int) (r : Int) (w : World) (h : varint_ZigZag.f a0 = some r) :
  Calls Try.prog 91 #[.int .i64 a0] w fun e w' => e = .returned (.int .u64 r) ∧ Drawn0 w w' := by
 have H : (some (Go.bits .xor .u64 (IntKind.u64.wrap ((IntKind.u64.wrap (a0)) * 2)) (IntKind.u64.wrap (a0 / 9223372036854775808)))) = some r := h
 clear h
 obtain rfl := Option.some.inj H
 go_enter Try.func91, Try.ntmps91
 go_wp2
 go_ret
 exact ⟨by first | rfl | (simp; done) | (simp [*]; done), by repeat (first | exact Drawn0.refl _ | apply Drawn0.step)⟩
/-! ### value_Encode: function 43 -/
def value_Encode.f (k : Nat) (a0_0 : Int) (a0_1 : Int) (a0_2 : ByteArray) : Option (List Int) := (some (([(a0_0) % 256] : List Int) : List Int)).bind fun y383 => (if a0_0 = 1 then (if y383.length < 140737488355328 then (some (y383 ++ [(a0_1) % 256])) else (none)) else (if a0_0 = 2 then ((varint_ZigZag.f a0_1).bind fun t389 => ((varint_Encode.f k t389).bind fun t390 => (if y383.length + t390.length < 140737488355328 then (some (y383 ++ t390)) else (none)))) else (if a0_0 = 3 then ((varint_Encode.f k (IntKind.u64.wrap ((a0_2.size : Int)))).bind fun t396 => (if y383.length + t396.length < 140737488355328 then ((some (y383 ++ t396 : List Int)).bind fun y399 => (if y399.length + a0_2.size < 140737488355328 then (some (y399 ++ bytesOf a0_2)) else (none))) else (none))) else (some y383))))
set_option maxHeartbeats 8000000 in
set_option maxRecDepth 100000 in
theorem value_Encode.calls (k : Nat) (a0_0 : Int) (a0_1 : Int) (a0_2 : ByteArray) (r : List Int) (w : World) (h : value_Encode.f k a0_0 a0_1 a0_2 = some r) :
  Calls Try.prog 43 #[.agg #[.int .i64 a0_0, .int .i64 a0_1, .string a0_2]] w fun e w' => ∃ v0_ : Value, e = .returned (v0_) ∧ Kd.R (Kd.int .u8) 5 w' w.heap.size (fun _ => True) v0_ r ∧ Below w.heap.size w w' := by
 have hu39 := Try.underlying39
 have HB := Aside0.mk (Below.refl w.heap.size w)
 have H : ((some (([(a0_0) % 256] : List Int) : List Int)).bind fun y383 => (if a0_0 = 1 then (if y383.length < 140737488355328 then (some (y383 ++ [(a0_1) % 256])) else (none)) else (if a0_0 = 2 then ((varint_ZigZag.f a0_1).bind fun t389 => ((varint_Encode.f k t389).bind fun t390 => (if y383.length + t390.length < 140737488355328 then (some (y383 ++ t390)) else (none)))) else (if a0_0 = 3 then ((varint_Encode.f k (IntKind.u64.wrap ((a0_2.size : Int)))).bind fun t396 => (if y383.length + t396.length < 140737488355328 then ((some (y383 ++ t396 : List Int)).bind fun y399 => (if y399.length + a0_2.size < 140737488355328 then (some (y399 ++ bytesOf a0_2)) else (none))) else (none))) else (some y383))))) = some r := h
 clear h
 obtain ⟨y383, hy383⟩ : ∃ y_ : List Int, y_ = (([(a0_0) % 256] : List Int)) := ⟨_, rfl⟩
 replace H : (if a0_0 = 1 then (if y383.length < 140737488355328 then (some (y383 ++ [(a0_1) % 256])) else (none)) else (if a0_0 = 2 then ((varint_ZigZag.f a0_1).bind fun t389 => ((varint_Encode.f k t389).bind fun t390 => (if y383.length + t390.length < 140737488355328 then (some (y383 ++ t390)) else (none)))) else (if a0_0 = 3 then ((varint_Encode.f k (IntKind.u64.wrap ((a0_2.size : Int)))).bind fun t396 => (if y383.length + t396.length < 140737488355328 then ((some (y383 ++ t396 : List Int)).bind fun y399 => (if y399.length + a0_2.size < 140737488355328 then (some (y399 ++ bytesOf a0_2)) else (none))) else (none))) else (some y383)))) = some r := by first | (rw [hy383]; with_reducible exact H) | (have H2_ := (Option.bind_some _ _).symm.trans H; rw [hy383]; with_reducible exact H2_) | (have H2_ := (Option.bind_some _ _).symm.trans H; with_reducible exact H2_) | with_reducible exact H | (rw [hy383]; exact H) | exact H
 have Ny383 := Aside0.mk hy383
 clear hy383
 by_cases c2 : a0_0 = 1
 ·rw [if_pos c2] at H
  have c2b0 : (a0_0 == 1) = true := beq_iff_eq.mpr c2
  have c2b1 : (a0_0 != 1) = false := bne_eq_false_iff_eq.mpr c2
  clear c2
  by_cases c3 : y383.length < 140737488355328
  ·rw [if_pos c3] at H
   have LMc3 := Aside0.mk c3
   clear c3
   obtain ⟨y386, hy386⟩ : ∃ y_ : List Int, y_ = (y383 ++ [(a0_1) % 256]) := ⟨_, rfl⟩
   replace H : (some y386) = some r := by first | (rw [hy386]; with_reducible exact H) | (have H2_ := (Option.bind_some _ _).symm.trans H; rw [hy386]; with_reducible exact H2_) | (have H2_ := (Option.bind_some _ _).symm.trans H; with_reducible exact H2_) | with_reducible exact H | (rw [hy386]; exact H) | exact H
   have Ny386 := Aside0.mk hy386
   clear hy386
   obtain rfl := Option.some.inj H
   go_enter Try.func43, Try.ntmps43
   go_wp2_with (first | ((with_reducible refine gate_dst (N := 1) rfl ?_); refine box_ 1 (cs := #[.int .i64 a0_0, .int .i64 a0_1, .string a0_2]) (t := 39) ?_; intro gb382 hg w4 hbox hb; have BK382 := Aside0.mk (hbox); have GW382 := Aside0.mk ((by rw [hg]; exact (below_size (hb_ HB.out)) : w.heap.size ≤ gb382)); have GE382 := Aside0.mk ((by rw [hg]; exact (below_size (hb_ HB.out)) : w.heap.size ≤ gb382)); replace HB := Aside0.mk (below_step (hb_ HB.out) hb); clear hb hbox hg; obtain ⟨hcz5_0, hcz5_1, hcz5_2, hfz5_0, hfz5_1, hfz5_2⟩ := bf3 BK382.out) | ((with_reducible refine gate_dst (N := 7) rfl ?_); refine Kd.R_lit (Kd.int .u8) _ 5 ?hg (N := 7) ?hd (xs := ([(a0_0) % 256] : List Int)) (inner := [.int .u8 ((a0_0) % 256)]) (ok := fun _ => True) (okp := fun _ => True) ?hr ?hp (fun _ hk => hk) trivial (Below.refl _ _) (Nat.le_refl _) (by simp) ?_; (case hd => rfl); (case hg => rfl); (case hr => first | (go_simp; done) | (go_simp; rfl)); (case hp => exact (Reps.one (show Kd.M (Kd.int .u8) _ _ _ ((a0_0) % 256) [.int .u8 ((a0_0) % 256)] from rfl) (Reps.none _ _))); intro v384 w6 ho7 hb hg_ hnew_; clear hg_ hnew_; (first | rw [← Ny383.out] at ho7 | (simp only [Int.reduceToNat] at ho7; rw [← Ny383.out] at ho7)); have HO385 := Aside0.mk (Kd.R_lower ho7 (below_size (hb1_ HB.out GE382.out))); replace BK382 := Aside0.mk (blk_below (bk_ BK382.out) hb); replace HB := Aside0.mk (below_step (hb1_ HB.out GE382.out) hb); clear hb ho7; obtain ⟨hcz8_0, hcz8_1, hcz8_2, hfz8_0, hfz8_1, hfz8_2⟩ := bf3 BK382.out) | ((with_reducible refine gate_builtin (b := .append) (xs := #[.tmp 12, .tmp 16]) rfl ?_); at_builtin; refine Kd.R_append (Kd.int .u8) (w0 := w) w.heap.size rfl (.tmp 12) (.tmp 16) 27 5 (.int .u8 0) 1 rfl Try.underlying27 info5 rfl (by decide) (by omega) v384 y383 ((a0_1) % 256) [.int .u8 ((a0_1) % 256)] (fun _ => True) (fun _ => False) rfl rfl ?aP (fun _ hk => hk.elim) ?aF ?aO ?aB ?aS ?aL ?_; (case aP => exact rfl); (case aB => exact (hb1_ HB.out GE382.out)); (case aF => exact (fun _ _ => trivial)); (case aO => exact (ra_ HO385.out)); (case aS => exact (below_size (hb1_ HB.out GE382.out))); (case aL => have := LMc3.out; omega); intro v387 w9 ho hb hg hat; rw [← Ny386.out] at ho; have n0_ := Aside0.mk (blk_grown (g := gb382) (o := .cells #[.int .i64 a0_0, .int .i64 a0_1, .string a0_2] 39 (0, 0)) (bk_ BK382.out) hg (Kd.R_ne HO385.out BK382.out (by decide))); have n1_ := Aside0.mk (hb); have n2_ := Aside0.mk (ho); clear BK382; clear HB; clear HO385; have BK382 := n0_; have HB := n1_; have HO388 := n2_; clear n0_ n1_ n2_; clear ho hb hg hat))
   go_ret
   exact ⟨_, by first | rfl | (simp [errW_none, errW_some] <;> rfl) | (simp [*, errW_none, errW_some] <;> rfl), by (with_reducible repeat (first | apply Kd.R_alloc | apply Kd.R_drewN | apply Kd.R_drew)); exact HO388.out, (hb1_ HB.out GE382.out)⟩
  ·rw [if_neg c3] at H
   exact absurd H (by simp)
 ·rw [if_neg c2] at H
  have c2b0 : (a0_0 == 1) = false := beq_eq_false_iff_ne.mpr c2
  have c2b1 : (a0_0 != 1) = true := bne_iff_ne.mpr c2
  by_cases c10 : a0_0 = 2
  ·rw [if_pos c10] at H
   have c10b0 : (a0_0 == 2) = true := beq_iff_eq.mpr c10
   have c10b1 : (a0_0 != 2) = false := bne_eq_false_iff_eq.mpr c10
   clear c10
   replace H := Option.bind_eq_some_iff.mp H
   obtain ⟨t389, A110, H⟩ := H
   replace H : ((varint_Encode.f k t389).bind fun t390 => (if y383.length + t390.length < 140737488355328 then (some (y383 ++ t390)) else (none))) = some r := H
   have A11 := Aside0.mk A110
   clear A110
   replace H := Option.bind_eq_some_iff.mp H
   obtain ⟨t390, A120, H⟩ := H
   replace H : (if y383.length + t390.length < 140737488355328 then (some (y383 ++ t390)) else (none)) = some r := H
   have A12 := Aside0.mk A120
   clear A120
   by_cases c13 : y383.length + t390.length < 140737488355328
   ·rw [if_pos c13] at H
    have LMc13 := Aside0.mk c13
    clear c13
    obtain ⟨y393, hy393⟩ : ∃ y_ : List Int, y_ = (y383 ++ t390) := ⟨_, rfl⟩
    replace H : (some y393) = some r := by first | (rw [hy393]; with_reducible exact H) | (have H2_ := (Option.bind_some _ _).symm.trans H; rw [hy393]; with_reducible exact H2_) | (have H2_ := (Option.bind_some _ _).symm.trans H; with_reducible exact H2_) | with_reducible exact H | (rw [hy393]; exact H) | exact H
    have Ny393 := Aside0.mk hy393
    clear hy393
    obtain rfl := Option.some.inj H
    go_enter Try.func43, Try.ntmps43
    go_wp2_with (first | ((with_reducible refine gate_dst (N := 1) rfl ?_); refine box_ 1 (cs := #[.int .i64 a0_0, .int .i64 a0_1, .string a0_2]) (t := 39) ?_; intro gb382 hg w14 hbox hb; have BK382 := Aside0.mk (hbox); have GW382 := Aside0.mk ((by rw [hg]; exact (below_size (hb_ HB.out)) : w.heap.size ≤ gb382)); have GE382 := Aside0.mk ((by rw [hg]; exact (below_size (hb_ HB.out)) : w.heap.size ≤ gb382)); replace HB := Aside0.mk (below_step (hb_ HB.out) hb); clear hb hbox hg; obtain ⟨hcz15_0, hcz15_1, hcz15_2, hfz15_0, hfz15_1, hfz15_2⟩ := bf3 BK382.out) | ((with_reducible refine gate_dst (N := 7) rfl ?_); refine Kd.R_lit (Kd.int .u8) _ 5 ?hg (N := 7) ?hd (xs := ([(a0_0) % 256] : List Int)) (inner := [.int .u8 ((a0_0) % 256)]) (ok := fun _ => True) (okp := fun _ => True) ?hr ?hp (fun _ hk => hk) trivial (Below.refl _ _) (Nat.le_refl _) (by simp) ?_; (case hd => rfl); (case hg => rfl); (case hr => first | (go_simp; done) | (go_simp; rfl)); (case hp => exact (Reps.one (show Kd.M (Kd.int .u8) _ _ _ ((a0_0) % 256) [.int .u8 ((a0_0) % 256)] from rfl) (Reps.none _ _))); intro v384 w16 ho17 hb hg_ hnew_; clear hg_ hnew_; (first | rw [← Ny383.out] at ho17 | (simp only [Int.reduceToNat] at ho17; rw [← Ny383.out] at ho17)); have HO385 := Aside0.mk (Kd.R_lower ho17 (below_size (hb1_ HB.out GE382.out))); replace BK382 := Aside0.mk (blk_below (bk_ BK382.out) hb); replace HB := Aside0.mk (below_step (hb1_ HB.out GE382.out) hb); clear hb ho17; obtain ⟨hcz18_0, hcz18_1, hcz18_2, hfz18_0, hfz18_1, hfz18_2⟩ := bf3 BK382.out) | ((with_reducible refine gate_callee (f := 91) rfl ?_); refine goesL_ (some 23) rfl rfl Try.func91 (by kernel_rfl) rfl #[.int .i64 a0_1] rfl (by (try simp only [List.map_toArray, List.map_cons, List.map_nil]); first | done | rfl | (simp only [List.length_drop, List.length_take]; rfl) | (simp only [Int.ofNat_lt, Int.ofNat_le, gt_iff_lt, ge_iff_le]; rfl)) ?_; (with_reducible refine (varint_ZigZag.calls a0_1 t389 _ A11.out).mono ?_); rintro e w' ⟨rfl, ⟨nd, rfl⟩⟩; refine ⟨_, rfl, ?_⟩) | ((with_reducible refine gate_callee (f := 42) rfl ?_); refine goesL_ (some 24) rfl rfl Try.func42 (by kernel_rfl) rfl #[.int .u64 t389] rfl (by (try simp only [List.map_toArray, List.map_cons, List.map_nil]); first | done | rfl | (simp only [List.length_drop, List.length_take]; rfl) | (simp only [Int.ofNat_lt, Int.ofNat_le, gt_iff_lt, ge_iff_le]; rfl)) ?_; (with_reducible refine (varint_Encode.calls k t389 t390 _ A12.out).mono ?_); rintro e w19 ⟨v391, rfl, ho0, hb⟩; refine ⟨_, rfl, ?_⟩; have HO392 := Aside0.mk (Kd.R_lower (Kd.R_new' ho0 (Kd.R_lt (ra_ HO385.out))) (below_size (hb1_ HB.out GE382.out))); replace HO385 := Aside0.mk (Kd.R_elder' (ra_ HO385.out) (Kd.R_base ho0) hb); replace BK382 := Aside0.mk (blk_below (bk_ BK382.out) hb); replace HB := Aside0.mk (below_step (hb1_ HB.out GE382.out) hb); (try clear hb); (try clear ho0); obtain ⟨Ao21, co21, eo21⟩ := Kd.R_slice HO392.out; subst eo21) | ((with_reducible refine gate_builtin (b := .append) (xs := #[.tmp 20, .tmp 24]) rfl ?_); at_builtin; refine Kd.R_append_rows (Kd.int .u8) (w0 := w) w.heap.size rfl (.tmp 20) (.tmp 24) 27 5 (.int .u8 0) 1 rfl Try.underlying27 info5 rfl (by decide) (by omega) v384 y383 t390 _ _ _ (fun k_ => some k_ ≠ (.slice Ao21 t390.length co21 : Value).ownBlock) (fun _ => False) rfl rfl ?aO ?aR (fun _ _ h => h) (fun _ h => h.elim) ?aF ?aB ?aS ?aL ?_; (case aR => repeat (first | exact (Kd.R_reads' HO392.out).2.2 | (with_reducible refine Kd.C_alloc ?_ _) | (with_reducible refine Kd.C_drewN ?_ _) | (with_reducible refine Kd.C_drew ?_))); (case aB => exact (hb1_ HB.out GE382.out)); (case aF => exact (fun k_ hk => Kd.fresh' (Kd.R_lt (ra_ HO392.out)) k_ hk)); (case aO => exact (by (with_reducible repeat (first | apply Kd.R_alloc | apply Kd.R_drewN | apply Kd.R_drew)); exact Kd.R_mono HO385.out (fun _ hk => hk.2))); (case aS => exact (below_size (hb1_ HB.out GE382.out))); (case aL => have := LMc13.out; omega); intro v394 w20 ho hb hg hat; rw [← Ny393.out] at ho; have n0_ := Aside0.mk (blk_grown (g := gb382) (o := .cells #[.int .i64 a0_0, .int .i64 a0_1, .string a0_2] 39 (0, 0)) (bk_ BK382.out) hg (Kd.R_ne HO385.out BK382.out (by decide))); have n1_ := Aside0.mk (Kd.R_after (ok := (fun _ => True)) (ra_ HO392.out) hg hat); have n2_ := Aside0.mk (hb); have n3_ := Aside0.mk (ho); clear BK382; clear HO392; clear HB; clear HO385; have BK382 := n0_; have HO392 := n1_; have HB := n2_; have HO395 := n3_; clear n0_ n1_ n2_ n3_; clear ho hb hg hat))
    go_ret
    exact ⟨_, by first | rfl | (simp [errW_none, errW_some] <;> rfl) | (simp [*, errW_none, errW_some] <;> rfl), by (with_reducible repeat (first | apply Kd.R_alloc | apply Kd.R_drewN | apply Kd.R_drew)); exact Kd.R_mono HO395.out (fun _ hk => trivial), (hb1_ HB.out GE382.out)⟩
   ·rw [if_neg c13] at H
    exact absurd H (by simp)
  ·rw [if_neg c10] at H
   have c10b0 : (a0_0 == 2) = false := beq_eq_false_iff_ne.mpr c10
   have c10b1 : (a0_0 != 2) = true := bne_iff_ne.mpr c10
   by_cases c22 : a0_0 = 3
   ·rw [if_pos c22] at H
    have c22b0 : (a0_0 == 3) = true := beq_iff_eq.mpr c22
    have c22b1 : (a0_0 != 3) = false := bne_eq_false_iff_eq.mpr c22
    clear c22
    replace H := Option.bind_eq_some_iff.mp H
    obtain ⟨t396, A230, H⟩ := H
    replace H : (if y383.length + t396.length < 140737488355328 then ((some (y383 ++ t396 : List Int)).bind fun y399 => (if y399.length + a0_2.size < 140737488355328 then (some (y399 ++ bytesOf a0_2)) else (none))) else (none)) = some r := H
    have A23 := Aside0.mk A230
    clear A230
    by_cases c24 : y383.length + t396.length < 140737488355328
    ·rw [if_pos c24] at H
     have LMc24 := Aside0.mk c24
     clear c24
     obtain ⟨y399, hy399⟩ : ∃ y_ : List Int, y_ = (y383 ++ t396) := ⟨_, rfl⟩
     replace H : (if y399.length + a0_2.size < 140737488355328 then (some (y399 ++ bytesOf a0_2)) else (none)) = some r := by first | (rw [hy399]; with_reducible exact H) | (have H2_ := (Option.bind_some _ _).symm.trans H; rw [hy399]; with_reducible exact H2_) | (have H2_ := (Option.bind_some _ _).symm.trans H; with_reducible exact H2_) | with_reducible exact H | (rw [hy399]; exact H) | exact H
     have Ny399 := Aside0.mk hy399
     clear hy399
     by_cases c25 : y399.length + a0_2.size < 140737488355328
     ·rw [if_pos c25] at H
      have LMc25 := Aside0.mk c25
      clear c25
      obtain ⟨y402, hy402⟩ : ∃ y_ : List Int, y_ = (y399 ++ bytesOf a0_2) := ⟨_, rfl⟩
      replace H : (some y402) = some r := by first | (rw [hy402]; with_reducible exact H) | (have H2_ := (Option.bind_some _ _).symm.trans H; rw [hy402]; with_reducible exact H2_) | (have H2_ := (Option.bind_some _ _).symm.trans H; with_reducible exact H2_) | with_reducible exact H | (rw [hy402]; exact H) | exact H
      have Ny402 := Aside0.mk hy402
      clear hy402
      obtain rfl := Option.some.inj H
      go_enter Try.func43, Try.ntmps43
      go_wp2_with (first | ((with_reducible refine gate_dst (N := 1) rfl ?_); refine box_ 1 (cs := #[.int .i64 a0_0, .int .i64 a0_1, .string a0_2]) (t := 39) ?_; intro gb382 hg w26 hbox hb; have BK382 := Aside0.mk (hbox); have GW382 := Aside0.mk ((by rw [hg]; exact (below_size (hb_ HB.out)) : w.heap.size ≤ gb382)); have GE382 := Aside0.mk ((by rw [hg]; exact (below_size (hb_ HB.out)) : w.heap.size ≤ gb382)); replace HB := Aside0.mk (below_step (hb_ HB.out) hb); clear hb hbox hg; obtain ⟨hcz27_0, hcz27_1, hcz27_2, hfz27_0, hfz27_1, hfz27_2⟩ := bf3 BK382.out) | ((with_reducible refine gate_dst (N := 7) rfl ?_); refine Kd.R_lit (Kd.int .u8) _ 5 ?hg (N := 7) ?hd (xs := ([(a0_0) % 256] : List Int)) (inner := [.int .u8 ((a0_0) % 256)]) (ok := fun _ => True) (okp := fun _ => True) ?hr ?hp (fun _ hk => hk) trivial (Below.refl _ _) (Nat.le_refl _) (by simp) ?_; (case hd => rfl); (case hg => rfl); (case hr => first | (go_simp; done) | (go_simp; rfl)); (case hp => exact (Reps.one (show Kd.M (Kd.int .u8) _ _ _ ((a0_0) % 256) [.int .u8 ((a0_0) % 256)] from rfl) (Reps.none _ _))); intro v384 w28 ho29 hb hg_ hnew_; clear hg_ hnew_; (first | rw [← Ny383.out] at ho29 | (simp only [Int.reduceToNat] at ho29; rw [← Ny383.out] at ho29)); have HO385 := Aside0.mk (Kd.R_lower ho29 (below_size (hb1_ HB.out GE382.out))); replace BK382 := Aside0.mk (blk_below (bk_ BK382.out) hb); replace HB := Aside0.mk (below_step (hb1_ HB.out GE382.out) hb); clear hb ho29; obtain ⟨hcz30_0, hcz30_1, hcz30_2, hfz30_0, hfz30_1, hfz30_2⟩ := bf3 BK382.out) | ((with_reducible refine gate_callee (f := 42) rfl ?_); refine goesL_ (some 33) rfl rfl Try.func42 (by kernel_rfl) rfl #[.int .u64 (IntKind.u64.wrap ((a0_2.size : Int)))] rfl (by (try simp only [List.map_toArray, List.map_cons, List.map_nil]); first | done | rfl | (simp only [List.length_drop, List.length_take]; rfl) | (simp only [Int.ofNat_lt, Int.ofNat_le, gt_iff_lt, ge_iff_le]; rfl)) ?_; (with_reducible refine (varint_Encode.calls k (IntKind.u64.wrap ((a0_2.size : Int))) t396 _ A23.out).mono ?_); rintro e w31 ⟨v397, rfl, ho0, hb⟩; refine ⟨_, rfl, ?_⟩; have HO398 := Aside0.mk (Kd.R_lower (Kd.R_new' ho0 (Kd.R_lt (ra_ HO385.out))) (below_size (hb1_ HB.out GE382.out))); replace HO385 := Aside0.mk (Kd.R_elder' (ra_ HO385.out) (Kd.R_base ho0) hb); replace BK382 := Aside0.mk (blk_below (bk_ BK382.out) hb); replace HB := Aside0.mk (below_step (hb1_ HB.out GE382.out) hb); (try clear hb); (try clear ho0); obtain ⟨Ao33, co33, eo33⟩ := Kd.R_slice HO398.out; subst eo33) | ((with_reducible refine gate_builtin (b := .append) (xs := #[.tmp 28, .tmp 33]) rfl ?_); at_builtin; refine Kd.R_append_rows (Kd.int .u8) (w0 := w) w.heap.size rfl (.tmp 28) (.tmp 33) 27 5 (.int .u8 0) 1 rfl Try.underlying27 info5 rfl (by decide) (by omega) v384 y383 t396 _ _ _ (fun k_ => some k_ ≠ (.slice Ao33 t396.length co33 : Value).ownBlock) (fun _ => False) rfl rfl ?aO ?aR (fun _ _ h => h) (fun _ h => h.elim) ?aF ?aB ?aS ?aL ?_; (case aR => repeat (first | exact (Kd.R_reads' HO398.out).2.2 | (with_reducible refine Kd.C_alloc ?_ _) | (with_reducible refine Kd.C_drewN ?_ _) | (with_reducible refine Kd.C_drew ?_))); (case aB => exact (hb1_ HB.out GE382.out)); (case aF => exact (fun k_ hk => Kd.fresh' (Kd.R_lt (ra_ HO398.out)) k_ hk)); (case aO => exact (by (with_reducible repeat (first | apply Kd.R_alloc | apply Kd.R_drewN | apply Kd.R_drew)); exact Kd.R_mono HO385.out (fun _ hk => hk.2))); (case aS => exact (below_size (hb1_ HB.out GE382.out))); (case aL => have := LMc24.out; omega); intro v400 w32 ho hb hg hat; rw [← Ny399.out] at ho; have n0_ := Aside0.mk (blk_grown (g := gb382) (o := .cells #[.int .i64 a0_0, .int .i64 a0_1, .string a0_2] 39 (0, 0)) (bk_ BK382.out) hg (Kd.R_ne HO385.out BK382.out (by decide))); have n1_ := Aside0.mk (Kd.R_after (ok := (fun _ => True)) (ra_ HO398.out) hg hat); have n2_ := Aside0.mk (hb); have n3_ := Aside0.mk (ho); clear BK382; clear HO398; clear HB; clear HO385; have BK382 := n0_; have HO398 := n1_; have HB := n2_; have HO401 := n3_; clear n0_ n1_ n2_ n3_; clear ho hb hg hat; obtain ⟨hcz34_0, hcz34_1, hcz34_2, hfz34_0, hfz34_1, hfz34_2⟩ := bf3 BK382.out) | (at_builtin; refine print_append_str (w0 := w) w.heap.size rfl (.tmp 35) _ 27 9 5 rfl Try.underlying27 Try.underlying9 info5 v400 y399 a0_2 rfl rfl ?aO ?aB ?aS ?aL ?_; (case aB => exact (hb1_ HB.out GE382.out)); (case aO => exact (Kd.own_of_R (by (with_reducible repeat (first | apply Kd.R_alloc | apply Kd.R_drewN | apply Kd.R_drew)); exact Kd.R_mono HO401.out (fun _ hk => trivial)))); (case aS => exact (below_size (hb1_ HB.out GE382.out))); (case aL => have := LMc25.out; omega); intro v403 w35 ho0 hb hg; have ho := Kd.R_of_own (h1 := fun _ => rfl) (ok := fun _ => True) ho0 (fun _ _ => trivial); clear ho0; have hat := True.intro; rw [← Ny402.out] at ho; change Kd.R (Kd.int .u8) 5 w35 w.heap.size (fun _ => True) v403 y402 at ho; have n0_ := Aside0.mk (blk_grown (g := gb382) (o := .cells #[.int .i64 a0_0, .int .i64 a0_1, .string a0_2] 39 (0, 0)) (bk_ BK382.out) hg (Kd.R_ne HO401.out BK382.out (by decide))); have n1_ := Aside0.mk (hb); have n2_ := Aside0.mk (ho); clear BK382; clear HB; clear HO401; have BK382 := n0_; have HB := n1_; have HO404 := n2_; clear n0_ n1_ n2_; clear ho hb hg hat))
      go_ret
      exact ⟨_, by first | rfl | (simp [errW_none, errW_some] <;> rfl) | (simp [*, errW_none, errW_some] <;> rfl), by (with_reducible repeat (first | apply Kd.R_alloc | apply Kd.R_drewN | apply Kd.R_drew)); exact HO404.out, (hb1_ HB.out GE382.out)⟩
     ·rw [if_neg c25] at H
      exact absurd H (by simp)
    ·rw [if_neg c24] at H
     exact absurd H (by simp)
   ·rw [if_neg c22] at H
    have c22b0 : (a0_0 == 3) = false := beq_eq_false_iff_ne.mpr c22
    have c22b1 : (a0_0 != 3) = true := bne_iff_ne.mpr c22
    obtain rfl := Option.some.inj H
    go_enter Try.func43, Try.ntmps43
    go_wp2_with (first | ((with_reducible refine gate_dst (N := 1) rfl ?_); refine box_ 1 (cs := #[.int .i64 a0_0, .int .i64 a0_1, .string a0_2]) (t := 39) ?_; intro gb382 hg w36 hbox hb; have BK382 := Aside0.mk (hbox); have GW382 := Aside0.mk ((by rw [hg]; exact (below_size (hb_ HB.out)) : w.heap.size ≤ gb382)); have GE382 := Aside0.mk ((by rw [hg]; exact (below_size (hb_ HB.out)) : w.heap.size ≤ gb382)); replace HB := Aside0.mk (below_step (hb_ HB.out) hb); clear hb hbox hg; obtain ⟨hcz37_0, hcz37_1, hcz37_2, hfz37_0, hfz37_1, hfz37_2⟩ := bf3 BK382.out) | ((with_reducible refine gate_dst (N := 7) rfl ?_); refine Kd.R_lit (Kd.int .u8) _ 5 ?hg (N := 7) ?hd (xs := ([(a0_0) % 256] : List Int)) (inner := [.int .u8 ((a0_0) % 256)]) (ok := fun _ => True) (okp := fun _ => True) ?hr ?hp (fun _ hk => hk) trivial (Below.refl _ _) (Nat.le_refl _) (by simp) ?_; (case hd => rfl); (case hg => rfl); (case hr => first | (go_simp; done) | (go_simp; rfl)); (case hp => exact (Reps.one (show Kd.M (Kd.int .u8) _ _ _ ((a0_0) % 256) [.int .u8 ((a0_0) % 256)] from rfl) (Reps.none _ _))); intro v384 w38 ho39 hb hg_ hnew_; clear hg_ hnew_; (first | rw [← Ny383.out] at ho39 | (simp only [Int.reduceToNat] at ho39; rw [← Ny383.out] at ho39)); have HO385 := Aside0.mk (Kd.R_lower ho39 (below_size (hb1_ HB.out GE382.out))); replace BK382 := Aside0.mk (blk_below (bk_ BK382.out) hb); replace HB := Aside0.mk (below_step (hb1_ HB.out GE382.out) hb); clear hb ho39; obtain ⟨hcz40_0, hcz40_1, hcz40_2, hfz40_0, hfz40_1, hfz40_2⟩ := bf3 BK382.out))
    go_ret
    exact ⟨_, by first | rfl | (simp [errW_none, errW_some] <;> rfl) | (simp [*, errW_none, errW_some] <;> rfl), by (with_reducible repeat (first | apply Kd.R_alloc | apply Kd.R_drewN | apply Kd.R_drew)); exact HO385.out, (hb1_ HB.out GE382.out)⟩
end Go.Proofs.Ytackcingpffidaa.P
namespace Go.Proofs.Ytackcingpffidaa.P
open Go.RowKit Go.Proofs.YtackcingpffidaaW.PrintWords Go.Proofs.YtackcingpffidaaW.PrintLast Go.Proofs.YtackcingpffidaaW.PrintMore
set_option linter.unusedVariables false
set_option linter.unusedSimpArgs false
def f41_T0 : Bool × List (List Nat × List Nat) := (true, [([], []), ([], []), ([1], [1]), ([0, 2, 2], [0, 2]), ([3, 3, 0, 1, 2, 3], [3])])
def f41_B0 : List Nat := [0, 0, 2, 7, 15]
set_option maxRecDepth 100000 in
theorem f41_tab0 : rtab .any (opsOf Try.f41 0) = f41_T0 := by kernel_rfl
theorem f41_bits0 : waitsOk f41_T0.2 f41_B0 = true := by kernel_rfl
set_option maxHeartbeats 4000000 in
set_option maxRecDepth 100000 in
theorem f41_calls (k : Nat) (x : Int) (r : List Int) (w0 w : World) (g : Nat) (A : Option Addr) (c : Nat) (xs : List Int) (ok : Nat → Prop) (hO : Kd.R (Kd.int .u8) 5 w w0.heap.size ok (.slice A xs.length c) xs) (hG : w.heap[g]? = some (.cells #[.slice A xs.length c] 27 (0, 0))) (hB : Below w0.heap.size w0 w) (hg : w0.heap.size ≤ g) (hok : ∀ j, w.heap.size ≤ j → ok j) (hl : xs.length + r.length ≤ 100000000) (h : varint_Encode.f k x = some r) :
  Calls Try.prog 41 #[.int .u64 x, .pointer (some ⟨g, 0, none⟩)] w fun e w' => e = .returned (.tuple #[]) ∧ ∃ v', w'.heap[g]? = some (.cells #[v'] 27 (0, 0)) ∧ Kd.R (Kd.int .u8) 5 w' w0.heap.size ok v' (xs ++ r) ∧ Below w0.heap.size w0 w' ∧ KeepBut w w' g (Value.slice A xs.length c).ownBlock := by
 have HO := Aside0.mk hO
 have HG := Aside0.mk hG
 have HB := Aside0.mk hB
 have HE := Aside0.mk h
 have HL := Aside0.mk hl
 clear hO hG hB h hl
 go_enter Try.func41, Try.ntmps41
 have HY := Aside0.mk (below_drew1 (Below.refl w.heap.size w))
 replace HB := Aside0.mk (below_drew1 HB.out)
 replace HO := Aside0.mk (Kd.R_drew HO.out)
 replace HG := Aside0.mk (blk_drew HG.out)
 refine start_ (n := 5) (S := fun W => W.cell? ⟨g, 0, none⟩ = some (.slice A xs.length c)) (ds := [4]) #[false, false, false, false, false] (by kernel_rfl) rfl rfl (blk_cell HG.out 0) (fun hHeld => ?_)
 refine with_tabW f41_tab0 f41_bits0 (fun HT_ HW_ => ?_)
 generalize w.drew = wd at HO HG HB HY hHeld ⊢
 refine tk_ HT_ HW_ 0 (some 3) hHeld ?_
 refine pu_ HT_ 1 (some 4) ?_
 refine on_ HT_ 2 (some 5) (fun K hK => ?_)
 refine goes_ Try.func42 (by kernel_rfl) rfl #[.int .u64 x] (by rfl) rfl rfl (by first | done | rfl | (simp only [List.map_toArray, List.map_cons, List.map_nil]; rfl)) ?_
 refine (varint_Encode.calls k x r _ HE.out).mono ?_
 rintro e w9 ⟨v2, rfl, hr2, hb⟩
 obtain ⟨A2, c2, rfl⟩ := Kd.R_slice hr2
 refine ⟨_, rfl, ?_⟩
 have HC := Aside0.mk (Kd.R_reads' hr2).2.2
 replace HO := Aside0.mk (Kd.R_below HO.out hb)
 replace HG := Aside0.mk (blk_below HG.out hb)
 replace HB := Aside0.mk (HB.out.trans (hb.mono HB.out.size))
 replace HY := Aside0.mk (HY.out.trans (hb.mono HY.out.size))
 clear hb hr2
 refine hK.out _ _ (blk_cell HG.out 0) (fun hHeld => ?_)
 clear hK K
 refine nm_ (some 5) ?_
 refine on_ HT_ 3 (some 6) (fun K hK => ?_)
 refine Kd.R_append_rows_step (Kd.int .u8) (Rr := (Kd.int .u8).K w9) (w0 := w0) w0.heap.size (by rfl) (.tmp 3) (.tmp 5) 27 5 (.int .u8 0) 1 rfl Try.underlying27 info5 rfl (by decide) (by decide) (.slice A xs.length c) xs r A2 r.length c2 ok (fun _ => False) rfl rfl HO.out HC.out (fun _ _ h_ => h_) (fun _ h_ => h_.elim) (fun j hj => hok j (Nat.le_trans HY.out.size hj)) HB.out HB.out.size (by have := HL.out; omega) ?_
 intro v1 w10 ho hb hgr hat
 have NE := Kd.R_ne HO.out HG.out (by decide)
 replace HG := Aside0.mk (blk_grown HG.out hgr NE)
 have HGR := Aside0.mk hgr
 have HK2 : Aside0 (KeepBut w w10 g (Value.slice A xs.length c).ownBlock) := ⟨Nat.le_trans HY.out.size hgr.size, fun i hi h1 h2 => (hgr.block i (Nat.lt_of_lt_of_le hi HY.out.size) h2).trans (HY.out.block i hi)⟩
 replace HO := Aside0.mk ho
 replace HB := Aside0.mk hb
 clear ho hb hgr hat HC HY HGR
 refine hK.out _ _ (blk_cell HG.out 0) (fun hHeld => ?_)
 clear hK K
 refine nm_ (some 6) ?_
 refine last_ (i := 4) (N := none) #[true, true, true, true, true] rfl rfl (one_of HT_.out (by kernel_rfl)) (by decide) (fun K hK => ?_)
 have z0 := blk_frozen HG.out 0
 obtain ⟨A1, c1, rfl⟩ := Kd.R_slice HO.out
 refine skip_ (w1 := w10.setCell ⟨g, 0, none⟩ (.slice A1 (xs ++ r).length c1)) (by rfl) rfl ?_ ?_
 ·go_simp
 refine hK.out _ _ ?_
 clear hK K z0 hHeld
 refine done_ (done_of HT_.out (by kernel_rfl)) ?_
 clear HT_ HW_
 go_end0
 have NE := Kd.R_ne HO.out HG.out (by decide)
 exact ⟨rfl, _, blk_put (cs' := #[.slice A1 (xs ++ r).length c1]) HG.out 0 _ rfl, R_setE ⟨_, HG.out⟩ HO.out (by decide) 0 _, HB.out.setCell (p := ⟨g, 0, none⟩) hg _, HK2.out.set_ 0 _⟩
/-- The bytes of the hashes (each less the one before), of the counters, of the fences with their ranks. -/
def encM (k : Nat) : List Int → Int → Option (List Int)
 | [], _ => some []
 | h :: t, last => (varint_Encode.f k (IntKind.u64.wrap (h - last))).bind fun a => (encM k t h).bind fun b => some (a ++ b)
def encC (k : Nat) : List Int → Option (List Int)
 | [] => some []
 | n :: t => (varint_Encode.f k (IntKind.u64.wrap n)).bind fun a => (encC k t).bind fun b => some (a ++ b)
def encF (k : Nat) (R : List Int) : List S39 → Nat → Option (List Int)
 | [], _ => some []
 | f :: t, i => if 2 * i + 1 < R.length then (value_Encode.f k f.f0 f.f1 f.f2).bind fun a => (varint_Encode.f k (IntKind.u64.wrap (rd R ((2 * i : Nat) : Int)))).bind fun b => (varint_Encode.f k (IntKind.u64.wrap (rd R ((2 * i + 1 : Nat) : Int)))).bind fun c => (encF k R t (i + 1)).bind fun d => some (a ++ (b ++ (c ++ d))) else none
def sketch_Encode.f (k : Nat) (a0_0 : Int) (a0_1 : Int) (l0_2 : List Int) (a0_3 : Bool) (l0_4 : List Int) (l0_5 : List (S39)) (l0_6 : List Int) : Option (List Int) :=
 if 1000000 < l0_5.length then none else
 (varint_Encode.f k (IntKind.u64.wrap a0_0)).bind fun e1 => (varint_Encode.f k (IntKind.u64.wrap a0_1)).bind fun e2 => (varint_Encode.f k (l0_2.length : Int)).bind fun e3 => (encM k l0_2 0).bind fun em => (encC k l0_4).bind fun ec =>
 (varint_Encode.f k (l0_5.length : Int)).bind fun e7 => (encF k l0_6 l0_5 0).bind fun ef =>
 if (e1 ++ (e2 ++ (e3 ++ (em ++ ((if a0_3 then (1 : Int) else 0) :: (ec ++ (e7 ++ ef))))))).length ≤ 100000000 then some (e1 ++ (e2 ++ (e3 ++ (em ++ ((if a0_3 then (1 : Int) else 0) :: (ec ++ (e7 ++ ef))))))) else none
/-- How Encode's two boxes stand: the sketch in g2, the bytes so far in g3. -/
structure ES (w W : World) (g2 g3 : Nat) (sb : Array Value) (A : Option Addr) (c : Nat) (xs : List Int) : Prop where
  G : W.heap[g3]? = some (.cells #[.slice A xs.length c] 27 (0, 0))
  O : Kd.R (Kd.int .u8) 5 W w.heap.size (fun _ => True) (.slice A xs.length c) xs
  B2 : W.heap[g2]? = some (.cells sb 26 (0, 0))
  B : Below w.heap.size w W
  h3 : w.heap.size ≤ g3
  ne : g2 ≠ g3
theorem ES.below {w W W2 : World} {g2 g3 : Nat} {sb : Array Value} {A : Option Addr} {c : Nat} {xs : List Int} (h : ES w W g2 g3 sb A c xs) (hb : Below W.heap.size W W2) : ES w W2 g2 g3 sb A c xs :=
 ⟨blk_below h.G hb, Kd.R_below h.O hb, blk_below h.B2 hb, h.B.trans (hb.mono h.B.size), h.h3, h.ne⟩
theorem put_calls (k : Nat) {x : Int} {r : List Int} {w W : World} {g2 g3 : Nat} {sb : Array Value} {A : Option Addr} {c : Nat} {xs : List Int} (h : ES w W g2 g3 sb A c xs) (he : varint_Encode.f k x = some r) (hl : xs.length + r.length ≤ 100000000) :
  Calls Try.prog 41 #[.int .u64 x, .pointer (some ⟨g3, 0, none⟩)] W fun e W' => e = .returned (.tuple #[]) ∧ ∃ A' c', ES w W' g2 g3 sb A' c' (xs ++ r) := by
 refine (f41_calls k x r w W g3 A c xs (fun _ => True) h.O h.G h.B h.h3 (fun _ _ => trivial) hl he).mono ?_
 rintro e W' ⟨rfl, v', hG, hO, hB, hK⟩
 obtain ⟨A', c', rfl⟩ := Kd.R_slice hO
 exact ⟨rfl, A', c', hG, hO, hK.blk h.B2 h.ne (Kd.R_ne h.O h.B2 (by decide)), hB, h.h3, h.ne⟩
/-- A number put behind what stands: what is still to come is S. -/
theorem put_q (k : Nat) {x : Int} {r S T : List Int} {w W : World} {g2 g3 : Nat} {sb : Array Value} {A : Option Addr} {c : Nat} {xs : List Int} (h : ES w W g2 g3 sb A c xs) (he : varint_Encode.f k x = some r) (hq : xs ++ (r ++ S) = T) (hT : T.length ≤ 100000000) :
  Calls Try.prog 41 #[.int .u64 x, .pointer (some ⟨g3, 0, none⟩)] W fun e W' => e = .returned (.tuple #[]) ∧ ∃ A' c' P, ES w W' g2 g3 sb A' c' P ∧ P ++ S = T := by
 refine (put_calls k h he (by rw [← hq] at hT; simp only [List.length_append] at hT; omega)).mono ?_
 rintro e W' ⟨rfl, A', c', hs⟩
 exact ⟨rfl, A', c', _, hs, by rw [List.append_assoc]; exact hq⟩
theorem ES.grown {w W W2 : World} {g2 g3 : Nat} {sb : Array Value} {A : Option Addr} {c : Nat} {xs : List Int} (h : ES w W g2 g3 sb A c xs) (hg : W.grownBy W2 (Value.slice A xs.length c).ownBlock) : W2.heap[g3]? = some (.cells #[.slice A xs.length c] 27 (0, 0)) ∧ W2.heap[g2]? = some (.cells sb 26 (0, 0)) :=
 ⟨blk_grown h.G hg (Kd.R_ne h.O h.G (by decide)), blk_grown h.B2 hg (Kd.R_ne h.O h.B2 (by decide))⟩
theorem ES.store {w W : World} {g2 g3 : Nat} {sb : Array Value} {u : Value} {A : Option Addr} {c : Nat} {xs : List Int} (hG : W.heap[g3]? = some (.cells #[u] 27 (0, 0))) (hB2 : W.heap[g2]? = some (.cells sb 26 (0, 0))) (hO : Kd.R (Kd.int .u8) 5 W w.heap.size (fun _ => True) (.slice A xs.length c) xs) (hB : Below w.heap.size w W) (h3 : w.heap.size ≤ g3) (ne : g2 ≠ g3) :
  ES w (W.setCell ⟨g3, 0, none⟩ (.slice A xs.length c)) g2 g3 sb A c xs :=
 ⟨blk_put (cs' := #[.slice A xs.length c]) hG 0 _ rfl, R_setE ⟨_, hG⟩ hO (by decide) 0 _, blk_far hB2 (p := ⟨g3, 0, none⟩) ne _, hB.setCell (p := ⟨g3, 0, none⟩) h3 _, h3, ne⟩
theorem ES.far {w W : World} {g2 g3 g : Nat} {sb : Array Value} {A : Option Addr} {c : Nat} {xs : List Int} {u0 u1 u2 x0 x1 x2 : Value} (h : ES w W g2 g3 sb A c xs) (hb : W.heap[g]? = some (.cells #[x0, x1, x2] 39 (0, 0))) (hg : w.heap.size ≤ g) : ES w (put3 W g u0 u1 u2) g2 g3 sb A c xs := by
 have n3 : g3 ≠ g := fun e => by have := h.G; rw [e, hb] at this; exact absurd this (by simp)
 have n2 : g2 ≠ g := fun e => by have := h.B2; rw [e, hb] at this; exact absurd this (by simp)
 have b0 := blk_put (cs' := #[u0, x1, x2]) hb 0 u0 rfl
 have b1 := blk_put (cs' := #[u0, u1, x2]) b0 1 u1 rfl
 exact ⟨blk_far (blk_far (blk_far h.G n3 _) n3 _) n3 _, R_setE ⟨_, b1⟩ (R_setE ⟨_, b0⟩ (R_setE ⟨_, hb⟩ h.O (by decide) 0 u0) (by decide) 1 u1) (by decide) 2 u2, blk_far (blk_far (blk_far h.B2 n2 _) n2 _) n2 _, put3_below h.B hg u0 u1 u2, h.h3, h.ne⟩
def f13_T25 : Bool × List (List Nat × List Nat) := (true, [([], []), ([], []), ([1], [1]), ([0, 2, 2], [0, 2]), ([3, 3, 0, 1, 2, 3], [3])])
def f13_B25 : List Nat := [0, 0, 2, 7, 15]
set_option maxRecDepth 100000 in
theorem f13_tab25 : rtab .any (opsOf Try.f13 25) = f13_T25 := by kernel_rfl
theorem f13_bits25 : waitsOk f13_T25.2 f13_B25 = true := by kernel_rfl
set_option maxHeartbeats 8000000 in
set_option maxRecDepth 100000 in
theorem sketch_Encode.calls0 (k : Nat) (a0 a1 : Int) (A2 : Option Addr) (c2 : Nat) (l2 : List Int) (b3 : Bool) (A4 : Option Addr) (c4 : Nat) (l4 : List Int) (A5 : Option Addr) (c5 : Nat) (l5 : List S39) (A6 : Option Addr) (c6 : Nat) (l6 : List Int) (T : List Int) (w : World) (hr2 : Kd.C (Kd.int .u64) w A2 l2.length l2) (hc2 : l2.length ≤ c2) (hr4 : Kd.C (Kd.int .i64) w A4 l4.length l4) (hc4 : l4.length ≤ c4) (hr5 : Kd.C k39 w A5 l5.length l5) (hc5 : l5.length ≤ c5) (hr6 : Kd.C (Kd.int .i64) w A6 l6.length l6) (hc6 : l6.length ≤ c6) (h : sketch_Encode.f k a0 a1 l2 b3 l4 l5 l6 = some T) :
  Calls Try.prog 13 #[.agg #[.int .i64 a0, .int .i64 a1, .slice A2 l2.length c2, .bool b3, .slice A4 l4.length c4, .slice A5 l5.length c5, .slice A6 l6.length c6]] w fun e w' => ∃ v, e = .returned v ∧ Kd.R (Kd.int .u8) 5 w' w.heap.size (fun _ => True) v T ∧ Below w.heap.size w w' := by
 unfold sketch_Encode.f at h
 by_cases h6 : 1000000 < l5.length
 ·rw [if_pos h6] at h
  exact absurd h (by simp)
 rw [if_neg h6] at h
 obtain ⟨e1, he1, h⟩ := Option.bind_eq_some_iff.mp h
 obtain ⟨e2, he2, h⟩ := Option.bind_eq_some_iff.mp h
 obtain ⟨e3, he3, h⟩ := Option.bind_eq_some_iff.mp h
 obtain ⟨em, hem, h⟩ := Option.bind_eq_some_iff.mp h
 obtain ⟨ec, hec, h⟩ := Option.bind_eq_some_iff.mp h
 obtain ⟨e7, he7, h⟩ := Option.bind_eq_some_iff.mp h
 obtain ⟨ef, hef, h⟩ := Option.bind_eq_some_iff.mp h
 obtain ⟨fb, hfb⟩ : ∃ x : Int, (if b3 then (1 : Int) else 0) = x := ⟨_, rfl⟩
 rw [hfb] at h
 obtain ⟨T0, hT0⟩ : ∃ x, e1 ++ (e2 ++ (e3 ++ (em ++ (fb :: (ec ++ (e7 ++ ef)))))) = x := ⟨_, rfl⟩
 rw [hT0] at h
 by_cases hTl : T0.length ≤ 100000000
 rotate_left
 ·rw [if_neg hTl] at h
  exact absurd h (by simp)
 rw [if_pos hTl] at h
 obtain rfl : T0 = T := Option.some.inj h
 have hTl2 := hTl
 have hlen : e1.length + e2.length + e3.length + em.length + 1 + ec.length + e7.length + ef.length ≤ 100000000 := by rw [← hT0] at hTl2; simp only [List.length_append, List.length_cons] at hTl2; omega
 have HE1 := Aside0.mk he1
 have HE2 := Aside0.mk he2
 have HE3 := Aside0.mk he3
 have HEM := Aside0.mk hem
 have HEC := Aside0.mk hec
 have HE7 := Aside0.mk he7
 have HEF := Aside0.mk hef
 have HFB := Aside0.mk hfb
 have HT0 := Aside0.mk hT0
 have hl2 : l2.length ≤ 9223372036854775807 := hr2.2.1
 have hl4 : l4.length ≤ 9223372036854775807 := hr4.2.1
 have HKw : SK w A2 c2 l2 A4 c4 l4 A5 c5 l5 A6 c6 l6 := ⟨hr2, hc2, hr4, hc4, hr5, hc5, hr6, hc6⟩
 replace HKw := Aside0.mk HKw
 clear hTl2 h hr2 hr4 hr5 hr6 he1 he2 he3 hem hec he7 hef hfb hT0
 go_enter Try.func13, Try.ntmps13
 go_upto_region 1 with (refine box_ 1 (cs := #[.int .i64 a0, .int .i64 a1, .slice A2 l2.length c2, .bool b3, .slice A4 l4.length c4, .slice A5 l5.length c5, .slice A6 l6.length c6]) (t := 26) (fun g2 hg_ w1 BK2 HB => ?_); have hg2 : g2 < w1.heap.size := blk_lt BK2; clear hg_; replace BK2 := Aside0.mk BK2; replace HB := Aside0.mk HB)
 go_upto_region 2 with (refine box_ 3 (cs := #[.slice none 0 0]) (t := 27) (fun g3 hg_ W BK3 hb => ?_); have hne : g2 ≠ g3 := (by omega); have hg3 : w.heap.size ≤ g3 := (by rw [hg_]; exact below_size HB.out); have HS : Aside0 (ES w W g2 g3 #[.int .i64 a0, .int .i64 a1, .slice A2 l2.length c2, .bool b3, .slice A4 l4.length c4, .slice A5 l5.length c5, .slice A6 l6.length c6] none 0 []) := ⟨⟨BK3, Kd.R_nil _ _ _ _ _, blk_below BK2.out hb, HB.out.trans (hb.mono (below_size HB.out)), hg3, hne⟩⟩; clear hg_ hb BK2 BK3 HB)
 have HQ : Aside0 ([] ++ (e1 ++ (e2 ++ (e3 ++ (em ++ (fb :: (ec ++ (e7 ++ ef))))))) = T0) := ⟨HT0.out⟩
 clear HT0
 obtain ⟨t0, t1, t2, t3, t4, t5, t6⟩ := bc7 HS.out.B2
 go_upto_region 4 with (go_at_call 41; refine (put_q k HS.out HE1.out HQ.out hTl).mono ?_; rintro e w2 ⟨rfl, A_, c_, P_, hs, hq⟩; replace HS := Aside0.mk hs; replace HQ := Aside0.mk hq; clear hs hq)
 clear t0 t1 t2 t3 t4 t5 t6
 obtain ⟨t0, t1, t2, t3, t4, t5, t6⟩ := bc7 HS.out.B2
 go_upto_region 5 with (go_at_call 41; refine (put_q k HS.out HE2.out HQ.out hTl).mono ?_; rintro e w3 ⟨rfl, A_, c_, P_, hs, hq⟩; replace HS := Aside0.mk hs; replace HQ := Aside0.mk hq; clear hs hq)
 clear t0 t1 t2 t3 t4 t5 t6
 obtain ⟨t0, t1, t2, t3, t4, t5, t6⟩ := bc7 HS.out.B2
 go_upto_region 6 with (go_at_call 41; refine (put_q k HS.out HE3.out HQ.out hTl).mono ?_; rintro e w4 ⟨rfl, A_, c_, P_, hs, hq⟩; replace HS := Aside0.mk hs; replace HQ := Aside0.mk hq; clear hs hq)
 clear t0 t1 t2 t3 t4 t5 t6
 obtain ⟨t0, t1, t2, t3, t4, t5, t6⟩ := bc7 HS.out.B2
 go_upto_block 0 with (fail)
 go_cut [5] (fun v5 W => ∃ A c P, Aside0 (ES w W g2 g3 #[.int .i64 a0, .int .i64 a1, .slice A2 l2.length c2, .bool b3, .slice A4 l4.length c4, .slice A5 l5.length c5, .slice A6 l6.length c6] A c P) ∧ Aside0 (P ++ (fb :: (ec ++ (e7 ++ ef))) = T0))
 case first =>
  go_wp2
  go_loopg [5, 32] l2.length (fun kq v5 v32 W => ∃ (i : Nat) (last : Int) (A : Option Addr) (c : Nat) (P S : List Int), v32 = .int .i64 i ∧ v5 = .int .u64 last ∧ i ≤ l2.length ∧ Aside0 (kq + i = l2.length) ∧ Aside0 (ES w W g2 g3 #[.int .i64 a0, .int .i64 a1, .slice A2 l2.length c2, .bool b3, .slice A4 l4.length c4, .slice A5 l5.length c5, .slice A6 l6.length c6] A c P) ∧ Aside0 (encM k (l2.drop i) last = some S) ∧ Aside0 (P ++ (S ++ (fb :: (ec ++ (e7 ++ ef)))) = T0))
  case atStart => exact ⟨0, 0, _, _, _, em, rfl, rfl, Nat.zero_le _, ⟨rfl⟩, HS, HEM, HQ⟩
  case round =>
   clear HS HQ HEM t0 t1 t2 t3 t4 t5 t6
   obtain ⟨i, last, A_, c_, P_, S, rfl, rfl, hi, HK2, HS, HM, HQ⟩ := hrel
   by_cases hr : i < l2.length
   ·cases gk with
    | zero => exact absurd HK2.out (by omega)
    | succ k2 =>
     have hm := HM.out
     rw [drop_rd l2 i hr] at hm
     unfold encM at hm
     obtain ⟨r_, hr1, hm⟩ := Option.bind_eq_some_iff.mp hm
     obtain ⟨S2, hr2, hm⟩ := Option.bind_eq_some_iff.mp hm
     obtain rfl := Option.some.inj hm
     obtain ⟨ad, rfl, hx0⟩ := Kd.at_int HKw.out.r2 (i : Int) (by omega) (by omega)
     rw [Int.toNat_natCast] at hx0
     obtain ⟨x, hx⟩ : ∃ x, rd l2 (i : Int) = x := ⟨_, rfl⟩
     rw [hx] at hx0 hr1 hr2
     have HR1 := Aside0.mk hr1
     have HR2 := Aside0.mk hr2
     have HQ2 : Aside0 (P_ ++ (r_ ++ (S2 ++ (fb :: (ec ++ (e7 ++ ef))))) = T0) := ⟨by have h_ := HQ.out; rwa [List.append_assoc] at h_⟩
     replace HQ := HQ2
     replace hx0 := up_ HS.out.B hx0
     have hid : decide ((i : Int) < l2.length) = true := decide_eq_true (by omega)
     have hid2 : decide ((l2.length : Int) ≤ i) = false := decide_eq_false (by omega)
     have hi0 : decide (0 ≤ (i : Int)) = true := decide_eq_true (by omega)
     have hwi : IntKind.i64.wrap ((i : Int) + 1) = ((i + 1 : Nat) : Int) := by rw [i64_w]; unfold wrap64; omega
     clear hr1 hr2 hx HM HQ2
     obtain ⟨t0, t1, t2, t3, t4, t5, t6⟩ := bc7 HS.out.B2
     go_upto_region 11 with (go_at_call 41; refine (put_q k HS.out HR1.out HQ.out hTl).mono ?_; rintro e w5 ⟨rfl, A_, c_, P_, hs, hq⟩; replace HS := Aside0.mk hs; replace HQ := Aside0.mk hq; clear hs hq)
     clear hx0 t0 t1 t2 t3 t4 t5 t6
     go_wp2
     go_roundg k2
     case measure => omega
     case rel => exact ⟨i + 1, x, _, _, _, S2, int_eq (by omega), rfl, by omega, ⟨by have := HK2.out; omega⟩, HS, HR2, HQ⟩
   ·obtain rfl : i = l2.length := by omega
    have hid : decide ((l2.length : Int) < l2.length) = false := decide_eq_false (by omega)
    have hS : S = [] := by have h_ := HM.out; rw [List.drop_of_length_le (Nat.le_refl _)] at h_; exact (Option.some.inj h_).symm
    subst hS
    go_wp2
    go_meet
    case rel => exact ⟨_, _, _, HS, HQ⟩
 case rest =>
 clear HS HQ HEM HE1 HE2 HE3 t0 t1 t2 t3 t4 t5 t6
 obtain ⟨A_, c_, P_, HS, HQ⟩ := hcut
 obtain ⟨t0, t1, t2, t3, t4, t5, t6⟩ := bc7 HS.out.B2
 go_upto_if 44 with (fail)
 clear t0 t1 t2 t3 t4 t5 t6
 go_cut [3] (fun v3 W => v3 = .pointer (some ⟨g3, 0, none⟩) ∧ ∃ A c P, Aside0 (ES w W g2 g3 #[.int .i64 a0, .int .i64 a1, .slice A2 l2.length c2, .bool b3, .slice A4 l4.length c4, .slice A5 l5.length c5, .slice A6 l6.length c6] A c P) ∧ Aside0 (P ++ (ec ++ (e7 ++ ef)) = T0))
 case first =>
  have hP : P_.length ≤ 100000000 := by have h_ := congrArg List.length HQ.out; rw [List.length_append] at h_; omega
  have p0 := (blk_cell HS.out.G 0)
  replace p0 : wc.cell? ⟨g3, 0, none⟩ = some (.slice A_ P_.length c_) := p0
  obtain ⟨t0, t1, t2, t3, t4, t5, t6⟩ := bc7 HS.out.B2
  cases b3 with
  | true =>
   obtain rfl : (1 : Int) = fb := by have h_ := HFB.out; rwa [if_pos rfl] at h_
   go_wp2_with ((with_reducible refine gate_builtin (b := .append) (xs := #[.tmp 45, .tmp 46]) rfl ?_); at_builtin; refine Kd.R_append (Kd.int .u8) (w0 := w) w.heap.size rfl (.tmp 45) (.tmp 46) 27 5 (.int .u8 0) 1 rfl Try.underlying27 info5 rfl (by decide) (by omega) (.slice A_ P_.length c_) P_ 1 [.int .u8 1] (fun _ => True) (fun _ => False) rfl rfl ?aP1 (fun _ hk => hk.elim) ?aF1 ?aO1 ?aB1 ?aS1 ?aL1 ?_; (case aP1 => exact rfl); (case aF1 => exact fun _ _ => trivial); (case aO1 => exact HS.out.O); (case aB1 => exact HS.out.B); (case aS1 => exact below_size HS.out.B); (case aL1 => omega); intro v8 w7 ho hb hg hat; have HG7 := Aside0.mk (HS.out.grown hg).1; have HB7 := Aside0.mk (HS.out.grown hg).2; have HY7 := Aside0.mk hb; obtain ⟨P2, hP2⟩ : ∃ x, P_ ++ [(1 : Int)] = x := ⟨_, rfl⟩; rw [hP2] at ho; have HQ7 : Aside0 (P2 ++ (ec ++ (e7 ++ ef)) = T0) := ⟨by rw [← hP2, List.append_assoc]; exact HQ.out⟩; obtain ⟨A8, c8, rfl⟩ := Kd.R_slice ho; have HO7 := Aside0.mk ho; replace p0 : w7.cell? ⟨g3, 0, none⟩ = some (.slice A_ P_.length c_) := blk_cell HG7.out 0; have z0 := blk_frozen HG7.out 0; clear ho hb hg hat hP2)
   go_meet
   case rel => exact ⟨rfl, _, _, _, ⟨ES.store HG7.out HB7.out HO7.out HY7.out hg3 hne⟩, HQ7⟩
  | false =>
   obtain rfl : (0 : Int) = fb := by have h_ := HFB.out; rwa [if_neg (by decide)] at h_
   go_wp2_with ((with_reducible refine gate_builtin (b := .append) (xs := #[.tmp 48, .tmp 49]) rfl ?_); at_builtin; refine Kd.R_append (Kd.int .u8) (w0 := w) w.heap.size rfl (.tmp 48) (.tmp 49) 27 5 (.int .u8 0) 1 rfl Try.underlying27 info5 rfl (by decide) (by omega) (.slice A_ P_.length c_) P_ 0 [.int .u8 0] (fun _ => True) (fun _ => False) rfl rfl ?aP1 (fun _ hk => hk.elim) ?aF1 ?aO1 ?aB1 ?aS1 ?aL1 ?_; (case aP1 => exact rfl); (case aF1 => exact fun _ _ => trivial); (case aO1 => exact HS.out.O); (case aB1 => exact HS.out.B); (case aS1 => exact below_size HS.out.B); (case aL1 => omega); intro v8 w7 ho hb hg hat; have HG7 := Aside0.mk (HS.out.grown hg).1; have HB7 := Aside0.mk (HS.out.grown hg).2; have HY7 := Aside0.mk hb; obtain ⟨P2, hP2⟩ : ∃ x, P_ ++ [(0 : Int)] = x := ⟨_, rfl⟩; rw [hP2] at ho; have HQ7 : Aside0 (P2 ++ (ec ++ (e7 ++ ef)) = T0) := ⟨by rw [← hP2, List.append_assoc]; exact HQ.out⟩; obtain ⟨A8, c8, rfl⟩ := Kd.R_slice ho; have HO7 := Aside0.mk ho; replace p0 : w7.cell? ⟨g3, 0, none⟩ = some (.slice A_ P_.length c_) := blk_cell HG7.out 0; have z0 := blk_frozen HG7.out 0; clear ho hb hg hat hP2)
   go_meet
   case rel => exact ⟨rfl, _, _, _, ⟨ES.store HG7.out HB7.out HO7.out HY7.out hg3 hne⟩, HQ7⟩
 case rest =>
 clear HS HQ HFB
 obtain ⟨rfl, A_, c_, P_, HS, HQ⟩ := hcut
 obtain ⟨t0, t1, t2, t3, t4, t5, t6⟩ := bc7 HS.out.B2
 go_upto_block 2 with (fail)
 go_cut [9] (fun v9 W => ∃ A c P, Aside0 (ES w W g2 g3 #[.int .i64 a0, .int .i64 a1, .slice A2 l2.length c2, .bool b3, .slice A4 l4.length c4, .slice A5 l5.length c5, .slice A6 l6.length c6] A c P) ∧ Aside0 (P ++ (e7 ++ ef) = T0))
 case first =>
  go_wp2
  go_loopg [54] l4.length (fun kq v54 W => ∃ (i : Nat) (A : Option Addr) (c : Nat) (P S : List Int), v54 = .int .i64 i ∧ i ≤ l4.length ∧ Aside0 (kq + i = l4.length) ∧ Aside0 (ES w W g2 g3 #[.int .i64 a0, .int .i64 a1, .slice A2 l2.length c2, .bool b3, .slice A4 l4.length c4, .slice A5 l5.length c5, .slice A6 l6.length c6] A c P) ∧ Aside0 (encC k (l4.drop i) = some S) ∧ Aside0 (P ++ (S ++ (e7 ++ ef)) = T0))
  case atStart => exact ⟨0, _, _, _, ec, rfl, Nat.zero_le _, ⟨rfl⟩, HS, HEC, HQ⟩
  case round =>
   clear HS HQ HEC t0 t1 t2 t3 t4 t5 t6
   obtain ⟨i, A_, c_, P_, S, rfl, hi, HK2, HS, HM, HQ⟩ := hrel
   by_cases hr : i < l4.length
   ·cases gk with
    | zero => exact absurd HK2.out (by omega)
    | succ k2 =>
     have hm := HM.out
     rw [drop_rd l4 i hr] at hm
     unfold encC at hm
     obtain ⟨r_, hr1, hm⟩ := Option.bind_eq_some_iff.mp hm
     obtain ⟨S2, hr2, hm⟩ := Option.bind_eq_some_iff.mp hm
     obtain rfl := Option.some.inj hm
     obtain ⟨ad, rfl, hx0⟩ := Kd.at_int HKw.out.r4 (i : Int) (by omega) (by omega)
     rw [Int.toNat_natCast] at hx0
     obtain ⟨x, hx⟩ : ∃ x, rd l4 (i : Int) = x := ⟨_, rfl⟩
     rw [hx] at hx0 hr1
     have HR1 := Aside0.mk hr1
     have HR2 := Aside0.mk hr2
     have HQ2 : Aside0 (P_ ++ (r_ ++ (S2 ++ (e7 ++ ef))) = T0) := ⟨by have h_ := HQ.out; rwa [List.append_assoc] at h_⟩
     replace HQ := HQ2
     replace hx0 := up_ HS.out.B hx0
     have hid : decide ((i : Int) < l4.length) = true := decide_eq_true (by omega)
     have hid2 : decide ((l4.length : Int) ≤ i) = false := decide_eq_false (by omega)
     have hi0 : decide (0 ≤ (i : Int)) = true := decide_eq_true (by omega)
     have hwi : IntKind.i64.wrap ((i : Int) + 1) = ((i + 1 : Nat) : Int) := by rw [i64_w]; unfold wrap64; omega
     clear hr1 hr2 hx HM HQ2
     obtain ⟨t0, t1, t2, t3, t4, t5, t6⟩ := bc7 HS.out.B2
     go_upto_region 20 with (go_at_call 41; refine (put_q k HS.out HR1.out HQ.out hTl).mono ?_; rintro e w5 ⟨rfl, A_, c_, P_, hs, hq⟩; replace HS := Aside0.mk hs; replace HQ := Aside0.mk hq; clear hs hq)
     clear hx0 t0 t1 t2 t3 t4 t5 t6
     go_wp2
     go_roundg k2
     case measure => omega
     case rel => exact ⟨i + 1, _, _, _, S2, int_eq (by omega), by omega, ⟨by have := HK2.out; omega⟩, HS, HR2, HQ⟩
   ·obtain rfl : i = l4.length := by omega
    have hid : decide ((l4.length : Int) < l4.length) = false := decide_eq_false (by omega)
    have hS : S = [] := by have h_ := HM.out; rw [List.drop_of_length_le (Nat.le_refl _)] at h_; exact (Option.some.inj h_).symm
    subst hS
    go_wp2
    go_meet
    case rel => exact ⟨_, _, _, HS, HQ⟩
 case rest =>
 clear HS HQ HEC t0 t1 t2 t3 t4 t5 t6
 obtain ⟨A_, c_, P_, HS, HQ⟩ := hcut
 obtain ⟨t0, t1, t2, t3, t4, t5, t6⟩ := bc7 HS.out.B2
 go_upto_region 22 with (go_at_call 41; refine (put_q k HS.out HE7.out HQ.out hTl).mono ?_; rintro e w6 ⟨rfl, A_, c_, P_, hs, hq⟩; replace HS := Aside0.mk hs; replace HQ := Aside0.mk hq; clear hs hq)
 clear t0 t1 t2 t3 t4 t5 t6
 obtain ⟨t0, t1, t2, t3, t4, t5, t6⟩ := bc7 HS.out.B2
 go_upto_block 4 with (fail)
 go_cut [10] (fun v10 W => ∃ A c, Aside0 (ES w W g2 g3 #[.int .i64 a0, .int .i64 a1, .slice A2 l2.length c2, .bool b3, .slice A4 l4.length c4, .slice A5 l5.length c5, .slice A6 l6.length c6] A c T0))
 case first =>
  go_wp2
  go_loopg [72] l5.length (fun kq v72 W => ∃ (i : Nat) (A : Option Addr) (c : Nat) (P S : List Int), v72 = .int .i64 i ∧ i ≤ l5.length ∧ Aside0 (kq + i = l5.length) ∧ Aside0 (ES w W g2 g3 #[.int .i64 a0, .int .i64 a1, .slice A2 l2.length c2, .bool b3, .slice A4 l4.length c4, .slice A5 l5.length c5, .slice A6 l6.length c6] A c P) ∧ Aside0 (encF k l6 (l5.drop i) i = some S) ∧ Aside0 (P ++ S = T0))
  case atStart => exact ⟨0, _, _, _, ef, rfl, Nat.zero_le _, ⟨rfl⟩, HS, HEF, HQ⟩
  case round =>
   clear HS HQ HEF t0 t1 t2 t3 t4 t5 t6
   obtain ⟨i, A_, c_, P_, S, rfl, hi, HK2, HS, HM, HQ⟩ := hrel
   by_cases hr : i < l5.length
   ·cases gk with
    | zero => exact absurd HK2.out (by omega)
    | succ k2 =>
     have hm := HM.out
     rw [drop_rd39 l5 i hr] at hm
     unfold encF at hm
     by_cases h6 : 2 * i + 1 < l6.length
     rotate_left
     ·rw [if_neg h6] at hm
      exact absurd hm (by simp)
     rw [if_pos h6] at hm
     obtain ⟨ra, hra, hm⟩ := Option.bind_eq_some_iff.mp hm
     obtain ⟨rb, hrb, hm⟩ := Option.bind_eq_some_iff.mp hm
     obtain ⟨rc, hrc, hm⟩ := Option.bind_eq_some_iff.mp hm
     obtain ⟨S2, hr2, hm⟩ := Option.bind_eq_some_iff.mp hm
     obtain rfl := Option.some.inj hm
     obtain ⟨ad, rfl, hy0, hy1, hy2⟩ := at_T39 HKw.out.r5 (i : Int) (by omega) (by omega)
     rw [Int.toNat_natCast] at hy0 hy1 hy2
     obtain ⟨x, hxx⟩ : ∃ x, rd_T39 l5 (i : Int) = x := ⟨_, rfl⟩
     rw [hxx] at hy0 hy1 hy2 hra
     obtain ⟨m0, hm0⟩ : ∃ m : Nat, 2 * i = m := ⟨_, rfl⟩
     obtain ⟨m1, hm1⟩ : ∃ m : Nat, 2 * i + 1 = m := ⟨_, rfl⟩
     rw [hm0] at hrb
     rw [hm1] at hrc
     obtain ⟨ad6, rfl, hz0⟩ := Kd.at_int HKw.out.r6 (m0 : Int) (by omega) (by omega)
     obtain ⟨ad7, e7_, hz1⟩ := Kd.at_int HKw.out.r6 (m1 : Int) (by omega) (by omega)
     obtain rfl := Option.some.inj e7_
     clear e7_
     rw [Int.toNat_natCast] at hz0 hz1
     obtain ⟨q0, hq0⟩ : ∃ x, rd l6 (m0 : Int) = x := ⟨_, rfl⟩
     obtain ⟨q1, hq1⟩ : ∃ x, rd l6 (m1 : Int) = x := ⟨_, rfl⟩
     rw [hq0] at hz0 hrb
     rw [hq1] at hz1 hrc
     have HRA := Aside0.mk hra
     have HRB := Aside0.mk hrb
     have HRC := Aside0.mk hrc
     have HR2 := Aside0.mk hr2
     have HZ0 := Aside0.mk hz0
     have HZ1 := Aside0.mk hz1
     replace hy0 := up_ HS.out.B hy0
     replace hy1 := up_ HS.out.B hy1
     replace hy2 := up_ HS.out.B hy2
     have hid : decide ((i : Int) < l5.length) = true := decide_eq_true (by omega)
     have hid2 : decide ((l5.length : Int) ≤ i) = false := decide_eq_false (by omega)
     have hi0 : decide (0 ≤ (i : Int)) = true := decide_eq_true (by omega)
     have hwi : IntKind.i64.wrap ((i : Int) + 1) = ((i + 1 : Nat) : Int) := by rw [i64_w]; unfold wrap64; omega
     have hw2a : IntKind.i64.wrap (2 * (i : Int)) = (m0 : Int) := by rw [i64_w]; unfold wrap64; omega
     have hw2b : IntKind.i64.wrap ((m0 : Int) + 1) = (m1 : Int) := by rw [i64_w]; unfold wrap64; omega
     have hw2c : wrap64 (2 * (i : Int)) = (m0 : Int) := by unfold wrap64; omega
     have hw2d : wrap64 ((m0 : Int) + 1) = (m1 : Int) := by unfold wrap64; omega
     have hdA : decide ((m0 : Int) < l6.length) = true := decide_eq_true (by omega)
     have hdB : decide ((m1 : Int) < l6.length) = true := decide_eq_true (by omega)
     have hdC : m0 < l6.length := by omega
     have hdD : m1 < l6.length := by omega
     clear hra hrb hrc hr2 hxx HM hm0 hm1 hq0 hq1 hz0 hz1 h6
     obtain ⟨t0, t1, t2, t3, t4, t5, t6⟩ := bc7 HS.out.B2
     go_upto_region 25 with (refine box_ 11 (cs := #[.int .i64 0, .int .i64 0, .string ⟨#[]⟩]) (t := 39) (fun g8 hg_ w7 BB hb => ?_); have hg8 : w.heap.size ≤ g8 := (by rw [hg_]; exact below_size HS.out.B); replace HS := Aside0.mk (HS.out.below hb); replace hy0 := up_ hb hy0; replace hy1 := up_ hb hy1; replace hy2 := up_ hb hy2; replace BB := Aside0.mk BB; clear hb hg_; obtain ⟨e0, e1, e2, z0, z1, z2⟩ := bf3 BB.out)
     have P3 := put3_blk BB.out (.int .i64 x.f0) (.int .i64 x.f1) (.string x.f2)
     replace HS := Aside0.mk (HS.out.far (u0 := .int .i64 x.f0) (u1 := .int .i64 x.f1) (u2 := .string x.f2) BB.out hg8)
     unfold put3 at P3 HS
     clear hy0 hy1 hy2 e0 e1 e2 z0 z1 z2 BB t0 t1 t2 t3 t4 t5 t6
     generalize ((w7.setCell ⟨g8, 0, none⟩ (.int .i64 x.f0)).setCell ⟨g8, 1, none⟩ (.int .i64 x.f1)).setCell ⟨g8, 2, none⟩ (.string x.f2) = U at P3 HS ⊢
     have BV := Aside0.mk P3
     clear P3
     have HY := Aside0.mk (below_drew1 (Below.refl U.heap.size U))
     replace HS := Aside0.mk (HS.out.below HY.out)
     replace BV := Aside0.mk (blk_drew BV.out)
     refine start_ (n := 5) (S := fun W => W.cell? ⟨g3, 0, none⟩ = some (.slice A_ P_.length c_) ∧ v3 g8 x W True) (ds := [4]) #[false, false, false, false, false] (by kernel_rfl) rfl rfl ⟨blk_cell HS.out.G 0, v3_of BV.out trivial⟩ (fun hHeld => ?_)
     refine with_tabW f13_tab25 f13_bits25 (fun HT_ HW_ => ?_)
     generalize U.drew = wd at HS BV HY hHeld ⊢
     refine tk_ HT_ HW_ 0 (some 77) hHeld ?_
     refine tk_ HT_ HW_ 1 (some 78) hHeld ?_
     refine on_ HT_ 2 (some 79) (fun K hK => ?_)
     refine goes_ Try.func43 (by kernel_rfl) rfl #[.agg #[.int .i64 x.f0, .int .i64 x.f1, .string x.f2]] (by rfl) rfl rfl (by first | done | rfl | (simp only [List.map_toArray, List.map_cons, List.map_nil]; rfl)) ?_
     refine (value_Encode.calls k x.f0 x.f1 x.f2 ra _ HRA.out).mono ?_
     rintro e w9 ⟨v2, rfl, hr2, hb⟩
     obtain ⟨A2_, c2_, rfl⟩ := Kd.R_slice hr2
     refine ⟨_, rfl, ?_⟩
     have HC := Aside0.mk (Kd.R_reads' hr2).2.2
     replace HS := Aside0.mk (HS.out.below hb)
     replace BV := Aside0.mk (blk_below BV.out hb)
     clear hb hr2
     refine hK.out _ _ ⟨blk_cell HS.out.G 0, v3_of BV.out trivial⟩ (fun hHeld => ?_)
     clear hK K
     refine nm_ (some 79) ?_
     refine on_ HT_ 3 (some 80) (fun K hK => ?_)
     refine Kd.R_append_rows_step (Kd.int .u8) (Rr := (Kd.int .u8).K w9) (w0 := w) w.heap.size (by rfl) (.tmp 77) (.tmp 79) 27 5 (.int .u8 0) 1 rfl Try.underlying27 info5 rfl (by decide) (by decide) (.slice A_ P_.length c_) P_ ra A2_ ra.length c2_ (fun _ => True) (fun _ => False) rfl rfl HS.out.O HC.out (fun _ _ h_ => h_) (fun _ h_ => h_.elim) (fun _ _ => trivial) HS.out.B (below_size HS.out.B) (by have h_ := congrArg List.length HQ.out; simp only [List.length_append] at h_; omega) ?_
     intro v1 w10 ho hb hgr hat
     have HG7 := Aside0.mk (HS.out.grown hgr).1
     have HB7 := Aside0.mk (HS.out.grown hgr).2
     have HY7 := Aside0.mk hb
     replace BV := Aside0.mk (blk_grown BV.out hgr (Kd.R_ne HS.out.O BV.out (by decide)))
     obtain ⟨P2, hP2⟩ : ∃ x, P_ ++ ra = x := ⟨_, rfl⟩
     rw [hP2] at ho
     have HQ7 : Aside0 (P2 ++ (rb ++ (rc ++ S2)) = T0) := ⟨by rw [← hP2, List.append_assoc]; exact HQ.out⟩
     obtain ⟨A8, c8, rfl⟩ := Kd.R_slice ho
     have HO7 := Aside0.mk ho
     clear ho hb hgr hat hP2 HC HY
     refine hK.out _ _ ⟨blk_cell HG7.out 0, v3_of BV.out trivial⟩ (fun hHeld => ?_)
     clear hK K
     refine nm_ (some 80) ?_
     refine last_ (i := 4) (N := none) #[true, true, true, true, true] rfl rfl (one_of HT_.out (by kernel_rfl)) (by decide) (fun K hK => ?_)
     have p0 : w10.cell? ⟨g3, 0, none⟩ = some (.slice A_ P_.length c_) := blk_cell HG7.out 0
     have z0 := blk_frozen HG7.out 0
     refine skip_ (w1 := w10.setCell ⟨g3, 0, none⟩ (.slice A8 P2.length c8)) (by rfl) rfl ?_ ?_
     ·go_simp
     refine hK.out _ _ ?_
     clear hK K p0 z0 hHeld
     refine done_ (done_of HT_.out (by kernel_rfl)) ?_
     clear HT_ HW_
     replace HS := Aside0.mk (ES.store HG7.out HB7.out HO7.out HY7.out hg3 hne)
     replace HQ := HQ7
     clear HG7 HB7 HO7 HY7 HQ7 BV
     generalize w10.setCell ⟨g3, 0, none⟩ (.slice A8 P2.length c8) = U2 at HS ⊢
     have hz0 := up_ HS.out.B HZ0.out
     obtain ⟨t0, t1, t2, t3, t4, t5, t6⟩ := bc7 HS.out.B2
     go_upto_region 27 with (go_at_call 41; refine (put_q k HS.out HRB.out HQ.out hTl).mono ?_; rintro e w11 ⟨rfl, A_, c_, P_, hs, hq⟩; replace HS := Aside0.mk hs; replace HQ := Aside0.mk hq; clear hs hq)
     clear hz0 t0 t1 t2 t3 t4 t5 t6
     have hz1 := up_ HS.out.B HZ1.out
     obtain ⟨t0, t1, t2, t3, t4, t5, t6⟩ := bc7 HS.out.B2
     go_upto_region 28 with (go_at_call 41; refine (put_q k HS.out HRC.out HQ.out hTl).mono ?_; rintro e w12 ⟨rfl, A_, c_, P_, hs, hq⟩; replace HS := Aside0.mk hs; replace HQ := Aside0.mk hq; clear hs hq)
     clear hz1 t0 t1 t2 t3 t4 t5 t6
     go_wp2
     go_roundg k2
     case measure => omega
     case rel => exact ⟨i + 1, _, _, _, S2, int_eq (by omega), by omega, ⟨by have := HK2.out; omega⟩, HS, HR2, HQ⟩
   ·obtain rfl : i = l5.length := by omega
    have hid : decide ((l5.length : Int) < l5.length) = false := decide_eq_false (by omega)
    have hS : S = [] := by have h_ := HM.out; rw [List.drop_of_length_le (Nat.le_refl _)] at h_; exact (Option.some.inj h_).symm
    subst hS
    have hq := HQ.out
    rw [List.append_nil] at hq
    rw [hq] at HS
    clear hq
    go_wp2
    go_meet
    case rel => exact ⟨_, _, HS⟩
 case rest =>
 clear HS HQ HEF t0 t1 t2 t3 t4 t5 t6
 obtain ⟨A_, c_, HS⟩ := hcut
 have p0 : wc.cell? ⟨g3, 0, none⟩ = some (.slice A_ T0.length c_) := blk_cell HS.out.G 0
 go_wp2
 go_ret
 exact ⟨_, rfl, HS.out.O, HS.out.B⟩
/-- What a reader gives: the number, the offset and the error behind it. -/
def vintS (k : Nat) (l : List Int) (t e : Int) : Option (Int × Int × Int) := if e = 0 then varint_Decode.f k l t else some (0, t, e)
def numS (k : Nat) (l : List Int) (t e : Int) : Option (Int × Int × Int) := (vintS k l t e).bind fun x => if x.2.2 = 0 then (if 2147483647 < x.1 then some (0, x.2.1, 6) else some (wrap64 x.1, x.2.1, 0)) else some (0, x.2.1, x.2.2)
def limS (k : Nat) (m : Int) (l : List Int) (t e : Int) : Option (Int × Int × Int) := (numS k l t e).bind fun x => if x.2.2 = 0 then (if m < x.1 then some (0, x.2.1, 18) else some x) else some (0, x.2.1, x.2.2)
def flagS (l : List Int) (t e : Int) : Option (Bool × Int × Int) := if e = 0 then (if t = (l.length : Int) then some (false, t, 2) else if 0 ≤ t ∧ t < (l.length : Int) then (if 1 < rd l t then some (false, t, 4) else some (rd l t == 1, t + 1, 0)) else none) else some (false, t, e)
/-- A reader: its block, and the bytes that it reads, elder than w0. -/
def RDo (y : TypeId) (A : Option Addr) (l : List Int) (c : Nat) (t e : Int) : Obj := .cells #[.slice A l.length c, .int .i64 t, .int .i64 e] y (0, 0)
theorem dr_ {P : Program} {f : FuncId} {args : Array Value} {w : World} {v : Value} (h : Calls P f args w fun e w' => e = .returned v ∧ Drawn0 w w') : Calls P f args w fun e w' => e = .returned v ∧ Below w.heap.size w w' :=
 h.mono fun e w' hh => ⟨hh.1, by obtain ⟨n, rfl⟩ := hh.2; exact pw_below_drewN (Below.refl _ _) n⟩
theorem rd_set1 {w : World} {y : TypeId} {A : Option Addr} {l : List Int} {c : Nat} {t e : Int} {g : Nat} (h : w.heap[g]? = some (RDo y A l c t e)) (t' : Int) : (w.setCell ⟨g, 1, none⟩ (.int .i64 t')).heap[g]? = some (RDo y A l c t' e) := blk_put (cs' := #[.slice A l.length c, .int .i64 t', .int .i64 e]) h 1 _ rfl
theorem rd_set2 {w : World} {y : TypeId} {A : Option Addr} {l : List Int} {c : Nat} {t e : Int} {g : Nat} (h : w.heap[g]? = some (RDo y A l c t e)) (e' : Int) : (w.setCell ⟨g, 2, none⟩ (.int .i64 e')).heap[g]? = some (RDo y A l c t e') := blk_put (cs' := #[.slice A l.length c, .int .i64 t, .int .i64 e']) h 2 _ rfl
/-- What a reader's call leaves. -/
def RDp (y : TypeId) (w0 w : World) (g : Nat) (A : Option Addr) (l : List Int) (c : Nat) (t e : Int) (W : World) : Prop := W.heap[g]? = some (RDo y A l c t e) ∧ Below w0.heap.size w0 W ∧ KeepBut w W g none
theorem RDp.of {w0 w W : World} {g : Nat} {y : TypeId} {A : Option Addr} {l : List Int} {c : Nat} {t e : Int} (hB : Below w0.heap.size w0 w) (hG : w.heap[g]? = some (RDo y A l c t e)) (h : Below w.heap.size w W) : RDp y w0 w g A l c t e W :=
 ⟨blk_below hG h, hB.trans (h.mono hB.size), KeepBut.of_below h g none⟩
theorem RDp.set2 {w0 w W : World} {g : Nat} {y : TypeId} {A : Option Addr} {l : List Int} {c : Nat} {t e : Int} (h : RDp y w0 w g A l c t e W) (hg : w0.heap.size ≤ g) (e' : Int) : RDp y w0 w g A l c t e' (W.setCell ⟨g, 2, none⟩ (.int .i64 e')) :=
 ⟨rd_set2 h.1 e', h.2.1.setCell (p := ⟨g, 2, none⟩) hg _, h.2.2.set_ 2 _⟩
theorem RDp.set1 {w0 w W : World} {g : Nat} {y : TypeId} {A : Option Addr} {l : List Int} {c : Nat} {t e : Int} (h : RDp y w0 w g A l c t e W) (hg : w0.heap.size ≤ g) (t' : Int) : RDp y w0 w g A l c t' e (W.setCell ⟨g, 1, none⟩ (.int .i64 t')) :=
 ⟨rd_set1 h.1 t', h.2.1.setCell (p := ⟨g, 1, none⟩) hg _, h.2.2.set_ 1 _⟩
theorem RDp.trans {y : TypeId} {w0 w W W2 : World} {g : Nat} {A : Option Addr} {l : List Int} {c : Nat} {t e t' e' : Int} (h : RDp y w0 w g A l c t e W) (h2 : RDp y w0 W g A l c t' e' W2) : RDp y w0 w g A l c t' e' W2 :=
 ⟨h2.1, h2.2.1, Nat.le_trans h.2.2.1 h2.2.2.1, fun i hi h3 h4 => (h2.2.2.2 i (Nat.lt_of_lt_of_le hi h.2.2.1) h3 h4).trans (h.2.2.2 i hi h3 h4)⟩
theorem RDp.refl {y : TypeId} {w0 w : World} {g : Nat} {A : Option Addr} {l : List Int} {c : Nat} {t e : Int} (hB : Below w0.heap.size w0 w) (hG : w.heap[g]? = some (RDo y A l c t e)) : RDp y w0 w g A l c t e w := RDp.of hB hG (Below.refl _ _)
def f49_T3 : Bool × List (List Nat × List Nat) := (true, [([], []), ([0], [0]), ([1], [1]), ([2], [2]), ([], []), ([4], [4]), ([5], [5]), ([6], [6]), ([3, 7], [3, 7]), ([8], [8]), ([9], [9]), ([9], [9]), ([9], [9]), ([10, 8, 0, 1, 2, 3, 4, 5, 6, 7, 8, 9, 10], [10]), ([11, 13, 0, 1, 2, 3, 4, 5, 6, 7, 8, 9, 10, 11, 13], [11]), ([12, 14, 0, 1, 2, 3, 4, 5, 6, 7, 8, 9, 10, 11, 12, 13, 14], [12])])
def f49_B3 : List Nat := [0, 1, 3, 7, 0, 16, 48, 112, 255, 511, 1023, 1023, 1023, 2047, 12287, 32767]
set_option maxRecDepth 100000 in
theorem f49_tab3 : rtab .any (opsOf Try.f49 3) = f49_T3 := by kernel_rfl
theorem f49_bits3 : waitsOk f49_T3.2 f49_B3 = true := by kernel_rfl
set_option maxHeartbeats 4000000 in
set_option maxRecDepth 100000 in
theorem f49_calls (k : Nat) (w0 w : World) (g : Nat) (A : Option Addr) (c : Nat) (l : List Int) (t e n t' e' : Int) (hA : Kd.C (Kd.int .u8) w0 A l.length l) (hc : l.length ≤ c) (hB : Below w0.heap.size w0 w) (hg : w0.heap.size ≤ g) (hG : w.heap[g]? = some (RDo 69 A l c t e)) (h : vintS k l t e = some (n, t', e')) :
  Calls Try.prog 49 #[.pointer (some ⟨g, 0, none⟩)] w fun x w' => x = .returned (.int .u64 n) ∧ RDp 69 w0 w g A l c t' e' w' := by
 have HA := Aside0.mk hA
 have HB := Aside0.mk hB
 have HG := Aside0.mk hG
 have HS : Aside0 (∀ W, Below w.heap.size w W → W.cell? ⟨g, 0, none⟩ = some (.slice A l.length c) ∧ W.cell? ⟨g, 1, none⟩ = some (.int .i64 t) ∧ W.cell? ⟨g, 2, none⟩ = some (.int .i64 e) ∧ True) := ⟨fun W hb => ap3 (bc3 (blk_below hG hb)) trivial⟩
 clear hA hB hG
 unfold vintS at h
 obtain ⟨t0, t1, t2, _⟩ := HS.out w (Below.refl _ _)
 go_enter Try.func49, Try.ntmps49
 by_cases he : e = 0
 ·rw [if_pos he] at h
  subst he
  have HH := Aside0.mk h
  clear h
  go_upto_region 3 with (fail)
  clear t0 t1 t2
  have HY := Aside0.mk (below_drew1 (Below.refl w.heap.size w))
  refine start_ (n := 16) (S := fun W => W.cell? ⟨g, 0, none⟩ = some (.slice A l.length c) ∧ W.cell? ⟨g, 1, none⟩ = some (.int .i64 t) ∧ W.cell? ⟨g, 2, none⟩ = some (.int .i64 0) ∧ True) (ds := []) #[false, false, false, false, false, false, false, false, false, false, false, false, false, false, false, false] (by kernel_rfl) rfl rfl (HS.out _ HY.out) (fun hHeld => ?_)
  refine with_tabW f49_tab3 f49_bits3 (fun HT_ HW_ => ?_)
  generalize w.drew = wd at HY hHeld ⊢
  refine pu_ HT_ 0 (some 12) ?_
  refine pu_ HT_ 1 (some 13) ?_
  refine pu_ HT_ 2 (some 14) ?_
  refine tk_ HT_ HW_ 3 (some 15) hHeld ?_
  refine pu_ HT_ 4 (some 16) ?_
  refine pu_ HT_ 5 (some 17) ?_
  refine pu_ HT_ 6 (some 18) ?_
  refine tk_ HT_ HW_ 7 (some 19) hHeld ?_
  refine cl_ HT_ 8 (some 20) Try.func94 (dr_ (varint_Decode.calls k A c l t n t' e' _ (Kd.C_below HA.out (HB.out.trans (HY.out.mono HB.out.size))) hc HH.out)) HY HS (fun w9 HY hHeld => ?_)
  refine pu_ HT_ 9 (some 11) ?_
  refine pu_ HT_ 10 (some 21) ?_
  refine pu_ HT_ 11 (some 22) ?_
  refine pu_ HT_ 12 (some 23) ?_
  refine pu_ HT_ 13 (some 3) ?_
  refine pu_ HT_ 14 (some 4) ?_
  refine pu_ HT_ 15 (some 5) ?_
  refine done_ (done_of HT_.out (by kernel_rfl)) ?_
  clear HT_ HW_ hHeld
  obtain ⟨t0, t1, t2, _⟩ := HS.out w9 HY.out
  have z1 := blk_frozen (blk_below HG.out HY.out) 1
  have z2 := blk_frozen (blk_below HG.out HY.out) 2
  go_wp2
  go_ret
  exact ⟨rfl, ((RDp.of HB.out HG.out HY.out).set1 hg t').set2 hg e'⟩
 ·rw [if_neg he] at h
  obtain ⟨rfl, h2⟩ := Prod.mk.inj (Option.some.inj h)
  obtain ⟨rfl, rfl⟩ := Prod.mk.inj h2
  have hb : (e != 0) = true := by simp [he]
  clear h h2 he
  go_wp2
  go_ret
  exact ⟨rfl, RDp.of HB.out HG.out (Below.refl _ _)⟩
set_option maxHeartbeats 4000000 in
set_option maxRecDepth 100000 in
theorem f47_calls (k : Nat) (w0 w : World) (g : Nat) (A : Option Addr) (c : Nat) (l : List Int) (t e n t' e' : Int) (hA : Kd.C (Kd.int .u8) w0 A l.length l) (hc : l.length ≤ c) (hB : Below w0.heap.size w0 w) (hg : w0.heap.size ≤ g) (hG : w.heap[g]? = some (RDo 69 A l c t e)) (h : numS k l t e = some (n, t', e')) :
  Calls Try.prog 47 #[.pointer (some ⟨g, 0, none⟩)] w fun x w' => x = .returned (.int .i64 n) ∧ RDp 69 w0 w g A l c t' e' w' := by
 unfold numS at h
 obtain ⟨⟨m, t1_, e1_⟩, hv, hs⟩ := Option.bind_eq_some_iff.mp h
 have HV := Aside0.mk hv
 have HA := Aside0.mk hA
 have HB := Aside0.mk hB
 have HG := Aside0.mk hG
 have HH := Aside0.mk hs
 clear hA hB hG h hv hs
 go_enter Try.func47, Try.ntmps47
 go_upto_region 2 with (go_at_call 49; refine (f49_calls k w0 w g A c l t e m t1_ e1_ HA.out hc HB.out hg HG.out HV.out).mono ?_; rintro e w9 ⟨rfl, hp⟩; have HP := Aside0.mk hp; clear hp)
 obtain ⟨t0, t1, t2⟩ := bc3 HP.out.1
 have z2 := blk_frozen HP.out.1 2
 by_cases he : e1_ = 0
 ·subst he
  have HH2 := HH.out
  rw [if_pos rfl] at HH2
  by_cases hm : 2147483647 < m
  ·have hb : decide (2147483647 < m) = true := decide_eq_true hm
   rw [if_pos hm] at HH2
   obtain ⟨rfl, h2⟩ := Prod.mk.inj (Option.some.inj HH2)
   obtain ⟨rfl, rfl⟩ := Prod.mk.inj h2
   clear HH HH2 h2 hm
   go_wp2
   go_ret
   exact ⟨rfl, HP.out.set2 hg 6⟩
  ·have hb : decide (2147483647 < m) = false := decide_eq_false hm
   rw [if_neg hm] at HH2
   obtain ⟨rfl, h2⟩ := Prod.mk.inj (Option.some.inj HH2)
   obtain ⟨rfl, rfl⟩ := Prod.mk.inj h2
   clear HH HH2 h2 hm
   go_wp2
   go_ret
   exact ⟨rfl, HP.out⟩
 ·have hb : (e1_ == 0) = false := by simp [he]
  have hb2 : (e1_ != 0) = true := by simp [he]
  have HH2 := HH.out
  rw [if_neg he] at HH2
  obtain ⟨rfl, h2⟩ := Prod.mk.inj (Option.some.inj HH2)
  obtain ⟨rfl, rfl⟩ := Prod.mk.inj h2
  clear HH HH2 h2 he
  go_wp2
  go_ret
  exact ⟨rfl, HP.out⟩
set_option maxHeartbeats 4000000 in
set_option maxRecDepth 100000 in
theorem f48_calls (k : Nat) (lim : Int) (w0 w : World) (g : Nat) (A : Option Addr) (c : Nat) (l : List Int) (t e n t' e' : Int) (hA : Kd.C (Kd.int .u8) w0 A l.length l) (hc : l.length ≤ c) (hB : Below w0.heap.size w0 w) (hg : w0.heap.size ≤ g) (hG : w.heap[g]? = some (RDo 69 A l c t e)) (h : limS k lim l t e = some (n, t', e')) :
  Calls Try.prog 48 #[.pointer (some ⟨g, 0, none⟩), .int .i64 lim] w fun x w' => x = .returned (.int .i64 n) ∧ RDp 69 w0 w g A l c t' e' w' := by
 unfold limS at h
 obtain ⟨⟨m, t1_, e1_⟩, hv, hs⟩ := Option.bind_eq_some_iff.mp h
 have HV := Aside0.mk hv
 have HA := Aside0.mk hA
 have HB := Aside0.mk hB
 have HG := Aside0.mk hG
 have HH := Aside0.mk hs
 clear hA hB hG h hv hs
 go_enter Try.func48, Try.ntmps48
 go_upto_region 2 with (go_at_call 47; refine (f47_calls k w0 w g A c l t e m t1_ e1_ HA.out hc HB.out hg HG.out HV.out).mono ?_; rintro e w9 ⟨rfl, hp⟩; have HP := Aside0.mk hp; clear hp)
 obtain ⟨t0, t1, t2⟩ := bc3 HP.out.1
 have z2 := blk_frozen HP.out.1 2
 by_cases he : e1_ = 0
 ·subst he
  have HH2 := HH.out
  rw [if_pos rfl] at HH2
  by_cases hm : lim < m
  ·have hb : decide (lim < m) = true := decide_eq_true hm
   rw [if_pos hm] at HH2
   obtain ⟨rfl, h2⟩ := Prod.mk.inj (Option.some.inj HH2)
   obtain ⟨rfl, rfl⟩ := Prod.mk.inj h2
   clear HH HH2 h2 hm
   go_wp2
   go_ret
   exact ⟨rfl, HP.out.set2 hg 18⟩
  ·have hb : decide (lim < m) = false := decide_eq_false hm
   rw [if_neg hm] at HH2
   obtain ⟨rfl, h2⟩ := Prod.mk.inj (Option.some.inj HH2)
   obtain ⟨rfl, rfl⟩ := Prod.mk.inj h2
   clear HH HH2 h2 hm
   go_wp2
   go_ret
   exact ⟨rfl, HP.out⟩
 ·have hb : (e1_ == 0) = false := by simp [he]
  have hb2 : (e1_ != 0) = true := by simp [he]
  have HH2 := HH.out
  rw [if_neg he] at HH2
  obtain ⟨rfl, h2⟩ := Prod.mk.inj (Option.some.inj HH2)
  obtain ⟨rfl, rfl⟩ := Prod.mk.inj h2
  clear HH HH2 h2 he
  go_wp2
  go_ret
  exact ⟨rfl, HP.out⟩
def f50_T5 : Bool × List (List Nat × List Nat) := (true, [([], []), ([0], [0]), ([1], [1]), ([2], [2]), ([], []), ([4], [4]), ([5], [5]), ([6], [6]), ([7], [7]), ([3, 8], [3, 8]), ([9], [9])])
def f50_B5 : List Nat := [0, 1, 3, 7, 0, 16, 48, 112, 240, 511, 1023]
set_option maxRecDepth 100000 in
theorem f50_tab5 : rtab .any (opsOf Try.f50 5) = f50_T5 := by kernel_rfl
theorem f50_bits5 : waitsOk f50_T5.2 f50_B5 = true := by kernel_rfl
def f50_T7 : Bool × List (List Nat × List Nat) := (true, [([], []), ([0], [0]), ([1], [1]), ([2], [2]), ([], []), ([4], [4]), ([5], [5]), ([6], [6]), ([3, 7], [3, 7]), ([8], [8]), ([9], [9]), ([10], [10])])
def f50_B7 : List Nat := [0, 1, 3, 7, 0, 16, 48, 112, 255, 511, 1023, 2047]
set_option maxRecDepth 100000 in
theorem f50_tab7 : rtab .any (opsOf Try.f50 7) = f50_T7 := by kernel_rfl
theorem f50_bits7 : waitsOk f50_T7.2 f50_B7 = true := by kernel_rfl
def f50_T2 : Bool × List (List Nat × List Nat) := (true, [([], []), ([0], [0]), ([1], [1]), ([2], [2]), ([], []), ([4], [4]), ([5], [5]), ([6], [6]), ([7], [7]), ([3, 8], [3, 8]), ([9], [9]), ([10], [10]), ([11, 0, 1, 2, 3, 4, 5, 6, 7, 8, 9, 10, 11], [11])])
def f50_B2 : List Nat := [0, 1, 3, 7, 0, 16, 48, 112, 240, 511, 1023, 2047, 4095]
set_option maxRecDepth 100000 in
theorem f50_tab2 : rtab .any (opsOf Try.f50 2) = f50_T2 := by kernel_rfl
theorem f50_bits2 : waitsOk f50_T2.2 f50_B2 = true := by kernel_rfl
set_option maxHeartbeats 4000000 in
set_option maxRecDepth 100000 in
theorem f50_calls (w0 w : World) (g : Nat) (A : Option Addr) (c : Nat) (l : List Int) (t e : Int) (r : Bool) (t' e' : Int) (hA : Kd.C (Kd.int .u8) w0 A l.length l) (hB : Below w0.heap.size w0 w) (hg : w0.heap.size ≤ g) (hG : w.heap[g]? = some (RDo 69 A l c t e)) (h : flagS l t e = some (r, t', e')) :
  Calls Try.prog 50 #[.pointer (some ⟨g, 0, none⟩)] w fun x w' => x = .returned (.bool r) ∧ RDp 69 w0 w g A l c t' e' w' := by
 have HP := Aside0.mk (RDp.refl hB hG)
 have HA := Aside0.mk hA
 have HB := Aside0.mk hB
 have hl : l.length ≤ 9223372036854775807 := hA.2.1
 have HG0 := Aside0.mk hG
 clear hA hB hG
 unfold flagS at h
 obtain ⟨t0, t1, t2⟩ := bc3 HP.out.1
 go_enter Try.func50, Try.ntmps50
 by_cases he : e = 0
 rotate_left
 ·rw [if_neg he] at h
  obtain ⟨rfl, h2⟩ := Prod.mk.inj (Option.some.inj h)
  obtain ⟨rfl, rfl⟩ := Prod.mk.inj h2
  have hb : (e != 0) = true := by simp [he]
  clear h h2 he
  go_wp2
  go_ret
  exact ⟨rfl, HP.out⟩
 rw [if_pos he] at h
 subst he
 have HS : Aside0 (∀ W, Below w.heap.size w W → W.cell? ⟨g, 0, none⟩ = some (.slice A l.length c) ∧ W.cell? ⟨g, 1, none⟩ = some (.int .i64 t) ∧ W.cell? ⟨g, 2, none⟩ = some (.int .i64 0) ∧ True) := ⟨fun W hb => ap3 (bc3 (blk_below HP.out.1 hb)) trivial⟩
 go_upto_region 5 with (fail)
 clear t0 t1 t2
 have HY := Aside0.mk (below_drew1 (Below.refl w.heap.size w))
 refine start_ (n := 11) (S := fun W => W.cell? ⟨g, 0, none⟩ = some (.slice A l.length c) ∧ W.cell? ⟨g, 1, none⟩ = some (.int .i64 t) ∧ W.cell? ⟨g, 2, none⟩ = some (.int .i64 0) ∧ True) (ds := []) #[false, false, false, false, false, false, false, false, false, false, false] (by kernel_rfl) rfl rfl (HS.out _ HY.out) (fun hHeld => ?_)
 refine with_tabW f50_tab5 f50_bits5 (fun HT_ HW_ => ?_)
 generalize w.drew = wd at HY hHeld ⊢
 refine pu_ HT_ 0 (some 29) ?_
 refine pu_ HT_ 1 (some 30) ?_
 refine pu_ HT_ 2 (some 31) ?_
 refine tk_ HT_ HW_ 3 (some 32) hHeld ?_
 refine pu_ HT_ 4 (some 33) ?_
 refine pu_ HT_ 5 (some 34) ?_
 refine pu_ HT_ 6 (some 35) ?_
 refine tk_ HT_ HW_ 7 (some 36) hHeld ?_
 refine pu_ HT_ 8 (some 37) ?_
 refine pu_ HT_ 9 (some 38) ?_
 refine pu_ HT_ 10 (some 28) ?_
 refine done_ (done_of HT_.out (by kernel_rfl)) ?_
 clear HT_ HW_ hHeld
 replace HP := Aside0.mk (RDp.of HB.out HP.out.1 HY.out)
 obtain ⟨t0, t1, t2⟩ := bc3 HP.out.1
 have z1 := blk_frozen HP.out.1 1
 have z2 := blk_frozen HP.out.1 2
 by_cases ht : t = (l.length : Int)
 ·rw [if_pos ht] at h
  have hb : (t == (l.length : Int)) = true := by simp [ht]
  obtain ⟨rfl, h2⟩ := Prod.mk.inj (Option.some.inj h)
  obtain ⟨rfl, rfl⟩ := Prod.mk.inj h2
  clear h h2 ht
  go_wp2
  go_ret
  exact ⟨rfl, HP.out.set2 hg 2⟩
 rw [if_neg ht] at h
 have hb : (t == (l.length : Int)) = false := by simp [ht]
 clear ht
 by_cases hr : 0 ≤ t ∧ t < (l.length : Int)
 rotate_left
 ·rw [if_neg hr] at h
  exact absurd h (by simp)
 rw [if_pos hr] at h
 obtain ⟨ad, rfl, hx⟩ := Kd.at_int HA.out t hr.1 hr.2
 obtain ⟨b, hbb⟩ : ∃ b, rd l t = b := ⟨_, rfl⟩
 rw [hbb] at hx h
 have HX := Aside0.mk hx
 have HH := Aside0.mk h
 have HSB : Aside0 (∀ W, Below w.heap.size w W → W.cell? ⟨g, 0, none⟩ = some (.slice (some ad) l.length c) ∧ W.cell? ⟨g, 1, none⟩ = some (.int .i64 t) ∧ W.cell? ⟨g, 2, none⟩ = some (.int .i64 0) ∧ W.cell? (ad.add t.toNat) = some (.int .u8 b)) := ⟨fun W hb => by
  obtain ⟨t0, t1, t2, _⟩ := HS.out W hb
  exact ⟨t0, t1, t2, up_ hb (up_ HB.out HX.out)⟩⟩
 have hp0 : decide (0 ≤ t) = true := decide_eq_true hr.1
 have hp1 : decide (t < (l.length : Int)) = true := decide_eq_true hr.2
 have hp2 : (0 ≤ t) = True := eq_true hr.1
 have hp3 : (t < (l.length : Int)) = True := eq_true hr.2
 have hw1 : IntKind.i64.wrap (t + 1) = t + 1 := by rw [i64_w]; unfold wrap64; omega
 have hw2 : IntKind.i64.wrap t = t := by rw [i64_w]; unfold wrap64; omega
 have hw3 : wrap64 (t + 1) = t + 1 := by unfold wrap64; omega
 have hw4 : wrap64 t = t := by unfold wrap64; omega
 have hw5 : IntKind.i64.wrap (t + 1 - 1) = t := by rw [i64_w]; unfold wrap64; omega
 clear hbb hx hr h
 go_upto_region 7 with (fail)
 clear t0 t1 t2 z1 z2
 replace HY := Aside0.mk (below_drew1 HY.out)
 refine start_ (n := 12) (S := fun W => W.cell? ⟨g, 0, none⟩ = some (.slice (some ad) l.length c) ∧ W.cell? ⟨g, 1, none⟩ = some (.int .i64 t) ∧ W.cell? ⟨g, 2, none⟩ = some (.int .i64 0) ∧ W.cell? (ad.add t.toNat) = some (.int .u8 b)) (ds := []) #[false, false, false, false, false, false, false, false, false, false, false, false] (by kernel_rfl) rfl rfl (HSB.out _ HY.out) (fun hHeld => ?_)
 refine with_tabW f50_tab7 f50_bits7 (fun HT_ HW_ => ?_)
 generalize wd.drew = wd2 at HY hHeld ⊢
 refine pu_ HT_ 0 (some 43) ?_
 refine pu_ HT_ 1 (some 44) ?_
 refine pu_ HT_ 2 (some 45) ?_
 refine tk_ HT_ HW_ 3 (some 46) hHeld ?_
 refine pu_ HT_ 4 (some 47) ?_
 refine pu_ HT_ 5 (some 48) ?_
 refine pu_ HT_ 6 (some 49) ?_
 refine tk_ HT_ HW_ 7 (some 50) hHeld ?_
 refine tk_ HT_ HW_ 8 (some 51) hHeld ?_
 refine tk_ HT_ HW_ 9 (some 52) hHeld ?_
 refine pu_ HT_ 10 (some 53) ?_
 refine pu_ HT_ 11 (some 42) ?_
 refine done_ (done_of HT_.out (by kernel_rfl)) ?_
 clear HT_ HW_ hHeld
 replace HP := Aside0.mk (RDp.of (g := g) (A := some ad) (l := l) (c := c) (t := t) (e := 0) (w := w) HB.out HG0.out HY.out)
 obtain ⟨t0, t1, t2⟩ := bc3 HP.out.1
 have z1 := blk_frozen HP.out.1 1
 have z2 := blk_frozen HP.out.1 2
 have h := HH.out
 by_cases h1 : 1 < b
 ·rw [if_pos h1] at h
  have hb1 : decide (1 < b) = true := decide_eq_true h1
  (try rw [hb1])
  obtain ⟨rfl, h2⟩ := Prod.mk.inj (Option.some.inj h)
  obtain ⟨rfl, rfl⟩ := Prod.mk.inj h2
  clear h h2 h1 HH
  go_wp2
  go_ret
  exact ⟨rfl, HP.out.set2 hg 4⟩
 rw [if_neg h1] at h
 have hb1 : decide (1 < b) = false := decide_eq_false h1
 (try rw [hb1])
 obtain ⟨rfl, h2⟩ := Prod.mk.inj (Option.some.inj h)
 obtain ⟨rfl, rfl⟩ := Prod.mk.inj h2
 clear h h2 h1 HH
 go_upto_region 2 with (fail)
 replace HP := Aside0.mk (HP.out.set1 hg (t + 1))
 have HW := Aside0.mk (HSB.out _ HY.out).2.2.2
 clear t0 t1 t2 z1 z2
 generalize hW1 : wd2.setCell ⟨g, 1, none⟩ (.int .i64 (t + 1)) = W1 at HP ⊢
 have HBY : Aside0 (W1.cell? (ad.add t.toNat) = some (.int .u8 b)) := ⟨by rw [← hW1, cell_far (by show (ad.add t.toNat).block ≠ g; have := World.block_lt_of_cell? w0 _ HX.out; omega)]; exact HW.out⟩
 clear hW1 HW HY
 have HY := Aside0.mk (below_drew1 (Below.refl W1.heap.size W1))
 have HSC : Aside0 (∀ W, Below W1.heap.size W1 W → W.cell? ⟨g, 0, none⟩ = some (.slice (some ad) l.length c) ∧ W.cell? ⟨g, 1, none⟩ = some (.int .i64 (t + 1)) ∧ W.cell? ⟨g, 2, none⟩ = some (.int .i64 0) ∧ W.cell? (ad.add t.toNat) = some (.int .u8 b)) := ⟨fun W hb => by
  obtain ⟨t0, t1, t2⟩ := bc3 (blk_below HP.out.1 hb)
  exact ⟨t0, t1, t2, up_ hb HBY.out⟩⟩
 refine start_ (n := 13) (S := fun W => W.cell? ⟨g, 0, none⟩ = some (.slice (some ad) l.length c) ∧ W.cell? ⟨g, 1, none⟩ = some (.int .i64 (t + 1)) ∧ W.cell? ⟨g, 2, none⟩ = some (.int .i64 0) ∧ W.cell? (ad.add t.toNat) = some (.int .u8 b)) (ds := []) #[false, false, false, false, false, false, false, false, false, false, false, false, false] (by kernel_rfl) rfl rfl (HSC.out _ HY.out) (fun hHeld => ?_)
 refine with_tabW f50_tab2 f50_bits2 (fun HT_ HW_ => ?_)
 generalize W1.drew = wd3 at HY hHeld ⊢
 refine pu_ HT_ 0 (some 10) ?_
 refine pu_ HT_ 1 (some 11) ?_
 refine pu_ HT_ 2 (some 12) ?_
 refine tk_ HT_ HW_ 3 (some 13) hHeld ?_
 refine pu_ HT_ 4 (some 14) ?_
 refine pu_ HT_ 5 (some 15) ?_
 refine pu_ HT_ 6 (some 16) ?_
 refine tk_ HT_ HW_ 7 (some 17) hHeld ?_
 refine pu_ HT_ 8 (some 18) ?_
 refine tk_ HT_ HW_ 9 (some 19) hHeld ?_
 refine tk_ HT_ HW_ 10 (some 20) hHeld ?_
 refine pu_ HT_ 11 (some 21) ?_
 refine pu_ HT_ 12 (some 2) ?_
 refine done_ (done_of HT_.out (by kernel_rfl)) ?_
 clear HT_ HW_ hHeld
 replace HP := Aside0.mk (HP.out.trans (RDp.of HP.out.2.1 HP.out.1 HY.out))
 go_wp2
 go_ret
 exact ⟨rfl, HP.out⟩
end Go.Proofs.Ytackcingpffidaa.P
namespace Go.Proofs.Ytackcingpffidaa.P
open Go.RowKit Go.Sort Go.Proofs.YtackcingpffidaaW.PrintWords Go.Proofs.YtackcingpffidaaW.PrintLast Go.Proofs.YtackcingpffidaaW.PrintMore
set_option linter.unusedVariables false
set_option linter.unusedSimpArgs false
theorem grow2 (W : World) (b1 b2 : Obj) (n : Nat) : ((W.alloc b1).alloc b2).drewN n = grow (W.drewN n) #[b1, b2] := by
 have h : (W.heap.push b1).push b2 = W.heap ++ #[b1, b2] := by
  apply Array.ext'
  simp
 show ({ W with heap := (W.heap.push b1).push b2, drawn := W.drawn + n } : World) = { W with heap := W.heap ++ #[b1, b2], drawn := W.drawn + n }
 rw [h]
set_option maxHeartbeats 2000000 in
set_option maxRecDepth 100000 in
theorem cV_grown (x y : S39) (c : Int) (h : cV x y = c) (W : World) : Calls Try.prog 53 #[.agg #[.int .i64 x.f0, .int .i64 x.f1, .string x.f2], .agg #[.int .i64 y.f0, .int .i64 y.f1, .string y.f2]] W fun e w' => e = .returned (.int .i64 c) ∧ ∃ q os', w' = grow (W.drewN q) os' := by
 have hf : value_Compare.f x.f0 x.f1 x.f2 y.f0 y.f1 y.f2 = some c := by rw [cV_is, h]
 have g1 : ((W.alloc (.cells #[.int .i64 x.f0, .int .i64 x.f1, .string x.f2] 39)).alloc (.cells #[.int .i64 y.f0, .int .i64 y.f1, .string y.f2] 39)).heap[W.heap.size]? = some (.cells #[.int .i64 x.f0, .int .i64 x.f1, .string x.f2] 39 (0, 0)) := blk_alloc (heap_alloc_new W (.cells #[.int .i64 x.f0, .int .i64 x.f1, .string x.f2] 39)) _
 have g2 : ((W.alloc (.cells #[.int .i64 x.f0, .int .i64 x.f1, .string x.f2] 39)).alloc (.cells #[.int .i64 y.f0, .int .i64 y.f1, .string y.f2] 39)).heap[W.heap.size + 1]? = some (.cells #[.int .i64 y.f0, .int .i64 y.f1, .string y.f2] 39 (0, 0)) := by
  have := heap_alloc_new (W.alloc (.cells #[.int .i64 x.f0, .int .i64 x.f1, .string x.f2] 39)) (.cells #[.int .i64 y.f0, .int .i64 y.f1, .string y.f2] 39)
  rwa [World.size_alloc] at this
 have p0 : ((W.alloc (.cells #[.int .i64 x.f0, .int .i64 x.f1, .string x.f2] 39)).alloc (.cells #[.int .i64 y.f0, .int .i64 y.f1, .string y.f2] 39)).cell? ⟨W.heap.size, 0, none⟩ = some (.int .i64 x.f0) := (blk_cell g1 0).trans rfl
 have p1 : ((W.alloc (.cells #[.int .i64 x.f0, .int .i64 x.f1, .string x.f2] 39)).alloc (.cells #[.int .i64 y.f0, .int .i64 y.f1, .string y.f2] 39)).cell? ⟨W.heap.size, 1, none⟩ = some (.int .i64 x.f1) := (blk_cell g1 1).trans rfl
 have p2 : ((W.alloc (.cells #[.int .i64 x.f0, .int .i64 x.f1, .string x.f2] 39)).alloc (.cells #[.int .i64 y.f0, .int .i64 y.f1, .string y.f2] 39)).cell? ⟨W.heap.size, 2, none⟩ = some (.string x.f2) := (blk_cell g1 2).trans rfl
 have q0 : ((W.alloc (.cells #[.int .i64 x.f0, .int .i64 x.f1, .string x.f2] 39)).alloc (.cells #[.int .i64 y.f0, .int .i64 y.f1, .string y.f2] 39)).cell? ⟨W.heap.size + 1, 0, none⟩ = some (.int .i64 y.f0) := (blk_cell g2 0).trans rfl
 have q1 : ((W.alloc (.cells #[.int .i64 x.f0, .int .i64 x.f1, .string x.f2] 39)).alloc (.cells #[.int .i64 y.f0, .int .i64 y.f1, .string y.f2] 39)).cell? ⟨W.heap.size + 1, 1, none⟩ = some (.int .i64 y.f1) := (blk_cell g2 1).trans rfl
 have q2 : ((W.alloc (.cells #[.int .i64 x.f0, .int .i64 x.f1, .string x.f2] 39)).alloc (.cells #[.int .i64 y.f0, .int .i64 y.f1, .string y.f2] 39)).cell? ⟨W.heap.size + 1, 2, none⟩ = some (.string y.f2) := (blk_cell g2 2).trans rfl
 clear g1 g2 h
 unfold value_Compare.f at hf
 by_cases hk : x.f0 = y.f0
 ·rw [if_pos hk] at hf
  have hkb : (x.f0 != y.f0) = false := by simp [hk]
  by_cases h3 : x.f0 = 3
  ·rw [if_pos h3] at hf
   obtain ⟨t, ht, he⟩ := Option.bind_eq_some_iff.mp hf
   obtain rfl := Option.some.inj he
   have HC : Aside0 (∀ w', Calls Try.prog 100 #[.string x.f2, .string y.f2] w' fun e w'' => e = .returned (.int .i64 t) ∧ Drawn0 w' w'') := ⟨fun w' => strings_Compare.calls x.f2 y.f2 t w' ht⟩
   have e3 : (x.f0 == 3) = true := by simp [h3]
   clear hf he ht hk h3
   go_enter Try.func53, Try.ntmps53; go_wp2_with (first | (go_at_call 99; refine (HC.out _).mono ?_; rintro e w1 ⟨rfl, n, rfl⟩) | (go_at_call 100; refine (HC.out _).mono ?_; rintro e w1 ⟨rfl, n, rfl⟩)); go_ret
   exact ⟨rfl, _, _, grow2 W _ _ _⟩
  ·rw [if_neg h3] at hf
   have e3 : (x.f0 == 3) = false := by simp [h3]
   by_cases h1 : x.f0 = 1
   ·rw [if_pos h1] at hf
    obtain ⟨t, ht, he⟩ := Option.bind_eq_some_iff.mp hf
    obtain rfl := Option.some.inj he
    have HC : Aside0 (∀ w', Calls Try.prog 99 #[.bool (decide (x.f1 < y.f1)), .bool (decide (y.f1 < x.f1))] w' fun e w'' => e = .returned (.int .i64 t) ∧ Drawn0 w' w'') := ⟨fun w' => value_sign.calls _ _ t w' ht⟩
    have e1 : (x.f0 == 1) = true := by simp [h1]
    clear hf he ht hk h3 h1
    go_enter Try.func53, Try.ntmps53; go_wp2_with (first | (go_at_call 99; refine (HC.out _).mono ?_; rintro e w1 ⟨rfl, n, rfl⟩) | (go_at_call 100; refine (HC.out _).mono ?_; rintro e w1 ⟨rfl, n, rfl⟩)); go_ret
    exact ⟨rfl, _, _, grow2 W _ _ _⟩
   ·rw [if_neg h1] at hf
    have e1 : (x.f0 == 1) = false := by simp [h1]
    by_cases h2 : x.f0 = 2
    ·rw [if_pos h2] at hf
     obtain ⟨t, ht, he⟩ := Option.bind_eq_some_iff.mp hf
     obtain rfl := Option.some.inj he
     have HC : Aside0 (∀ w', Calls Try.prog 99 #[.bool (decide (x.f1 < y.f1)), .bool (decide (y.f1 < x.f1))] w' fun e w'' => e = .returned (.int .i64 t) ∧ Drawn0 w' w'') := ⟨fun w' => value_sign.calls _ _ t w' ht⟩
     have e2 : (x.f0 == 2) = true := by simp [h2]
     clear hf he ht hk h3 h1 h2
     go_enter Try.func53, Try.ntmps53; go_wp2_with (first | (go_at_call 99; refine (HC.out _).mono ?_; rintro e w1 ⟨rfl, n, rfl⟩) | (go_at_call 100; refine (HC.out _).mono ?_; rintro e w1 ⟨rfl, n, rfl⟩)); go_ret
     exact ⟨rfl, _, _, grow2 W _ _ _⟩
    ·rw [if_neg h2] at hf
     obtain rfl := Option.some.inj hf
     have e2 : (x.f0 == 2) = false := by simp [h2]
     clear hf hk h3 h1 h2
     go_enter Try.func53, Try.ntmps53
     go_wp2
     go_ret
     exact ⟨rfl, 0, _, grow2 W _ _ 0⟩
 ·rw [if_neg hk] at hf
  obtain ⟨t, ht, he⟩ := Option.bind_eq_some_iff.mp hf
  obtain rfl := Option.some.inj he
  have hkb : (x.f0 != y.f0) = true := by simp [hk]
  have HC : Aside0 (∀ w', Calls Try.prog 99 #[.bool (decide (x.f0 < y.f0)), .bool true] w' fun e w'' => e = .returned (.int .i64 t) ∧ Drawn0 w' w'') := ⟨fun w' => value_sign.calls _ _ t w' ht⟩
  clear hf he ht hk
  go_enter Try.func53, Try.ntmps53; go_wp2_with (first | (go_at_call 99; refine (HC.out _).mono ?_; rintro e w1 ⟨rfl, n, rfl⟩) | (go_at_call 100; refine (HC.out _).mono ?_; rintro e w1 ⟨rfl, n, rfl⟩)); go_ret
  exact ⟨rfl, _, _, grow2 W _ _ _⟩
end Go.Proofs.Ytackcingpffidaa.P
namespace Go.Proofs
open Go.Shelf
def Try.laysSortF_ren : Go.Shelf.Ren := ⟨fun | 6 => 52 | 15 => 98 | 14 => 97 | 28 => 120 | 29 => 121 | 20 => 112 | 21 => 113 | 22 => 114 | 23 => 115 | 24 => 116 | 25 => 117 | 26 => 118 | 27 => 119 | 46 => 128 | 47 => 129 | 48 => 130 | 49 => 131 | 50 => 132 | 57 => 142 | n => n, fun | 22 => 24 | 24 => 39 | 25 => 52 | 3 => 3 | 39 => 109 | 0 => 0 | 53 => 136 | 55 => 53 | 4 => 4 | 46 => 130 | 45 => 129 | 50 => 93 | 5 => 5 | 9 => 9 | 66 => 141 | 70 => 144 | 76 => 151 | 77 => 152 | n => n, fun | n => n⟩
theorem Try.laysSortF : Go.Proofs.SlLaysF0.n6 Try.prog Try.laysSortF_ren := {
 mixed := by kernel_rfl
 f6 := ⟨Try.f52.name, by decide, Try.func52.trans (congrArg some (by kernel_rfl))⟩
 f14 := ⟨Try.f97.name, by decide, Try.func97.trans (congrArg some (by kernel_rfl))⟩
 f15 := Try.func98.trans (congrArg some (by kernel_rfl))
 f20 := ⟨Try.f112.name, by decide, Try.func112.trans (congrArg some (by kernel_rfl))⟩
 f21 := ⟨Try.f113.name, by decide, Try.func113.trans (congrArg some (by kernel_rfl))⟩
 f22 := ⟨Try.f114.name, by decide, Try.func114.trans (congrArg some (by kernel_rfl))⟩
 f23 := ⟨Try.f115.name, by decide, Try.func115.trans (congrArg some (by kernel_rfl))⟩
 f24 := ⟨Try.f116.name, by decide, Try.func116.trans (congrArg some (by kernel_rfl))⟩
 f25 := ⟨Try.f117.name, by decide, Try.func117.trans (congrArg some (by kernel_rfl))⟩
 f26 := ⟨Try.f118.name, by decide, Try.func118.trans (congrArg some (by kernel_rfl))⟩
 f27 := ⟨Try.f119.name, by decide, Try.func119.trans (congrArg some (by kernel_rfl))⟩
 f28 := Try.func120.trans (congrArg some (by kernel_rfl))
 f29 := Try.func121.trans (congrArg some (by kernel_rfl))
 f46 := ⟨Try.f128.name, by decide, Try.func128.trans (congrArg some (by kernel_rfl))⟩
 f47 := Try.func129.trans (congrArg some (by kernel_rfl))
 f48 := Try.func130.trans (congrArg some (by kernel_rfl))
 f49 := ⟨Try.f131.name, by decide, Try.func131.trans (congrArg some (by kernel_rfl))⟩
 f50 := ⟨Try.f132.name, by decide, Try.func132.trans (congrArg some (by kernel_rfl))⟩
 f57 := ⟨Try.f142.name, by decide, Try.func142.trans (congrArg some (by kernel_rfl))⟩
 t0 := Try.underlying0
 a0 := Try.isAgg0
 z0 := Try.sizeOf0
 v0 := Try.zeroValue0
 t3 := Try.underlying3
 a3 := Try.isAgg3
 z3 := Try.sizeOf3
 v3 := Try.zeroValue3
 t4 := Try.underlying4
 a4 := Try.isAgg4
 z4 := Try.sizeOf4
 v4 := Try.zeroValue4
 t5 := Try.underlying5
 a5 := Try.isAgg5
 z5 := Try.sizeOf5
 v5 := Try.zeroValue5
 t9 := Try.underlying9
 a9 := Try.isAgg9
 z9 := Try.sizeOf9
 v9 := Try.zeroValue9
 t22 := Try.underlying24
 a22 := Try.isAgg24
 z22 := Try.sizeOf24
 v22 := Try.zeroValue24
 t25 := Try.underlying52
 a25 := Try.isAgg52
 z25 := Try.sizeOf52
 v25 := Try.zeroValue52
 t39 := Try.underlying109
 a39 := Try.isAgg109
 z39 := Try.sizeOf109
 v39 := Try.zeroValue109
 t45 := Try.underlying129
 a45 := Try.isAgg129
 z45 := Try.sizeOf129
 v45 := Try.zeroValue129
 t46 := Try.underlying130
 a46 := Try.isAgg130
 z46 := Try.sizeOf130
 v46 := Try.zeroValue130
 t50 := Try.underlying93
 a50 := Try.isAgg93
 z50 := Try.sizeOf93
 v50 := Try.zeroValue93
 t53 := Try.underlying136
 a53 := Try.isAgg136
 z53 := Try.sizeOf136
 v53 := Try.zeroValue136
 t55 := Try.underlying53
 a55 := Try.isAgg53
 z55 := Try.sizeOf53
 v55 := Try.zeroValue53
 t66 := Try.underlying141
 a66 := Try.isAgg141
 z66 := Try.sizeOf141
 v66 := Try.zeroValue141
 t70 := Try.underlying144
 a70 := Try.isAgg144
 z70 := Try.sizeOf144
 v70 := Try.zeroValue144
 t76 := Try.underlying151
 a76 := Try.isAgg151
 z76 := Try.sizeOf151
 v76 := Try.zeroValue151
 t77 := Try.underlying152
 a77 := Try.isAgg152
 z77 := Try.sizeOf152
 v77 := Try.zeroValue152 }
def Try.laysCompact_ren : Go.Shelf.Ren := ⟨fun | 43 => 104 | n => n, fun | 22 => 22 | 23 => 53 | 3 => 3 | 4 => 4 | 0 => 0 | n => n, fun | n => n⟩
theorem Try.laysCompact : Go.Proofs.SlLaysE.n43 Try.prog Try.laysCompact_ren := {
 mixed := by kernel_rfl
 f43 := ⟨Try.f104.name, by decide, Try.func104.trans (congrArg some (by kernel_rfl))⟩
 t0 := Try.underlying0
 a0 := Try.isAgg0
 z0 := Try.sizeOf0
 v0 := Try.zeroValue0
 t3 := Try.underlying3
 a3 := Try.isAgg3
 z3 := Try.sizeOf3
 v3 := Try.zeroValue3
 t4 := Try.underlying4
 a4 := Try.isAgg4
 z4 := Try.sizeOf4
 v4 := Try.zeroValue4
 t22 := Try.underlying22
 a22 := Try.isAgg22
 z22 := Try.sizeOf22
 v22 := Try.zeroValue22
 a23 := Try.isAgg53
 z23 := Try.sizeOf53 }
def Try.laysBits_ren : Go.Shelf.Ren := ⟨fun | 125 => 98 | 128 => 120 | 129 => 121 | n => n, fun | 46 => 109 | 3 => 3 | 51 => 136 | 53 => 53 | 4 => 4 | 5 => 5 | 9 => 9 | n => n, fun | n => n⟩
theorem Try.laysBits : Go.Proofs.Lays.n125 Try.prog Try.laysBits_ren := {
 mixed := by kernel_rfl
 f125 := Try.func98.trans (congrArg some (by kernel_rfl))
 f128 := Try.func120.trans (congrArg some (by kernel_rfl))
 f129 := Try.func121.trans (congrArg some (by kernel_rfl))
 t3 := Try.underlying3
 a3 := Try.isAgg3
 z3 := Try.sizeOf3
 v3 := Try.zeroValue3
 t4 := Try.underlying4
 a4 := Try.isAgg4
 z4 := Try.sizeOf4
 v4 := Try.zeroValue4
 t5 := Try.underlying5
 a5 := Try.isAgg5
 z5 := Try.sizeOf5
 v5 := Try.zeroValue5
 t9 := Try.underlying9
 a9 := Try.isAgg9
 z9 := Try.sizeOf9
 v9 := Try.zeroValue9
 t46 := Try.underlying109
 a46 := Try.isAgg109
 z46 := Try.sizeOf109
 v46 := Try.zeroValue109
 t51 := Try.underlying136
 a51 := Try.isAgg136
 z51 := Try.sizeOf136
 v51 := Try.zeroValue136
 t53 := Try.underlying53
 a53 := Try.isAgg53
 z53 := Try.sizeOf53
 v53 := Try.zeroValue53 }
end Go.Proofs
namespace Go.Proofs.Ytackcingpffidaa.P
open Go.RowKit Go.Sort Go.Proofs.YtackcingpffidaaW.PrintWords Go.Proofs.YtackcingpffidaaW.PrintLast Go.Proofs.YtackcingpffidaaW.PrintMore
set_option linter.unusedVariables false
set_option linter.unusedSimpArgs false
/-! ### a row's cells, flat -/
theorem flat_len {α : Type} (k : Nat) (f : α → List Value) (hf : ∀ x, (f x).length = k) : ∀ l : List α, (l.flatMap f).length = l.length * k
 | [] => by simp
 | x :: l => by rw [List.flatMap_cons, List.length_append, hf, flat_len k f hf l, List.length_cons, Nat.add_mul, Nat.one_mul, Nat.add_comm]
theorem flat_drop {α : Type} (k : Nat) (f : α → List Value) (hf : ∀ x, (f x).length = k) : ∀ (l : List α) (i : Nat), (l.flatMap f).drop (i * k) = (l.drop i).flatMap f
 | l, 0 => by simp
 | [], i + 1 => by simp
 | x :: l, i + 1 => by
  rw [List.flatMap_cons, List.drop_succ_cons, Nat.add_mul, Nat.one_mul, ← flat_drop k f hf l i, show i * k + k = (f x).length + i * k from by rw [hf]; omega, List.drop_append]
  simp
theorem flat_reps {α : Type} (R : α → List Value → Prop) (k : Nat) (f : α → List Value) (hf : ∀ x, (f x).length = k) (hR : ∀ x, R x (f x)) (l : List α) : Reps R k l (l.flatMap f) := by
 refine ⟨flat_len k f hf l, fun j p hj => ?_⟩
 rw [flat_drop k f hf]
 obtain ⟨hjl, rfl⟩ := List.getElem?_eq_some_iff.1 hj
 rw [List.drop_eq_getElem_cons hjl, List.flatMap_cons, List.take_append, List.take_of_length_le (by rw [hf]; omega), hf]
 simp
 exact hR _
theorem flat_of_reps {α : Type} {R : α → List Value → Prop} {k : Nat} {f : α → List Value} (hf : ∀ x, (f x).length = k) (hR : ∀ x c, R x c → c = f x) {l : List α} {cs : List Value} (h : Reps R k l cs) : cs = l.flatMap f := by
 revert cs
 induction l with
 | nil =>
  intro cs h
  have := h.1
  simp at this
  rw [List.flatMap_nil, this]
 | cons x l ih =>
  intro cs h
  have h0 := hR _ _ (h.2 0 x rfl)
  rw [Nat.zero_mul, List.drop_zero] at h0
  have h1 : cs.drop k = l.flatMap f := ih ⟨by rw [List.length_drop, h.1, List.length_cons, Nat.add_mul, Nat.one_mul]; omega, fun j p hj => by
   have := h.2 (j + 1) p (by simpa using hj)
   rw [List.drop_drop]
   rwa [Nat.add_mul, Nat.one_mul, Nat.add_comm (j * k) k] at this⟩
  rw [List.flatMap_cons, ← h0, ← h1, List.take_append_drop]
def enc39 (x : S39) : List Value := [.int .i64 x.f0, .int .i64 x.f1, .string x.f2]
def E39 (l : List S39) : List Value := l.flatMap enc39
theorem len39 (x : S39) : (enc39 x).length = 3 := rfl
theorem E39_len (l : List S39) : (E39 l).length = l.length * 3 := flat_len 3 _ len39 l
theorem enc39_one (x : S39) : ∀ v ∈ enc39 x, v.oneCell' = true := by
 intro v hv
 simp [enc39] at hv
 rcases hv with rfl | rfl | rfl <;> rfl
theorem R39_of {w : World} {base : Nat} {ok : Nat → Prop} {v : Value} {l : List S39} (h : w.ownsRow base 39 3 v l.length (E39 l)) (hok : ∀ k, v.ownBlock = some k → ok k) : Kd.R k39 39 w base ok v l :=
 ⟨hok, E39 l, h, flat_reps _ 3 _ len39 (fun x => k39_mkM w base _ x) l⟩
theorem R39_own {w : World} {base : Nat} {ok : Nat → Prop} {v : Value} {l : List S39} (h : Kd.R k39 39 w base ok v l) : w.ownsRow base 39 3 v l.length (E39 l) := by
 obtain ⟨_, inner, ho, hr⟩ := h
 have : inner = E39 l := flat_of_reps len39 (fun x c hc => k39_openM hc) hr
 rw [← this]; exact ho
instance : Inhabited S39 := ⟨z39⟩
theorem flatK_E39 (l : List S39) : (flatK enc39 3 l.toArray).toList = E39 l := by
 apply List.ext_getElem?
 intro t
 by_cases ht : t < l.length * 3
 ·have h1 : (flatK enc39 3 l.toArray).toList[t]? = some ((enc39 l.toArray[t / 3]!)[t % 3]!) := by
   rw [Array.getElem?_toList]
   simp [flatK, ht]
  have hr := (flat_reps (fun (x : S39) c => c = enc39 x) 3 enc39 len39 (fun _ => rfl) l).2 (t / 3) l[t / 3] (List.getElem?_eq_getElem (by omega))
  have h2 : (E39 l)[t]? = (enc39 l[t / 3])[t % 3]? := by
   rw [← hr, List.getElem?_take_of_lt (by omega), List.getElem?_drop]
   unfold E39
   congr 1
   omega
  rw [h1, h2]
  have h3 : l.toArray[t / 3]! = l[t / 3] := by
   rw [getElem!_pos l.toArray (t / 3) (by simp; omega)]
   simp
  rw [h3]
  have h4 : t % 3 < (enc39 l[t / 3]).length := by rw [len39]; omega
  rw [List.getElem?_eq_getElem h4, getElem!_pos (enc39 l[t / 3]) (t % 3) h4]
 ·rw [List.getElem?_eq_none (by simp; omega), List.getElem?_eq_none (by rw [E39_len]; omega)]
/-- Less, told out. -/
def lV (x y : S39) : Bool := if x.f0 = y.f0 then (if x.f0 = 3 then decide (Lib.compareBytes x.f2.data.toList y.f2.data.toList < 0) else if x.f0 = 1 ∨ x.f0 = 2 then decide (x.f1 < y.f1) else false) else decide (x.f0 < y.f0)
theorem sign_lt (a b : Bool) (t : Int) (h : value_sign.f a b = some t) : decide (t < 0) = a := by
 cases a <;> cases b <;> (obtain rfl := Option.some.inj h; rfl)
theorem lt_lV (x y : S39) : ltOf cV x y = lV x y := by
 have hf : value_Compare.f x.f0 x.f1 x.f2 y.f0 y.f1 y.f2 = some (cV x y) := cV_is x y
 unfold ltOf lV
 generalize cV x y = c at hf ⊢
 unfold value_Compare.f at hf
 by_cases hk : x.f0 = y.f0
 ·rw [if_pos hk] at hf ⊢
  by_cases h3 : x.f0 = 3
  ·rw [if_pos h3] at hf ⊢
   obtain ⟨t, ht, he⟩ := Option.bind_eq_some_iff.mp hf
   obtain rfl := Option.some.inj he
   obtain rfl := Option.some.inj ht
   rfl
  ·rw [if_neg h3] at hf ⊢
   by_cases h1 : x.f0 = 1
   ·rw [if_pos h1] at hf
    rw [if_pos (.inl h1)]
    obtain ⟨t, ht, he⟩ := Option.bind_eq_some_iff.mp hf
    obtain rfl := Option.some.inj he
    exact sign_lt _ _ _ ht
   ·rw [if_neg h1] at hf
    by_cases h2 : x.f0 = 2
    ·rw [if_pos h2] at hf
     rw [if_pos (.inr h2)]
     obtain ⟨t, ht, he⟩ := Option.bind_eq_some_iff.mp hf
     obtain rfl := Option.some.inj he
     exact sign_lt _ _ _ ht
    ·rw [if_neg h2] at hf
     rw [if_neg (by simp [h1, h2])]
     obtain rfl := Option.some.inj hf
     rfl
 ·rw [if_neg hk] at hf ⊢
  obtain ⟨t, ht, he⟩ := Option.bind_eq_some_iff.mp hf
  obtain rfl := Option.some.inj he
  exact sign_lt _ _ _ ht
theorem swo_of (lb : ByteArray → ByteArray → Bool) (hb : SWO lb) : SWO (fun x y : S39 => if x.f0 = y.f0 then (if x.f0 = 3 then lb x.f2 y.f2 else if x.f0 = 1 ∨ x.f0 = 2 then decide (x.f1 < y.f1) else false) else decide (x.f0 < y.f0)) where
 irrefl x := by
  simp only [if_true]
  split
  ·exact hb.irrefl _
  ·split
   ·simp
   ·rfl
 trans x y z h1 h2 := by
  by_cases hxy : x.f0 = y.f0
  ·rw [if_pos hxy] at h1
   by_cases hyz : y.f0 = z.f0
   ·rw [if_pos hyz] at h2
    rw [if_pos (hxy.trans hyz)]
    rw [hxy] at h1 ⊢
    by_cases h3 : y.f0 = 3
    ·rw [if_pos h3] at h1 h2 ⊢
     exact hb.trans _ _ _ h1 h2
    ·rw [if_neg h3] at h1 h2 ⊢
     by_cases h4 : y.f0 = 1 ∨ y.f0 = 2
     ·rw [if_pos h4] at h1 h2 ⊢
      simp only [decide_eq_true_eq] at *
      omega
     ·rw [if_neg h4] at h1
      exact absurd h1 (by simp)
   ·rw [if_neg hyz] at h2
    rw [hxy, if_neg hyz]
    exact h2
  ·rw [if_neg hxy] at h1
   by_cases hyz : y.f0 = z.f0
   ·rw [← hyz, if_neg hxy]
    exact h1
   ·rw [if_neg hyz] at h2
    simp only [decide_eq_true_eq] at h1 h2
    rw [if_neg (by omega)]
    simp only [decide_eq_true_eq]
    omega
 ntrans x y z h1 h2 := by
  by_cases hxy : x.f0 = y.f0
  ·rw [if_pos hxy] at h1
   by_cases hyz : y.f0 = z.f0
   ·rw [if_pos hyz] at h2
    rw [if_pos (hxy.trans hyz)]
    rw [hxy] at h1 ⊢
    by_cases h3 : y.f0 = 3
    ·rw [if_pos h3] at h1 h2 ⊢
     exact hb.ntrans _ _ _ h1 h2
    ·rw [if_neg h3] at h1 h2 ⊢
     by_cases h4 : y.f0 = 1 ∨ y.f0 = 2
     ·rw [if_pos h4] at h1 h2 ⊢
      simp only [decide_eq_false_iff_not] at *
      omega
     ·rw [if_neg h4]
   ·rw [if_neg hyz] at h2
    rw [hxy, if_neg hyz]
    exact h2
  ·rw [if_neg hxy] at h1
   by_cases hyz : y.f0 = z.f0
   ·rw [← hyz, if_neg hxy]
    exact h1
   ·rw [if_neg hyz] at h2
    simp only [decide_eq_false_iff_not] at h1 h2
    by_cases hxz : x.f0 = z.f0
    ·exfalso
     omega
    ·rw [if_neg hxz]
     simp only [decide_eq_false_iff_not]
     omega
theorem compare_lt : ∀ x y : List UInt8, Lib.compareBytes x y < 0 ↔ x < y
 | [], [] => by simp [Lib.compareBytes]
 | [], b :: y => by simp [Lib.compareBytes]
 | a :: x, [] => by simp [Lib.compareBytes]
 | a :: x, b :: y => by
  have ih := compare_lt x y
  rw [List.cons_lt_cons_iff]
  simp only [Lib.compareBytes]
  rcases Nat.lt_trichotomy a.toNat b.toNat with h | h | h
  ·have h1 : a < b := UInt8.lt_iff_toNat_lt.2 h
   simp [h1]
  ·obtain rfl : a = b := UInt8.toNat_inj.1 h
   have h2 : ¬ a < a := fun e => by have := UInt8.lt_iff_toNat_lt.1 e; omega
   simp [h2, ih]
  ·have h1 : b < a := UInt8.lt_iff_toNat_lt.2 h
   have h2 : ¬ a < b := fun e => by have := UInt8.lt_iff_toNat_lt.1 e; omega
   have h3 : ¬ a = b := fun e => by subst e; omega
   simp [h1, h2, h3]
theorem swo_lb : SWO (fun a b : ByteArray => decide (Lib.compareBytes a.data.toList b.data.toList < 0)) where
 irrefl x := by simp [ltStr, compare_lt]
 trans x y z h1 h2 := by have := swo_ltStr.trans x.data.toList y.data.toList z.data.toList; simp only [compare_lt, ltStr] at *; exact this h1 h2
 ntrans x y z h1 h2 := by have := swo_ltStr.ntrans x.data.toList y.data.toList z.data.toList; simp only [compare_lt, ltStr] at *; exact this h1 h2
theorem swo_cV : SWO (ltOf cV) := by
 have h := swo_of _ swo_lb
 have e : ltOf cV = lV := by funext x y; exact lt_lV x y
 rw [e]
 exact h
/-- What the sort makes of a list. -/
def sortV (l : List S39) : List S39 := (pdq (ltOf cV) l.toArray 0 l.toArray.size (Lib.bitLen l.toArray.size) true true).toList
theorem sortV_perm (l : List S39) : PermIn 0 l.toArray.size l.toArray (sortV l).toArray ∧ SortedIn (ltOf cV) 0 l.toArray.size (sortV l).toArray := by
 have h := pdq_sorts (ltOf cV) swo_cV l.toArray 0 l.toArray.size (Lib.bitLen l.toArray.size) true true (Nat.zero_le _) (Nat.le_refl _) (Or.inl rfl)
 unfold sortV
 simpa using h
theorem sortV_len (l : List S39) : (sortV l).length = l.length := by
 have h := (sortV_perm l).1.1
 simpa using h
theorem holds39 {w : World} {g : Nat} {cur : Array Value} {e : TypeId} {l : List S39} (hb : w.heap[g]? = some (.cells cur e (0, 0))) (ht : cur.toList.take (l.length * 3) = E39 l) : HoldsK enc39 3 w g 0 l.toArray := by
 intro j hj
 have hj' : j < l.length * 3 := by simpa using hj
 refine ⟨?_, by simp [World.frozen?, hb]⟩
 have h1 : (cur.toList.take (l.length * 3))[j]? = (flatK enc39 3 l.toArray).toList[j]? := by rw [ht, flatK_E39]
 rw [List.getElem?_take_of_lt hj'] at h1
 simp only [World.cell?, hb, Nat.zero_add]
 simp only [Option.isSome_none, Bool.false_eq_true, if_false]
 rw [← Array.getElem?_toList, h1, Array.getElem?_toList]
 rw [Array.getElem?_eq_getElem (by simpa using hj'), getElem!_pos _ j (by simpa using hj')]
 rfl
theorem heap_put39 {w : World} {g n : Nat} {os : Array Obj} {cur : Array Value} {e : TypeId} (d : Array S39) (hb : w.heap[g]? = some (.cells cur e (0, 0))) :
  (sortWorldK enc39 3 w g 0 n d os).heap[g]? = some (.cells (putCells id 0 (flatK enc39 3 d) cur) e (0, 0)) := by
 have hg : g < w.heap.size := (Array.getElem?_eq_some_iff.1 hb).1
 unfold sortWorldK putRowK
 rw [heap_grow_old _ _ (by simpa using hg)]
 simp [putRow, mapBlock, Sort.ahead, Array.getElem?_modify, hb, onCells]
theorem grown_put39 {w : World} {g n : Nat} {os : Array Obj} (d : Array S39) : w.grownBy (sortWorldK enc39 3 w g 0 n d os) (some g) := by
 unfold sortWorldK putRowK
 refine ⟨rfl, rfl, rfl, by simp, fun k hk hne => ?_⟩
 rw [heap_grow_old _ _ (by simpa using hk)]
 have : g ≠ k := fun e => hne (by rw [e])
 simp [putRow, mapBlock, Sort.ahead, Array.getElem?_modify, this]
theorem take_put39 (cur : Array Value) (l : List S39) (h : l.length * 3 ≤ cur.size) : (putCells id 0 (flatK enc39 3 l.toArray) cur).toList.take (l.length * 3) = E39 l := by
 rw [← flatK_E39]
 apply List.ext_getElem?
 intro j
 by_cases hj : j < l.length * 3
 ·rw [List.getElem?_take_of_lt hj, Array.getElem?_toList, Array.getElem?_toList]
  simp [putCells, hj, show j < cur.size by omega]
 ·rw [List.getElem?_take_eq_none (by omega), List.getElem?_eq_none (by simp; omega)]
theorem f52_own {w : World} {base : Nat} {ok : Nat → Prop} {v : Value} {l : List S39} (h : Kd.R k39 39 w base ok v l) (hn : l.length ≤ 1000000) :
  Calls Try.prog 52 #[v, .func (.func 53) #[] #[]] w fun e w' => e = .returned (.tuple #[]) ∧ Kd.R k39 39 w' base ok v (sortV l) ∧ w.grownBy w' v.ownBlock := by
 have hok := h.1
 have ho := R39_own h
 obtain ⟨hl, hr⟩ := ho
 rcases hr with ⟨rfl, h0⟩ | ⟨g, cap, cur, rfl, hb, hh, h1, h2, h3, h4⟩
 ·obtain rfl : l = [] := List.eq_nil_of_length_eq_zero h0
  refine (AnyF.slices_SortFunc_none Try.laysSortF none 0 (.func (.func 53) #[] #[]) w).mono ?_
  rintro e w' ⟨rfl, rfl⟩
  have hs : sortV [] = [] := List.eq_nil_of_length_eq_zero (sortV_len [])
  exact ⟨rfl, by rw [hs]; exact h, World.grownBy.refl _ _⟩
 ·have hC : CmpLays Try.prog 53 #[] enc39 3 cV g 0 l.toArray.size w := fun m os dk hd x y => cV_grown x y (cV x y) rfl _
  have hc := AnyQ.slices_SortFunc_eq Try.laysSortF 3 Try.isAgg39 Try.sizeOf39 enc39 len39 enc39_one cV swo_cV 53 #[] g 0 cap l.toArray w (enters_of Try.func53 (by kernel_rfl) rfl) hC (holds39 hh h4) (Array.getElem?_eq_some_iff.1 hh).1 (by simp; omega)
  refine Calls.mono (show Calls Try.prog 52 #[.slice (some ⟨g, 0, none⟩) l.length cap, .func (.func 53) #[] #[]] w _ from hc) ?_
  rintro e w' ⟨rfl, n, os, rfl⟩
  have hs := sortV_len l
  have hse : pdq (ltOf cV) l.toArray 0 l.toArray.size (Lib.bitLen l.toArray.size) true true = (sortV l).toArray := by unfold sortV; simp
  rw [hse]
  refine ⟨rfl, ?_, by simpa [Value.ownBlock] using grown_put39 _⟩
  refine R39_of ⟨by rw [E39_len], .inr ⟨g, cap, _, by rw [hs], hb, heap_put39 _ hh, by rw [hs]; exact h1, h2, by simp [putCells, h3], ?_⟩⟩ hok
  exact take_put39 cur _ (by rw [hs]; omega)
end Go.Proofs.Ytackcingpffidaa.P
namespace Go.Proofs.Ytackcingpffidaa.P
set_option linter.unusedVariables false
open Go.RowKit Go.Proofs.YtackcingpffidaaW.PrintWords Go.Proofs.YtackcingpffidaaW.PrintLast Go.Proofs.YtackcingpffidaaW.PrintMore
/-- A fence. -/
def fe (F : List S39) (i : Nat) : S39 := rd_T39 F (i : Int)
def upS (cm : S39 → S39 → Int) (F : List S39) (R : List Int) (v : S39) (q : Bool) (n : Int) : Nat → Nat → Int
 | 0, _ => n
 | m + 1, i => if decide (0 < cm (fe F i) v) || (cm (fe F i) v == 0 && q) then rd R ((2 * i : Nat) : Int) else upS cm F R v q n m (i + 1)
def loS (cm : S39 → S39 → Int) (F : List S39) (R : List Int) (v : S39) (q : Bool) : Nat → Int
 | 0 => 0
 | i + 1 => if decide (cm (fe F i) v < 0) || (cm (fe F i) v == 0 && q) then rd R ((2 * i + 1 : Nat) : Int) else loS cm F R v q i
def rkB (F : List S39) (R : List Int) : Bool := R.length == 2 * F.length && decide (F.length ≤ 1000)
theorem rk_of {F : List S39} {R : List Int} {α : Type} {x : α} {r : α} (h : (if rkB F R then some x else none) = some r) : R.length = 2 * F.length ∧ F.length ≤ 1000 ∧ x = r := by
 unfold rkB at h
 cases hb : (R.length == 2 * F.length && decide (F.length ≤ 1000)) with
 | false => rw [hb] at h; exact absurd h (by simp)
 | true =>
  rw [hb] at h
  rw [Bool.and_eq_true] at hb
  exact ⟨by simpa using hb.1, of_decide_eq_true hb.2, Option.some.inj h⟩
def sketch_upper.f (k : Nat) (a0_0 : Int) (a0_1 : Int) (l0_2 : List Int) (a0_3 : Bool) (l0_4 : List Int) (l0_5 : List (S39)) (l0_6 : List Int) (a1_0 : Int) (a1_1 : Int) (a1_2 : ByteArray) (a2 : Bool) : Option Int := if rkB l0_5 l0_6 then some (upS cV l0_5 l0_6 ⟨a1_0, a1_1, a1_2⟩ a2 (wrap64 (a0_0 - a0_1)) l0_5.length 0) else none
def sketch_lower.f (k : Nat) (a0_0 : Int) (a0_1 : Int) (l0_2 : List Int) (a0_3 : Bool) (l0_4 : List Int) (l0_5 : List (S39)) (l0_6 : List Int) (a1_0 : Int) (a1_1 : Int) (a1_2 : ByteArray) (a2 : Bool) : Option Int := if rkB l0_5 l0_6 then some (loS cV l0_5 l0_6 ⟨a1_0, a1_1, a1_2⟩ a2 l0_5.length) else none
def laminaref16_LessMax.f (k : Nat) (a0_0 : Int) (a0_1 : Int) (l0_2 : List Int) (a0_3 : Bool) (l0_4 : List Int) (l0_5 : List (S39)) (l0_6 : List Int) (a1_0 : Int) (a1_1 : Int) (a1_2 : ByteArray) (a2 : Bool) : Option Int := if rkB l0_5 l0_6 then some (upS rcV l0_5 l0_6 ⟨a1_0, a1_1, a1_2⟩ (!a2) (wrap64 (a0_0 - a0_1)) l0_5.length 0) else none
def laminaref16_LessMin.f (k : Nat) (a0_0 : Int) (a0_1 : Int) (l0_2 : List Int) (a0_3 : Bool) (l0_4 : List Int) (l0_5 : List (S39)) (l0_6 : List Int) (a1_0 : Int) (a1_1 : Int) (a1_2 : ByteArray) (a2 : Bool) : Option Int := if rkB l0_5 l0_6 then some (loS rcV l0_5 l0_6 ⟨a1_0, a1_1, a1_2⟩ a2 l0_5.length) else none
end Go.Proofs.Ytackcingpffidaa.P
