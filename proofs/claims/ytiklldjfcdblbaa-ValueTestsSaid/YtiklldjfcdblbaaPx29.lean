/- What Go functions of the given program return, told as Lean functions, and the walks that show it; written by a program of this session (the print of the kit, turned). Conditions: the hypotheses that stand at each theorem. -/
import Derived.Test.YtiklldjfcdblbaaPx0
import Derived.Test.YtiklldjfcdblbaaPx28
namespace Go.Proofs.Ytiklldjfcdblbaa.P
open Go.RowKit Go.Proofs.YtiklldjfcdblbaaW.PrintWords Go.Proofs.YtiklldjfcdblbaaW.PrintLast Go.Proofs.YtiklldjfcdblbaaW.PrintMore
attribute [local go_sem] max2_int min2_int max_two min_two max_three min_three max_four min_four Go.Proofs.YtiklldjfcdblbaaQ.str_gtr Go.Proofs.YtiklldjfcdblbaaQ.str_leq Go.Proofs.YtiklldjfcdblbaaQ.str_geq   -- for this text's walks alone
set_option linter.unusedVariables false
set_option linter.unusedSimpArgs false

/-! ### laminaref04_number: function 66 -/
def laminaref04_number.f (k : Nat) (a0 : Int) (a1 : Int) (a2 : Int) : Option (Int × Bool) := if a0 = 9 then (if a2 > 0 then (if a1 > (wrap64 (9223372036854775807 - a2)) then (some (wrap64 (a1 + a2), !true)) else (if a2 < 0 then (some (wrap64 (a1 + a2), !(decide (a1 < (wrap64 ((-9223372036854775808) - a2)))))) else (some (wrap64 (a1 + a2), !false)))) else (if a2 < 0 then (some (wrap64 (a1 + a2), !(decide (a1 < (wrap64 ((-9223372036854775808) - a2)))))) else (some (wrap64 (a1 + a2), !false)))) else (if a0 = 10 then (if a2 < 0 then (if a1 > (wrap64 (9223372036854775807 + a2)) then (some (wrap64 (a1 - a2), !true)) else (if a2 > 0 then (some (wrap64 (a1 - a2), !(decide (a1 < (wrap64 ((-9223372036854775808) + a2)))))) else (some (wrap64 (a1 - a2), !false)))) else (if a2 > 0 then (some (wrap64 (a1 - a2), !(decide (a1 < (wrap64 ((-9223372036854775808) + a2)))))) else (some (wrap64 (a1 - a2), !false)))) else (if a0 = 11 then ((laminaref04_multiply.f k a1 a2).bind fun bt404 => (some (bt404.1, bt404.2))) else (if a0 = 12 then (if a2 = 0 then (some (0, false)) else (if a1 = (-9223372036854775808) then (if a2 = (-1) then (some (0, false)) else (some (wrap64 (Int.tdiv a1 a2), true))) else (some (wrap64 (Int.tdiv a1 a2), true)))) else (if a0 = 13 then (if a2 = 0 then (some (0, false)) else (if a2 = (-1) then (some (0, true)) else (some (Int.tmod a1 a2, true)))) else (some (0, false))))))
theorem laminaref04_number.mono : ∀ a0 a1 a2 k, LeO (laminaref04_number.f k a0 a1 a2) (laminaref04_number.f (k + 1) a0 a1 a2) := by
  intro a0 a1 a2 k
  unfold laminaref04_number.f
  repeat' first
      | (with_reducible exact laminaref04_multiply.mono _ _ _)
      | (with_reducible exact LeO.refl _)
      | (with_reducible exact LeO.none _)
      | (with_reducible refine LeO.ite ?_ ?_)
      | (with_reducible refine LeO.bind ?_ (fun _ => ?_))
      | exact laminaref04_multiply.mono _ _ _
      | exact LeO.none _
      | refine LeO.ite ?_ ?_
      | refine LeO.bind ?_ (fun _ => ?_)
set_option maxHeartbeats 8000000 in
set_option maxRecDepth 100000 in
theorem laminaref04_number.calls (k : Nat) (a0 : Int) (a1 : Int) (a2 : Int) (r1 : Int) (r2 : Bool) (w : World) (h : laminaref04_number.f k a0 a1 a2 = some (r1, r2)) :
    Calls Try.prog 66 #[.int .i64 a0, .int .i64 a1, .int .i64 a2] w fun e w' => e = .returned (.tuple #[.int .i64 r1, .bool r2]) ∧ Drawn0 w w' := by
  have H : (if a0 = 9 then (if a2 > 0 then (if a1 > (wrap64 (9223372036854775807 - a2)) then (some (wrap64 (a1 + a2), !true)) else (if a2 < 0 then (some (wrap64 (a1 + a2), !(decide (a1 < (wrap64 ((-9223372036854775808) - a2)))))) else (some (wrap64 (a1 + a2), !false)))) else (if a2 < 0 then (some (wrap64 (a1 + a2), !(decide (a1 < (wrap64 ((-9223372036854775808) - a2)))))) else (some (wrap64 (a1 + a2), !false)))) else (if a0 = 10 then (if a2 < 0 then (if a1 > (wrap64 (9223372036854775807 + a2)) then (some (wrap64 (a1 - a2), !true)) else (if a2 > 0 then (some (wrap64 (a1 - a2), !(decide (a1 < (wrap64 ((-9223372036854775808) + a2)))))) else (some (wrap64 (a1 - a2), !false)))) else (if a2 > 0 then (some (wrap64 (a1 - a2), !(decide (a1 < (wrap64 ((-9223372036854775808) + a2)))))) else (some (wrap64 (a1 - a2), !false)))) else (if a0 = 11 then ((laminaref04_multiply.f k a1 a2).bind fun bt404 => (some (bt404.1, bt404.2))) else (if a0 = 12 then (if a2 = 0 then (some (0, false)) else (if a1 = (-9223372036854775808) then (if a2 = (-1) then (some (0, false)) else (some (wrap64 (Int.tdiv a1 a2), true))) else (some (wrap64 (Int.tdiv a1 a2), true)))) else (if a0 = 13 then (if a2 = 0 then (some (0, false)) else (if a2 = (-1) then (some (0, true)) else (some (Int.tmod a1 a2, true)))) else (some (0, false))))))) = some (r1, r2) := h
  clear h
  by_cases c4 : a0 = 9
  · rw [if_pos c4] at H
    have c4b0 : (a0 == 9) = true := beq_iff_eq.mpr c4
    have c4b1 : (a0 != 9) = false := bne_eq_false_iff_eq.mpr c4
    clear c4
    by_cases c5 : a2 > 0
    · rw [if_pos c5] at H
      have c5b0 : decide (0 < a2) = true := decide_eq_true c5
      clear c5
      by_cases c6 : a1 > (wrap64 (9223372036854775807 - a2))
      · rw [if_pos c6] at H
        have c6b0 : decide ((wrap64 (9223372036854775807 - a2)) < a1) = true := decide_eq_true c6
        clear c6
        simp only [Option.some.injEq, Prod.mk.injEq] at H
        obtain ⟨rfl, rfl⟩ := H
        go_enter Try.func66, Try.ntmps66
        go_wp2
        go_ret2
        exact ⟨by first | rfl | (simp; done) | (simp [*]; done), by repeat (first | exact Drawn0.refl _ | apply Drawn0.step)⟩
      · rw [if_neg c6] at H
        have c6b0 : decide ((wrap64 (9223372036854775807 - a2)) < a1) = false := decide_eq_false c6
        clear c6
        by_cases c7 : a2 < 0
        · rw [if_pos c7] at H
          have c7b0 : decide (a2 < 0) = true := decide_eq_true c7
          clear c7
          simp only [Option.some.injEq, Prod.mk.injEq] at H
          obtain ⟨rfl, rfl⟩ := H
          go_enter Try.func66, Try.ntmps66
          go_wp2
          go_ret2
          exact ⟨by first | rfl | (simp; done) | (simp [*]; done), by repeat (first | exact Drawn0.refl _ | apply Drawn0.step)⟩
        · rw [if_neg c7] at H
          have c7b0 : decide (a2 < 0) = false := decide_eq_false c7
          clear c7
          simp only [Option.some.injEq, Prod.mk.injEq] at H
          obtain ⟨rfl, rfl⟩ := H
          go_enter Try.func66, Try.ntmps66
          go_wp2
          go_ret2
          exact ⟨by first | rfl | (simp; done) | (simp [*]; done), by repeat (first | exact Drawn0.refl _ | apply Drawn0.step)⟩
    · rw [if_neg c5] at H
      have c5b0 : decide (0 < a2) = false := decide_eq_false c5
      clear c5
      by_cases c8 : a2 < 0
      · rw [if_pos c8] at H
        have c8b0 : decide (a2 < 0) = true := decide_eq_true c8
        clear c8
        simp only [Option.some.injEq, Prod.mk.injEq] at H
        obtain ⟨rfl, rfl⟩ := H
        go_enter Try.func66, Try.ntmps66
        go_wp2
        go_ret2
        exact ⟨by first | rfl | (simp; done) | (simp [*]; done), by repeat (first | exact Drawn0.refl _ | apply Drawn0.step)⟩
      · rw [if_neg c8] at H
        have c8b0 : decide (a2 < 0) = false := decide_eq_false c8
        clear c8
        simp only [Option.some.injEq, Prod.mk.injEq] at H
        obtain ⟨rfl, rfl⟩ := H
        go_enter Try.func66, Try.ntmps66
        go_wp2
        go_ret2
        exact ⟨by first | rfl | (simp; done) | (simp [*]; done), by repeat (first | exact Drawn0.refl _ | apply Drawn0.step)⟩
  · rw [if_neg c4] at H
    have c4b0 : (a0 == 9) = false := beq_eq_false_iff_ne.mpr c4
    have c4b1 : (a0 != 9) = true := bne_iff_ne.mpr c4
    by_cases c9 : a0 = 10
    · rw [if_pos c9] at H
      have c9b0 : (a0 == 10) = true := beq_iff_eq.mpr c9
      have c9b1 : (a0 != 10) = false := bne_eq_false_iff_eq.mpr c9
      clear c9
      by_cases c10 : a2 < 0
      · rw [if_pos c10] at H
        have c10b0 : decide (a2 < 0) = true := decide_eq_true c10
        clear c10
        by_cases c11 : a1 > (wrap64 (9223372036854775807 + a2))
        · rw [if_pos c11] at H
          have c11b0 : decide ((wrap64 (9223372036854775807 + a2)) < a1) = true := decide_eq_true c11
          clear c11
          simp only [Option.some.injEq, Prod.mk.injEq] at H
          obtain ⟨rfl, rfl⟩ := H
          go_enter Try.func66, Try.ntmps66
          go_wp2
          go_ret2
          exact ⟨by first | rfl | (simp; done) | (simp [*]; done), by repeat (first | exact Drawn0.refl _ | apply Drawn0.step)⟩
        · rw [if_neg c11] at H
          have c11b0 : decide ((wrap64 (9223372036854775807 + a2)) < a1) = false := decide_eq_false c11
          clear c11
          by_cases c12 : a2 > 0
          · rw [if_pos c12] at H
            have c12b0 : decide (0 < a2) = true := decide_eq_true c12
            clear c12
            simp only [Option.some.injEq, Prod.mk.injEq] at H
            obtain ⟨rfl, rfl⟩ := H
            go_enter Try.func66, Try.ntmps66
            go_wp2
            go_ret2
            exact ⟨by first | rfl | (simp; done) | (simp [*]; done), by repeat (first | exact Drawn0.refl _ | apply Drawn0.step)⟩
          · rw [if_neg c12] at H
            have c12b0 : decide (0 < a2) = false := decide_eq_false c12
            clear c12
            simp only [Option.some.injEq, Prod.mk.injEq] at H
            obtain ⟨rfl, rfl⟩ := H
            go_enter Try.func66, Try.ntmps66
            go_wp2
            go_ret2
            exact ⟨by first | rfl | (simp; done) | (simp [*]; done), by repeat (first | exact Drawn0.refl _ | apply Drawn0.step)⟩
      · rw [if_neg c10] at H
        have c10b0 : decide (a2 < 0) = false := decide_eq_false c10
        clear c10
        by_cases c13 : a2 > 0
        · rw [if_pos c13] at H
          have c13b0 : decide (0 < a2) = true := decide_eq_true c13
          clear c13
          simp only [Option.some.injEq, Prod.mk.injEq] at H
          obtain ⟨rfl, rfl⟩ := H
          go_enter Try.func66, Try.ntmps66
          go_wp2
          go_ret2
          exact ⟨by first | rfl | (simp; done) | (simp [*]; done), by repeat (first | exact Drawn0.refl _ | apply Drawn0.step)⟩
        · rw [if_neg c13] at H
          have c13b0 : decide (0 < a2) = false := decide_eq_false c13
          clear c13
          simp only [Option.some.injEq, Prod.mk.injEq] at H
          obtain ⟨rfl, rfl⟩ := H
          go_enter Try.func66, Try.ntmps66
          go_wp2
          go_ret2
          exact ⟨by first | rfl | (simp; done) | (simp [*]; done), by repeat (first | exact Drawn0.refl _ | apply Drawn0.step)⟩
    · rw [if_neg c9] at H
      have c9b0 : (a0 == 10) = false := beq_eq_false_iff_ne.mpr c9
      have c9b1 : (a0 != 10) = true := bne_iff_ne.mpr c9
      by_cases c14 : a0 = 11
      · rw [if_pos c14] at H
        have c14b0 : (a0 == 11) = true := beq_iff_eq.mpr c14
        have c14b1 : (a0 != 11) = false := bne_eq_false_iff_eq.mpr c14
        clear c14
        replace H := Option.bind_eq_some_iff.mp H
        obtain ⟨⟨t404, t405⟩, A150, H⟩ := H
        replace H : (some (t404, t405)) = some (r1, r2) := H
        have A15 := Aside0.mk A150
        clear A150
        simp only [Option.some.injEq, Prod.mk.injEq] at H
        obtain ⟨rfl, rfl⟩ := H
        go_enter Try.func66, Try.ntmps66
        go_wp2_with (first | ((with_reducible refine gate_callee (f := 81) rfl ?_); refine goesL_ (some 61) rfl rfl Try.func81 (by kernel_rfl) rfl #[.int .i64 a1, .int .i64 a2] rfl (by (try simp only [List.map_toArray, List.map_cons, List.map_nil]); first | done | rfl | (simp only [List.length_drop, List.length_take]; rfl) | (simp only [Int.ofNat_lt, Int.ofNat_le, gt_iff_lt, ge_iff_le]; rfl)) ?_; (with_reducible refine (laminaref04_multiply.calls k a1 a2 t404 t405 _ A15.out).mono ?_); rintro e w' ⟨rfl, ⟨nd, rfl⟩⟩; refine ⟨_, rfl, ?_⟩))
        go_ret2
        exact ⟨by first | rfl | (simp; done) | (simp [*]; done), by repeat (first | exact Drawn0.refl _ | apply Drawn0.step)⟩
      · rw [if_neg c14] at H
        have c14b0 : (a0 == 11) = false := beq_eq_false_iff_ne.mpr c14
        have c14b1 : (a0 != 11) = true := bne_iff_ne.mpr c14
        by_cases c16 : a0 = 12
        · rw [if_pos c16] at H
          have c16b0 : (a0 == 12) = true := beq_iff_eq.mpr c16
          have c16b1 : (a0 != 12) = false := bne_eq_false_iff_eq.mpr c16
          clear c16
          by_cases c17 : a2 = 0
          · rw [if_pos c17] at H
            have c17b0 : (a2 == 0) = true := beq_iff_eq.mpr c17
            have c17b1 : (a2 != 0) = false := bne_eq_false_iff_eq.mpr c17
            clear c17
            simp only [Option.some.injEq, Prod.mk.injEq] at H
            obtain ⟨rfl, rfl⟩ := H
            go_enter Try.func66, Try.ntmps66
            go_wp2
            go_ret2
            exact ⟨by first | rfl | (simp; done) | (simp [*]; done), by repeat (first | exact Drawn0.refl _ | apply Drawn0.step)⟩
          · rw [if_neg c17] at H
            have c17b0 : (a2 == 0) = false := beq_eq_false_iff_ne.mpr c17
            have c17b1 : (a2 != 0) = true := bne_iff_ne.mpr c17
            by_cases c18 : a1 = (-9223372036854775808)
            · rw [if_pos c18] at H
              have c18b0 : (a1 == (-9223372036854775808)) = true := beq_iff_eq.mpr c18
              have c18b1 : (a1 != (-9223372036854775808)) = false := bne_eq_false_iff_eq.mpr c18
              clear c18
              by_cases c19 : a2 = (-1)
              · rw [if_pos c19] at H
                have c19b0 : (a2 == (-1)) = true := beq_iff_eq.mpr c19
                have c19b1 : (a2 != (-1)) = false := bne_eq_false_iff_eq.mpr c19
                clear c19
                simp only [Option.some.injEq, Prod.mk.injEq] at H
                obtain ⟨rfl, rfl⟩ := H
                go_enter Try.func66, Try.ntmps66
                go_wp2
                go_ret2
                exact ⟨by first | rfl | (simp; done) | (simp [*]; done), by repeat (first | exact Drawn0.refl _ | apply Drawn0.step)⟩
              · rw [if_neg c19] at H
                have c19b0 : (a2 == (-1)) = false := beq_eq_false_iff_ne.mpr c19
                have c19b1 : (a2 != (-1)) = true := bne_iff_ne.mpr c19
                simp only [Option.some.injEq, Prod.mk.injEq] at H
                obtain ⟨rfl, rfl⟩ := H
                go_enter Try.func66, Try.ntmps66
                go_wp2
                go_ret2
                exact ⟨by first | rfl | (simp; done) | (simp [*]; done), by repeat (first | exact Drawn0.refl _ | apply Drawn0.step)⟩
            · rw [if_neg c18] at H
              have c18b0 : (a1 == (-9223372036854775808)) = false := beq_eq_false_iff_ne.mpr c18
              have c18b1 : (a1 != (-9223372036854775808)) = true := bne_iff_ne.mpr c18
              simp only [Option.some.injEq, Prod.mk.injEq] at H
              obtain ⟨rfl, rfl⟩ := H
              go_enter Try.func66, Try.ntmps66
              go_wp2
              go_ret2
              exact ⟨by first | rfl | (simp; done) | (simp [*]; done), by repeat (first | exact Drawn0.refl _ | apply Drawn0.step)⟩
        · rw [if_neg c16] at H
          have c16b0 : (a0 == 12) = false := beq_eq_false_iff_ne.mpr c16
          have c16b1 : (a0 != 12) = true := bne_iff_ne.mpr c16
          by_cases c20 : a0 = 13
          · rw [if_pos c20] at H
            have c20b0 : (a0 == 13) = true := beq_iff_eq.mpr c20
            have c20b1 : (a0 != 13) = false := bne_eq_false_iff_eq.mpr c20
            clear c20
            by_cases c21 : a2 = 0
            · rw [if_pos c21] at H
              have c21b0 : (a2 == 0) = true := beq_iff_eq.mpr c21
              have c21b1 : (a2 != 0) = false := bne_eq_false_iff_eq.mpr c21
              clear c21
              simp only [Option.some.injEq, Prod.mk.injEq] at H
              obtain ⟨rfl, rfl⟩ := H
              go_enter Try.func66, Try.ntmps66
              go_wp2
              go_ret2
              exact ⟨by first | rfl | (simp; done) | (simp [*]; done), by repeat (first | exact Drawn0.refl _ | apply Drawn0.step)⟩
            · rw [if_neg c21] at H
              have c21b0 : (a2 == 0) = false := beq_eq_false_iff_ne.mpr c21
              have c21b1 : (a2 != 0) = true := bne_iff_ne.mpr c21
              by_cases c22 : a2 = (-1)
              · rw [if_pos c22] at H
                have c22b0 : (a2 == (-1)) = true := beq_iff_eq.mpr c22
                have c22b1 : (a2 != (-1)) = false := bne_eq_false_iff_eq.mpr c22
                clear c22
                simp only [Option.some.injEq, Prod.mk.injEq] at H
                obtain ⟨rfl, rfl⟩ := H
                go_enter Try.func66, Try.ntmps66
                go_wp2
                go_ret2
                exact ⟨by first | rfl | (simp; done) | (simp [*]; done), by repeat (first | exact Drawn0.refl _ | apply Drawn0.step)⟩
              · rw [if_neg c22] at H
                have c22b0 : (a2 == (-1)) = false := beq_eq_false_iff_ne.mpr c22
                have c22b1 : (a2 != (-1)) = true := bne_iff_ne.mpr c22
                simp only [Option.some.injEq, Prod.mk.injEq] at H
                obtain ⟨rfl, rfl⟩ := H
                go_enter Try.func66, Try.ntmps66
                go_wp2
                go_ret2
                exact ⟨by first | rfl | (simp; done) | (simp [*]; done), by repeat (first | exact Drawn0.refl _ | apply Drawn0.step)⟩
          · rw [if_neg c20] at H
            have c20b0 : (a0 == 13) = false := beq_eq_false_iff_ne.mpr c20
            have c20b1 : (a0 != 13) = true := bne_iff_ne.mpr c20
            simp only [Option.some.injEq, Prod.mk.injEq] at H
            obtain ⟨rfl, rfl⟩ := H
            go_enter Try.func66, Try.ntmps66
            go_wp2
            go_ret2
            exact ⟨by first | rfl | (simp; done) | (simp [*]; done), by repeat (first | exact Drawn0.refl _ | apply Drawn0.step)⟩

end Go.Proofs.Ytiklldjfcdblbaa.P
