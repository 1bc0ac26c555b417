/- What Go functions of the given program return, told as Lean functions, and the walks that show it, with plain facts on them: H67. Conditions: the hypotheses that stand at each theorem. -/
import Derived.Test.YtackcingpffidaaZe0
namespace Go.Proofs.Ytackcingpffidaa.P
open Go.RowKit Go.Proofs.YtackcingpffidaaW.PrintWords Go.Proofs.YtackcingpffidaaW.PrintLast Go.Proofs.YtackcingpffidaaW.PrintMore
set_option linter.unusedVariables false
set_option linter.unusedSimpArgs false
set_option maxHeartbeats 4000000 in
set_option maxRecDepth 100000 in
theorem f67_calls (A : Option Addr) (c : Nat) (l : List Int) (n : Int) (w : World) (hr : Kd.C (Kd.int .i64) w A l.length l) (hc : l.length ≤ c) :
  Calls Try.prog 67 #[.slice A l.length c, .int .i64 n] w fun e w' => e = .returned (.bool (cntB l n)) ∧ Drawn0 w w' := by
 have HR := Aside0.mk hr
 clear hr
 by_cases hl : ¬ l.length = 256
 ·have hd : ((l.length : Int) != 256) = true := by simp; omega
  have HV : Aside0 (cntB l n = false) := ⟨by simp [cntB, hl]⟩
  go_enter Try.func67, Try.ntmps67
  go_wp2
  go_ret
  exact ⟨by rw [HV.out]; rfl, Drawn0.refl _⟩
 have hl : l.length = 256 := by omega
 have hd : (((256 : Nat) : Int) != 256) = false := rfl
 have HV : Aside0 (cntB l n = cntF l n 4) := ⟨by simp [cntB, hl]⟩
 rw [hl]
 have HL := Aside0.mk hl
 clear hl
 go_enter Try.func67, Try.ntmps67
 go_wp2
 go_loopg [12] 4 (fun kq v12 w' => ∃ i : Nat, v12 = .int .i64 i ∧ i ≤ 4 ∧ Aside0 (kq + i = 4) ∧ Aside0 (cntF l n 4 = cntF l n kq) ∧ Drawn0 w w')
 case atStart => exact ⟨0, rfl, by omega, ⟨rfl⟩, ⟨rfl⟩, Drawn0.refl _⟩
 case round =>
  obtain ⟨i, rfl, hi, HK, HQ, ⟨m, rfl⟩⟩ := hrel
  have hl := HL.out
  by_cases h4 : i < 4
  ·cases gk with
   | zero => exact absurd HK.out (by omega)
   | succ k1 =>
    have hd1 : decide ((i : Int) < 4) = true := decide_eq_true (by omega)
    have hw1 : IntKind.i64.wrap ((i : Int) * 64) = ((i * 64 : Nat) : Int) := by rw [i64_w]; unfold wrap64; omega
    have hw2 : IntKind.i64.wrap ((i : Int) + 1) = ((i + 1 : Nat) : Int) := by rw [i64_w]; unfold wrap64; omega
    have hw3 : IntKind.i64.wrap (((i + 1 : Nat) : Int) * 64) = (((i + 1) * 64 : Nat) : Int) := by rw [i64_w]; unfold wrap64; omega
    obtain ⟨ad, rfl, hx00⟩ := Kd.at_int HR.out 0 (by omega) (by omega)
    clear hx00
    have hl64 : (i + 1) * 64 - i * 64 = 64 := by omega
    have hs1 : decide (((i * 64 : Nat) : Int) ≤ (((i + 1) * 64 : Nat) : Int)) = true := decide_eq_true (by omega)
    have hs2 : decide ((((i + 1) * 64 : Nat) : Int) ≤ (c : Int)) = true := decide_eq_true (by omega)
    have hs3 : (c = i * 64) = False := eq_false (by omega)
    have HE : Aside0 (cntF l n (k1 + 1) = (rowB ((l.take ((i + 1) * 64)).drop (i * 64)) n && cntF l n k1)) := ⟨by
     have hk := HK.out
     have : 3 - k1 = i := by omega
     simp only [cntF, this]⟩
    obtain ⟨M, hM⟩ : ∃ M, (l.take ((i + 1) * 64)).drop (i * 64) = M := ⟨_, rfl⟩
    have HLM : Aside0 (M.length = 64) := ⟨by rw [← hM, List.length_drop, List.length_take]; omega⟩
    have HMJ : Aside0 (∀ j, j < 64 → M.drop j = rd l ((i * 64 + j : Nat) : Int) :: M.drop (j + 1)) := ⟨fun j hj => by
     have hml : M.length = 64 := HLM.out
     rw [List.drop_eq_getElem_cons (by omega)]
     congr 1
     subst hM
     unfold rd
     rw [Int.toNat_natCast, List.getD_eq_getElem?_getD, List.getElem?_eq_getElem (by omega), List.getElem_drop, List.getElem_take]
     rfl⟩
    rw [hM] at HE
    clear hM
    clear hl
    go_wp2
    (try simp only [hl64])
    clear hl64
    go_loopg [6, 24] 64 (fun kq v6 v24 w' => ∃ (j : Nat) (left : Int), v6 = .int .i64 left ∧ v24 = .int .i64 j ∧ j ≤ 64 ∧ Aside0 (kq + j = 64) ∧ Aside0 (rowB M n = rowB (M.drop j) left) ∧ Drawn0 w w')
    case atStart => exact ⟨0, n, rfl, rfl, by omega, ⟨rfl⟩, ⟨rfl⟩, ⟨m, rfl⟩⟩
    case round =>
     obtain ⟨j, left, rfl, rfl, hj, HK2, HQ2, ⟨m2, rfl⟩⟩ := hrel
     have hml := HLM.out
     have hl := HL.out
     by_cases hj4 : j < 64
     ·cases gk with
      | zero => exact absurd HK2.out (by omega)
      | succ k2 =>
       obtain ⟨ad2, e2, hx0⟩ := Kd.at_int HR.out ((i * 64 + j : Nat) : Int) (by omega) (by omega)
       obtain rfl := Option.some.inj e2
       clear e2
       rw [Int.toNat_natCast, addr_add2 ad (i * 64) j] at hx0
       have HD := Aside0.mk (HMJ.out j hj4)
       obtain ⟨x, hx⟩ : ∃ x, rd l ((i * 64 + j : Nat) : Int) = x := ⟨_, rfl⟩
       rw [hx] at hx0 HD
       clear hx hl hml
       have hd2 : decide ((j : Int) < 64) = true := decide_eq_true (by omega)
       have hd3 : decide ((64 : Int) ≤ j) = false := decide_eq_false (by omega)
       have hdj : decide ((j : Int) < 0) = false := decide_eq_false (by omega)
       have hwj : IntKind.i64.wrap ((j : Int) + 1) = ((j + 1 : Nat) : Int) := by rw [i64_w]; unfold wrap64; omega
       by_cases hc0 : x < 0
       ·have hc0d : decide (x < 0) = true := decide_eq_true hc0
        have HF : Aside0 (cntF l n (k1 + 1) = false) := ⟨by rw [HE.out, HQ2.out, HD.out]; simp [rowB, hc0]⟩
        go_wp2
        go_ret
        exact ⟨by rw [HV.out, HQ.out, HF.out]; rfl, ⟨_, rfl⟩⟩
       have hc0d : decide (x < 0) = false := decide_eq_false hc0
       by_cases hc1 : left < x
       ·have hc1d : decide (left < x) = true := decide_eq_true hc1
        have HF : Aside0 (cntF l n (k1 + 1) = false) := ⟨by rw [HE.out, HQ2.out, HD.out]; simp [rowB, hc0, hc1]⟩
        go_wp2
        go_ret
        exact ⟨by rw [HV.out, HQ.out, HF.out]; rfl, ⟨_, rfl⟩⟩
       have hc1d : decide (left < x) = false := decide_eq_false hc1
       go_wp2
       go_roundg k2
       case measure => omega
       case rel => exact ⟨j + 1, _, rfl, int_eq (by omega), by omega, ⟨by have := HK2.out; omega⟩, ⟨by rw [HQ2.out, HD.out]; simp only [rowB]; rw [if_neg (by omega), if_neg (by omega)]⟩, ⟨_, rfl⟩⟩
     ·obtain rfl : j = 64 := by omega
      have hd2 : decide ((64 : Int) < 64) = false := rfl
      clear hl
      have HF : Aside0 (rowB M n = (left == 0)) := ⟨by rw [HQ2.out, List.drop_of_length_le (by omega)]; rfl⟩
      have hwi : IntKind.i64.wrap ((i : Int) + 1) = ((i + 1 : Nat) : Int) := hw2
      by_cases h0 : left = 0
      ·subst h0
       go_wp2
       go_roundg k1
       case measure => omega
       case rel => exact ⟨i + 1, int_eq (by omega), by omega, ⟨by have := HK.out; omega⟩, ⟨by rw [HQ.out, HE.out, HF.out]; simp⟩, ⟨_, rfl⟩⟩
      ·have h0d : (left != 0) = true := by simp [h0]
       go_wp2
       go_ret
       exact ⟨by rw [HV.out, HQ.out, HE.out, HF.out]; simp [h0], ⟨_, rfl⟩⟩
  ·obtain rfl : i = 4 := by omega
   cases gk with
   | succ k1 => exact absurd HK.out (by omega)
   | zero =>
    clear hl
    go_wp2
    go_ret
    exact ⟨by rw [HV.out, HQ.out]; rfl, ⟨_, rfl⟩⟩
end Go.Proofs.Ytackcingpffidaa.P
