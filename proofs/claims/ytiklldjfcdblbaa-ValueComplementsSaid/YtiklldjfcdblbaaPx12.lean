/- What Go functions of the given program return, told as Lean functions, and the walks that show it; written by a program of this session (the print of the kit, turned). Conditions: the hypotheses that stand at each theorem. -/
import Derived.Test.YtiklldjfcdblbaaPx0
import Derived.Test.YtiklldjfcdblbaaPx1
import Derived.Test.YtiklldjfcdblbaaPx2
import Derived.Test.YtiklldjfcdblbaaPx5
import Derived.Test.YtiklldjfcdblbaaPx6
import Derived.Test.YtiklldjfcdblbaaPx7
import Derived.Test.YtiklldjfcdblbaaPx8
import Derived.Test.YtiklldjfcdblbaaPx10
import Derived.Test.YtiklldjfcdblbaaPx11
namespace Go.Proofs.Ytiklldjfcdblbaa.P
open Go.RowKit Go.Proofs.YtiklldjfcdblbaaW.PrintWords Go.Proofs.YtiklldjfcdblbaaW.PrintLast Go.Proofs.YtiklldjfcdblbaaW.PrintMore
attribute [local go_sem] max2_int min2_int max_two min_two max_three min_three max_four min_four Go.Proofs.YtiklldjfcdblbaaQ.str_gtr Go.Proofs.YtiklldjfcdblbaaQ.str_leq Go.Proofs.YtiklldjfcdblbaaQ.str_geq   -- for this text's walks alone
set_option linter.unusedVariables false
set_option linter.unusedSimpArgs false

attribute [local go_sem high] eqA23
/-! ### laminalaw04_awake: function 15 -/
def laminalaw04_awake.f (k : Nat)  : Option (Bool) := (value_Decode.f k (([3, 2, 97, 98] : List Int)) 0).bind fun bt217 => ((laminalaw04_integer.f 3).bind fun bt223 => ((value_Valid.f bt223.1 bt223.2.1 bt223.2.2).bind fun t226 => (if t226 = true then ((laminalaw04_integer.f 3).bind fun bt227 => ((laminalaw04_text.f (⟨#[]⟩ : ByteArray)).bind fun bt230 => ((value_Compare.f bt227.1 bt227.2.1 bt227.2.2 bt230.1 bt230.2.1 bt230.2.2).bind fun t233 => (if t233 = (-1) then ((laminalaw04_integer.f (-7)).bind fun bt234 => ((laminalaw04_integer.f 2).bind fun bt237 => ((value_Arith.f k 12 bt234.1 bt234.2.1 bt234.2.2 bt237.1 bt237.2.1 bt237.2.2).bind fun bt240 => ((laminalaw04_integer.f (-3)).bind fun bt243 => (if (bt240.1 == bt243.1 && (bt240.2.1 == bt243.2.1 && (bt240.2.2.toList == bt243.2.2.toList))) = true then ((laminalaw04_integer.f 1).bind fun bt246 => ((laminalaw04_integer.f 2).bind fun bt249 => ((value_Test.f k 3 bt246.1 bt246.2.1 bt246.2.2 bt249.1 bt249.2.1 bt249.2.2).bind fun bt252 => (if (bt252.1 == 1 && (bt252.2.1 == 1 && (bt252.2.2.toList == ([] : List UInt8)))) = true then ((laminalaw04_text.f (⟨#[97, 98]⟩ : ByteArray)).bind fun bt255 => (if (bt217.1 == bt255.1 && (bt217.2.1 == bt255.2.1 && (bt217.2.2.1.toList == bt255.2.2.toList))) = true then (if bt217.2.2.2.1 = 4 then (if bt217.2.2.2.2 = 0 then ((laminalaw04_integer.f (-1)).bind fun bt258 => ((value_Encode.f k bt258.1 bt258.2.1 bt258.2.2).bind fun t261 => (some ((strOfNums t261).toList == ([2, 1] : List UInt8))))) else (none)) else (none)) else (none))) else (none))))) else (none)))))) else (none))))) else (none))))
theorem laminalaw04_awake.mono : ∀ k, LeO (laminalaw04_awake.f k ) (laminalaw04_awake.f (k + 1) ) := by
  intro  k
  unfold laminalaw04_awake.f
  repeat' first
      | (with_reducible exact value_Arith.mono _ _ _ _ _ _ _ _)
      | (with_reducible exact value_Decode.mono _ _ _)
      | (with_reducible exact value_Encode.mono _ _ _ _)
      | (with_reducible exact value_Test.mono _ _ _ _ _ _ _ _)
      | (with_reducible exact LeO.refl _)
      | (with_reducible exact LeO.none _)
      | (with_reducible refine LeO.ite ?_ ?_)
      | (with_reducible refine LeO.bind ?_ (fun _ => ?_))
      | exact value_Arith.mono _ _ _ _ _ _ _ _
      | exact value_Decode.mono _ _ _
      | exact value_Encode.mono _ _ _ _
      | exact value_Test.mono _ _ _ _ _ _ _ _
      | exact LeO.none _
      | refine LeO.ite ?_ ?_
      | refine LeO.bind ?_ (fun _ => ?_)
def laminalaw04_awake.T2 : Bool × List (List Nat × List Nat) := (true, [([], []), ([0, 0], [0]), ([1, 1], [1]), ([2, 2], [2]), ([3, 2], [2]), ([3, 4, 4, 2], [2, 3, 4]), ([5, 2], [2, 5]), ([2, 6], [2, 6]), ([7, 5], [7]), ([8, 8], [8]), ([9, 8], [8]), ([9, 10, 10, 8], [8, 9, 10]), ([11, 8], [8]), ([11, 12, 8], [8, 11, 12]), ([8, 13], [8, 13]), ([14, 12], [14]), ([15, 15], [15]), ([16, 15], [15]), ([16, 17, 17, 15], [15, 16, 17]), ([15], [15]), ([18, 19, 15], [15, 18, 19]), ([15, 20], [15, 20]), ([21, 18], [21]), ([22], [22]), ([22, 22], [22]), ([23, 24, 22], [22, 23, 24]), ([22, 25], [22, 25]), ([26, 24], [26]), ([27], [27]), ([28, 27], [27, 28]), ([27, 29], [27, 29]), ([30, 27], [30]), ([31], [31]), ([32, 31], [31, 32]), ([31, 33], [31, 33]), ([34, 31], [34]), ([35, 35], [35]), ([36, 36, 35], [35, 36]), ([37, 35], [35, 37]), ([38, 35], [35, 38]), ([35, 39], [35, 39]), ([40, 37, 0, 1, 2, 3, 4, 5, 6, 7, 8, 9, 10, 11, 12, 13, 14, 15, 16, 17, 18, 19, 20, 21, 22, 23, 24, 25, 26, 27, 28, 29, 30, 31, 32, 33, 34, 35, 36, 37, 38, 39, 40], [40])])
def laminalaw04_awake.B2 : List Nat := [0, 1, 3, 7, 15, 31, 63, 127, 255, 511, 1023, 2047, 4095, 8191, 16383, 32767, 65535, 131071, 262143, 65535, 1048575, 2097151, 4194303, 8388607, 8388607, 33554431, 67108863, 134217727, 268435455, 536870911, 1073741823, 2147483647, 4294967295, 8589934591, 17179869183, 34359738367, 68719476735, 137438953471, 274877906943, 549755813887, 1099511627775, 2199023255551]
theorem laminalaw04_awake.tab2 : rtab .any (opsOf Try.f15 2) = laminalaw04_awake.T2 := by kernel_rfl
theorem laminalaw04_awake.bits2 : waitsOk laminalaw04_awake.T2.2 laminalaw04_awake.B2 = true := by kernel_rfl
set_option maxHeartbeats 8000000 in
set_option maxRecDepth 100000 in
theorem laminalaw04_awake.calls (k : Nat)  (r : Bool) (w : World) (h : laminalaw04_awake.f k  = some r) :
    Calls Try.prog 15 #[] w fun e w' => e = .returned (.bool r) ∧ Below w.heap.size w w' := by
  have hu23 := Try.underlying23
  have HB := Aside0.mk (Below.refl w.heap.size w)
  have H : ((value_Decode.f k (([3, 2, 97, 98] : List Int)) 0).bind fun bt217 => ((laminalaw04_integer.f 3).bind fun bt223 => ((value_Valid.f bt223.1 bt223.2.1 bt223.2.2).bind fun t226 => (if t226 = true then ((laminalaw04_integer.f 3).bind fun bt227 => ((laminalaw04_text.f (⟨#[]⟩ : ByteArray)).bind fun bt230 => ((value_Compare.f bt227.1 bt227.2.1 bt227.2.2 bt230.1 bt230.2.1 bt230.2.2).bind fun t233 => (if t233 = (-1) then ((laminalaw04_integer.f (-7)).bind fun bt234 => ((laminalaw04_integer.f 2).bind fun bt237 => ((value_Arith.f k 12 bt234.1 bt234.2.1 bt234.2.2 bt237.1 bt237.2.1 bt237.2.2).bind fun bt240 => ((laminalaw04_integer.f (-3)).bind fun bt243 => (if (bt240.1 == bt243.1 && (bt240.2.1 == bt243.2.1 && (bt240.2.2.toList == bt243.2.2.toList))) = true then ((laminalaw04_integer.f 1).bind fun bt246 => ((laminalaw04_integer.f 2).bind fun bt249 => ((value_Test.f k 3 bt246.1 bt246.2.1 bt246.2.2 bt249.1 bt249.2.1 bt249.2.2).bind fun bt252 => (if (bt252.1 == 1 && (bt252.2.1 == 1 && (bt252.2.2.toList == ([] : List UInt8)))) = true then ((laminalaw04_text.f (⟨#[97, 98]⟩ : ByteArray)).bind fun bt255 => (if (bt217.1 == bt255.1 && (bt217.2.1 == bt255.2.1 && (bt217.2.2.1.toList == bt255.2.2.toList))) = true then (if bt217.2.2.2.1 = 4 then (if bt217.2.2.2.2 = 0 then ((laminalaw04_integer.f (-1)).bind fun bt258 => ((value_Encode.f k bt258.1 bt258.2.1 bt258.2.2).bind fun t261 => (some ((strOfNums t261).toList == ([2, 1] : List UInt8))))) else (none)) else (none)) else (none))) else (none))))) else (none)))))) else (none))))) else (none))))) = some r := h
  clear h
  obtain ⟨y214, hy214⟩ : ∃ y_ : List Int, y_ = (([3, 2, 97, 98] : List Int)) := ⟨_, rfl⟩
  replace H : ((value_Decode.f k y214 0).bind fun bt217 => ((laminalaw04_integer.f 3).bind fun bt223 => ((value_Valid.f bt223.1 bt223.2.1 bt223.2.2).bind fun t226 => (if t226 = true then ((laminalaw04_integer.f 3).bind fun bt227 => ((laminalaw04_text.f (⟨#[]⟩ : ByteArray)).bind fun bt230 => ((value_Compare.f bt227.1 bt227.2.1 bt227.2.2 bt230.1 bt230.2.1 bt230.2.2).bind fun t233 => (if t233 = (-1) then ((laminalaw04_integer.f (-7)).bind fun bt234 => ((laminalaw04_integer.f 2).bind fun bt237 => ((value_Arith.f k 12 bt234.1 bt234.2.1 bt234.2.2 bt237.1 bt237.2.1 bt237.2.2).bind fun bt240 => ((laminalaw04_integer.f (-3)).bind fun bt243 => (if (bt240.1 == bt243.1 && (bt240.2.1 == bt243.2.1 && (bt240.2.2.toList == bt243.2.2.toList))) = true then ((laminalaw04_integer.f 1).bind fun bt246 => ((laminalaw04_integer.f 2).bind fun bt249 => ((value_Test.f k 3 bt246.1 bt246.2.1 bt246.2.2 bt249.1 bt249.2.1 bt249.2.2).bind fun bt252 => (if (bt252.1 == 1 && (bt252.2.1 == 1 && (bt252.2.2.toList == ([] : List UInt8)))) = true then ((laminalaw04_text.f (⟨#[97, 98]⟩ : ByteArray)).bind fun bt255 => (if (bt217.1 == bt255.1 && (bt217.2.1 == bt255.2.1 && (bt217.2.2.1.toList == bt255.2.2.toList))) = true then (if bt217.2.2.2.1 = 4 then (if bt217.2.2.2.2 = 0 then ((laminalaw04_integer.f (-1)).bind fun bt258 => ((value_Encode.f k bt258.1 bt258.2.1 bt258.2.2).bind fun t261 => (some ((strOfNums t261).toList == ([2, 1] : List UInt8))))) else (none)) else (none)) else (none))) else (none))))) else (none)))))) else (none))))) else (none))))) = some r := by first | (rw [hy214]; with_reducible exact H) | (have H2_ := (Option.bind_some _ _).symm.trans H; rw [hy214]; with_reducible exact H2_) | (have H2_ := (Option.bind_some _ _).symm.trans H; with_reducible exact H2_) | with_reducible exact H | (rw [hy214]; exact H) | exact H
  have Ny214 := Aside0.mk hy214
  clear hy214
  replace H := Option.bind_eq_some_iff.mp H
  obtain ⟨⟨t217, t218, t219, t220, t221⟩, A10, H⟩ := H
  replace H : ((laminalaw04_integer.f 3).bind fun bt223 => ((value_Valid.f bt223.1 bt223.2.1 bt223.2.2).bind fun t226 => (if t226 = true then ((laminalaw04_integer.f 3).bind fun bt227 => ((laminalaw04_text.f (⟨#[]⟩ : ByteArray)).bind fun bt230 => ((value_Compare.f bt227.1 bt227.2.1 bt227.2.2 bt230.1 bt230.2.1 bt230.2.2).bind fun t233 => (if t233 = (-1) then ((laminalaw04_integer.f (-7)).bind fun bt234 => ((laminalaw04_integer.f 2).bind fun bt237 => ((value_Arith.f k 12 bt234.1 bt234.2.1 bt234.2.2 bt237.1 bt237.2.1 bt237.2.2).bind fun bt240 => ((laminalaw04_integer.f (-3)).bind fun bt243 => (if (bt240.1 == bt243.1 && (bt240.2.1 == bt243.2.1 && (bt240.2.2.toList == bt243.2.2.toList))) = true then ((laminalaw04_integer.f 1).bind fun bt246 => ((laminalaw04_integer.f 2).bind fun bt249 => ((value_Test.f k 3 bt246.1 bt246.2.1 bt246.2.2 bt249.1 bt249.2.1 bt249.2.2).bind fun bt252 => (if (bt252.1 == 1 && (bt252.2.1 == 1 && (bt252.2.2.toList == ([] : List UInt8)))) = true then ((laminalaw04_text.f (⟨#[97, 98]⟩ : ByteArray)).bind fun bt255 => (if (t217 == bt255.1 && (t218 == bt255.2.1 && (t219.toList == bt255.2.2.toList))) = true then (if t220 = 4 then (if t221 = 0 then ((laminalaw04_integer.f (-1)).bind fun bt258 => ((value_Encode.f k bt258.1 bt258.2.1 bt258.2.2).bind fun t261 => (some ((strOfNums t261).toList == ([2, 1] : List UInt8))))) else (none)) else (none)) else (none))) else (none))))) else (none)))))) else (none))))) else (none)))) = some r := H
  have A1 := Aside0.mk A10
  clear A10
  replace H := Option.bind_eq_some_iff.mp H
  obtain ⟨⟨t223, t224, t225⟩, A20, H⟩ := H
  replace H : ((value_Valid.f t223 t224 t225).bind fun t226 => (if t226 = true then ((laminalaw04_integer.f 3).bind fun bt227 => ((laminalaw04_text.f (⟨#[]⟩ : ByteArray)).bind fun bt230 => ((value_Compare.f bt227.1 bt227.2.1 bt227.2.2 bt230.1 bt230.2.1 bt230.2.2).bind fun t233 => (if t233 = (-1) then ((laminalaw04_integer.f (-7)).bind fun bt234 => ((laminalaw04_integer.f 2).bind fun bt237 => ((value_Arith.f k 12 bt234.1 bt234.2.1 bt234.2.2 bt237.1 bt237.2.1 bt237.2.2).bind fun bt240 => ((laminalaw04_integer.f (-3)).bind fun bt243 => (if (bt240.1 == bt243.1 && (bt240.2.1 == bt243.2.1 && (bt240.2.2.toList == bt243.2.2.toList))) = true then ((laminalaw04_integer.f 1).bind fun bt246 => ((laminalaw04_integer.f 2).bind fun bt249 => ((value_Test.f k 3 bt246.1 bt246.2.1 bt246.2.2 bt249.1 bt249.2.1 bt249.2.2).bind fun bt252 => (if (bt252.1 == 1 && (bt252.2.1 == 1 && (bt252.2.2.toList == ([] : List UInt8)))) = true then ((laminalaw04_text.f (⟨#[97, 98]⟩ : ByteArray)).bind fun bt255 => (if (t217 == bt255.1 && (t218 == bt255.2.1 && (t219.toList == bt255.2.2.toList))) = true then (if t220 = 4 then (if t221 = 0 then ((laminalaw04_integer.f (-1)).bind fun bt258 => ((value_Encode.f k bt258.1 bt258.2.1 bt258.2.2).bind fun t261 => (some ((strOfNums t261).toList == ([2, 1] : List UInt8))))) else (none)) else (none)) else (none))) else (none))))) else (none)))))) else (none))))) else (none))) = some r := H
  have A2 := Aside0.mk A20
  clear A20
  replace H := Option.bind_eq_some_iff.mp H
  obtain ⟨t226, A30, H⟩ := H
  replace H : (if t226 = true then ((laminalaw04_integer.f 3).bind fun bt227 => ((laminalaw04_text.f (⟨#[]⟩ : ByteArray)).bind fun bt230 => ((value_Compare.f bt227.1 bt227.2.1 bt227.2.2 bt230.1 bt230.2.1 bt230.2.2).bind fun t233 => (if t233 = (-1) then ((laminalaw04_integer.f (-7)).bind fun bt234 => ((laminalaw04_integer.f 2).bind fun bt237 => ((value_Arith.f k 12 bt234.1 bt234.2.1 bt234.2.2 bt237.1 bt237.2.1 bt237.2.2).bind fun bt240 => ((laminalaw04_integer.f (-3)).bind fun bt243 => (if (bt240.1 == bt243.1 && (bt240.2.1 == bt243.2.1 && (bt240.2.2.toList == bt243.2.2.toList))) = true then ((laminalaw04_integer.f 1).bind fun bt246 => ((laminalaw04_integer.f 2).bind fun bt249 => ((value_Test.f k 3 bt246.1 bt246.2.1 bt246.2.2 bt249.1 bt249.2.1 bt249.2.2).bind fun bt252 => (if (bt252.1 == 1 && (bt252.2.1 == 1 && (bt252.2.2.toList == ([] : List UInt8)))) = true then ((laminalaw04_text.f (⟨#[97, 98]⟩ : ByteArray)).bind fun bt255 => (if (t217 == bt255.1 && (t218 == bt255.2.1 && (t219.toList == bt255.2.2.toList))) = true then (if t220 = 4 then (if t221 = 0 then ((laminalaw04_integer.f (-1)).bind fun bt258 => ((value_Encode.f k bt258.1 bt258.2.1 bt258.2.2).bind fun t261 => (some ((strOfNums t261).toList == ([2, 1] : List UInt8))))) else (none)) else (none)) else (none))) else (none))))) else (none)))))) else (none))))) else (none)) = some r := H
  have A3 := Aside0.mk A30
  clear A30
  by_cases c4 : t226 = true
  · subst c4
    have H1 : ((laminalaw04_integer.f 3).bind fun bt227 => ((laminalaw04_text.f (⟨#[]⟩ : ByteArray)).bind fun bt230 => ((value_Compare.f bt227.1 bt227.2.1 bt227.2.2 bt230.1 bt230.2.1 bt230.2.2).bind fun t233 => (if t233 = (-1) then ((laminalaw04_integer.f (-7)).bind fun bt234 => ((laminalaw04_integer.f 2).bind fun bt237 => ((value_Arith.f k 12 bt234.1 bt234.2.1 bt234.2.2 bt237.1 bt237.2.1 bt237.2.2).bind fun bt240 => ((laminalaw04_integer.f (-3)).bind fun bt243 => (if (bt240.1 == bt243.1 && (bt240.2.1 == bt243.2.1 && (bt240.2.2.toList == bt243.2.2.toList))) = true then ((laminalaw04_integer.f 1).bind fun bt246 => ((laminalaw04_integer.f 2).bind fun bt249 => ((value_Test.f k 3 bt246.1 bt246.2.1 bt246.2.2 bt249.1 bt249.2.1 bt249.2.2).bind fun bt252 => (if (bt252.1 == 1 && (bt252.2.1 == 1 && (bt252.2.2.toList == ([] : List UInt8)))) = true then ((laminalaw04_text.f (⟨#[97, 98]⟩ : ByteArray)).bind fun bt255 => (if (t217 == bt255.1 && (t218 == bt255.2.1 && (t219.toList == bt255.2.2.toList))) = true then (if t220 = 4 then (if t221 = 0 then ((laminalaw04_integer.f (-1)).bind fun bt258 => ((value_Encode.f k bt258.1 bt258.2.1 bt258.2.2).bind fun t261 => (some ((strOfNums t261).toList == ([2, 1] : List UInt8))))) else (none)) else (none)) else (none))) else (none))))) else (none)))))) else (none))))) = some r := by rw [if_pos rfl] at H; exact H
    clear H
    have H := H1
    clear H1
    replace H := Option.bind_eq_some_iff.mp H
    obtain ⟨⟨t227, t228, t229⟩, A50, H⟩ := H
    replace H : ((laminalaw04_text.f (⟨#[]⟩ : ByteArray)).bind fun bt230 => ((value_Compare.f t227 t228 t229 bt230.1 bt230.2.1 bt230.2.2).bind fun t233 => (if t233 = (-1) then ((laminalaw04_integer.f (-7)).bind fun bt234 => ((laminalaw04_integer.f 2).bind fun bt237 => ((value_Arith.f k 12 bt234.1 bt234.2.1 bt234.2.2 bt237.1 bt237.2.1 bt237.2.2).bind fun bt240 => ((laminalaw04_integer.f (-3)).bind fun bt243 => (if (bt240.1 == bt243.1 && (bt240.2.1 == bt243.2.1 && (bt240.2.2.toList == bt243.2.2.toList))) = true then ((laminalaw04_integer.f 1).bind fun bt246 => ((laminalaw04_integer.f 2).bind fun bt249 => ((value_Test.f k 3 bt246.1 bt246.2.1 bt246.2.2 bt249.1 bt249.2.1 bt249.2.2).bind fun bt252 => (if (bt252.1 == 1 && (bt252.2.1 == 1 && (bt252.2.2.toList == ([] : List UInt8)))) = true then ((laminalaw04_text.f (⟨#[97, 98]⟩ : ByteArray)).bind fun bt255 => (if (t217 == bt255.1 && (t218 == bt255.2.1 && (t219.toList == bt255.2.2.toList))) = true then (if t220 = 4 then (if t221 = 0 then ((laminalaw04_integer.f (-1)).bind fun bt258 => ((value_Encode.f k bt258.1 bt258.2.1 bt258.2.2).bind fun t261 => (some ((strOfNums t261).toList == ([2, 1] : List UInt8))))) else (none)) else (none)) else (none))) else (none))))) else (none)))))) else (none)))) = some r := H
    have A5 := Aside0.mk A50
    clear A50
    replace H := Option.bind_eq_some_iff.mp H
    obtain ⟨⟨t230, t231, t232⟩, A60, H⟩ := H
    replace H : ((value_Compare.f t227 t228 t229 t230 t231 t232).bind fun t233 => (if t233 = (-1) then ((laminalaw04_integer.f (-7)).bind fun bt234 => ((laminalaw04_integer.f 2).bind fun bt237 => ((value_Arith.f k 12 bt234.1 bt234.2.1 bt234.2.2 bt237.1 bt237.2.1 bt237.2.2).bind fun bt240 => ((laminalaw04_integer.f (-3)).bind fun bt243 => (if (bt240.1 == bt243.1 && (bt240.2.1 == bt243.2.1 && (bt240.2.2.toList == bt243.2.2.toList))) = true then ((laminalaw04_integer.f 1).bind fun bt246 => ((laminalaw04_integer.f 2).bind fun bt249 => ((value_Test.f k 3 bt246.1 bt246.2.1 bt246.2.2 bt249.1 bt249.2.1 bt249.2.2).bind fun bt252 => (if (bt252.1 == 1 && (bt252.2.1 == 1 && (bt252.2.2.toList == ([] : List UInt8)))) = true then ((laminalaw04_text.f (⟨#[97, 98]⟩ : ByteArray)).bind fun bt255 => (if (t217 == bt255.1 && (t218 == bt255.2.1 && (t219.toList == bt255.2.2.toList))) = true then (if t220 = 4 then (if t221 = 0 then ((laminalaw04_integer.f (-1)).bind fun bt258 => ((value_Encode.f k bt258.1 bt258.2.1 bt258.2.2).bind fun t261 => (some ((strOfNums t261).toList == ([2, 1] : List UInt8))))) else (none)) else (none)) else (none))) else (none))))) else (none)))))) else (none))) = some r := H
    have A6 := Aside0.mk A60
    clear A60
    replace H := Option.bind_eq_some_iff.mp H
    obtain ⟨t233, A70, H⟩ := H
    replace H : (if t233 = (-1) then ((laminalaw04_integer.f (-7)).bind fun bt234 => ((laminalaw04_integer.f 2).bind fun bt237 => ((value_Arith.f k 12 bt234.1 bt234.2.1 bt234.2.2 bt237.1 bt237.2.1 bt237.2.2).bind fun bt240 => ((laminalaw04_integer.f (-3)).bind fun bt243 => (if (bt240.1 == bt243.1 && (bt240.2.1 == bt243.2.1 && (bt240.2.2.toList == bt243.2.2.toList))) = true then ((laminalaw04_integer.f 1).bind fun bt246 => ((laminalaw04_integer.f 2).bind fun bt249 => ((value_Test.f k 3 bt246.1 bt246.2.1 bt246.2.2 bt249.1 bt249.2.1 bt249.2.2).bind fun bt252 => (if (bt252.1 == 1 && (bt252.2.1 == 1 && (bt252.2.2.toList == ([] : List UInt8)))) = true then ((laminalaw04_text.f (⟨#[97, 98]⟩ : ByteArray)).bind fun bt255 => (if (t217 == bt255.1 && (t218 == bt255.2.1 && (t219.toList == bt255.2.2.toList))) = true then (if t220 = 4 then (if t221 = 0 then ((laminalaw04_integer.f (-1)).bind fun bt258 => ((value_Encode.f k bt258.1 bt258.2.1 bt258.2.2).bind fun t261 => (some ((strOfNums t261).toList == ([2, 1] : List UInt8))))) else (none)) else (none)) else (none))) else (none))))) else (none)))))) else (none)) = some r := H
    have A7 := Aside0.mk A70
    clear A70
    by_cases c8 : t233 = (-1)
    · rw [if_pos c8] at H
      have c8b0 : (t233 == (-1)) = true := beq_iff_eq.mpr c8
      have c8b1 : (t233 != (-1)) = false := bne_eq_false_iff_eq.mpr c8
      clear c8
      replace H := Option.bind_eq_some_iff.mp H
      obtain ⟨⟨t234, t235, t236⟩, A90, H⟩ := H
      replace H : ((laminalaw04_integer.f 2).bind fun bt237 => ((value_Arith.f k 12 t234 t235 t236 bt237.1 bt237.2.1 bt237.2.2).bind fun bt240 => ((laminalaw04_integer.f (-3)).bind fun bt243 => (if (bt240.1 == bt243.1 && (bt240.2.1 == bt243.2.1 && (bt240.2.2.toList == bt243.2.2.toList))) = true then ((laminalaw04_integer.f 1).bind fun bt246 => ((laminalaw04_integer.f 2).bind fun bt249 => ((value_Test.f k 3 bt246.1 bt246.2.1 bt246.2.2 bt249.1 bt249.2.1 bt249.2.2).bind fun bt252 => (if (bt252.1 == 1 && (bt252.2.1 == 1 && (bt252.2.2.toList == ([] : List UInt8)))) = true then ((laminalaw04_text.f (⟨#[97, 98]⟩ : ByteArray)).bind fun bt255 => (if (t217 == bt255.1 && (t218 == bt255.2.1 && (t219.toList == bt255.2.2.toList))) = true then (if t220 = 4 then (if t221 = 0 then ((laminalaw04_integer.f (-1)).bind fun bt258 => ((value_Encode.f k bt258.1 bt258.2.1 bt258.2.2).bind fun t261 => (some ((strOfNums t261).toList == ([2, 1] : List UInt8))))) else (none)) else (none)) else (none))) else (none))))) else (none))))) = some r := H
      have A9 := Aside0.mk A90
      clear A90
      replace H := Option.bind_eq_some_iff.mp H
      obtain ⟨⟨t237, t238, t239⟩, A100, H⟩ := H
      replace H : ((value_Arith.f k 12 t234 t235 t236 t237 t238 t239).bind fun bt240 => ((laminalaw04_integer.f (-3)).bind fun bt243 => (if (bt240.1 == bt243.1 && (bt240.2.1 == bt243.2.1 && (bt240.2.2.toList == bt243.2.2.toList))) = true then ((laminalaw04_integer.f 1).bind fun bt246 => ((laminalaw04_integer.f 2).bind fun bt249 => ((value_Test.f k 3 bt246.1 bt246.2.1 bt246.2.2 bt249.1 bt249.2.1 bt249.2.2).bind fun bt252 => (if (bt252.1 == 1 && (bt252.2.1 == 1 && (bt252.2.2.toList == ([] : List UInt8)))) = true then ((laminalaw04_text.f (⟨#[97, 98]⟩ : ByteArray)).bind fun bt255 => (if (t217 == bt255.1 && (t218 == bt255.2.1 && (t219.toList == bt255.2.2.toList))) = true then (if t220 = 4 then (if t221 = 0 then ((laminalaw04_integer.f (-1)).bind fun bt258 => ((value_Encode.f k bt258.1 bt258.2.1 bt258.2.2).bind fun t261 => (some ((strOfNums t261).toList == ([2, 1] : List UInt8))))) else (none)) else (none)) else (none))) else (none))))) else (none)))) = some r := H
      have A10 := Aside0.mk A100
      clear A100
      replace H := Option.bind_eq_some_iff.mp H
      obtain ⟨⟨t240, t241, t242⟩, A110, H⟩ := H
      replace H : ((laminalaw04_integer.f (-3)).bind fun bt243 => (if (t240 == bt243.1 && (t241 == bt243.2.1 && (t242.toList == bt243.2.2.toList))) = true then ((laminalaw04_integer.f 1).bind fun bt246 => ((laminalaw04_integer.f 2).bind fun bt249 => ((value_Test.f k 3 bt246.1 bt246.2.1 bt246.2.2 bt249.1 bt249.2.1 bt249.2.2).bind fun bt252 => (if (bt252.1 == 1 && (bt252.2.1 == 1 && (bt252.2.2.toList == ([] : List UInt8)))) = true then ((laminalaw04_text.f (⟨#[97, 98]⟩ : ByteArray)).bind fun bt255 => (if (t217 == bt255.1 && (t218 == bt255.2.1 && (t219.toList == bt255.2.2.toList))) = true then (if t220 = 4 then (if t221 = 0 then ((laminalaw04_integer.f (-1)).bind fun bt258 => ((value_Encode.f k bt258.1 bt258.2.1 bt258.2.2).bind fun t261 => (some ((strOfNums t261).toList == ([2, 1] : List UInt8))))) else (none)) else (none)) else (none))) else (none))))) else (none))) = some r := H
      have A11 := Aside0.mk A110
      clear A110
      replace H := Option.bind_eq_some_iff.mp H
      obtain ⟨⟨t243, t244, t245⟩, A120, H⟩ := H
      replace H : (if (t240 == t243 && (t241 == t244 && (t242.toList == t245.toList))) = true then ((laminalaw04_integer.f 1).bind fun bt246 => ((laminalaw04_integer.f 2).bind fun bt249 => ((value_Test.f k 3 bt246.1 bt246.2.1 bt246.2.2 bt249.1 bt249.2.1 bt249.2.2).bind fun bt252 => (if (bt252.1 == 1 && (bt252.2.1 == 1 && (bt252.2.2.toList == ([] : List UInt8)))) = true then ((laminalaw04_text.f (⟨#[97, 98]⟩ : ByteArray)).bind fun bt255 => (if (t217 == bt255.1 && (t218 == bt255.2.1 && (t219.toList == bt255.2.2.toList))) = true then (if t220 = 4 then (if t221 = 0 then ((laminalaw04_integer.f (-1)).bind fun bt258 => ((value_Encode.f k bt258.1 bt258.2.1 bt258.2.2).bind fun t261 => (some ((strOfNums t261).toList == ([2, 1] : List UInt8))))) else (none)) else (none)) else (none))) else (none))))) else (none)) = some r := H
      have A12 := Aside0.mk A120
      clear A120
      by_cases c13 : (t240 == t243 && (t241 == t244 && (t242.toList == t245.toList))) = true
      · rw [if_pos c13] at H
        have c13b0 : (t240 == t243 && (t241 == t244 && (t242.toList == t245.toList))) = true := c13
        (try (have c13b1 : decide (t240 = t243 && (t241 == t244 && (t242.toList == t245.toList))) = true := by simpa using c13))
        (try (have c13b2 : (t240 == t243 && (t241 == t244 && (t242.toList == t245.toList))) = true := by simpa using c13))
        clear c13
        replace H := Option.bind_eq_some_iff.mp H
        obtain ⟨⟨t246, t247, t248⟩, A140, H⟩ := H
        replace H : ((laminalaw04_integer.f 2).bind fun bt249 => ((value_Test.f k 3 t246 t247 t248 bt249.1 bt249.2.1 bt249.2.2).bind fun bt252 => (if (bt252.1 == 1 && (bt252.2.1 == 1 && (bt252.2.2.toList == ([] : List UInt8)))) = true then ((laminalaw04_text.f (⟨#[97, 98]⟩ : ByteArray)).bind fun bt255 => (if (t217 == bt255.1 && (t218 == bt255.2.1 && (t219.toList == bt255.2.2.toList))) = true then (if t220 = 4 then (if t221 = 0 then ((laminalaw04_integer.f (-1)).bind fun bt258 => ((value_Encode.f k bt258.1 bt258.2.1 bt258.2.2).bind fun t261 => (some ((strOfNums t261).toList == ([2, 1] : List UInt8))))) else (none)) else (none)) else (none))) else (none)))) = some r := H
        have A14 := Aside0.mk A140
        clear A140
        replace H := Option.bind_eq_some_iff.mp H
        obtain ⟨⟨t249, t250, t251⟩, A150, H⟩ := H
        replace H : ((value_Test.f k 3 t246 t247 t248 t249 t250 t251).bind fun bt252 => (if (bt252.1 == 1 && (bt252.2.1 == 1 && (bt252.2.2.toList == ([] : List UInt8)))) = true then ((laminalaw04_text.f (⟨#[97, 98]⟩ : ByteArray)).bind fun bt255 => (if (t217 == bt255.1 && (t218 == bt255.2.1 && (t219.toList == bt255.2.2.toList))) = true then (if t220 = 4 then (if t221 = 0 then ((laminalaw04_integer.f (-1)).bind fun bt258 => ((value_Encode.f k bt258.1 bt258.2.1 bt258.2.2).bind fun t261 => (some ((strOfNums t261).toList == ([2, 1] : List UInt8))))) else (none)) else (none)) else (none))) else (none))) = some r := H
        have A15 := Aside0.mk A150
        clear A150
        replace H := Option.bind_eq_some_iff.mp H
        obtain ⟨⟨t252, t253, t254⟩, A160, H⟩ := H
        replace H : (if (t252 == 1 && (t253 == 1 && (t254.toList == ([] : List UInt8)))) = true then ((laminalaw04_text.f (⟨#[97, 98]⟩ : ByteArray)).bind fun bt255 => (if (t217 == bt255.1 && (t218 == bt255.2.1 && (t219.toList == bt255.2.2.toList))) = true then (if t220 = 4 then (if t221 = 0 then ((laminalaw04_integer.f (-1)).bind fun bt258 => ((value_Encode.f k bt258.1 bt258.2.1 bt258.2.2).bind fun t261 => (some ((strOfNums t261).toList == ([2, 1] : List UInt8))))) else (none)) else (none)) else (none))) else (none)) = some r := H
        have A16 := Aside0.mk A160
        clear A160
        by_cases c17 : (t252 == 1 && (t253 == 1 && (t254.toList == ([] : List UInt8)))) = true
        · rw [if_pos c17] at H
          have c17b0 : (t252 == 1 && (t253 == 1 && (t254.toList == ([] : List UInt8)))) = true := c17
          (try (have c17b1 : decide (t252 = 1 && (t253 == 1 && (t254.toList == ([] : List UInt8)))) = true := by simpa using c17))
          (try (have c17b2 : (t252 == 1 && (t253 == 1 && (t254.toList == ([] : List UInt8)))) = true := by simpa using c17))
          (try (have c17b3 : (t252 == 1 && (t253 == 1 && (t254.toList.isEmpty))) = true := by first | simpa using c17 | (have h_ := c17; simp at h_ ⊢; exact h_)))
          clear c17
          replace H := Option.bind_eq_some_iff.mp H
          obtain ⟨⟨t255, t256, t257⟩, A180, H⟩ := H
          replace H : (if (t217 == t255 && (t218 == t256 && (t219.toList == t257.toList))) = true then (if t220 = 4 then (if t221 = 0 then ((laminalaw04_integer.f (-1)).bind fun bt258 => ((value_Encode.f k bt258.1 bt258.2.1 bt258.2.2).bind fun t261 => (some ((strOfNums t261).toList == ([2, 1] : List UInt8))))) else (none)) else (none)) else (none)) = some r := H
          have A18 := Aside0.mk A180
          clear A180
          by_cases c19 : (t217 == t255 && (t218 == t256 && (t219.toList == t257.toList))) = true
          · rw [if_pos c19] at H
            have c19b0 : (t217 == t255 && (t218 == t256 && (t219.toList == t257.toList))) = true := c19
            (try (have c19b1 : decide (t217 = t255 && (t218 == t256 && (t219.toList == t257.toList))) = true := by simpa using c19))
            (try (have c19b2 : (t217 == t255 && (t218 == t256 && (t219.toList == t257.toList))) = true := by simpa using c19))
            clear c19
            by_cases c20 : t220 = 4
            · rw [if_pos c20] at H
              have c20b0 : (t220 == 4) = true := beq_iff_eq.mpr c20
              have c20b1 : (t220 != 4) = false := bne_eq_false_iff_eq.mpr c20
              clear c20
              by_cases c21 : t221 = 0
              · rw [if_pos c21] at H
                have c21b0 : (t221 == 0) = true := beq_iff_eq.mpr c21
                have c21b1 : (t221 != 0) = false := bne_eq_false_iff_eq.mpr c21
                clear c21
                replace H := Option.bind_eq_some_iff.mp H
                obtain ⟨⟨t258, t259, t260⟩, A220, H⟩ := H
                replace H : ((value_Encode.f k t258 t259 t260).bind fun t261 => (some ((strOfNums t261).toList == ([2, 1] : List UInt8)))) = some r := H
                have A22 := Aside0.mk A220
                clear A220
                replace H := Option.bind_eq_some_iff.mp H
                obtain ⟨t261, A230, H⟩ := H
                replace H : (some ((strOfNums t261).toList == ([2, 1] : List UInt8))) = some r := H
                have A23 := Aside0.mk A230
                clear A230
                obtain rfl := Option.some.inj H
                go_enter Try.func15, Try.ntmps15
                try go_wp2_with (first | ((with_reducible refine gate_dst (N := 5) rfl ?_); refine Kd.R_lit (Kd.int .u8) _ 5 ?hg (N := 5) ?hd (xs := ([3, 2, 97, 98] : List Int)) (inner := [.int .u8 3, .int .u8 2, .int .u8 97, .int .u8 98]) (ok := fun _ => True) (okp := fun _ => True) ?hr ?hp (fun _ hk => hk) trivial (Below.refl _ _) (Nat.le_refl _) (by simp) ?_; (case hd => rfl); (case hg => rfl); (case hr => first | (go_simp; done) | (go_simp; rfl)); (case hp => exact (Reps.one (show Kd.M (Kd.int .u8) _ _ _ 3 [.int .u8 3] from rfl) (Reps.one (show Kd.M (Kd.int .u8) _ _ _ 2 [.int .u8 2] from rfl) (Reps.one (show Kd.M (Kd.int .u8) _ _ _ 97 [.int .u8 97] from rfl) (Reps.one (show Kd.M (Kd.int .u8) _ _ _ 98 [.int .u8 98] from rfl) (Reps.none _ _)))))); intro v215 w24 ho25 hb hg_ hnew_; clear hg_ hnew_; (first | rw [← Ny214.out] at ho25 | (simp only [Int.reduceToNat] at ho25; rw [← Ny214.out] at ho25)); have n0_ := Aside0.mk (Kd.R_lower ho25 (below_size (by repeat (first | (with_reducible first | exact HB.out | apply below_alloc | apply pw_below_drewN | apply below_drew1) | exact HB.out)))); have n1_ := Aside0.mk (below_step (by repeat (first | (with_reducible first | exact HB.out | apply below_alloc | apply pw_below_drewN | apply below_drew1) | exact HB.out)) hb); clear HB; have HO216 := n0_; have HB := n1_; clear n0_ n1_; clear hb ho25; obtain ⟨Ao26, co26, eo26⟩ := Kd.R_slice HO216.out; subst eo26) | ((with_reducible refine gate_callee (f := 16) rfl ?_); refine goesL_ (some 6) rfl rfl Try.func16 (by kernel_rfl) rfl #[.slice Ao26 y214.length co26, .int .i64 0] rfl (by (try simp only [List.map_toArray, List.map_cons, List.map_nil]); first | done | rfl | (simp only [List.length_drop, List.length_take]; rfl) | (simp only [Int.ofNat_lt, Int.ofNat_le, gt_iff_lt, ge_iff_le]; rfl)) ?_; (with_reducible refine (value_Decode.calls k _ _ y214 0 t217 t218 t219 t220 t221 _ ?side1 ?side2 A1.out).mono ?_); (case side1 => repeat (first | exact (Kd.R_reads' HO216.out).2.2 | (with_reducible refine Kd.C_alloc ?_ _) | (with_reducible refine Kd.C_drewN ?_ _) | (with_reducible refine Kd.C_drew ?_))); (case side2 => exact (Kd.R_reads' HO216.out).2.1); rintro e w27 ⟨rfl, hb⟩; refine ⟨_, rfl, ?_⟩; have n0_ := Aside0.mk (Kd.R_below (by (with_reducible repeat (first | apply Kd.R_alloc | apply Kd.R_drewN | apply Kd.R_drew)); exact HO216.out) hb); have n1_ := Aside0.mk (below_step (by repeat (first | (with_reducible first | exact HB.out | apply below_alloc | apply pw_below_drewN | apply below_drew1) | exact HB.out)) hb); clear HO216; clear HB; have HO216 := n0_; have HB := n1_; clear n0_ n1_; (try clear hb); (try clear hb2); (try clear hk); (try clear hi)) | ((with_reducible refine gate_dst (N := 1) rfl ?_); refine box_event ?hg (N := 1) ?hd (cs := #[.int .i64 0, .int .i64 0, .string (⟨#[]⟩ : ByteArray)]) (t := 23) ?hr ?_; (case hd => rfl); (case hg => rfl); (case hr => first | (go_simp; done) | (go_simp; rfl)); intro gb222 hg w28 hbox hb; have n0_ := Aside0.mk (Kd.R_below (by (with_reducible repeat (first | apply Kd.R_alloc | apply Kd.R_drewN | apply Kd.R_drew)); exact HO216.out) hb); have n1_ := Aside0.mk (below_step (by repeat (first | (with_reducible first | exact HB.out | apply below_alloc | apply pw_below_drewN | apply below_drew1) | exact HB.out)) hb); have n2_ := Aside0.mk (hbox); have n3_ := Aside0.mk ((by rw [hg]; exact (below_size (by repeat (first | (with_reducible first | exact HB.out | apply below_alloc | apply pw_below_drewN | apply below_drew1) | exact HB.out))) : w.heap.size ≤ gb222)); have n4_ := Aside0.mk ((by rw [hg]; exact (below_size (by repeat (first | (with_reducible first | exact HB.out | apply below_alloc | apply pw_below_drewN | apply below_drew1) | exact HB.out))) : w.heap.size ≤ gb222)); clear HO216; clear HB; have HO216 := n0_; have HB := n1_; have BK222 := n2_; have GW222 := n3_; have GE222 := n4_; clear n0_ n1_ n2_ n3_ n4_; clear hb hbox hg; have hcz29_0 : w28.cell? ⟨gb222, 0, none⟩ = some (.int .i64 0) := (blk_cell BK222.out 0).trans rfl; have hcz29_1 : w28.cell? ⟨gb222, 1, none⟩ = some (.int .i64 0) := (blk_cell BK222.out 1).trans rfl; have hcz29_2 : w28.cell? ⟨gb222, 2, none⟩ = some (.string (⟨#[]⟩ : ByteArray)) := (blk_cell BK222.out 2).trans rfl; have hfz29_0 := blk_frozen BK222.out 0; have hfz29_1 := blk_frozen BK222.out 1; have hfz29_2 := blk_frozen BK222.out 2))
                have n0_ : Aside0 (Kd.R (Kd.int .u8) 5 (((w28.setCell ⟨gb222, 0, none⟩ (.int .i64 t217)).setCell ⟨gb222, 1, none⟩ (.int .i64 t218)).setCell ⟨gb222, 2, none⟩ (.string t219)) w.heap.size (fun _ => True) (.slice Ao26 y214.length co26) y214) := ⟨by (with_reducible repeat (first | apply Kd.R_alloc | apply Kd.R_drewN | apply Kd.R_drew)); exact Kd.R_mono (Kd.R_far (p := ⟨gb222, 2, none⟩) (Kd.R_far (p := ⟨gb222, 1, none⟩) (Kd.R_far (p := ⟨gb222, 0, none⟩) (Kd.R_types HO216.out BK222.out (by decide)) (fun _ hk => hk.2) (.int .i64 t217)) (fun _ hk => hk.2) (.int .i64 t218)) (fun _ hk => hk.2) (.string t219)) (fun _ hk => trivial)⟩
                have n1_ : Aside0 ((((w28.setCell ⟨gb222, 0, none⟩ (.int .i64 t217)).setCell ⟨gb222, 1, none⟩ (.int .i64 t218)).setCell ⟨gb222, 2, none⟩ (.string t219)).heap[gb222]? = some (.cells #[.int .i64 t217, .int .i64 t218, .string t219] 23 (0, 0))) := ⟨by (with_reducible repeat (first | refine blk_drewN ?_ _ | refine blk_drew ?_ | refine blk_alloc ?_ _)); refine blk_put (cs := #[.int .i64 t217, .int .i64 t218, .string (⟨#[]⟩ : ByteArray)]) ?_ 2 _ rfl; (with_reducible repeat (first | refine blk_drewN ?_ _ | refine blk_drew ?_ | refine blk_alloc ?_ _)); refine blk_put (cs := #[.int .i64 t217, .int .i64 0, .string (⟨#[]⟩ : ByteArray)]) ?_ 1 _ rfl; (with_reducible repeat (first | refine blk_drewN ?_ _ | refine blk_drew ?_ | refine blk_alloc ?_ _)); refine blk_put (cs := #[.int .i64 0, .int .i64 0, .string (⟨#[]⟩ : ByteArray)]) ?_ 0 _ rfl; (with_reducible repeat (first | refine blk_drewN ?_ _ | refine blk_drew ?_ | refine blk_alloc ?_ _)); exact BK222.out⟩
                have n2_ : Aside0 (Below w.heap.size w (((w28.setCell ⟨gb222, 0, none⟩ (.int .i64 t217)).setCell ⟨gb222, 1, none⟩ (.int .i64 t218)).setCell ⟨gb222, 2, none⟩ (.string t219))) := ⟨by repeat (first | (with_reducible first | exact HB.out | apply below_alloc | apply pw_below_drewN | apply below_drew1 | refine below_set ?_ GE222.out) | exact HB.out)⟩
                (try clear HO216)
                (try clear BK222)
                (try clear HB)
                generalize (((w28.setCell ⟨gb222, 0, none⟩ (.int .i64 t217)).setCell ⟨gb222, 1, none⟩ (.int .i64 t218)).setCell ⟨gb222, 2, none⟩ (.string t219)) = w30 at n0_ n1_ n2_ ⊢
                have HO216 := n0_
                have BK222 := n1_
                have HB := n2_
                clear n0_ n1_ n2_
                have n0_ := Aside0.mk (Kd.R_drew HO216.out)
                have n1_ := Aside0.mk (blk_drew BK222.out)
                have n2_ := Aside0.mk (below_drew1 HB.out)
                clear HO216
                clear BK222
                clear HB
                have HO216 := n0_
                have BK222 := n1_
                have HB := n2_
                clear n0_ n1_ n2_
                refine start_ (n := 42) (S := fun w' => w'.cell? ⟨gb222, 0, none⟩ = some (.int .i64 t217) ∧ w'.cell? ⟨gb222, 1, none⟩ = some (.int .i64 t218) ∧ w'.cell? ⟨gb222, 2, none⟩ = some (.string t219)) (ds := []) #[false, false, false, false, false, false, false, false, false, false, false, false, false, false, false, false, false, false, false, false, false, false, false, false, false, false, false, false, false, false, false, false, false, false, false, false, false, false, false, false, false, false] (by kernel_rfl) rfl rfl ⟨(blk_cell BK222.out 0).trans rfl, (blk_cell BK222.out 1).trans rfl, (blk_cell BK222.out 2).trans rfl⟩ (fun hHeld => ?_); refine with_tabW laminalaw04_awake.tab2 laminalaw04_awake.bits2 (fun HT_ HW_ => ?_)
                generalize w30.drew = w31 at HO216 BK222 HB hHeld ⊢
                refine one_ (i := 0) (N := some 10) #[true, false, false, false, false, false, false, false, false, false, false, false, false, false, false, false, false, false, false, false, false, false, false, false, false, false, false, false, false, false, false, false, false, false, false, false, false, false, false, false, false, false] rfl rfl (one_of HT_.out (by kernel_rfl)) (by decide) (fun K hK => ?_)
                refine goes_ Try.func47 (by kernel_rfl) rfl #[.int .i64 3] (by rfl) rfl rfl (by (try simp only [List.map_toArray, List.map_cons, List.map_nil]); first | done | rfl | (simp only [List.length_drop, List.length_take]; rfl) | (simp only [Int.ofNat_lt, Int.ofNat_le, gt_iff_lt, ge_iff_le]; rfl)) ?_
                with_reducible refine (laminalaw04_integer.calls 3 t223 t224 t225 _ A2.out).mono ?_
                rintro e w32 ⟨rfl, hb⟩
                refine ⟨_, rfl, ?_⟩
                have n0_ := Aside0.mk (Kd.R_below (by (with_reducible repeat (first | apply Kd.R_alloc | apply Kd.R_drewN | apply Kd.R_drew)); exact HO216.out) hb)
                have n1_ := Aside0.mk (blk_below (g := gb222) (o := .cells #[.int .i64 t217, .int .i64 t218, .string t219] 23 (0, 0)) (by (with_reducible repeat (first | refine blk_drewN ?_ _ | refine blk_drew ?_ | refine blk_alloc ?_ _)); exact BK222.out) hb)
                have n2_ := Aside0.mk (below_step (by repeat (first | (with_reducible first | exact HB.out | apply below_alloc | apply pw_below_drewN | apply below_drew1 | refine below_set ?_ GE222.out) | exact HB.out)) hb)
                clear HO216
                clear BK222
                clear HB
                have HO216 := n0_
                have BK222 := n1_
                have HB := n2_
                clear n0_ n1_ n2_
                (try clear hb)
                (try clear hb2)
                (try clear hk)
                (try clear hi)
                refine hK.out _ _ ⟨(blk_cell BK222.out 0).trans rfl, (blk_cell BK222.out 1).trans rfl, (blk_cell BK222.out 2).trans rfl⟩ (fun hHeld => ?_)
                clear hK K
                refine norm_ (a' := ?_) ?_ ?_
                rotate_left
                · show Act.put _ (some 10) _ = _
                  simp only [Act.put, List.setIfInBounds_toArray, List.set_cons_zero, List.set_cons_succ, i64_w, i32_w]
                  rfl
                refine one_ (i := 1) (N := some 11) #[true, true, false, false, false, false, false, false, false, false, false, false, false, false, false, false, false, false, false, false, false, false, false, false, false, false, false, false, false, false, false, false, false, false, false, false, false, false, false, false, false, false] rfl rfl (one_of HT_.out (by kernel_rfl)) (by decide) (fun K hK => ?_)
                refine goes_ Try.func13 (by kernel_rfl) rfl #[.agg #[.int .i64 t223, .int .i64 t224, .string t225]] (by rfl) rfl rfl (by (try simp only [List.map_toArray, List.map_cons, List.map_nil]); first | done | rfl | (simp only [List.length_drop, List.length_take]; rfl) | (simp only [Int.ofNat_lt, Int.ofNat_le, gt_iff_lt, ge_iff_le]; rfl)) ?_
                with_reducible refine (value_Valid.calls t223 t224 t225 true _ A3.out).mono ?_
                rintro e w33 ⟨rfl, hb⟩
                refine ⟨_, rfl, ?_⟩
                have n0_ := Aside0.mk (Kd.R_below (by (with_reducible repeat (first | apply Kd.R_alloc | apply Kd.R_drewN | apply Kd.R_drew)); exact HO216.out) hb)
                have n1_ := Aside0.mk (blk_below (g := gb222) (o := .cells #[.int .i64 t217, .int .i64 t218, .string t219] 23 (0, 0)) (by (with_reducible repeat (first | refine blk_drewN ?_ _ | refine blk_drew ?_ | refine blk_alloc ?_ _)); exact BK222.out) hb)
                have n2_ := Aside0.mk (below_step (by repeat (first | (with_reducible first | exact HB.out | apply below_alloc | apply pw_below_drewN | apply below_drew1 | refine below_set ?_ GE222.out) | exact HB.out)) hb)
                clear HO216
                clear BK222
                clear HB
                have HO216 := n0_
                have BK222 := n1_
                have HB := n2_
                clear n0_ n1_ n2_
                (try clear hb)
                (try clear hb2)
                (try clear hk)
                (try clear hi)
                refine hK.out _ _ ⟨(blk_cell BK222.out 0).trans rfl, (blk_cell BK222.out 1).trans rfl, (blk_cell BK222.out 2).trans rfl⟩ (fun hHeld => ?_)
                clear hK K
                refine norm_ (a' := ?_) ?_ ?_
                rotate_left
                · show Act.put _ (some 11) _ = _
                  simp only [Act.put, List.setIfInBounds_toArray, List.set_cons_zero, List.set_cons_succ, i64_w, i32_w]
                  rfl
                refine pure_ (i := 2) (N := some 12) (v := ?_) (a' := ?_) #[true, true, true, false, false, false, false, false, false, false, false, false, false, false, false, false, false, false, false, false, false, false, false, false, false, false, false, false, false, false, false, false, false, false, false, false, false, false, false, false, false, false] rfl rfl (any_of HT_.out (by kernel_rfl)) (fun _ _ _ h => h) (Or.inl ⟨by rfl, ?_⟩) ?_ ?_
                rotate_left
                · intro w'
                  go_simp
                  with_reducible rfl
                rotate_left
                · simp only [Act.put, List.setIfInBounds_toArray, List.set_cons_zero, List.set_cons_succ, i64_w, i32_w]
                  rfl
                refine one_ (i := 3) (N := some 13) #[true, true, true, true, false, false, false, false, false, false, false, false, false, false, false, false, false, false, false, false, false, false, false, false, false, false, false, false, false, false, false, false, false, false, false, false, false, false, false, false, false, false] rfl rfl (one_of HT_.out (by kernel_rfl)) (by decide) (fun K hK => ?_)
                refine goes_ Try.func47 (by kernel_rfl) rfl #[.int .i64 3] (by rfl) rfl rfl (by (try simp only [List.map_toArray, List.map_cons, List.map_nil]); first | done | rfl | (simp only [List.length_drop, List.length_take]; rfl) | (simp only [Int.ofNat_lt, Int.ofNat_le, gt_iff_lt, ge_iff_le]; rfl)) ?_
                with_reducible refine (laminalaw04_integer.calls 3 t227 t228 t229 _ A5.out).mono ?_
                rintro e w34 ⟨rfl, hb⟩
                refine ⟨_, rfl, ?_⟩
                have n0_ := Aside0.mk (Kd.R_below (by (with_reducible repeat (first | apply Kd.R_alloc | apply Kd.R_drewN | apply Kd.R_drew)); exact HO216.out) hb)
                have n1_ := Aside0.mk (blk_below (g := gb222) (o := .cells #[.int .i64 t217, .int .i64 t218, .string t219] 23 (0, 0)) (by (with_reducible repeat (first | refine blk_drewN ?_ _ | refine blk_drew ?_ | refine blk_alloc ?_ _)); exact BK222.out) hb)
                have n2_ := Aside0.mk (below_step (by repeat (first | (with_reducible first | exact HB.out | apply below_alloc | apply pw_below_drewN | apply below_drew1 | refine below_set ?_ GE222.out) | exact HB.out)) hb)
                clear HO216
                clear BK222
                clear HB
                have HO216 := n0_
                have BK222 := n1_
                have HB := n2_
                clear n0_ n1_ n2_
                (try clear hb)
                (try clear hb2)
                (try clear hk)
                (try clear hi)
                refine hK.out _ _ ⟨(blk_cell BK222.out 0).trans rfl, (blk_cell BK222.out 1).trans rfl, (blk_cell BK222.out 2).trans rfl⟩ (fun hHeld => ?_)
                clear hK K
                refine norm_ (a' := ?_) ?_ ?_
                rotate_left
                · show Act.put _ (some 13) _ = _
                  simp only [Act.put, List.setIfInBounds_toArray, List.set_cons_zero, List.set_cons_succ, i64_w, i32_w]
                  rfl
                refine one_ (i := 4) (N := some 14) #[true, true, true, true, true, false, false, false, false, false, false, false, false, false, false, false, false, false, false, false, false, false, false, false, false, false, false, false, false, false, false, false, false, false, false, false, false, false, false, false, false, false] rfl rfl (one_of HT_.out (by kernel_rfl)) (by decide) (fun K hK => ?_)
                refine goes_ Try.func48 (by kernel_rfl) rfl #[.string (⟨#[]⟩ : ByteArray)] (by rfl) rfl rfl (by (try simp only [List.map_toArray, List.map_cons, List.map_nil]); first | done | rfl | (simp only [List.length_drop, List.length_take]; rfl) | (simp only [Int.ofNat_lt, Int.ofNat_le, gt_iff_lt, ge_iff_le]; rfl)) ?_
                with_reducible refine (laminalaw04_text.calls (⟨#[]⟩ : ByteArray) t230 t231 t232 _ A6.out).mono ?_
                rintro e w35 ⟨rfl, hb⟩
                refine ⟨_, rfl, ?_⟩
                have n0_ := Aside0.mk (Kd.R_below (by (with_reducible repeat (first | apply Kd.R_alloc | apply Kd.R_drewN | apply Kd.R_drew)); exact HO216.out) hb)
                have n1_ := Aside0.mk (blk_below (g := gb222) (o := .cells #[.int .i64 t217, .int .i64 t218, .string t219] 23 (0, 0)) (by (with_reducible repeat (first | refine blk_drewN ?_ _ | refine blk_drew ?_ | refine blk_alloc ?_ _)); exact BK222.out) hb)
                have n2_ := Aside0.mk (below_step (by repeat (first | (with_reducible first | exact HB.out | apply below_alloc | apply pw_below_drewN | apply below_drew1 | refine below_set ?_ GE222.out) | exact HB.out)) hb)
                clear HO216
                clear BK222
                clear HB
                have HO216 := n0_
                have BK222 := n1_
                have HB := n2_
                clear n0_ n1_ n2_
                (try clear hb)
                (try clear hb2)
                (try clear hk)
                (try clear hi)
                refine hK.out _ _ ⟨(blk_cell BK222.out 0).trans rfl, (blk_cell BK222.out 1).trans rfl, (blk_cell BK222.out 2).trans rfl⟩ (fun hHeld => ?_)
                clear hK K
                refine norm_ (a' := ?_) ?_ ?_
                rotate_left
                · show Act.put _ (some 14) _ = _
                  simp only [Act.put, List.setIfInBounds_toArray, List.set_cons_zero, List.set_cons_succ, i64_w, i32_w]
                  rfl
                refine one_ (i := 5) (N := some 15) #[true, true, true, true, true, true, false, false, false, false, false, false, false, false, false, false, false, false, false, false, false, false, false, false, false, false, false, false, false, false, false, false, false, false, false, false, false, false, false, false, false, false] rfl rfl (one_of HT_.out (by kernel_rfl)) (by decide) (fun K hK => ?_)
                refine goes_ Try.func24 (by kernel_rfl) rfl #[.agg #[.int .i64 t227, .int .i64 t228, .string t229], .agg #[.int .i64 t230, .int .i64 t231, .string t232]] (by rfl) rfl rfl (by (try simp only [List.map_toArray, List.map_cons, List.map_nil]); first | done | rfl | (simp only [List.length_drop, List.length_take]; rfl) | (simp only [Int.ofNat_lt, Int.ofNat_le, gt_iff_lt, ge_iff_le]; rfl)) ?_
                with_reducible refine (value_Compare.calls t227 t228 t229 t230 t231 t232 t233 _ A7.out).mono ?_
                rintro e w36 ⟨rfl, hb⟩
                refine ⟨_, rfl, ?_⟩
                have n0_ := Aside0.mk (Kd.R_below (by (with_reducible repeat (first | apply Kd.R_alloc | apply Kd.R_drewN | apply Kd.R_drew)); exact HO216.out) hb)
                have n1_ := Aside0.mk (blk_below (g := gb222) (o := .cells #[.int .i64 t217, .int .i64 t218, .string t219] 23 (0, 0)) (by (with_reducible repeat (first | refine blk_drewN ?_ _ | refine blk_drew ?_ | refine blk_alloc ?_ _)); exact BK222.out) hb)
                have n2_ := Aside0.mk (below_step (by repeat (first | (with_reducible first | exact HB.out | apply below_alloc | apply pw_below_drewN | apply below_drew1 | refine below_set ?_ GE222.out) | exact HB.out)) hb)
                clear HO216
                clear BK222
                clear HB
                have HO216 := n0_
                have BK222 := n1_
                have HB := n2_
                clear n0_ n1_ n2_
                (try clear hb)
                (try clear hb2)
                (try clear hk)
                (try clear hi)
                refine hK.out _ _ ⟨(blk_cell BK222.out 0).trans rfl, (blk_cell BK222.out 1).trans rfl, (blk_cell BK222.out 2).trans rfl⟩ (fun hHeld => ?_)
                clear hK K
                refine norm_ (a' := ?_) ?_ ?_
                rotate_left
                · show Act.put _ (some 15) _ = _
                  simp only [Act.put, List.setIfInBounds_toArray, List.set_cons_zero, List.set_cons_succ, i64_w, i32_w]
                  rfl
                refine pure_ (i := 6) (N := some 16) (v := ?_) (a' := ?_) #[true, true, true, true, true, true, true, false, false, false, false, false, false, false, false, false, false, false, false, false, false, false, false, false, false, false, false, false, false, false, false, false, false, false, false, false, false, false, false, false, false, false] rfl rfl (any_of HT_.out (by kernel_rfl)) (fun _ _ _ h => h) (Or.inl ⟨by rfl, ?_⟩) ?_ ?_
                rotate_left
                · intro w'
                  go_simp
                  with_reducible rfl
                rotate_left
                · simp only [Act.put, List.setIfInBounds_toArray, List.set_cons_zero, List.set_cons_succ, i64_w, i32_w]
                  rfl
                refine pure_ (i := 7) (N := some 17) (v := ?_) (a' := ?_) #[true, true, true, true, true, true, true, true, false, false, false, false, false, false, false, false, false, false, false, false, false, false, false, false, false, false, false, false, false, false, false, false, false, false, false, false, false, false, false, false, false, false] rfl rfl (any_of HT_.out (by kernel_rfl)) (fun _ _ _ h => h) (Or.inl ⟨by rfl, ?_⟩) ?_ ?_
                rotate_left
                · intro w'
                  go_simp
                  with_reducible rfl
                rotate_left
                · simp only [Act.put, List.setIfInBounds_toArray, List.set_cons_zero, List.set_cons_succ, i64_w, i32_w]
                  rfl
                refine pure_ (i := 8) (N := some 18) (v := ?_) (a' := ?_) #[true, true, true, true, true, true, true, true, true, false, false, false, false, false, false, false, false, false, false, false, false, false, false, false, false, false, false, false, false, false, false, false, false, false, false, false, false, false, false, false, false, false] rfl rfl (any_of HT_.out (by kernel_rfl)) (fun _ _ _ h => h) (Or.inl ⟨by rfl, ?_⟩) ?_ ?_
                rotate_left
                · intro w'
                  go_simp
                  with_reducible rfl
                rotate_left
                · simp only [Act.put, List.setIfInBounds_toArray, List.set_cons_zero, List.set_cons_succ, i64_w, i32_w]
                  rfl
                refine one_ (i := 9) (N := some 19) #[true, true, true, true, true, true, true, true, true, true, false, false, false, false, false, false, false, false, false, false, false, false, false, false, false, false, false, false, false, false, false, false, false, false, false, false, false, false, false, false, false, false] rfl rfl (one_of HT_.out (by kernel_rfl)) (by decide) (fun K hK => ?_)
                refine goes_ Try.func47 (by kernel_rfl) rfl #[.int .i64 (-7)] (by rfl) rfl rfl (by (try simp only [List.map_toArray, List.map_cons, List.map_nil]); first | done | rfl | (simp only [List.length_drop, List.length_take]; rfl) | (simp only [Int.ofNat_lt, Int.ofNat_le, gt_iff_lt, ge_iff_le]; rfl)) ?_
                with_reducible refine (laminalaw04_integer.calls (-7) t234 t235 t236 _ A9.out).mono ?_
                rintro e w37 ⟨rfl, hb⟩
                refine ⟨_, rfl, ?_⟩
                have n0_ := Aside0.mk (Kd.R_below (by (with_reducible repeat (first | apply Kd.R_alloc | apply Kd.R_drewN | apply Kd.R_drew)); exact HO216.out) hb)
                have n1_ := Aside0.mk (blk_below (g := gb222) (o := .cells #[.int .i64 t217, .int .i64 t218, .string t219] 23 (0, 0)) (by (with_reducible repeat (first | refine blk_drewN ?_ _ | refine blk_drew ?_ | refine blk_alloc ?_ _)); exact BK222.out) hb)
                have n2_ := Aside0.mk (below_step (by repeat (first | (with_reducible first | exact HB.out | apply below_alloc | apply pw_below_drewN | apply below_drew1 | refine below_set ?_ GE222.out) | exact HB.out)) hb)
                clear HO216
                clear BK222
                clear HB
                have HO216 := n0_
                have BK222 := n1_
                have HB := n2_
                clear n0_ n1_ n2_
                (try clear hb)
                (try clear hb2)
                (try clear hk)
                (try clear hi)
                refine hK.out _ _ ⟨(blk_cell BK222.out 0).trans rfl, (blk_cell BK222.out 1).trans rfl, (blk_cell BK222.out 2).trans rfl⟩ (fun hHeld => ?_)
                clear hK K
                refine norm_ (a' := ?_) ?_ ?_
                rotate_left
                · show Act.put _ (some 19) _ = _
                  simp only [Act.put, List.setIfInBounds_toArray, List.set_cons_zero, List.set_cons_succ, i64_w, i32_w]
                  rfl
                refine one_ (i := 10) (N := some 20) #[true, true, true, true, true, true, true, true, true, true, true, false, false, false, false, false, false, false, false, false, false, false, false, false, false, false, false, false, false, false, false, false, false, false, false, false, false, false, false, false, false, false] rfl rfl (one_of HT_.out (by kernel_rfl)) (by decide) (fun K hK => ?_)
                refine goes_ Try.func47 (by kernel_rfl) rfl #[.int .i64 2] (by rfl) rfl rfl (by (try simp only [List.map_toArray, List.map_cons, List.map_nil]); first | done | rfl | (simp only [List.length_drop, List.length_take]; rfl) | (simp only [Int.ofNat_lt, Int.ofNat_le, gt_iff_lt, ge_iff_le]; rfl)) ?_
                with_reducible refine (laminalaw04_integer.calls 2 t237 t238 t239 _ A10.out).mono ?_
                rintro e w38 ⟨rfl, hb⟩
                refine ⟨_, rfl, ?_⟩
                have n0_ := Aside0.mk (Kd.R_below (by (with_reducible repeat (first | apply Kd.R_alloc | apply Kd.R_drewN | apply Kd.R_drew)); exact HO216.out) hb)
                have n1_ := Aside0.mk (blk_below (g := gb222) (o := .cells #[.int .i64 t217, .int .i64 t218, .string t219] 23 (0, 0)) (by (with_reducible repeat (first | refine blk_drewN ?_ _ | refine blk_drew ?_ | refine blk_alloc ?_ _)); exact BK222.out) hb)
                have n2_ := Aside0.mk (below_step (by repeat (first | (with_reducible first | exact HB.out | apply below_alloc | apply pw_below_drewN | apply below_drew1 | refine below_set ?_ GE222.out) | exact HB.out)) hb)
                clear HO216
                clear BK222
                clear HB
                have HO216 := n0_
                have BK222 := n1_
                have HB := n2_
                clear n0_ n1_ n2_
                (try clear hb)
                (try clear hb2)
                (try clear hk)
                (try clear hi)
                refine hK.out _ _ ⟨(blk_cell BK222.out 0).trans rfl, (blk_cell BK222.out 1).trans rfl, (blk_cell BK222.out 2).trans rfl⟩ (fun hHeld => ?_)
                clear hK K
                refine norm_ (a' := ?_) ?_ ?_
                rotate_left
                · show Act.put _ (some 20) _ = _
                  simp only [Act.put, List.setIfInBounds_toArray, List.set_cons_zero, List.set_cons_succ, i64_w, i32_w]
                  rfl
                refine one_ (i := 11) (N := some 21) #[true, true, true, true, true, true, true, true, true, true, true, true, false, false, false, false, false, false, false, false, false, false, false, false, false, false, false, false, false, false, false, false, false, false, false, false, false, false, false, false, false, false] rfl rfl (one_of HT_.out (by kernel_rfl)) (by decide) (fun K hK => ?_)
                refine goes_ Try.func31 (by kernel_rfl) rfl #[.int .i64 12, .agg #[.int .i64 t234, .int .i64 t235, .string t236], .agg #[.int .i64 t237, .int .i64 t238, .string t239]] (by rfl) rfl rfl (by (try simp only [List.map_toArray, List.map_cons, List.map_nil]); first | done | rfl | (simp only [List.length_drop, List.length_take]; rfl) | (simp only [Int.ofNat_lt, Int.ofNat_le, gt_iff_lt, ge_iff_le]; rfl)) ?_
                with_reducible refine (value_Arith.calls k 12 t234 t235 t236 t237 t238 t239 t240 t241 t242 _ A11.out).mono ?_
                rintro e w39 ⟨rfl, hb⟩
                refine ⟨_, rfl, ?_⟩
                have n0_ := Aside0.mk (Kd.R_below (by (with_reducible repeat (first | apply Kd.R_alloc | apply Kd.R_drewN | apply Kd.R_drew)); exact HO216.out) hb)
                have n1_ := Aside0.mk (blk_below (g := gb222) (o := .cells #[.int .i64 t217, .int .i64 t218, .string t219] 23 (0, 0)) (by (with_reducible repeat (first | refine blk_drewN ?_ _ | refine blk_drew ?_ | refine blk_alloc ?_ _)); exact BK222.out) hb)
                have n2_ := Aside0.mk (below_step (by repeat (first | (with_reducible first | exact HB.out | apply below_alloc | apply pw_below_drewN | apply below_drew1 | refine below_set ?_ GE222.out) | exact HB.out)) hb)
                clear HO216
                clear BK222
                clear HB
                have HO216 := n0_
                have BK222 := n1_
                have HB := n2_
                clear n0_ n1_ n2_
                (try clear hb)
                (try clear hb2)
                (try clear hk)
                (try clear hi)
                refine hK.out _ _ ⟨(blk_cell BK222.out 0).trans rfl, (blk_cell BK222.out 1).trans rfl, (blk_cell BK222.out 2).trans rfl⟩ (fun hHeld => ?_)
                clear hK K
                refine norm_ (a' := ?_) ?_ ?_
                rotate_left
                · show Act.put _ (some 21) _ = _
                  simp only [Act.put, List.setIfInBounds_toArray, List.set_cons_zero, List.set_cons_succ, i64_w, i32_w]
                  rfl
                refine one_ (i := 12) (N := some 22) #[true, true, true, true, true, true, true, true, true, true, true, true, true, false, false, false, false, false, false, false, false, false, false, false, false, false, false, false, false, false, false, false, false, false, false, false, false, false, false, false, false, false] rfl rfl (one_of HT_.out (by kernel_rfl)) (by decide) (fun K hK => ?_)
                refine goes_ Try.func47 (by kernel_rfl) rfl #[.int .i64 (-3)] (by rfl) rfl rfl (by (try simp only [List.map_toArray, List.map_cons, List.map_nil]); first | done | rfl | (simp only [List.length_drop, List.length_take]; rfl) | (simp only [Int.ofNat_lt, Int.ofNat_le, gt_iff_lt, ge_iff_le]; rfl)) ?_
                with_reducible refine (laminalaw04_integer.calls (-3) t243 t244 t245 _ A12.out).mono ?_
                rintro e w40 ⟨rfl, hb⟩
                refine ⟨_, rfl, ?_⟩
                have n0_ := Aside0.mk (Kd.R_below (by (with_reducible repeat (first | apply Kd.R_alloc | apply Kd.R_drewN | apply Kd.R_drew)); exact HO216.out) hb)
                have n1_ := Aside0.mk (blk_below (g := gb222) (o := .cells #[.int .i64 t217, .int .i64 t218, .string t219] 23 (0, 0)) (by (with_reducible repeat (first | refine blk_drewN ?_ _ | refine blk_drew ?_ | refine blk_alloc ?_ _)); exact BK222.out) hb)
                have n2_ := Aside0.mk (below_step (by repeat (first | (with_reducible first | exact HB.out | apply below_alloc | apply pw_below_drewN | apply below_drew1 | refine below_set ?_ GE222.out) | exact HB.out)) hb)
                clear HO216
                clear BK222
                clear HB
                have HO216 := n0_
                have BK222 := n1_
                have HB := n2_
                clear n0_ n1_ n2_
                (try clear hb)
                (try clear hb2)
                (try clear hk)
                (try clear hi)
                refine hK.out _ _ ⟨(blk_cell BK222.out 0).trans rfl, (blk_cell BK222.out 1).trans rfl, (blk_cell BK222.out 2).trans rfl⟩ (fun hHeld => ?_)
                clear hK K
                refine norm_ (a' := ?_) ?_ ?_
                rotate_left
                · show Act.put _ (some 22) _ = _
                  simp only [Act.put, List.setIfInBounds_toArray, List.set_cons_zero, List.set_cons_succ, i64_w, i32_w]
                  rfl
                refine pure_ (i := 13) (N := some 23) (v := ?_) (a' := ?_) #[true, true, true, true, true, true, true, true, true, true, true, true, true, true, false, false, false, false, false, false, false, false, false, false, false, false, false, false, false, false, false, false, false, false, false, false, false, false, false, false, false, false] rfl rfl (any_of HT_.out (by kernel_rfl)) (fun _ _ _ h => h) (Or.inl ⟨by rfl, ?_⟩) ?_ ?_
                rotate_left
                · intro w'
                  go_simp
                  with_reducible rfl
                rotate_left
                · simp only [Act.put, List.setIfInBounds_toArray, List.set_cons_zero, List.set_cons_succ, i64_w, i32_w]
                  rfl
                refine pure_ (i := 14) (N := some 24) (v := ?_) (a' := ?_) #[true, true, true, true, true, true, true, true, true, true, true, true, true, true, true, false, false, false, false, false, false, false, false, false, false, false, false, false, false, false, false, false, false, false, false, false, false, false, false, false, false, false] rfl rfl (any_of HT_.out (by kernel_rfl)) (fun _ _ _ h => h) (Or.inl ⟨by rfl, ?_⟩) ?_ ?_
                rotate_left
                · intro w'
                  go_simp
                  with_reducible rfl
                rotate_left
                · simp only [Act.put, List.setIfInBounds_toArray, List.set_cons_zero, List.set_cons_succ, i64_w, i32_w]
                  rfl
                refine pure_ (i := 15) (N := some 25) (v := ?_) (a' := ?_) #[true, true, true, true, true, true, true, true, true, true, true, true, true, true, true, true, false, false, false, false, false, false, false, false, false, false, false, false, false, false, false, false, false, false, false, false, false, false, false, false, false, false] rfl rfl (any_of HT_.out (by kernel_rfl)) (fun _ _ _ h => h) (Or.inl ⟨by rfl, ?_⟩) ?_ ?_
                rotate_left
                · intro w'
                  go_simp
                  with_reducible rfl
                rotate_left
                · simp only [Act.put, List.setIfInBounds_toArray, List.set_cons_zero, List.set_cons_succ, i64_w, i32_w]
                  rfl
                refine pure_ (i := 19) (N := some 29) (v := ?_) (a' := ?_) #[true, true, true, true, true, true, true, true, true, true, true, true, true, true, true, true, false, false, false, true, false, false, false, false, false, false, false, false, false, false, false, false, false, false, false, false, false, false, false, false, false, false] rfl rfl (any_of HT_.out (by kernel_rfl)) (fun _ _ _ h => h) (Or.inl ⟨by rfl, ?_⟩) ?_ ?_
                rotate_left
                · intro w'
                  go_simp
                  with_reducible rfl
                rotate_left
                · simp only [Act.put, List.setIfInBounds_toArray, List.set_cons_zero, List.set_cons_succ, i64_w, i32_w]
                  rfl
                refine one_ (i := 16) (N := some 26) #[true, true, true, true, true, true, true, true, true, true, true, true, true, true, true, true, true, false, false, true, false, false, false, false, false, false, false, false, false, false, false, false, false, false, false, false, false, false, false, false, false, false] rfl rfl (one_of HT_.out (by kernel_rfl)) (by decide) (fun K hK => ?_)
                refine goes_ Try.func47 (by kernel_rfl) rfl #[.int .i64 1] (by rfl) rfl rfl (by (try simp only [List.map_toArray, List.map_cons, List.map_nil]); first | done | rfl | (simp only [List.length_drop, List.length_take]; rfl) | (simp only [Int.ofNat_lt, Int.ofNat_le, gt_iff_lt, ge_iff_le]; rfl)) ?_
                with_reducible refine (laminalaw04_integer.calls 1 t246 t247 t248 _ A14.out).mono ?_
                rintro e w41 ⟨rfl, hb⟩
                refine ⟨_, rfl, ?_⟩
                have n0_ := Aside0.mk (Kd.R_below (by (with_reducible repeat (first | apply Kd.R_alloc | apply Kd.R_drewN | apply Kd.R_drew)); exact HO216.out) hb)
                have n1_ := Aside0.mk (blk_below (g := gb222) (o := .cells #[.int .i64 t217, .int .i64 t218, .string t219] 23 (0, 0)) (by (with_reducible repeat (first | refine blk_drewN ?_ _ | refine blk_drew ?_ | refine blk_alloc ?_ _)); exact BK222.out) hb)
                have n2_ := Aside0.mk (below_step (by repeat (first | (with_reducible first | exact HB.out | apply below_alloc | apply pw_below_drewN | apply below_drew1 | refine below_set ?_ GE222.out) | exact HB.out)) hb)
                clear HO216
                clear BK222
                clear HB
                have HO216 := n0_
                have BK222 := n1_
                have HB := n2_
                clear n0_ n1_ n2_
                (try clear hb)
                (try clear hb2)
                (try clear hk)
                (try clear hi)
                refine hK.out _ _ ⟨(blk_cell BK222.out 0).trans rfl, (blk_cell BK222.out 1).trans rfl, (blk_cell BK222.out 2).trans rfl⟩ (fun hHeld => ?_)
                clear hK K
                refine norm_ (a' := ?_) ?_ ?_
                rotate_left
                · show Act.put _ (some 26) _ = _
                  simp only [Act.put, List.setIfInBounds_toArray, List.set_cons_zero, List.set_cons_succ, i64_w, i32_w]
                  rfl
                refine one_ (i := 17) (N := some 27) #[true, true, true, true, true, true, true, true, true, true, true, true, true, true, true, true, true, true, false, true, false, false, false, false, false, false, false, false, false, false, false, false, false, false, false, false, false, false, false, false, false, false] rfl rfl (one_of HT_.out (by kernel_rfl)) (by decide) (fun K hK => ?_)
                refine goes_ Try.func47 (by kernel_rfl) rfl #[.int .i64 2] (by rfl) rfl rfl (by (try simp only [List.map_toArray, List.map_cons, List.map_nil]); first | done | rfl | (simp only [List.length_drop, List.length_take]; rfl) | (simp only [Int.ofNat_lt, Int.ofNat_le, gt_iff_lt, ge_iff_le]; rfl)) ?_
                with_reducible refine (laminalaw04_integer.calls 2 t249 t250 t251 _ A15.out).mono ?_
                rintro e w42 ⟨rfl, hb⟩
                refine ⟨_, rfl, ?_⟩
                have n0_ := Aside0.mk (Kd.R_below (by (with_reducible repeat (first | apply Kd.R_alloc | apply Kd.R_drewN | apply Kd.R_drew)); exact HO216.out) hb)
                have n1_ := Aside0.mk (blk_below (g := gb222) (o := .cells #[.int .i64 t217, .int .i64 t218, .string t219] 23 (0, 0)) (by (with_reducible repeat (first | refine blk_drewN ?_ _ | refine blk_drew ?_ | refine blk_alloc ?_ _)); exact BK222.out) hb)
                have n2_ := Aside0.mk (below_step (by repeat (first | (with_reducible first | exact HB.out | apply below_alloc | apply pw_below_drewN | apply below_drew1 | refine below_set ?_ GE222.out) | exact HB.out)) hb)
                clear HO216
                clear BK222
                clear HB
                have HO216 := n0_
                have BK222 := n1_
                have HB := n2_
                clear n0_ n1_ n2_
                (try clear hb)
                (try clear hb2)
                (try clear hk)
                (try clear hi)
                refine hK.out _ _ ⟨(blk_cell BK222.out 0).trans rfl, (blk_cell BK222.out 1).trans rfl, (blk_cell BK222.out 2).trans rfl⟩ (fun hHeld => ?_)
                clear hK K
                refine norm_ (a' := ?_) ?_ ?_
                rotate_left
                · show Act.put _ (some 27) _ = _
                  simp only [Act.put, List.setIfInBounds_toArray, List.set_cons_zero, List.set_cons_succ, i64_w, i32_w]
                  rfl
                refine one_ (i := 18) (N := some 28) #[true, true, true, true, true, true, true, true, true, true, true, true, true, true, true, true, true, true, true, true, false, false, false, false, false, false, false, false, false, false, false, false, false, false, false, false, false, false, false, false, false, false] rfl rfl (one_of HT_.out (by kernel_rfl)) (by decide) (fun K hK => ?_)
                refine goes_ Try.func19 (by kernel_rfl) rfl #[.int .i64 3, .agg #[.int .i64 t246, .int .i64 t247, .string t248], .agg #[.int .i64 t249, .int .i64 t250, .string t251]] (by rfl) rfl rfl (by (try simp only [List.map_toArray, List.map_cons, List.map_nil]); first | done | rfl | (simp only [List.length_drop, List.length_take]; rfl) | (simp only [Int.ofNat_lt, Int.ofNat_le, gt_iff_lt, ge_iff_le]; rfl)) ?_
                with_reducible refine (value_Test.calls k 3 t246 t247 t248 t249 t250 t251 t252 t253 t254 _ A16.out).mono ?_
                rintro e w43 ⟨rfl, hb⟩
                refine ⟨_, rfl, ?_⟩
                have n0_ := Aside0.mk (Kd.R_below (by (with_reducible repeat (first | apply Kd.R_alloc | apply Kd.R_drewN | apply Kd.R_drew)); exact HO216.out) hb)
                have n1_ := Aside0.mk (blk_below (g := gb222) (o := .cells #[.int .i64 t217, .int .i64 t218, .string t219] 23 (0, 0)) (by (with_reducible repeat (first | refine blk_drewN ?_ _ | refine blk_drew ?_ | refine blk_alloc ?_ _)); exact BK222.out) hb)
                have n2_ := Aside0.mk (below_step (by repeat (first | (with_reducible first | exact HB.out | apply below_alloc | apply pw_below_drewN | apply below_drew1 | refine below_set ?_ GE222.out) | exact HB.out)) hb)
                clear HO216
                clear BK222
                clear HB
                have HO216 := n0_
                have BK222 := n1_
                have HB := n2_
                clear n0_ n1_ n2_
                (try clear hb)
                (try clear hb2)
                (try clear hk)
                (try clear hi)
                refine hK.out _ _ ⟨(blk_cell BK222.out 0).trans rfl, (blk_cell BK222.out 1).trans rfl, (blk_cell BK222.out 2).trans rfl⟩ (fun hHeld => ?_)
                clear hK K
                refine norm_ (a' := ?_) ?_ ?_
                rotate_left
                · show Act.put _ (some 28) _ = _
                  simp only [Act.put, List.setIfInBounds_toArray, List.set_cons_zero, List.set_cons_succ, i64_w, i32_w]
                  rfl
                refine pure_ (i := 20) (N := some 30) (v := ?_) (a' := ?_) #[true, true, true, true, true, true, true, true, true, true, true, true, true, true, true, true, true, true, true, true, true, false, false, false, false, false, false, false, false, false, false, false, false, false, false, false, false, false, false, false, false, false] rfl rfl (any_of HT_.out (by kernel_rfl)) (fun _ _ _ h => h) (Or.inl ⟨by rfl, ?_⟩) ?_ ?_
                rotate_left
                · intro w'
                  go_simp
                  with_reducible rfl
                rotate_left
                · simp only [Act.put, List.setIfInBounds_toArray, List.set_cons_zero, List.set_cons_succ, i64_w, i32_w]
                  rfl
                refine pure_ (i := 21) (N := some 31) (v := ?_) (a' := ?_) #[true, true, true, true, true, true, true, true, true, true, true, true, true, true, true, true, true, true, true, true, true, true, false, false, false, false, false, false, false, false, false, false, false, false, false, false, false, false, false, false, false, false] rfl rfl (any_of HT_.out (by kernel_rfl)) (fun _ _ _ h => h) (Or.inl ⟨by rfl, ?_⟩) ?_ ?_
                rotate_left
                · intro w'
                  go_simp
                  with_reducible rfl
                rotate_left
                · simp only [Act.put, List.setIfInBounds_toArray, List.set_cons_zero, List.set_cons_succ, i64_w, i32_w]
                  rfl
                refine pure_ (i := 22) (N := some 32) (v := ?_) (a' := ?_) #[true, true, true, true, true, true, true, true, true, true, true, true, true, true, true, true, true, true, true, true, true, true, true, false, false, false, false, false, false, false, false, false, false, false, false, false, false, false, false, false, false, false] rfl rfl (any_of HT_.out (by kernel_rfl)) (fun _ _ _ h => h) (Or.inl ⟨by rfl, ?_⟩) ?_ ?_
                rotate_left
                · intro w'
                  go_simp
                  with_reducible rfl
                rotate_left
                · simp only [Act.put, List.setIfInBounds_toArray, List.set_cons_zero, List.set_cons_succ, i64_w, i32_w]
                  rfl
                refine take_ (i := 23) (N := some 33) (v := ?_) (a' := ?_) #[true, true, true, true, true, true, true, true, true, true, true, true, true, true, true, true, true, true, true, true, true, true, true, true, false, false, false, false, false, false, false, false, false, false, false, false, false, false, false, false, false, false] rfl rfl (take_ofW HT_.out HW_.out (by kernel_rfl)) (fun _ _ _ h => h) (Or.inl ⟨by rfl, ?_⟩) hHeld ?_ ?_
                rotate_left
                · rintro w' ⟨s0, s1, s2⟩
                  go_simp
                  with_reducible rfl
                rotate_left
                · simp only [Act.put, List.setIfInBounds_toArray, List.set_cons_zero, List.set_cons_succ, i64_w, i32_w]
                  rfl
                refine one_ (i := 24) (N := some 34) #[true, true, true, true, true, true, true, true, true, true, true, true, true, true, true, true, true, true, true, true, true, true, true, true, true, false, false, false, false, false, false, false, false, false, false, false, false, false, false, false, false, false] rfl rfl (one_of HT_.out (by kernel_rfl)) (by decide) (fun K hK => ?_)
                refine goes_ Try.func48 (by kernel_rfl) rfl #[.string (⟨#[97, 98]⟩ : ByteArray)] (by rfl) rfl rfl (by (try simp only [List.map_toArray, List.map_cons, List.map_nil]); first | done | rfl | (simp only [List.length_drop, List.length_take]; rfl) | (simp only [Int.ofNat_lt, Int.ofNat_le, gt_iff_lt, ge_iff_le]; rfl)) ?_
                with_reducible refine (laminalaw04_text.calls (⟨#[97, 98]⟩ : ByteArray) t255 t256 t257 _ A18.out).mono ?_
                rintro e w44 ⟨rfl, hb⟩
                refine ⟨_, rfl, ?_⟩
                have n0_ := Aside0.mk (Kd.R_below (by (with_reducible repeat (first | apply Kd.R_alloc | apply Kd.R_drewN | apply Kd.R_drew)); exact HO216.out) hb)
                have n1_ := Aside0.mk (blk_below (g := gb222) (o := .cells #[.int .i64 t217, .int .i64 t218, .string t219] 23 (0, 0)) (by (with_reducible repeat (first | refine blk_drewN ?_ _ | refine blk_drew ?_ | refine blk_alloc ?_ _)); exact BK222.out) hb)
                have n2_ := Aside0.mk (below_step (by repeat (first | (with_reducible first | exact HB.out | apply below_alloc | apply pw_below_drewN | apply below_drew1 | refine below_set ?_ GE222.out) | exact HB.out)) hb)
                clear HO216
                clear BK222
                clear HB
                have HO216 := n0_
                have BK222 := n1_
                have HB := n2_
                clear n0_ n1_ n2_
                (try clear hb)
                (try clear hb2)
                (try clear hk)
                (try clear hi)
                refine hK.out _ _ ⟨(blk_cell BK222.out 0).trans rfl, (blk_cell BK222.out 1).trans rfl, (blk_cell BK222.out 2).trans rfl⟩ (fun hHeld => ?_)
                clear hK K
                refine norm_ (a' := ?_) ?_ ?_
                rotate_left
                · show Act.put _ (some 34) _ = _
                  simp only [Act.put, List.setIfInBounds_toArray, List.set_cons_zero, List.set_cons_succ, i64_w, i32_w]
                  rfl
                refine pure_ (i := 25) (N := some 35) (v := ?_) (a' := ?_) #[true, true, true, true, true, true, true, true, true, true, true, true, true, true, true, true, true, true, true, true, true, true, true, true, true, true, false, false, false, false, false, false, false, false, false, false, false, false, false, false, false, false] rfl rfl (any_of HT_.out (by kernel_rfl)) (fun _ _ _ h => h) (Or.inl ⟨by rfl, ?_⟩) ?_ ?_
                rotate_left
                · intro w'
                  go_simp
                  with_reducible rfl
                rotate_left
                · simp only [Act.put, List.setIfInBounds_toArray, List.set_cons_zero, List.set_cons_succ, i64_w, i32_w]
                  rfl
                refine pure_ (i := 26) (N := some 36) (v := ?_) (a' := ?_) #[true, true, true, true, true, true, true, true, true, true, true, true, true, true, true, true, true, true, true, true, true, true, true, true, true, true, true, false, false, false, false, false, false, false, false, false, false, false, false, false, false, false] rfl rfl (any_of HT_.out (by kernel_rfl)) (fun _ _ _ h => h) (Or.inl ⟨by rfl, ?_⟩) ?_ ?_
                rotate_left
                · intro w'
                  go_simp
                  with_reducible rfl
                rotate_left
                · simp only [Act.put, List.setIfInBounds_toArray, List.set_cons_zero, List.set_cons_succ, i64_w, i32_w]
                  rfl
                refine pure_ (i := 27) (N := some 37) (v := ?_) (a' := ?_) #[true, true, true, true, true, true, true, true, true, true, true, true, true, true, true, true, true, true, true, true, true, true, true, true, true, true, true, true, false, false, false, false, false, false, false, false, false, false, false, false, false, false] rfl rfl (any_of HT_.out (by kernel_rfl)) (fun _ _ _ h => h) (Or.inl ⟨by rfl, ?_⟩) ?_ ?_
                rotate_left
                · intro w'
                  go_simp
                  with_reducible rfl
                rotate_left
                · simp only [Act.put, List.setIfInBounds_toArray, List.set_cons_zero, List.set_cons_succ, i64_w, i32_w]
                  rfl
                refine pure_ (i := 28) (N := some 38) (v := ?_) (a' := ?_) #[true, true, true, true, true, true, true, true, true, true, true, true, true, true, true, true, true, true, true, true, true, true, true, true, true, true, true, true, true, false, false, false, false, false, false, false, false, false, false, false, false, false] rfl rfl (any_of HT_.out (by kernel_rfl)) (fun _ _ _ h => h) (Or.inl ⟨by rfl, ?_⟩) ?_ ?_
                rotate_left
                · intro w'
                  go_simp
                  with_reducible rfl
                rotate_left
                · simp only [Act.put, List.setIfInBounds_toArray, List.set_cons_zero, List.set_cons_succ, i64_w, i32_w]
                  rfl
                refine pure_ (i := 29) (N := some 39) (v := ?_) (a' := ?_) #[true, true, true, true, true, true, true, true, true, true, true, true, true, true, true, true, true, true, true, true, true, true, true, true, true, true, true, true, true, true, false, false, false, false, false, false, false, false, false, false, false, false] rfl rfl (any_of HT_.out (by kernel_rfl)) (fun _ _ _ h => h) (Or.inl ⟨by rfl, ?_⟩) ?_ ?_
                rotate_left
                · intro w'
                  go_simp
                  with_reducible rfl
                rotate_left
                · simp only [Act.put, List.setIfInBounds_toArray, List.set_cons_zero, List.set_cons_succ, i64_w, i32_w]
                  rfl
                refine pure_ (i := 30) (N := some 40) (v := ?_) (a' := ?_) #[true, true, true, true, true, true, true, true, true, true, true, true, true, true, true, true, true, true, true, true, true, true, true, true, true, true, true, true, true, true, true, false, false, false, false, false, false, false, false, false, false, false] rfl rfl (any_of HT_.out (by kernel_rfl)) (fun _ _ _ h => h) (Or.inl ⟨by rfl, ?_⟩) ?_ ?_
                rotate_left
                · intro w'
                  go_simp
                  with_reducible rfl
                rotate_left
                · simp only [Act.put, List.setIfInBounds_toArray, List.set_cons_zero, List.set_cons_succ, i64_w, i32_w]
                  rfl
                refine pure_ (i := 31) (N := some 41) (v := ?_) (a' := ?_) #[true, true, true, true, true, true, true, true, true, true, true, true, true, true, true, true, true, true, true, true, true, true, true, true, true, true, true, true, true, true, true, true, false, false, false, false, false, false, false, false, false, false] rfl rfl (any_of HT_.out (by kernel_rfl)) (fun _ _ _ h => h) (Or.inl ⟨by rfl, ?_⟩) ?_ ?_
                rotate_left
                · intro w'
                  go_simp
                  with_reducible rfl
                rotate_left
                · simp only [Act.put, List.setIfInBounds_toArray, List.set_cons_zero, List.set_cons_succ, i64_w, i32_w]
                  rfl
                refine pure_ (i := 32) (N := some 42) (v := ?_) (a' := ?_) #[true, true, true, true, true, true, true, true, true, true, true, true, true, true, true, true, true, true, true, true, true, true, true, true, true, true, true, true, true, true, true, true, true, false, false, false, false, false, false, false, false, false] rfl rfl (any_of HT_.out (by kernel_rfl)) (fun _ _ _ h => h) (Or.inl ⟨by rfl, ?_⟩) ?_ ?_
                rotate_left
                · intro w'
                  go_simp
                  with_reducible rfl
                rotate_left
                · simp only [Act.put, List.setIfInBounds_toArray, List.set_cons_zero, List.set_cons_succ, i64_w, i32_w]
                  rfl
                refine pure_ (i := 33) (N := some 43) (v := ?_) (a' := ?_) #[true, true, true, true, true, true, true, true, true, true, true, true, true, true, true, true, true, true, true, true, true, true, true, true, true, true, true, true, true, true, true, true, true, true, false, false, false, false, false, false, false, false] rfl rfl (any_of HT_.out (by kernel_rfl)) (fun _ _ _ h => h) (Or.inl ⟨by rfl, ?_⟩) ?_ ?_
                rotate_left
                · intro w'
                  go_simp
                  with_reducible rfl
                rotate_left
                · simp only [Act.put, List.setIfInBounds_toArray, List.set_cons_zero, List.set_cons_succ, i64_w, i32_w]
                  rfl
                refine pure_ (i := 34) (N := some 44) (v := ?_) (a' := ?_) #[true, true, true, true, true, true, true, true, true, true, true, true, true, true, true, true, true, true, true, true, true, true, true, true, true, true, true, true, true, true, true, true, true, true, true, false, false, false, false, false, false, false] rfl rfl (any_of HT_.out (by kernel_rfl)) (fun _ _ _ h => h) (Or.inl ⟨by rfl, ?_⟩) ?_ ?_
                rotate_left
                · intro w'
                  go_simp
                  with_reducible rfl
                rotate_left
                · simp only [Act.put, List.setIfInBounds_toArray, List.set_cons_zero, List.set_cons_succ, i64_w, i32_w]
                  rfl
                refine pure_ (i := 35) (N := some 45) (v := ?_) (a' := ?_) #[true, true, true, true, true, true, true, true, true, true, true, true, true, true, true, true, true, true, true, true, true, true, true, true, true, true, true, true, true, true, true, true, true, true, true, true, false, false, false, false, false, false] rfl rfl (any_of HT_.out (by kernel_rfl)) (fun _ _ _ h => h) (Or.inl ⟨by rfl, ?_⟩) ?_ ?_
                rotate_left
                · intro w'
                  go_simp
                  with_reducible rfl
                rotate_left
                · simp only [Act.put, List.setIfInBounds_toArray, List.set_cons_zero, List.set_cons_succ, i64_w, i32_w]
                  rfl
                refine one_ (i := 36) (N := some 46) #[true, true, true, true, true, true, true, true, true, true, true, true, true, true, true, true, true, true, true, true, true, true, true, true, true, true, true, true, true, true, true, true, true, true, true, true, true, false, false, false, false, false] rfl rfl (one_of HT_.out (by kernel_rfl)) (by decide) (fun K hK => ?_)
                refine goes_ Try.func47 (by kernel_rfl) rfl #[.int .i64 (-1)] (by rfl) rfl rfl (by (try simp only [List.map_toArray, List.map_cons, List.map_nil]); first | done | rfl | (simp only [List.length_drop, List.length_take]; rfl) | (simp only [Int.ofNat_lt, Int.ofNat_le, gt_iff_lt, ge_iff_le]; rfl)) ?_
                with_reducible refine (laminalaw04_integer.calls (-1) t258 t259 t260 _ A22.out).mono ?_
                rintro e w45 ⟨rfl, hb⟩
                refine ⟨_, rfl, ?_⟩
                have n0_ := Aside0.mk (Kd.R_below (by (with_reducible repeat (first | apply Kd.R_alloc | apply Kd.R_drewN | apply Kd.R_drew)); exact HO216.out) hb)
                have n1_ := Aside0.mk (blk_below (g := gb222) (o := .cells #[.int .i64 t217, .int .i64 t218, .string t219] 23 (0, 0)) (by (with_reducible repeat (first | refine blk_drewN ?_ _ | refine blk_drew ?_ | refine blk_alloc ?_ _)); exact BK222.out) hb)
                have n2_ := Aside0.mk (below_step (by repeat (first | (with_reducible first | exact HB.out | apply below_alloc | apply pw_below_drewN | apply below_drew1 | refine below_set ?_ GE222.out) | exact HB.out)) hb)
                clear HO216
                clear BK222
                clear HB
                have HO216 := n0_
                have BK222 := n1_
                have HB := n2_
                clear n0_ n1_ n2_
                (try clear hb)
                (try clear hb2)
                (try clear hk)
                (try clear hi)
                refine hK.out _ _ ⟨(blk_cell BK222.out 0).trans rfl, (blk_cell BK222.out 1).trans rfl, (blk_cell BK222.out 2).trans rfl⟩ (fun hHeld => ?_)
                clear hK K
                refine norm_ (a' := ?_) ?_ ?_
                rotate_left
                · show Act.put _ (some 46) _ = _
                  simp only [Act.put, List.setIfInBounds_toArray, List.set_cons_zero, List.set_cons_succ, i64_w, i32_w]
                  rfl
                refine one_ (i := 37) (N := some 47) #[true, true, true, true, true, true, true, true, true, true, true, true, true, true, true, true, true, true, true, true, true, true, true, true, true, true, true, true, true, true, true, true, true, true, true, true, true, true, false, false, false, false] rfl rfl (one_of HT_.out (by kernel_rfl)) (by decide) (fun K hK => ?_)
                refine goes_ Try.func18 (by kernel_rfl) rfl #[.agg #[.int .i64 t258, .int .i64 t259, .string t260]] (by rfl) rfl rfl (by (try simp only [List.map_toArray, List.map_cons, List.map_nil]); first | done | rfl | (simp only [List.length_drop, List.length_take]; rfl) | (simp only [Int.ofNat_lt, Int.ofNat_le, gt_iff_lt, ge_iff_le]; rfl)) ?_
                with_reducible refine (value_Encode.calls k t258 t259 t260 t261 _ A23.out).mono ?_
                rintro e w46 ⟨v262, rfl, ho0, hb⟩
                refine ⟨_, rfl, ?_⟩
                have n0_ := Aside0.mk (Kd.R_elder' (by (with_reducible repeat (first | apply Kd.R_alloc | apply Kd.R_drewN | apply Kd.R_drew)); exact HO216.out) (Kd.R_base ho0) hb)
                have n1_ := Aside0.mk (Kd.R_lower (Kd.R_new' ho0 (Kd.R_lt (by (with_reducible repeat (first | apply Kd.R_alloc | apply Kd.R_drewN | apply Kd.R_drew)); exact HO216.out))) (below_size (by repeat (first | (with_reducible first | exact HB.out | apply below_alloc | apply pw_below_drewN | apply below_drew1 | refine below_set ?_ GE222.out) | exact HB.out))))
                have n2_ := Aside0.mk (blk_below (g := gb222) (o := .cells #[.int .i64 t217, .int .i64 t218, .string t219] 23 (0, 0)) (by (with_reducible repeat (first | refine blk_drewN ?_ _ | refine blk_drew ?_ | refine blk_alloc ?_ _)); exact BK222.out) hb)
                have n3_ := Aside0.mk (below_step (by repeat (first | (with_reducible first | exact HB.out | apply below_alloc | apply pw_below_drewN | apply below_drew1 | refine below_set ?_ GE222.out) | exact HB.out)) hb)
                clear HO216
                clear BK222
                clear HB
                have HO216 := n0_
                have HO263 := n1_
                have BK222 := n2_
                have HB := n3_
                clear n0_ n1_ n2_ n3_
                (try clear hb)
                (try clear hb2)
                (try clear hk)
                (try clear hi)
                (try clear ho0)
                refine hK.out _ _ ⟨(blk_cell BK222.out 0).trans rfl, (blk_cell BK222.out 1).trans rfl, (blk_cell BK222.out 2).trans rfl⟩ (fun hHeld => ?_)
                clear hK K
                refine norm_ (a' := ?_) ?_ ?_
                rotate_left
                · show Act.put _ (some 47) _ = _
                  simp only [Act.put, List.setIfInBounds_toArray, List.set_cons_zero, List.set_cons_succ, i64_w, i32_w]
                  rfl
                refine one_ (i := 38) (N := some 48) #[true, true, true, true, true, true, true, true, true, true, true, true, true, true, true, true, true, true, true, true, true, true, true, true, true, true, true, true, true, true, true, true, true, true, true, true, true, true, true, false, false, false] rfl rfl (one_of HT_.out (by kernel_rfl)) (by decide) (fun K hK => ?_)
                have hcv47 := own_string (P := Try.prog) Try.underlying26 Try.underlying5 Try.underlying9 (Kd.own_of_R HO263.out)
                refine value_ (w1 := ?_) (v := ?_) (by rfl) rfl ?_ ?_
                rotate_left 2
                · go_simp
                  constructor
                  · rfl
                  · rfl
                clear hcv47
                refine hK.out _ _ ⟨(blk_cell BK222.out 0).trans rfl, (blk_cell BK222.out 1).trans rfl, (blk_cell BK222.out 2).trans rfl⟩ (fun hHeld => ?_)
                clear hK K
                refine norm_ (a' := ?_) ?_ ?_
                rotate_left
                · show Act.put _ (some 48) _ = _
                  simp only [Act.put, List.setIfInBounds_toArray, List.set_cons_zero, List.set_cons_succ, i64_w, i32_w]
                  rfl
                refine pure_ (i := 39) (N := some 49) (v := ?_) (a' := ?_) #[true, true, true, true, true, true, true, true, true, true, true, true, true, true, true, true, true, true, true, true, true, true, true, true, true, true, true, true, true, true, true, true, true, true, true, true, true, true, true, true, false, false] rfl rfl (any_of HT_.out (by kernel_rfl)) (fun _ _ _ h => h) (Or.inl ⟨by rfl, ?_⟩) ?_ ?_
                rotate_left
                · intro w'
                  go_simp
                  with_reducible rfl
                rotate_left
                · simp only [Act.put, List.setIfInBounds_toArray, List.set_cons_zero, List.set_cons_succ, i64_w, i32_w]
                  rfl
                refine pure_ (i := 40) (N := some 50) (v := ?_) (a' := ?_) #[true, true, true, true, true, true, true, true, true, true, true, true, true, true, true, true, true, true, true, true, true, true, true, true, true, true, true, true, true, true, true, true, true, true, true, true, true, true, true, true, true, false] rfl rfl (any_of HT_.out (by kernel_rfl)) (fun _ _ _ h => h) (Or.inl ⟨by rfl, ?_⟩) ?_ ?_
                rotate_left
                · intro w'
                  go_simp
                  with_reducible rfl
                rotate_left
                · simp only [Act.put, List.setIfInBounds_toArray, List.set_cons_zero, List.set_cons_succ, i64_w, i32_w]
                  rfl
                refine pure_ (i := 41) (N := some 0) (v := ?_) (a' := ?_) #[true, true, true, true, true, true, true, true, true, true, true, true, true, true, true, true, true, true, true, true, true, true, true, true, true, true, true, true, true, true, true, true, true, true, true, true, true, true, true, true, true, true] rfl rfl (any_of HT_.out (by kernel_rfl)) (fun _ _ _ h => h) (Or.inl ⟨by rfl, ?_⟩) ?_ ?_
                rotate_left
                · intro w'
                  go_simp
                  with_reducible rfl
                rotate_left
                · simp only [Act.put, List.setIfInBounds_toArray, List.set_cons_zero, List.set_cons_succ, i64_w, i32_w]
                  rfl
                refine done_ (done_of HT_.out (by kernel_rfl)) ?_
                try go_wp2
                go_ret
                exact ⟨by first | rfl | (simp [errW_none, errW_some] <;> rfl) | (simp [*, errW_none, errW_some] <;> rfl), by repeat (first | (with_reducible first | exact HB.out | apply below_alloc | apply pw_below_drewN | apply below_drew1 | refine below_set ?_ GE222.out) | exact HB.out)⟩
              · rw [if_neg c21] at H
                exact absurd H (by simp)
            · rw [if_neg c20] at H
              exact absurd H (by simp)
          · rw [if_neg c19] at H
            exact absurd H (by simp)
        · rw [if_neg c17] at H
          exact absurd H (by simp)
      · rw [if_neg c13] at H
        exact absurd H (by simp)
    · rw [if_neg c8] at H
      exact absurd H (by simp)
  · replace c4 := Bool.eq_false_iff.mpr c4
    subst c4
    have H1 : (none) = some r := by rw [if_neg (show ¬ (false = true) by decide)] at H; exact H
    clear H
    have H := H1
    clear H1
    exact absurd H (by simp)

end Go.Proofs.Ytiklldjfcdblbaa.P
