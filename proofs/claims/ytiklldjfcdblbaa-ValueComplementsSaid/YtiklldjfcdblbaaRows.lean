/-
  No cell of these rows narrows 'for every input' (looked for: loops, veiled, ifaces, maps, wideKeys, modest, calm, conditions, laid).
  DERIVED. THE GIVEN ROWS OF THIS SEAT. 10 by the template 'for every input the law returns true; each argument reads behind the call as it read before'; 0 by the template 'total and deterministic' (their statements: YtiklldjfcdblbaaTotals.lean).
  GIVEN WITH THE SEED: the statements are not yours to turn. If you find one false, say at which input.
  Laid BY PROGRAM, IN A SANDBOX (cutbox-rows.mjs): the forced cells as the released guide's own fill.sh prints them over the translation 0cb0b22e1b829791… (all of the seat's roots in one cut). By AI agents, Wed Nov 11 2026. No macro, syntax, notation, axiom, sorry.
-/
import Derived.Test.YtiklldjfcdblbaaChecked
import GoSem.Claim
import GoSem.ClaimJoined
import GoSem.ClaimMapViews
import Derived.JoinedTies
import Derived.KernelRfl
namespace Go.Proofs.Ytiklldjfcdblbaa
/- THE CELL 'sum', in the pinned program and in every row, IS THE sha256 OF THE DUMP (.gsa) THAT YtiklldjfcdblbaaProg.lean LOADS. Nothing in Lean hashes anything: it is a label: what it is worth is what the hold of that sum in a sandbox is worth. -/
noncomputable def Try.pinned : Pinned := { name := "ytiklldjfcdblbaa", sum := "0cb0b22e1b8297918e70a6d532be2bf5c53ca0ea13c6b8c7e5e0e9df94e1f3fa", checked := Try.checked }
namespace Rows
def none {H : Type} : Left H := { results := [], args := [] }

/-- 'laminalaw04.ValueValid': WHATEVER THE INPUT: true; the input reads as it did. -/
def valueValidSpec : ChangeSpec := { name := "valueValid", fn := fun _ => fun
  | [d] => { results := [.lit (.bool true)], args := [d] }
  | _ => none }
def valueValidRow : OpenClaim := { program := "ytiklldjfcdblbaa", sum := "0cb0b22e1b8297918e70a6d532be2bf5c53ca0ea13c6b8c7e5e0e9df94e1f3fa", func := "lamina/laminalaw04.ValueValid", spec := "valueValid", inPlace := ["internal/bytealg.abigen_runtime_cmpstring"], apart := false }
def ValueValidSaid : Prop := valueValidRow.holds Try.pinned (OpenSpec.ofChange valueValidSpec)

/-- ITS FALSE NEIGHBOUR: 'it returns false'. Refute it at one input. -/
def valueValidWrong : ChangeSpec := { name := "valueValid", fn := fun _ => fun
  | [d] => { results := [.lit (.bool false)], args := [d] }
  | _ => none }
def ValueValidWrongFalsely : Prop := valueValidRow.holds Try.pinned (OpenSpec.ofChange valueValidWrong)

/-- 'laminalaw04.ValueDecodes': WHATEVER THE INPUT: true; the input reads as it did. -/
def valueDecodesSpec : ChangeSpec := { name := "valueDecodes", fn := fun _ => fun
  | [d1, d2] => { results := [.lit (.bool true)], args := [d1, d2] }
  | _ => none }
def valueDecodesRow : OpenClaim := { program := "ytiklldjfcdblbaa", sum := "0cb0b22e1b8297918e70a6d532be2bf5c53ca0ea13c6b8c7e5e0e9df94e1f3fa", func := "lamina/laminalaw04.ValueDecodes", spec := "valueDecodes", inPlace := ["internal/bytealg.abigen_runtime_cmpstring"], apart := false }
def ValueDecodesSaid : Prop := valueDecodesRow.holds Try.pinned (OpenSpec.ofChange valueDecodesSpec)

/-- ITS FALSE NEIGHBOUR: 'it returns false'. Refute it at one input. -/
def valueDecodesWrong : ChangeSpec := { name := "valueDecodes", fn := fun _ => fun
  | [d1, d2] => { results := [.lit (.bool false)], args := [d1, d2] }
  | _ => none }
def ValueDecodesWrongFalsely : Prop := valueDecodesRow.holds Try.pinned (OpenSpec.ofChange valueDecodesWrong)

/-- 'laminalaw04.ValueComplements': WHATEVER THE INPUT: true; the input reads as it did. -/
def valueComplementsSpec : ChangeSpec := { name := "valueComplements", fn := fun _ => fun
  | [d1, d2] => { results := [.lit (.bool true)], args := [d1, d2] }
  | _ => none }
def valueComplementsRow : OpenClaim := { program := "ytiklldjfcdblbaa", sum := "0cb0b22e1b8297918e70a6d532be2bf5c53ca0ea13c6b8c7e5e0e9df94e1f3fa", func := "lamina/laminalaw04.ValueComplements", spec := "valueComplements", inPlace := ["internal/bytealg.abigen_runtime_cmpstring"], apart := false }
def ValueComplementsSaid : Prop := valueComplementsRow.holds Try.pinned (OpenSpec.ofChange valueComplementsSpec)

/-- ITS FALSE NEIGHBOUR: 'it returns false'. Refute it at one input. -/
def valueComplementsWrong : ChangeSpec := { name := "valueComplements", fn := fun _ => fun
  | [d1, d2] => { results := [.lit (.bool false)], args := [d1, d2] }
  | _ => none }
def ValueComplementsWrongFalsely : Prop := valueComplementsRow.holds Try.pinned (OpenSpec.ofChange valueComplementsWrong)

/-- 'laminalaw04.ValueCompares': WHATEVER THE INPUT: true; the input reads as it did. -/
def valueComparesSpec : ChangeSpec := { name := "valueCompares", fn := fun _ => fun
  | [d1, d2] => { results := [.lit (.bool true)], args := [d1, d2] }
  | _ => none }
def valueComparesRow : OpenClaim := { program := "ytiklldjfcdblbaa", sum := "0cb0b22e1b8297918e70a6d532be2bf5c53ca0ea13c6b8c7e5e0e9df94e1f3fa", func := "lamina/laminalaw04.ValueCompares", spec := "valueCompares", inPlace := ["internal/bytealg.abigen_runtime_cmpstring"], apart := false }
def ValueComparesSaid : Prop := valueComparesRow.holds Try.pinned (OpenSpec.ofChange valueComparesSpec)

/-- ITS FALSE NEIGHBOUR: 'it returns false'. Refute it at one input. -/
def valueComparesWrong : ChangeSpec := { name := "valueCompares", fn := fun _ => fun
  | [d1, d2] => { results := [.lit (.bool false)], args := [d1, d2] }
  | _ => none }
def ValueComparesWrongFalsely : Prop := valueComparesRow.holds Try.pinned (OpenSpec.ofChange valueComparesWrong)

/-- 'laminalaw04.ValueAssigns': WHATEVER THE INPUT: true; the input reads as it did. -/
def valueAssignsSpec : ChangeSpec := { name := "valueAssigns", fn := fun _ => fun
  | [d1, d2] => { results := [.lit (.bool true)], args := [d1, d2] }
  | _ => none }
def valueAssignsRow : OpenClaim := { program := "ytiklldjfcdblbaa", sum := "0cb0b22e1b8297918e70a6d532be2bf5c53ca0ea13c6b8c7e5e0e9df94e1f3fa", func := "lamina/laminalaw04.ValueAssigns", spec := "valueAssigns", inPlace := ["internal/bytealg.abigen_runtime_cmpstring"], apart := false }
def ValueAssignsSaid : Prop := valueAssignsRow.holds Try.pinned (OpenSpec.ofChange valueAssignsSpec)

/-- ITS FALSE NEIGHBOUR: 'it returns false'. Refute it at one input. -/
def valueAssignsWrong : ChangeSpec := { name := "valueAssigns", fn := fun _ => fun
  | [d1, d2] => { results := [.lit (.bool false)], args := [d1, d2] }
  | _ => none }
def ValueAssignsWrongFalsely : Prop := valueAssignsRow.holds Try.pinned (OpenSpec.ofChange valueAssignsWrong)

/-- 'laminalaw04.ValueTests': WHATEVER THE INPUT: true; the input reads as it did. -/
def valueTestsSpec : ChangeSpec := { name := "valueTests", fn := fun _ => fun
  | [d1, d2, d3] => { results := [.lit (.bool true)], args := [d1, d2, d3] }
  | _ => none }
def valueTestsRow : OpenClaim := { program := "ytiklldjfcdblbaa", sum := "0cb0b22e1b8297918e70a6d532be2bf5c53ca0ea13c6b8c7e5e0e9df94e1f3fa", func := "lamina/laminalaw04.ValueTests", spec := "valueTests", inPlace := ["internal/bytealg.abigen_runtime_cmpstring"], apart := false }
def ValueTestsSaid : Prop := valueTestsRow.holds Try.pinned (OpenSpec.ofChange valueTestsSpec)

/-- ITS FALSE NEIGHBOUR: 'it returns false'. Refute it at one input. -/
def valueTestsWrong : ChangeSpec := { name := "valueTests", fn := fun _ => fun
  | [d1, d2, d3] => { results := [.lit (.bool false)], args := [d1, d2, d3] }
  | _ => none }
def ValueTestsWrongFalsely : Prop := valueTestsRow.holds Try.pinned (OpenSpec.ofChange valueTestsWrong)

/-- 'laminalaw04.ValueLogic': WHATEVER THE INPUT: true; the input reads as it did. -/
def valueLogicSpec : ChangeSpec := { name := "valueLogic", fn := fun _ => fun
  | [d1, d2, d3] => { results := [.lit (.bool true)], args := [d1, d2, d3] }
  | _ => none }
def valueLogicRow : OpenClaim := { program := "ytiklldjfcdblbaa", sum := "0cb0b22e1b8297918e70a6d532be2bf5c53ca0ea13c6b8c7e5e0e9df94e1f3fa", func := "lamina/laminalaw04.ValueLogic", spec := "valueLogic", inPlace := ["internal/bytealg.abigen_runtime_cmpstring"], apart := false }
def ValueLogicSaid : Prop := valueLogicRow.holds Try.pinned (OpenSpec.ofChange valueLogicSpec)

/-- ITS FALSE NEIGHBOUR: 'it returns false'. Refute it at one input. -/
def valueLogicWrong : ChangeSpec := { name := "valueLogic", fn := fun _ => fun
  | [d1, d2, d3] => { results := [.lit (.bool false)], args := [d1, d2, d3] }
  | _ => none }
def ValueLogicWrongFalsely : Prop := valueLogicRow.holds Try.pinned (OpenSpec.ofChange valueLogicWrong)

/-- 'laminalaw04.ValueEncodes': WHATEVER THE INPUT: true; the input reads as it did. -/
def valueEncodesSpec : ChangeSpec := { name := "valueEncodes", fn := fun _ => fun
  | [d] => { results := [.lit (.bool true)], args := [d] }
  | _ => none }
def valueEncodesRow : OpenClaim := { program := "ytiklldjfcdblbaa", sum := "0cb0b22e1b8297918e70a6d532be2bf5c53ca0ea13c6b8c7e5e0e9df94e1f3fa", func := "lamina/laminalaw04.ValueEncodes", spec := "valueEncodes", inPlace := ["internal/bytealg.abigen_runtime_cmpstring"], apart := false }
def ValueEncodesSaid : Prop := valueEncodesRow.holds Try.pinned (OpenSpec.ofChange valueEncodesSpec)

/-- ITS FALSE NEIGHBOUR: 'it returns false'. Refute it at one input. -/
def valueEncodesWrong : ChangeSpec := { name := "valueEncodes", fn := fun _ => fun
  | [d] => { results := [.lit (.bool false)], args := [d] }
  | _ => none }
def ValueEncodesWrongFalsely : Prop := valueEncodesRow.holds Try.pinned (OpenSpec.ofChange valueEncodesWrong)

/-- 'laminalaw04.ValueOrders': WHATEVER THE INPUT: true; the input reads as it did. -/
def valueOrdersSpec : ChangeSpec := { name := "valueOrders", fn := fun _ => fun
  | [d1, d2, d3] => { results := [.lit (.bool true)], args := [d1, d2, d3] }
  | _ => none }
def valueOrdersRow : OpenClaim := { program := "ytiklldjfcdblbaa", sum := "0cb0b22e1b8297918e70a6d532be2bf5c53ca0ea13c6b8c7e5e0e9df94e1f3fa", func := "lamina/laminalaw04.ValueOrders", spec := "valueOrders", inPlace := ["internal/bytealg.abigen_runtime_cmpstring"], apart := false }
def ValueOrdersSaid : Prop := valueOrdersRow.holds Try.pinned (OpenSpec.ofChange valueOrdersSpec)

/-- ITS FALSE NEIGHBOUR: 'it returns false'. Refute it at one input. -/
def valueOrdersWrong : ChangeSpec := { name := "valueOrders", fn := fun _ => fun
  | [d1, d2, d3] => { results := [.lit (.bool false)], args := [d1, d2, d3] }
  | _ => none }
def ValueOrdersWrongFalsely : Prop := valueOrdersRow.holds Try.pinned (OpenSpec.ofChange valueOrdersWrong)

/-- 'laminalaw04.ValueHashes': WHATEVER THE INPUT: true; the input reads as it did. -/
def valueHashesSpec : ChangeSpec := { name := "valueHashes", fn := fun _ => fun
  | [d1, d2] => { results := [.lit (.bool true)], args := [d1, d2] }
  | _ => none }
def valueHashesRow : OpenClaim := { program := "ytiklldjfcdblbaa", sum := "0cb0b22e1b8297918e70a6d532be2bf5c53ca0ea13c6b8c7e5e0e9df94e1f3fa", func := "lamina/laminalaw04.ValueHashes", spec := "valueHashes", inPlace := ["internal/bytealg.abigen_runtime_cmpstring"], apart := false }
def ValueHashesSaid : Prop := valueHashesRow.holds Try.pinned (OpenSpec.ofChange valueHashesSpec)

/-- ITS FALSE NEIGHBOUR: 'it returns false'. Refute it at one input. -/
def valueHashesWrong : ChangeSpec := { name := "valueHashes", fn := fun _ => fun
  | [d1, d2] => { results := [.lit (.bool false)], args := [d1, d2] }
  | _ => none }
def ValueHashesWrongFalsely : Prop := valueHashesRow.holds Try.pinned (OpenSpec.ofChange valueHashesWrong)

/- THE SECOND FORM. 'bulk': how many values and letters a reading holds, each counted each time it is reached (what is shared counts as often as it is met; a slice's spare places count too). A statement '..UptoSaid' is the law's where the arguments, and the package variables that the reading takes, are together of bulk at most 1048576: NARROWER than '..Said'. Prove '..Said' where nothing that the law and all that it calls make is longer than what came in: it says more and counts as full. Else prove '..UptoSaid'. A law counts once. -/
mutual
def uptoBulk {H : Type} : DataW H → Nat
  | .lit (.string bytes) => bytes.length + 1
  | .lit _ => 1
  | .nil => 1
  | .ptr d => uptoBulk d + 1
  | .slice elems spare => uptoBulkAll elems + uptoBulkAll spare + 1
  | .agg parts => uptoBulkAll parts + 1
  | .iface _ d => uptoBulk d + 1
  | .map entries => uptoBulkEntries entries + 1
  | .held _ => 1
def uptoBulkAll {H : Type} : List (DataW H) → Nat
  | [] => 0
  | d :: r => uptoBulk d + uptoBulkAll r
def uptoBulkEntries {H : Type} : List (Lit × DataW H) → Nat
  | [] => 0
  | x :: r => uptoBulkEntry x + uptoBulkEntries r
def uptoBulkEntry {H : Type} : Lit × DataW H → Nat
  | (.string bytes, d) => bytes.length + uptoBulk d + 1
  | (_, d) => uptoBulk d + 1
 end
def uptoSmall : (H : Type) → List (DataW H) → Bool := fun _ ds => decide (uptoBulkAll ds ≤ 1048576)
def OpenSpec.upto (s : _root_.Go.ChangeSpec) : _root_.Go.OpenSpec := { _root_.Go.OpenSpec.ofChange s with cond := some uptoSmall }

/-- 'laminalaw04.ValueValid', WHERE WHAT IT READS IS OF BULK AT MOST 1048576: true; the input reads as it did. -/
def valueValidUptoRow : OpenClaim := { program := "ytiklldjfcdblbaa", sum := "0cb0b22e1b8297918e70a6d532be2bf5c53ca0ea13c6b8c7e5e0e9df94e1f3fa", func := "lamina/laminalaw04.ValueValid", spec := "valueValid", inPlace := ["internal/bytealg.abigen_runtime_cmpstring"], apart := false, narrowed := true }
def ValueValidUptoSaid : Prop := valueValidUptoRow.holds Try.pinned (OpenSpec.upto valueValidSpec)

/-- 'laminalaw04.ValueDecodes', WHERE WHAT IT READS IS OF BULK AT MOST 1048576: true; the input reads as it did. -/
def valueDecodesUptoRow : OpenClaim := { program := "ytiklldjfcdblbaa", sum := "0cb0b22e1b8297918e70a6d532be2bf5c53ca0ea13c6b8c7e5e0e9df94e1f3fa", func := "lamina/laminalaw04.ValueDecodes", spec := "valueDecodes", inPlace := ["internal/bytealg.abigen_runtime_cmpstring"], apart := false, narrowed := true }
def ValueDecodesUptoSaid : Prop := valueDecodesUptoRow.holds Try.pinned (OpenSpec.upto valueDecodesSpec)

/-- 'laminalaw04.ValueComplements', WHERE WHAT IT READS IS OF BULK AT MOST 1048576: true; the input reads as it did. -/
def valueComplementsUptoRow : OpenClaim := { program := "ytiklldjfcdblbaa", sum := "0cb0b22e1b8297918e70a6d532be2bf5c53ca0ea13c6b8c7e5e0e9df94e1f3fa", func := "lamina/laminalaw04.ValueComplements", spec := "valueComplements", inPlace := ["internal/bytealg.abigen_runtime_cmpstring"], apart := false, narrowed := true }
def ValueComplementsUptoSaid : Prop := valueComplementsUptoRow.holds Try.pinned (OpenSpec.upto valueComplementsSpec)

/-- 'laminalaw04.ValueCompares', WHERE WHAT IT READS IS OF BULK AT MOST 1048576: true; the input reads as it did. -/
def valueComparesUptoRow : OpenClaim := { program := "ytiklldjfcdblbaa", sum := "0cb0b22e1b8297918e70a6d532be2bf5c53ca0ea13c6b8c7e5e0e9df94e1f3fa", func := "lamina/laminalaw04.ValueCompares", spec := "valueCompares", inPlace := ["internal/bytealg.abigen_runtime_cmpstring"], apart := false, narrowed := true }
def ValueComparesUptoSaid : Prop := valueComparesUptoRow.holds Try.pinned (OpenSpec.upto valueComparesSpec)

/-- 'laminalaw04.ValueAssigns', WHERE WHAT IT READS IS OF BULK AT MOST 1048576: true; the input reads as it did. -/
def valueAssignsUptoRow : OpenClaim := { program := "ytiklldjfcdblbaa", sum := "0cb0b22e1b8297918e70a6d532be2bf5c53ca0ea13c6b8c7e5e0e9df94e1f3fa", func := "lamina/laminalaw04.ValueAssigns", spec := "valueAssigns", inPlace := ["internal/bytealg.abigen_runtime_cmpstring"], apart := false, narrowed := true }
def ValueAssignsUptoSaid : Prop := valueAssignsUptoRow.holds Try.pinned (OpenSpec.upto valueAssignsSpec)

/-- 'laminalaw04.ValueTests', WHERE WHAT IT READS IS OF BULK AT MOST 1048576: true; the input reads as it did. -/
def valueTestsUptoRow : OpenClaim := { program := "ytiklldjfcdblbaa", sum := "0cb0b22e1b8297918e70a6d532be2bf5c53ca0ea13c6b8c7e5e0e9df94e1f3fa", func := "lamina/laminalaw04.ValueTests", spec := "valueTests", inPlace := ["internal/bytealg.abigen_runtime_cmpstring"], apart := false, narrowed := true }
def ValueTestsUptoSaid : Prop := valueTestsUptoRow.holds Try.pinned (OpenSpec.upto valueTestsSpec)

/-- 'laminalaw04.ValueLogic', WHERE WHAT IT READS IS OF BULK AT MOST 1048576: true; the input reads as it did. -/
def valueLogicUptoRow : OpenClaim := { program := "ytiklldjfcdblbaa", sum := "0cb0b22e1b8297918e70a6d532be2bf5c53ca0ea13c6b8c7e5e0e9df94e1f3fa", func := "lamina/laminalaw04.ValueLogic", spec := "valueLogic", inPlace := ["internal/bytealg.abigen_runtime_cmpstring"], apart := false, narrowed := true }
def ValueLogicUptoSaid : Prop := valueLogicUptoRow.holds Try.pinned (OpenSpec.upto valueLogicSpec)

/-- 'laminalaw04.ValueEncodes', WHERE WHAT IT READS IS OF BULK AT MOST 1048576: true; the input reads as it did. -/
def valueEncodesUptoRow : OpenClaim := { program := "ytiklldjfcdblbaa", sum := "0cb0b22e1b8297918e70a6d532be2bf5c53ca0ea13c6b8c7e5e0e9df94e1f3fa", func := "lamina/laminalaw04.ValueEncodes", spec := "valueEncodes", inPlace := ["internal/bytealg.abigen_runtime_cmpstring"], apart := false, narrowed := true }
def ValueEncodesUptoSaid : Prop := valueEncodesUptoRow.holds Try.pinned (OpenSpec.upto valueEncodesSpec)

/-- 'laminalaw04.ValueOrders', WHERE WHAT IT READS IS OF BULK AT MOST 1048576: true; the input reads as it did. -/
def valueOrdersUptoRow : OpenClaim := { program := "ytiklldjfcdblbaa", sum := "0cb0b22e1b8297918e70a6d532be2bf5c53ca0ea13c6b8c7e5e0e9df94e1f3fa", func := "lamina/laminalaw04.ValueOrders", spec := "valueOrders", inPlace := ["internal/bytealg.abigen_runtime_cmpstring"], apart := false, narrowed := true }
def ValueOrdersUptoSaid : Prop := valueOrdersUptoRow.holds Try.pinned (OpenSpec.upto valueOrdersSpec)

/-- 'laminalaw04.ValueHashes', WHERE WHAT IT READS IS OF BULK AT MOST 1048576: true; the input reads as it did. -/
def valueHashesUptoRow : OpenClaim := { program := "ytiklldjfcdblbaa", sum := "0cb0b22e1b8297918e70a6d532be2bf5c53ca0ea13c6b8c7e5e0e9df94e1f3fa", func := "lamina/laminalaw04.ValueHashes", spec := "valueHashes", inPlace := ["internal/bytealg.abigen_runtime_cmpstring"], apart := false, narrowed := true }
def ValueHashesUptoSaid : Prop := valueHashesUptoRow.holds Try.pinned (OpenSpec.upto valueHashesSpec)

end Rows
end Go.Proofs.Ytiklldjfcdblbaa
