/-
  No cell of these rows narrows 'for every input' (looked for: loops, veiled, ifaces, maps, wideKeys, modest, calm, conditions, laid).
  DERIVED. THE GIVEN ROWS OF THIS SEAT. 8 by the template 'for every input the law returns true; each argument reads behind the call as it read before'; 0 by the template 'total and deterministic' (their statements: YtackcingpffidaaTotals.lean).
  GIVEN WITH THE SEED: the statements are not yours to turn. If you find one false, say at which input.
  Laid BY PROGRAM, IN A SANDBOX (cutbox-rows.mjs): the forced cells as the released guide's own fill.sh prints them over the translation d5139fc74f26e2a2… (all of the seat's roots in one cut). By AI agents, Wed Nov 11 2026. No macro, syntax, notation, axiom, sorry.
-/
import Derived.Test.YtackcingpffidaaChecked
import GoSem.Claim
import GoSem.ClaimJoined
import GoSem.ClaimMapViews
import Derived.JoinedTies
import Derived.KernelRfl
namespace Go.Proofs.Ytackcingpffidaa
/- THE CELL 'sum', in the pinned program and in every row, IS THE sha256 OF THE DUMP (.gsa) THAT YtackcingpffidaaProg.lean LOADS. Nothing in Lean hashes anything: it is a label: what it is worth is what the hold of that sum in a sandbox is worth. -/
noncomputable def Try.pinned : Pinned := { name := "ytackcingpffidaa", sum := "d5139fc74f26e2a237c735f586ddbf9ab5af58173b8315208437379e58890c35", checked := Try.checked }
namespace Rows
def none {H : Type} : Left H := { results := [], args := [] }

/-- 'laminalaw16.SketchEncodes': WHATEVER THE INPUT: true; the input reads as it did. -/
def sketchEncodesSpec : ChangeSpec := { name := "sketchEncodes", fn := fun _ => fun
  | [d1, d2, d3] => { results := [.lit (.bool true)], args := [d1, d2, d3] }
  | _ => none }
def sketchEncodesRow : OpenClaim := { program := "ytackcingpffidaa", sum := "d5139fc74f26e2a237c735f586ddbf9ab5af58173b8315208437379e58890c35", func := "lamina/laminalaw16.SketchEncodes", spec := "sketchEncodes", inPlace := ["internal/bytealg.abigen_runtime_cmpstring"], unfollowed := true, recurses := true, apart := false }
def SketchEncodesSaid : Prop := sketchEncodesRow.holds Try.pinned (OpenSpec.ofChange sketchEncodesSpec)

/-- ITS FALSE NEIGHBOUR: 'it returns false'. Refute it at one input. -/
def sketchEncodesWrong : ChangeSpec := { name := "sketchEncodes", fn := fun _ => fun
  | [d1, d2, d3] => { results := [.lit (.bool false)], args := [d1, d2, d3] }
  | _ => none }
def SketchEncodesWrongFalsely : Prop := sketchEncodesRow.holds Try.pinned (OpenSpec.ofChange sketchEncodesWrong)

/-- 'laminalaw16.SketchBuilds': WHATEVER THE INPUT: true; the input reads as it did. -/
def sketchBuildsSpec : ChangeSpec := { name := "sketchBuilds", fn := fun _ => fun
  | [d] => { results := [.lit (.bool true)], args := [d] }
  | _ => none }
def sketchBuildsRow : OpenClaim := { program := "ytackcingpffidaa", sum := "d5139fc74f26e2a237c735f586ddbf9ab5af58173b8315208437379e58890c35", func := "lamina/laminalaw16.SketchBuilds", spec := "sketchBuilds", inPlace := ["internal/bytealg.abigen_runtime_cmpstring"], unfollowed := true, recurses := true, apart := false }
def SketchBuildsSaid : Prop := sketchBuildsRow.holds Try.pinned (OpenSpec.ofChange sketchBuildsSpec)

/-- ITS FALSE NEIGHBOUR: 'it returns false'. Refute it at one input. -/
def sketchBuildsWrong : ChangeSpec := { name := "sketchBuilds", fn := fun _ => fun
  | [d] => { results := [.lit (.bool false)], args := [d] }
  | _ => none }
def SketchBuildsWrongFalsely : Prop := sketchBuildsRow.holds Try.pinned (OpenSpec.ofChange sketchBuildsWrong)

/-- 'laminalaw16.SketchValid': WHATEVER THE INPUT: true; the input reads as it did. -/
def sketchValidSpec : ChangeSpec := { name := "sketchValid", fn := fun _ => fun
  | [d] => { results := [.lit (.bool true)], args := [d] }
  | _ => none }
def sketchValidRow : OpenClaim := { program := "ytackcingpffidaa", sum := "d5139fc74f26e2a237c735f586ddbf9ab5af58173b8315208437379e58890c35", func := "lamina/laminalaw16.SketchValid", spec := "sketchValid", inPlace := ["internal/bytealg.abigen_runtime_cmpstring"], unfollowed := true, recurses := true, apart := false }
def SketchValidSaid : Prop := sketchValidRow.holds Try.pinned (OpenSpec.ofChange sketchValidSpec)

/-- ITS FALSE NEIGHBOUR: 'it returns false'. Refute it at one input. -/
def sketchValidWrong : ChangeSpec := { name := "sketchValid", fn := fun _ => fun
  | [d] => { results := [.lit (.bool false)], args := [d] }
  | _ => none }
def SketchValidWrongFalsely : Prop := sketchValidRow.holds Try.pinned (OpenSpec.ofChange sketchValidWrong)

/-- 'laminalaw16.SketchCounts': WHATEVER THE INPUT: true; the input reads as it did. -/
def sketchCountsSpec : ChangeSpec := { name := "sketchCounts", fn := fun _ => fun
  | [d1, d2] => { results := [.lit (.bool true)], args := [d1, d2] }
  | _ => none }
def sketchCountsRow : OpenClaim := { program := "ytackcingpffidaa", sum := "d5139fc74f26e2a237c735f586ddbf9ab5af58173b8315208437379e58890c35", func := "lamina/laminalaw16.SketchCounts", spec := "sketchCounts", inPlace := ["internal/bytealg.abigen_runtime_cmpstring"], unfollowed := true, recurses := true, apart := false }
def SketchCountsSaid : Prop := sketchCountsRow.holds Try.pinned (OpenSpec.ofChange sketchCountsSpec)

/-- ITS FALSE NEIGHBOUR: 'it returns false'. Refute it at one input. -/
def sketchCountsWrong : ChangeSpec := { name := "sketchCounts", fn := fun _ => fun
  | [d1, d2] => { results := [.lit (.bool false)], args := [d1, d2] }
  | _ => none }
def SketchCountsWrongFalsely : Prop := sketchCountsRow.holds Try.pinned (OpenSpec.ofChange sketchCountsWrong)

/-- 'laminalaw16.SketchMerges': WHATEVER THE INPUT: true; the input reads as it did. -/
def sketchMergesSpec : ChangeSpec := { name := "sketchMerges", fn := fun _ => fun
  | [d1, d2, d3] => { results := [.lit (.bool true)], args := [d1, d2, d3] }
  | _ => none }
def sketchMergesRow : OpenClaim := { program := "ytackcingpffidaa", sum := "d5139fc74f26e2a237c735f586ddbf9ab5af58173b8315208437379e58890c35", func := "lamina/laminalaw16.SketchMerges", spec := "sketchMerges", inPlace := ["internal/bytealg.abigen_runtime_cmpstring"], unfollowed := true, recurses := true, apart := false }
def SketchMergesSaid : Prop := sketchMergesRow.holds Try.pinned (OpenSpec.ofChange sketchMergesSpec)

/-- ITS FALSE NEIGHBOUR: 'it returns false'. Refute it at one input. -/
def sketchMergesWrong : ChangeSpec := { name := "sketchMerges", fn := fun _ => fun
  | [d1, d2, d3] => { results := [.lit (.bool false)], args := [d1, d2, d3] }
  | _ => none }
def SketchMergesWrongFalsely : Prop := sketchMergesRow.holds Try.pinned (OpenSpec.ofChange sketchMergesWrong)

/-- 'laminalaw16.SketchSound': WHATEVER THE INPUT: true; the input reads as it did. -/
def sketchSoundSpec : ChangeSpec := { name := "sketchSound", fn := fun _ => fun
  | [d1, d2] => { results := [.lit (.bool true)], args := [d1, d2] }
  | _ => none }
def sketchSoundRow : OpenClaim := { program := "ytackcingpffidaa", sum := "d5139fc74f26e2a237c735f586ddbf9ab5af58173b8315208437379e58890c35", func := "lamina/laminalaw16.SketchSound", spec := "sketchSound", inPlace := ["internal/bytealg.abigen_runtime_cmpstring"], unfollowed := true, recurses := true, apart := false }
def SketchSoundSaid : Prop := sketchSoundRow.holds Try.pinned (OpenSpec.ofChange sketchSoundSpec)

/-- ITS FALSE NEIGHBOUR: 'it returns false'. Refute it at one input. -/
def sketchSoundWrong : ChangeSpec := { name := "sketchSound", fn := fun _ => fun
  | [d1, d2] => { results := [.lit (.bool false)], args := [d1, d2] }
  | _ => none }
def SketchSoundWrongFalsely : Prop := sketchSoundRow.holds Try.pinned (OpenSpec.ofChange sketchSoundWrong)

/-- 'laminalaw16.SketchMatches': WHATEVER THE INPUT: true; the input reads as it did. -/
def sketchMatchesSpec : ChangeSpec := { name := "sketchMatches", fn := fun _ => fun
  | [d1, d2, d3] => { results := [.lit (.bool true)], args := [d1, d2, d3] }
  | _ => none }
def sketchMatchesRow : OpenClaim := { program := "ytackcingpffidaa", sum := "d5139fc74f26e2a237c735f586ddbf9ab5af58173b8315208437379e58890c35", func := "lamina/laminalaw16.SketchMatches", spec := "sketchMatches", inPlace := ["internal/bytealg.abigen_runtime_cmpstring"], unfollowed := true, recurses := true, apart := false }
def SketchMatchesSaid : Prop := sketchMatchesRow.holds Try.pinned (OpenSpec.ofChange sketchMatchesSpec)

/-- ITS FALSE NEIGHBOUR: 'it returns false'. Refute it at one input. -/
def sketchMatchesWrong : ChangeSpec := { name := "sketchMatches", fn := fun _ => fun
  | [d1, d2, d3] => { results := [.lit (.bool false)], args := [d1, d2, d3] }
  | _ => none }
def SketchMatchesWrongFalsely : Prop := sketchMatchesRow.holds Try.pinned (OpenSpec.ofChange sketchMatchesWrong)

/-- 'laminalaw16.SketchDecodes': WHATEVER THE INPUT: true; the input reads as it did. -/
def sketchDecodesSpec : ChangeSpec := { name := "sketchDecodes", fn := fun _ => fun
  | [d1, d2] => { results := [.lit (.bool true)], args := [d1, d2] }
  | _ => none }
def sketchDecodesRow : OpenClaim := { program := "ytackcingpffidaa", sum := "d5139fc74f26e2a237c735f586ddbf9ab5af58173b8315208437379e58890c35", func := "lamina/laminalaw16.SketchDecodes", spec := "sketchDecodes", inPlace := ["internal/bytealg.abigen_runtime_cmpstring"], unfollowed := true, recurses := true, apart := false }
def SketchDecodesSaid : Prop := sketchDecodesRow.holds Try.pinned (OpenSpec.ofChange sketchDecodesSpec)

/-- ITS FALSE NEIGHBOUR: 'it returns false'. Refute it at one input. -/
def sketchDecodesWrong : ChangeSpec := { name := "sketchDecodes", fn := fun _ => fun
  | [d1, d2] => { results := [.lit (.bool false)], args := [d1, d2] }
  | _ => none }
def SketchDecodesWrongFalsely : Prop := sketchDecodesRow.holds Try.pinned (OpenSpec.ofChange sketchDecodesWrong)

/- THE SECOND FORM. 'bulk': how many values and letters a reading holds, each counted each time it is reached (what is shared counts as often as it is met; a slice's spare places count too). A statement '..UptoSaid' is the law's where the arguments, and the package variables that the reading takes, are together of bulk at most 1048576: NARROWER than '..Said'. Prove '..Said' where nothing that the law and all that it calls make is longer than what came in: it says more and counts as full. Else prove '..UptoSaid'. A law counts once. -/
mutual
def uptoBulk {H : Type} : DataW H → Nat
  | .lit (.string bytes) => bytes.length + 1
  | .lit _ => 1
  | .nil => 1
  | .ptr d => uptoBulk d + 1
  | .slice elems spare => uptoBulkAll elems + uptoBulkAll spare + 1
  | .agg parts => uptoBulkAll parts + 1
  | .iface _ d => uptoBulk d + 1
  | .map entries => uptoBulkEntries entries + 1
  | .held _ => 1
def uptoBulkAll {H : Type} : List (DataW H) → Nat
  | [] => 0
  | d :: r => uptoBulk d + uptoBulkAll r
def uptoBulkEntries {H : Type} : List (Lit × DataW H) → Nat
  | [] => 0
  | x :: r => uptoBulkEntry x + uptoBulkEntries r
def uptoBulkEntry {H : Type} : Lit × DataW H → Nat
  | (.string bytes, d) => bytes.length + uptoBulk d + 1
  | (_, d) => uptoBulk d + 1
 end
def uptoSmall : (H : Type) → List (DataW H) → Bool := fun _ ds => decide (uptoBulkAll ds ≤ 1048576)
def OpenSpec.upto (s : _root_.Go.ChangeSpec) : _root_.Go.OpenSpec := { _root_.Go.OpenSpec.ofChange s with cond := some uptoSmall }

/-- 'laminalaw16.SketchEncodes', WHERE WHAT IT READS IS OF BULK AT MOST 1048576: true; the input reads as it did. -/
def sketchEncodesUptoRow : OpenClaim := { program := "ytackcingpffidaa", sum := "d5139fc74f26e2a237c735f586ddbf9ab5af58173b8315208437379e58890c35", func := "lamina/laminalaw16.SketchEncodes", spec := "sketchEncodes", inPlace := ["internal/bytealg.abigen_runtime_cmpstring"], unfollowed := true, recurses := true, apart := false, narrowed := true }
def SketchEncodesUptoSaid : Prop := sketchEncodesUptoRow.holds Try.pinned (OpenSpec.upto sketchEncodesSpec)

/-- 'laminalaw16.SketchBuilds', WHERE WHAT IT READS IS OF BULK AT MOST 1048576: true; the input reads as it did. -/
def sketchBuildsUptoRow : OpenClaim := { program := "ytackcingpffidaa", sum := "d5139fc74f26e2a237c735f586ddbf9ab5af58173b8315208437379e58890c35", func := "lamina/laminalaw16.SketchBuilds", spec := "sketchBuilds", inPlace := ["internal/bytealg.abigen_runtime_cmpstring"], unfollowed := true, recurses := true, apart := false, narrowed := true }
def SketchBuildsUptoSaid : Prop := sketchBuildsUptoRow.holds Try.pinned (OpenSpec.upto sketchBuildsSpec)

/-- 'laminalaw16.SketchValid', WHERE WHAT IT READS IS OF BULK AT MOST 1048576: true; the input reads as it did. -/
def sketchValidUptoRow : OpenClaim := { program := "ytackcingpffidaa", sum := "d5139fc74f26e2a237c735f586ddbf9ab5af58173b8315208437379e58890c35", func := "lamina/laminalaw16.SketchValid", spec := "sketchValid", inPlace := ["internal/bytealg.abigen_runtime_cmpstring"], unfollowed := true, recurses := true, apart := false, narrowed := true }
def SketchValidUptoSaid : Prop := sketchValidUptoRow.holds Try.pinned (OpenSpec.upto sketchValidSpec)

/-- 'laminalaw16.SketchCounts', WHERE WHAT IT READS IS OF BULK AT MOST 1048576: true; the input reads as it did. -/
def sketchCountsUptoRow : OpenClaim := { program := "ytackcingpffidaa", sum := "d5139fc74f26e2a237c735f586ddbf9ab5af58173b8315208437379e58890c35", func := "lamina/laminalaw16.SketchCounts", spec := "sketchCounts", inPlace := ["internal/bytealg.abigen_runtime_cmpstring"], unfollowed := true, recurses := true, apart := false, narrowed := true }
def SketchCountsUptoSaid : Prop := sketchCountsUptoRow.holds Try.pinned (OpenSpec.upto sketchCountsSpec)

/-- 'laminalaw16.SketchMerges', WHERE WHAT IT READS IS OF BULK AT MOST 1048576: true; the input reads as it did. -/
def sketchMergesUptoRow : OpenClaim := { program := "ytackcingpffidaa", sum := "d5139fc74f26e2a237c735f586ddbf9ab5af58173b8315208437379e58890c35", func := "lamina/laminalaw16.SketchMerges", spec := "sketchMerges", inPlace := ["internal/bytealg.abigen_runtime_cmpstring"], unfollowed := true, recurses := true, apart := false, narrowed := true }
def SketchMergesUptoSaid : Prop := sketchMergesUptoRow.holds Try.pinned (OpenSpec.upto sketchMergesSpec)

/-- 'laminalaw16.SketchSound', WHERE WHAT IT READS IS OF BULK AT MOST 1048576: true; the input reads as it did. -/
def sketchSoundUptoRow : OpenClaim := { program := "ytackcingpffidaa", sum := "d5139fc74f26e2a237c735f586ddbf9ab5af58173b8315208437379e58890c35", func := "lamina/laminalaw16.SketchSound", spec := "sketchSound", inPlace := ["internal/bytealg.abigen_runtime_cmpstring"], unfollowed := true, recurses := true, apart := false, narrowed := true }
def SketchSoundUptoSaid : Prop := sketchSoundUptoRow.holds Try.pinned (OpenSpec.upto sketchSoundSpec)

/-- 'laminalaw16.SketchMatches', WHERE WHAT IT READS IS OF BULK AT MOST 1048576: true; the input reads as it did. -/
def sketchMatchesUptoRow : OpenClaim := { program := "ytackcingpffidaa", sum := "d5139fc74f26e2a237c735f586ddbf9ab5af58173b8315208437379e58890c35", func := "lamina/laminalaw16.SketchMatches", spec := "sketchMatches", inPlace := ["internal/bytealg.abigen_runtime_cmpstring"], unfollowed := true, recurses := true, apart := false, narrowed := true }
def SketchMatchesUptoSaid : Prop := sketchMatchesUptoRow.holds Try.pinned (OpenSpec.upto sketchMatchesSpec)

/-- 'laminalaw16.SketchDecodes', WHERE WHAT IT READS IS OF BULK AT MOST 1048576: true; the input reads as it did. -/
def sketchDecodesUptoRow : OpenClaim := { program := "ytackcingpffidaa", sum := "d5139fc74f26e2a237c735f586ddbf9ab5af58173b8315208437379e58890c35", func := "lamina/laminalaw16.SketchDecodes", spec := "sketchDecodes", inPlace := ["internal/bytealg.abigen_runtime_cmpstring"], unfollowed := true, recurses := true, apart := false, narrowed := true }
def SketchDecodesUptoSaid : Prop := sketchDecodesUptoRow.holds Try.pinned (OpenSpec.upto sketchDecodesSpec)

end Rows
end Go.Proofs.Ytackcingpffidaa
