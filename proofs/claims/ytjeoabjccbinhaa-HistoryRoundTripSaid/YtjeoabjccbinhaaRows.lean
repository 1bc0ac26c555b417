/-
  No cell of these rows narrows 'for every input' (looked for: loops, veiled, ifaces, maps, wideKeys, modest, calm, conditions, laid).
  DERIVED. THE GIVEN ROWS OF THIS SEAT. 6 by the template 'for every input the law returns true; each argument reads behind the call as it read before'; 0 by the template 'total and deterministic' (their statements: YtjeoabjccbinhaaTotals.lean).
  GIVEN WITH THE SEED: the statements are not yours to turn. If you find one false, say at which input.
  Laid BY PROGRAM, IN A SANDBOX (cutbox-rows.mjs): the forced cells as the released guide's own fill.sh prints them over the translation 338da52b7671e5da… (all of the seat's roots in one cut). By AI agents, Wed Nov 11 2026. No macro, syntax, notation, axiom, sorry.
-/
import Derived.Test.YtjeoabjccbinhaaChecked
import GoSem.Claim
import GoSem.ClaimJoined
import GoSem.ClaimMapViews
import Derived.JoinedTies
import Derived.KernelRfl
namespace Go.Proofs.Ytjeoabjccbinhaa
/- THE CELL 'sum', in the pinned program and in every row, IS THE sha256 OF THE DUMP (.gsa) THAT YtjeoabjccbinhaaProg.lean LOADS. Nothing in Lean hashes anything: it is a label: what it is worth is what the hold of that sum in a sandbox is worth. -/
noncomputable def Try.pinned : Pinned := { name := "ytjeoabjccbinhaa", sum := "338da52b7671e5daf4b630e48558877dfe188d7d92044f4bb4723b4971d4d269", checked := Try.checked }
namespace Rows
def none {H : Type} : Left H := { results := [], args := [] }

/-- 'laminalaw25.HistoryApplies': WHATEVER THE INPUT: true; the input reads as it did. -/
def historyAppliesSpec : ChangeSpec := { name := "historyApplies", fn := fun _ => fun
  | [d] => { results := [.lit (.bool true)], args := [d] }
  | _ => none }
def historyAppliesRow : OpenClaim := { program := "ytjeoabjccbinhaa", sum := "338da52b7671e5daf4b630e48558877dfe188d7d92044f4bb4723b4971d4d269", func := "lamina/laminalaw25.HistoryApplies", spec := "historyApplies", inPlace := ["slices.overlaps[lamina/api.Ref]"], unfollowed := true, recurses := true, apart := false }
def HistoryAppliesSaid : Prop := historyAppliesRow.holds Try.pinned (OpenSpec.ofChange historyAppliesSpec)

/-- ITS FALSE NEIGHBOUR: 'it returns false'. Refute it at one input. -/
def historyAppliesWrong : ChangeSpec := { name := "historyApplies", fn := fun _ => fun
  | [d] => { results := [.lit (.bool false)], args := [d] }
  | _ => none }
def HistoryAppliesWrongFalsely : Prop := historyAppliesRow.holds Try.pinned (OpenSpec.ofChange historyAppliesWrong)

/-- 'laminalaw25.HistoryImmutable': WHATEVER THE INPUT: true; the input reads as it did. -/
def historyImmutableSpec : ChangeSpec := { name := "historyImmutable", fn := fun _ => fun
  | [d1, d2] => { results := [.lit (.bool true)], args := [d1, d2] }
  | _ => none }
def historyImmutableRow : OpenClaim := { program := "ytjeoabjccbinhaa", sum := "338da52b7671e5daf4b630e48558877dfe188d7d92044f4bb4723b4971d4d269", func := "lamina/laminalaw25.HistoryImmutable", spec := "historyImmutable", inPlace := ["slices.overlaps[lamina/api.Ref]"], unfollowed := true, recurses := true, apart := false }
def HistoryImmutableSaid : Prop := historyImmutableRow.holds Try.pinned (OpenSpec.ofChange historyImmutableSpec)

/-- ITS FALSE NEIGHBOUR: 'it returns false'. Refute it at one input. -/
def historyImmutableWrong : ChangeSpec := { name := "historyImmutable", fn := fun _ => fun
  | [d1, d2] => { results := [.lit (.bool false)], args := [d1, d2] }
  | _ => none }
def HistoryImmutableWrongFalsely : Prop := historyImmutableRow.holds Try.pinned (OpenSpec.ofChange historyImmutableWrong)

/-- 'laminalaw25.HistoryAncestors': WHATEVER THE INPUT: true; the input reads as it did. -/
def historyAncestorsSpec : ChangeSpec := { name := "historyAncestors", fn := fun _ => fun
  | [d1, d2, d3] => { results := [.lit (.bool true)], args := [d1, d2, d3] }
  | _ => none }
def historyAncestorsRow : OpenClaim := { program := "ytjeoabjccbinhaa", sum := "338da52b7671e5daf4b630e48558877dfe188d7d92044f4bb4723b4971d4d269", func := "lamina/laminalaw25.HistoryAncestors", spec := "historyAncestors", inPlace := ["slices.overlaps[lamina/api.Ref]"], unfollowed := true, recurses := true, apart := false }
def HistoryAncestorsSaid : Prop := historyAncestorsRow.holds Try.pinned (OpenSpec.ofChange historyAncestorsSpec)

/-- ITS FALSE NEIGHBOUR: 'it returns false'. Refute it at one input. -/
def historyAncestorsWrong : ChangeSpec := { name := "historyAncestors", fn := fun _ => fun
  | [d1, d2, d3] => { results := [.lit (.bool false)], args := [d1, d2, d3] }
  | _ => none }
def HistoryAncestorsWrongFalsely : Prop := historyAncestorsRow.holds Try.pinned (OpenSpec.ofChange historyAncestorsWrong)

/-- 'laminalaw25.HistoryQueries': WHATEVER THE INPUT: true; the input reads as it did. -/
def historyQueriesSpec : ChangeSpec := { name := "historyQueries", fn := fun _ => fun
  | [d1, d2, d3, d4] => { results := [.lit (.bool true)], args := [d1, d2, d3, d4] }
  | _ => none }
def historyQueriesRow : OpenClaim := { program := "ytjeoabjccbinhaa", sum := "338da52b7671e5daf4b630e48558877dfe188d7d92044f4bb4723b4971d4d269", func := "lamina/laminalaw25.HistoryQueries", spec := "historyQueries", inPlace := ["slices.overlaps[lamina/api.Ref]"], unfollowed := true, recurses := true, apart := false }
def HistoryQueriesSaid : Prop := historyQueriesRow.holds Try.pinned (OpenSpec.ofChange historyQueriesSpec)

/-- ITS FALSE NEIGHBOUR: 'it returns false'. Refute it at one input. -/
def historyQueriesWrong : ChangeSpec := { name := "historyQueries", fn := fun _ => fun
  | [d1, d2, d3, d4] => { results := [.lit (.bool false)], args := [d1, d2, d3, d4] }
  | _ => none }
def HistoryQueriesWrongFalsely : Prop := historyQueriesRow.holds Try.pinned (OpenSpec.ofChange historyQueriesWrong)

/-- 'laminalaw25.HistoryResolves': WHATEVER THE INPUT: true; the input reads as it did. -/
def historyResolvesSpec : ChangeSpec := { name := "historyResolves", fn := fun _ => fun
  | [d1, d2, d3] => { results := [.lit (.bool true)], args := [d1, d2, d3] }
  | _ => none }
def historyResolvesRow : OpenClaim := { program := "ytjeoabjccbinhaa", sum := "338da52b7671e5daf4b630e48558877dfe188d7d92044f4bb4723b4971d4d269", func := "lamina/laminalaw25.HistoryResolves", spec := "historyResolves", inPlace := ["slices.overlaps[lamina/api.Ref]"], unfollowed := true, recurses := true, apart := false }
def HistoryResolvesSaid : Prop := historyResolvesRow.holds Try.pinned (OpenSpec.ofChange historyResolvesSpec)

/-- ITS FALSE NEIGHBOUR: 'it returns false'. Refute it at one input. -/
def historyResolvesWrong : ChangeSpec := { name := "historyResolves", fn := fun _ => fun
  | [d1, d2, d3] => { results := [.lit (.bool false)], args := [d1, d2, d3] }
  | _ => none }
def HistoryResolvesWrongFalsely : Prop := historyResolvesRow.holds Try.pinned (OpenSpec.ofChange historyResolvesWrong)

/-- 'laminalaw25.HistoryRoundTrip': WHATEVER THE INPUT: true; the input reads as it did. -/
def historyRoundTripSpec : ChangeSpec := { name := "historyRoundTrip", fn := fun _ => fun
  | [d] => { results := [.lit (.bool true)], args := [d] }
  | _ => none }
def historyRoundTripRow : OpenClaim := { program := "ytjeoabjccbinhaa", sum := "338da52b7671e5daf4b630e48558877dfe188d7d92044f4bb4723b4971d4d269", func := "lamina/laminalaw25.HistoryRoundTrip", spec := "historyRoundTrip", inPlace := ["slices.overlaps[lamina/api.Ref]"], unfollowed := true, recurses := true, apart := false }
def HistoryRoundTripSaid : Prop := historyRoundTripRow.holds Try.pinned (OpenSpec.ofChange historyRoundTripSpec)

/-- ITS FALSE NEIGHBOUR: 'it returns false'. Refute it at one input. -/
def historyRoundTripWrong : ChangeSpec := { name := "historyRoundTrip", fn := fun _ => fun
  | [d] => { results := [.lit (.bool false)], args := [d] }
  | _ => none }
def HistoryRoundTripWrongFalsely : Prop := historyRoundTripRow.holds Try.pinned (OpenSpec.ofChange historyRoundTripWrong)

/- THE SECOND FORM. 'bulk': how many values and letters a reading holds, each counted each time it is reached (what is shared counts as often as it is met; a slice's spare places count too). A statement '..UptoSaid' is the law's where the arguments, and the package variables that the reading takes, are together of bulk at most 1048576: NARROWER than '..Said'. Prove '..Said' where nothing that the law and all that it calls make is longer than what came in: it says more and counts as full. Else prove '..UptoSaid'. A law counts once. -/
mutual
def uptoBulk {H : Type} : DataW H → Nat
  | .lit (.string bytes) => bytes.length + 1
  | .lit _ => 1
  | .nil => 1
  | .ptr d => uptoBulk d + 1
  | .slice elems spare => uptoBulkAll elems + uptoBulkAll spare + 1
  | .agg parts => uptoBulkAll parts + 1
  | .iface _ d => uptoBulk d + 1
  | .map entries => uptoBulkEntries entries + 1
  | .held _ => 1
def uptoBulkAll {H : Type} : List (DataW H) → Nat
  | [] => 0
  | d :: r => uptoBulk d + uptoBulkAll r
def uptoBulkEntries {H : Type} : List (Lit × DataW H) → Nat
  | [] => 0
  | x :: r => uptoBulkEntry x + uptoBulkEntries r
def uptoBulkEntry {H : Type} : Lit × DataW H → Nat
  | (.string bytes, d) => bytes.length + uptoBulk d + 1
  | (_, d) => uptoBulk d + 1
 end
def uptoSmall : (H : Type) → List (DataW H) → Bool := fun _ ds => decide (uptoBulkAll ds ≤ 1048576)
def OpenSpec.upto (s : _root_.Go.ChangeSpec) : _root_.Go.OpenSpec := { _root_.Go.OpenSpec.ofChange s with cond := some uptoSmall }

/-- 'laminalaw25.HistoryApplies', WHERE WHAT IT READS IS OF BULK AT MOST 1048576: true; the input reads as it did. -/
def historyAppliesUptoRow : OpenClaim := { program := "ytjeoabjccbinhaa", sum := "338da52b7671e5daf4b630e48558877dfe188d7d92044f4bb4723b4971d4d269", func := "lamina/laminalaw25.HistoryApplies", spec := "historyApplies", inPlace := ["slices.overlaps[lamina/api.Ref]"], unfollowed := true, recurses := true, apart := false, narrowed := true }
def HistoryAppliesUptoSaid : Prop := historyAppliesUptoRow.holds Try.pinned (OpenSpec.upto historyAppliesSpec)

/-- 'laminalaw25.HistoryImmutable', WHERE WHAT IT READS IS OF BULK AT MOST 1048576: true; the input reads as it did. -/
def historyImmutableUptoRow : OpenClaim := { program := "ytjeoabjccbinhaa", sum := "338da52b7671e5daf4b630e48558877dfe188d7d92044f4bb4723b4971d4d269", func := "lamina/laminalaw25.HistoryImmutable", spec := "historyImmutable", inPlace := ["slices.overlaps[lamina/api.Ref]"], unfollowed := true, recurses := true, apart := false, narrowed := true }
def HistoryImmutableUptoSaid : Prop := historyImmutableUptoRow.holds Try.pinned (OpenSpec.upto historyImmutableSpec)

/-- 'laminalaw25.HistoryAncestors', WHERE WHAT IT READS IS OF BULK AT MOST 1048576: true; the input reads as it did. -/
def historyAncestorsUptoRow : OpenClaim := { program := "ytjeoabjccbinhaa", sum := "338da52b7671e5daf4b630e48558877dfe188d7d92044f4bb4723b4971d4d269", func := "lamina/laminalaw25.HistoryAncestors", spec := "historyAncestors", inPlace := ["slices.overlaps[lamina/api.Ref]"], unfollowed := true, recurses := true, apart := false, narrowed := true }
def HistoryAncestorsUptoSaid : Prop := historyAncestorsUptoRow.holds Try.pinned (OpenSpec.upto historyAncestorsSpec)

/-- 'laminalaw25.HistoryQueries', WHERE WHAT IT READS IS OF BULK AT MOST 1048576: true; the input reads as it did. -/
def historyQueriesUptoRow : OpenClaim := { program := "ytjeoabjccbinhaa", sum := "338da52b7671e5daf4b630e48558877dfe188d7d92044f4bb4723b4971d4d269", func := "lamina/laminalaw25.HistoryQueries", spec := "historyQueries", inPlace := ["slices.overlaps[lamina/api.Ref]"], unfollowed := true, recurses := true, apart := false, narrowed := true }
def HistoryQueriesUptoSaid : Prop := historyQueriesUptoRow.holds Try.pinned (OpenSpec.upto historyQueriesSpec)

/-- 'laminalaw25.HistoryResolves', WHERE WHAT IT READS IS OF BULK AT MOST 1048576: true; the input reads as it did. -/
def historyResolvesUptoRow : OpenClaim := { program := "ytjeoabjccbinhaa", sum := "338da52b7671e5daf4b630e48558877dfe188d7d92044f4bb4723b4971d4d269", func := "lamina/laminalaw25.HistoryResolves", spec := "historyResolves", inPlace := ["slices.overlaps[lamina/api.Ref]"], unfollowed := true, recurses := true, apart := false, narrowed := true }
def HistoryResolvesUptoSaid : Prop := historyResolvesUptoRow.holds Try.pinned (OpenSpec.upto historyResolvesSpec)

/-- 'laminalaw25.HistoryRoundTrip', WHERE WHAT IT READS IS OF BULK AT MOST 1048576: true; the input reads as it did. -/
def historyRoundTripUptoRow : OpenClaim := { program := "ytjeoabjccbinhaa", sum := "338da52b7671e5daf4b630e48558877dfe188d7d92044f4bb4723b4971d4d269", func := "lamina/laminalaw25.HistoryRoundTrip", spec := "historyRoundTrip", inPlace := ["slices.overlaps[lamina/api.Ref]"], unfollowed := true, recurses := true, apart := false, narrowed := true }
def HistoryRoundTripUptoSaid : Prop := historyRoundTripUptoRow.holds Try.pinned (OpenSpec.upto historyRoundTripSpec)

end Rows
end Go.Proofs.Ytjeoabjccbinhaa
