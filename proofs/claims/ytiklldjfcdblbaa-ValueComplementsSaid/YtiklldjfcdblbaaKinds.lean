/- How the struct types of the laws' arguments read. -/
import Derived.Test.YtiklldjfcdblbaaPx0
import Derived.Test.YtiklldjfcdblbaaReads
namespace Go.Proofs.Ytiklldjfcdblbaa.P
open Go.RowKit Go.Proofs.YtiklldjfcdblbaaW.PrintWords Go.Proofs.Ytiklldjfcdblbaa.Reads
/-- A value of type 23 whose numbers fit and whose texts are no longer than the reach. -/
def G23 (x : S23) : Prop := (Lit.int .i64 x.f0).wf = true ∧ (Lit.int .i64 x.f1).wf = true ∧ x.f2.size ≤ 140737488351232
theorem rd23 : Rd k23 Try.prog 23 G23 :=
  (Rd.struct (fun a => (⟨a.1, a.2.1, a.2.2⟩ : S23)) (fun _ => rfl) Try.underlying23 (by kernel_rfl) (RdF.cons (Rd.int Try.underlying3 (by kernel_rfl)) rfl (RdF.cons (Rd.int Try.underlying2 (by kernel_rfl)) rfl (RdF.one (Rd.string Try.underlying9 (by kernel_rfl)) rfl)))).imp fun _ h => h
structure S44 where
  f0 : ByteArray
  f1 : Int
  f2 : Bool
def k44 : Kd S44 := Kd.iso (Kd.pair Kd.string (Kd.pair (Kd.int .i64) (Kd.bool))) (fun x : S44 => (x.f0, x.f1, x.f2))
theorem k44_open {w : World} {x : S44} {cs : List Value} (h : k44.K w x cs) : cs = [.string x.f0, .int .i64 x.f1, .bool x.f2] := by
  obtain ⟨_, _, rfl, rfl, ⟨_, _, rfl, rfl, rfl⟩⟩ := h
  exact rfl
/-- A value of type 44 whose numbers fit and whose texts are no longer than the reach. -/
def G44 (x : S44) : Prop := x.f0.size ≤ 140737488351232 ∧ (Lit.int .i64 x.f1).wf = true ∧ True
theorem rd44 : Rd k44 Try.prog 44 G44 :=
  (Rd.struct (fun a => (⟨a.1, a.2.1, a.2.2⟩ : S44)) (fun _ => rfl) Try.underlying44 (by kernel_rfl) (RdF.cons (Rd.string Try.underlying9 (by kernel_rfl)) rfl (RdF.cons (Rd.int Try.underlying3 (by kernel_rfl)) rfl (RdF.one (Rd.bool Try.underlying4 (by kernel_rfl)) rfl)))).imp fun _ h => h
end Go.Proofs.Ytiklldjfcdblbaa.P
