/- What Go functions of the given program return, told as Lean functions, and the walks that show it; written by a program of this session (the print of the kit, turned). Conditions: the hypotheses that stand at each theorem. -/
import Derived.Test.YtiklldjfcdblbaaPx0
import Derived.Test.YtiklldjfcdblbaaPx1
import Derived.Test.YtiklldjfcdblbaaPx2
import Derived.Test.YtiklldjfcdblbaaPx8
import Derived.Test.YtiklldjfcdblbaaPx12
import Derived.Test.YtiklldjfcdblbaaPx18
namespace Go.Proofs.Ytiklldjfcdblbaa.P
open Go.RowKit Go.Proofs.YtiklldjfcdblbaaW.PrintWords Go.Proofs.YtiklldjfcdblbaaW.PrintLast Go.Proofs.YtiklldjfcdblbaaW.PrintMore
attribute [local go_sem] max2_int min2_int max_two min_two max_three min_three max_four min_four Go.Proofs.YtiklldjfcdblbaaQ.str_gtr Go.Proofs.YtiklldjfcdblbaaQ.str_leq Go.Proofs.YtiklldjfcdblbaaQ.str_geq   -- for this text's walks alone
set_option linter.unusedVariables false
set_option linter.unusedSimpArgs false

attribute [local go_sem high] eqA23
/-! ### laminalaw04_ValueComplements: function 5 -/
mutual
def laminalaw04_ValueComplements.j0 : Nat → Bool → Int → Int → ByteArray → Int → Int → ByteArray → Option (Bool)
  | 0, _, _, _, _, _, _, _ => none
  | k + 1, x15, x310000, x310001, x310002, x311000, x311001, x311002 => if x15 = true then ((laminalaw04_awake.f k).bind fun t313 => (some t313)) else ((value_Test.f k 3 x310000 x310001 x310002 x311000 x311001 x311002).bind fun bt314 => ((value_Test.f k 1 x310000 x310001 x310002 x311000 x311001 x311002).bind fun bt317 => ((value_Test.f k 5 x310000 x310001 x310002 x311000 x311001 x311002).bind fun bt320 => ((value_Test.f k 6 x310000 x310001 x310002 x311000 x311001 x311002).bind fun bt326 => ((value_Not.f bt314.1 bt314.2.1 bt314.2.2).bind fun bt329 => (if (!(bt326.1 == bt329.1) || (!(bt326.2.1 == bt329.2.1) || (!(bt326.2.2.toList == bt329.2.2.toList)))) = true then (none) else ((value_Test.f k 2 x310000 x310001 x310002 x311000 x311001 x311002).bind fun bt332 => ((value_Not.f bt317.1 bt317.2.1 bt317.2.2).bind fun bt335 => (if (!(bt332.1 == bt335.1) || (!(bt332.2.1 == bt335.2.1) || (!(bt332.2.2.toList == bt335.2.2.toList)))) = true then (none) else ((value_Test.f k 4 x310000 x310001 x310002 x311000 x311001 x311002).bind fun bt338 => ((value_Not.f bt320.1 bt320.2.1 bt320.2.2).bind fun bt341 => (if (!(bt338.1 == bt341.1) || (!(bt338.2.1 == bt341.2.1) || (!(bt338.2.2.toList == bt341.2.2.toList)))) = true then (none) else (if x310000 = 0 then (laminalaw04_ValueComplements.j1 k true bt314.1 bt314.2.1 bt314.2.2 bt317.1 bt317.2.1 bt317.2.2 bt320.1 bt320.2.1 bt320.2.2) else (laminalaw04_ValueComplements.j1 k (x310000 != x311000) bt314.1 bt314.2.1 bt314.2.2 bt317.1 bt317.2.1 bt317.2.2 bt320.1 bt320.2.1 bt320.2.2))))))))))))))
def laminalaw04_ValueComplements.j1 : Nat → Bool → Int → Int → ByteArray → Int → Int → ByteArray → Int → Int → ByteArray → Option (Bool)
  | 0, _, _, _, _, _, _, _, _, _, _ => none
  | k + 1, x57, x324000, x324001, x324002, x325000, x325001, x325002, x326000, x326001, x326002 => if x57 = true then (if x324000 = 0 then (if x325000 = 0 then (if x326000 = 0 then ((laminalaw04_awake.f k).bind fun t344 => (some t344)) else (none)) else (none)) else (none)) else (if (wrap64 ((wrap64 (x324001 + x325001)) + x326001)) = 1 then ((laminalaw04_awake.f k).bind fun t345 => (some t345)) else (none))
end
def laminalaw04_ValueComplements.f (k : Nat) (a0_0 : Int) (a0_1 : Int) (a0_2 : ByteArray) (a1_0 : Int) (a1_1 : Int) (a1_2 : ByteArray) : Option (Bool) := (laminaref04_Valid.f a0_0 a0_1 a0_2).bind fun t311 => (if t311 = true then ((laminaref04_Valid.f a1_0 a1_1 a1_2).bind fun t312 => (laminalaw04_ValueComplements.j0 k (!t312) a0_0 a0_1 a0_2 a1_0 a1_1 a1_2)) else (laminalaw04_ValueComplements.j0 k true a0_0 a0_1 a0_2 a1_0 a1_1 a1_2))
theorem laminalaw04_ValueComplements.mono_l : ∀ k, (∀ y0 y1 y2 y3 y4 y5 y6, LeO (laminalaw04_ValueComplements.j0 k y0 y1 y2 y3 y4 y5 y6) (laminalaw04_ValueComplements.j0 (k + 1) y0 y1 y2 y3 y4 y5 y6)) ∧ (∀ y0 y1 y2 y3 y4 y5 y6 y7 y8 y9, LeO (laminalaw04_ValueComplements.j1 k y0 y1 y2 y3 y4 y5 y6 y7 y8 y9) (laminalaw04_ValueComplements.j1 (k + 1) y0 y1 y2 y3 y4 y5 y6 y7 y8 y9))
  | 0 => ⟨fun _ _ _ _ _ _ _ r h => by simp [laminalaw04_ValueComplements.j0] at h, fun _ _ _ _ _ _ _ _ _ _ r h => by simp [laminalaw04_ValueComplements.j1] at h⟩
  | k + 1 => by
    obtain ⟨ih0, ih1⟩ := laminalaw04_ValueComplements.mono_l k
    refine ⟨?_, ?_⟩
    · intro y0 y1 y2 y3 y4 y5 y6
      unfold laminalaw04_ValueComplements.j0
      repeat' first
      | (with_reducible exact ih0 _ _ _ _ _ _ _)
      | (with_reducible exact ih1 _ _ _ _ _ _ _ _ _ _)
      | (with_reducible exact laminalaw04_awake.mono _)
      | (with_reducible exact value_Test.mono _ _ _ _ _ _ _ _)
      | (with_reducible exact LeO.refl _)
      | (with_reducible exact LeO.none _)
      | (with_reducible refine LeO.ite ?_ ?_)
      | (with_reducible refine LeO.bind ?_ (fun _ => ?_))
      | exact ih0 _ _ _ _ _ _ _
      | exact ih1 _ _ _ _ _ _ _ _ _ _
      | exact laminalaw04_awake.mono _
      | exact value_Test.mono _ _ _ _ _ _ _ _
      | exact LeO.none _
      | refine LeO.ite ?_ ?_
      | refine LeO.bind ?_ (fun _ => ?_)
    · intro y0 y1 y2 y3 y4 y5 y6 y7 y8 y9
      unfold laminalaw04_ValueComplements.j1
      repeat' first
      | (with_reducible exact ih0 _ _ _ _ _ _ _)
      | (with_reducible exact ih1 _ _ _ _ _ _ _ _ _ _)
      | (with_reducible exact laminalaw04_awake.mono _)
      | (with_reducible exact value_Test.mono _ _ _ _ _ _ _ _)
      | (with_reducible exact LeO.refl _)
      | (with_reducible exact LeO.none _)
      | (with_reducible refine LeO.ite ?_ ?_)
      | (with_reducible refine LeO.bind ?_ (fun _ => ?_))
      | exact ih0 _ _ _ _ _ _ _
      | exact ih1 _ _ _ _ _ _ _ _ _ _
      | exact laminalaw04_awake.mono _
      | exact value_Test.mono _ _ _ _ _ _ _ _
      | exact LeO.none _
      | refine LeO.ite ?_ ?_
      | refine LeO.bind ?_ (fun _ => ?_)
theorem laminalaw04_ValueComplements.mono : ∀ a0 a1 a2 a3 a4 a5 k, LeO (laminalaw04_ValueComplements.f k a0 a1 a2 a3 a4 a5) (laminalaw04_ValueComplements.f (k + 1) a0 a1 a2 a3 a4 a5) := by
  intro a0 a1 a2 a3 a4 a5 k
  obtain ⟨ih0, ih1⟩ := laminalaw04_ValueComplements.mono_l k
  unfold laminalaw04_ValueComplements.f
  repeat' first
      | (with_reducible exact ih0 _ _ _ _ _ _ _)
      | (with_reducible exact ih1 _ _ _ _ _ _ _ _ _ _)
      | (with_reducible exact laminalaw04_awake.mono _)
      | (with_reducible exact value_Test.mono _ _ _ _ _ _ _ _)
      | (with_reducible exact LeO.refl _)
      | (with_reducible exact LeO.none _)
      | (with_reducible refine LeO.ite ?_ ?_)
      | (with_reducible refine LeO.bind ?_ (fun _ => ?_))
      | exact ih0 _ _ _ _ _ _ _
      | exact ih1 _ _ _ _ _ _ _ _ _ _
      | exact laminalaw04_awake.mono _
      | exact value_Test.mono _ _ _ _ _ _ _ _
      | exact LeO.none _
      | refine LeO.ite ?_ ?_
      | refine LeO.bind ?_ (fun _ => ?_)
def laminalaw04_ValueComplements.T3 : Bool × List (List Nat × List Nat) := (true, [([], []), ([], []), ([0, 1], [0, 1]), ([], []), ([], []), ([3, 4, 2], [3, 4]), ([], []), ([], []), ([6, 7, 5], [6, 7]), ([], []), ([], []), ([], []), ([9, 2, 8, 0, 1, 2, 9, 10, 11], [2, 9]), ([10, 5, 12, 0, 1, 2, 3, 4, 5, 9, 10, 11, 12], [5, 10]), ([11, 8, 13, 0, 1, 2, 3, 4, 5, 6, 7, 8, 9, 10, 11, 12, 13], [8, 11])])
def laminalaw04_ValueComplements.B3 : List Nat := [0, 0, 3, 0, 0, 31, 0, 0, 255, 0, 0, 0, 4095, 8191, 16383]
theorem laminalaw04_ValueComplements.tab3 : rtab .any (opsOf Try.f5 3) = laminalaw04_ValueComplements.T3 := by kernel_rfl
theorem laminalaw04_ValueComplements.bits3 : waitsOk laminalaw04_ValueComplements.T3.2 laminalaw04_ValueComplements.B3 = true := by kernel_rfl
def laminalaw04_ValueComplements.T4 : Bool × List (List Nat × List Nat) := (true, [([], []), ([], []), ([0, 1], [0, 1]), ([], []), ([3, 2], [3]), ([2, 4], [2, 4]), ([5, 4], [5]), ([6], [6]), ([6], [6]), ([7, 8, 6, 6], [6, 7, 8]), ([6], [6]), ([10, 9, 6], [6, 10]), ([9, 11, 6], [6, 9, 11]), ([6, 12], [6, 12]), ([13, 11], [13]), ([14], [14]), ([14], [14]), ([15, 16, 14, 14], [14, 15, 16]), ([14], [14]), ([18, 17, 14], [14, 18]), ([17, 19, 14], [14, 17, 19]), ([14, 20], [14, 20])])
def laminalaw04_ValueComplements.B4 : List Nat := [0, 0, 3, 0, 15, 31, 63, 127, 127, 511, 127, 2047, 4095, 8191, 16383, 32767, 32767, 131071, 32767, 524287, 1048575, 2097151]
theorem laminalaw04_ValueComplements.tab4 : rtab .any (opsOf Try.f5 4) = laminalaw04_ValueComplements.T4 := by kernel_rfl
theorem laminalaw04_ValueComplements.bits4 : waitsOk laminalaw04_ValueComplements.T4.2 laminalaw04_ValueComplements.B4 = true := by kernel_rfl
theorem reify_ {P : Program} {md : Region.Mode} {ops : Array Oper} {Q : Exit → Act → World → Prop} {S : World → Prop} {ds : List Nat} {n : Nat} {l : Array Bool} {a : Act} {w : World}
    (h : ∀ (Z : Nat → Array Bool → Act → World → Prop) (a0 : Act), (∀ n l a w, Z n l a w ↔ wpAnyLast P md ops Q S ds n l a w) → a0 = a → Z n l a0 w) : wpAnyLast P md ops Q S ds n l a w :=
  h (fun n l a w => wpAnyLast P md ops Q S ds n l a w) a (fun _ _ _ _ => Iff.rfl) rfl
/-- A new block, apart from two others. -/
def vOk (w0 : World) (gA gB : Nat) (z : Obj) (w : World) (g : Nat) : Prop := w.heap[g]? = some z ∧ w0.heap.size ≤ g ∧ gA ≠ g ∧ gB ≠ g
/-- Two blocks known whole, and up to three new ones, apart from each other. -/
def vF (w0 : World) (gA gB : Nat) (bA bB z : Obj) (p q r : Option Nat) (w : World) : Prop :=
  w.heap[gA]? = some bA ∧ w.heap[gB]? = some bB ∧ Below w0.heap.size w0 w ∧ (∀ g, p = some g → vOk w0 gA gB z w g) ∧ (∀ g, q = some g → vOk w0 gA gB z w g) ∧ (∀ g, r = some g → vOk w0 gA gB z w g) ∧
    (∀ g h, p = some g → q = some h → g ≠ h) ∧ (∀ g h, p = some g → r = some h → g ≠ h) ∧ (∀ g h, q = some g → r = some h → g ≠ h)
theorem vOkN {α : Nat → Prop} : ∀ g, (none : Option Nat) = some g → α g := fun _ h => by cases h
theorem vOk2N {q : Option Nat} : ∀ g h : Nat, (none : Option Nat) = some g → q = some h → g ≠ h := fun _ _ h => by cases h
theorem vOk2R : ∀ g h : Nat, (none : Option Nat) = some g → (none : Option Nat) = some h → g ≠ h := fun _ _ h => by cases h
section
variable {w0 w w2 : World} {gA gB : Nat} {bA bB z : Obj} {p q r : Option Nat}
theorem vOk_below {g : Nat} (h : vOk w0 gA gB z w g) (hb : Below w.heap.size w w2) : vOk w0 gA gB z w2 g := ⟨blk_below h.1 hb, h.2⟩
theorem vF_below (h : vF w0 gA gB bA bB z p q r w) (hb : Below w.heap.size w w2) : vF w0 gA gB bA bB z p q r w2 :=
  ⟨blk_below h.1 hb, blk_below h.2.1 hb, below_step h.2.2.1 hb, fun g e => vOk_below (h.2.2.2.1 g e) hb, fun g e => vOk_below (h.2.2.2.2.1 g e) hb, fun g e => vOk_below (h.2.2.2.2.2.1 g e) hb, h.2.2.2.2.2.2⟩
theorem vOk_new {g : Nat} (h : vF w0 gA gB bA bB z p q r w) (hg : g = w.heap.size) (hbox : w2.heap[g]? = some z) : vOk w0 gA gB z w2 g :=
  ⟨hbox, by rw [hg]; exact below_size h.2.2.1, by rw [hg]; exact Nat.ne_of_lt (blk_lt h.1), by rw [hg]; exact Nat.ne_of_lt (blk_lt h.2.1)⟩
theorem vOk_ne {g k : Nat} (h : vOk w0 gA gB z w k) (hg : g = w.heap.size) : g ≠ k := by rw [hg]; exact Nat.ne_of_gt (blk_lt h.1)
theorem vF_0 {g : Nat} (h : vF w0 gA gB bA bB z none q r w) (hg : g = w.heap.size) (hbox : w2.heap[g]? = some z) (hb : Below w.heap.size w w2) : vF w0 gA gB bA bB z (some g) q r w2 :=
  ⟨blk_below h.1 hb, blk_below h.2.1 hb, below_step h.2.2.1 hb, fun k e => by cases e; exact vOk_new h hg hbox, fun k e => vOk_below (h.2.2.2.2.1 k e) hb, fun k e => vOk_below (h.2.2.2.2.2.1 k e) hb,
    fun a k e e2 => by cases e; exact vOk_ne (h.2.2.2.2.1 k e2) hg, fun a k e e2 => by cases e; exact vOk_ne (h.2.2.2.2.2.1 k e2) hg, h.2.2.2.2.2.2.2.2⟩
theorem vF_1 {g : Nat} (h : vF w0 gA gB bA bB z p none r w) (hg : g = w.heap.size) (hbox : w2.heap[g]? = some z) (hb : Below w.heap.size w w2) : vF w0 gA gB bA bB z p (some g) r w2 :=
  ⟨blk_below h.1 hb, blk_below h.2.1 hb, below_step h.2.2.1 hb, fun k e => vOk_below (h.2.2.2.1 k e) hb, fun k e => by cases e; exact vOk_new h hg hbox, fun k e => vOk_below (h.2.2.2.2.2.1 k e) hb,
    fun a k e e2 => by cases e2; exact (vOk_ne (h.2.2.2.1 a e) hg).symm, h.2.2.2.2.2.2.2.1, fun a k e e2 => by cases e; exact vOk_ne (h.2.2.2.2.2.1 k e2) hg⟩
theorem vF_2 {g : Nat} (h : vF w0 gA gB bA bB z p q none w) (hg : g = w.heap.size) (hbox : w2.heap[g]? = some z) (hb : Below w.heap.size w w2) : vF w0 gA gB bA bB z p q (some g) w2 :=
  ⟨blk_below h.1 hb, blk_below h.2.1 hb, below_step h.2.2.1 hb, fun k e => vOk_below (h.2.2.2.1 k e) hb, fun k e => vOk_below (h.2.2.2.2.1 k e) hb, fun k e => by cases e; exact vOk_new h hg hbox,
    h.2.2.2.2.2.2.1, fun a k e e2 => by cases e2; exact (vOk_ne (h.2.2.2.1 a e) hg).symm, fun a k e e2 => by cases e2; exact (vOk_ne (h.2.2.2.2.1 a e) hg).symm⟩
theorem vF_held {x y z1 u v z2 : Value} {t1 t2 : TypeId} (h : vF w0 gA gB (.cells #[x, y, z1] t1 (0, 0)) (.cells #[u, v, z2] t2 (0, 0)) z p q r w) :
    w.cell? ⟨gA, 0, none⟩ = some x ∧ w.cell? ⟨gA, 1, none⟩ = some y ∧ w.cell? ⟨gA, 2, none⟩ = some z1 ∧ w.cell? ⟨gB, 0, none⟩ = some u ∧ w.cell? ⟨gB, 1, none⟩ = some v ∧ w.cell? ⟨gB, 2, none⟩ = some z2 :=
  ⟨(blk_cell h.1 0).trans rfl, (blk_cell h.1 1).trans rfl, (blk_cell h.1 2).trans rfl, (blk_cell h.2.1 0).trans rfl, (blk_cell h.2.1 1).trans rfl, (blk_cell h.2.1 2).trans rfl⟩
end
set_option maxHeartbeats 8000000 in
set_option maxRecDepth 100000 in
theorem laminalaw04_ValueComplements.calls (k : Nat) (a0_0 : Int) (a0_1 : Int) (a0_2 : ByteArray) (a1_0 : Int) (a1_1 : Int) (a1_2 : ByteArray) (r : Bool) (w : World) (h : laminalaw04_ValueComplements.f k a0_0 a0_1 a0_2 a1_0 a1_1 a1_2 = some r) :
    Calls Try.prog 5 #[.agg #[.int .i64 a0_0, .int .i64 a0_1, .string a0_2], .agg #[.int .i64 a1_0, .int .i64 a1_1, .string a1_2]] w fun e w' => e = .returned (.bool r) ∧ Below w.heap.size w w' := by
  have hu23 := Try.underlying23
  have HB := Aside0.mk (Below.refl w.heap.size w)
  have H : ((laminaref04_Valid.f a0_0 a0_1 a0_2).bind fun t311 => (if t311 = true then ((laminaref04_Valid.f a1_0 a1_1 a1_2).bind fun t312 => (laminalaw04_ValueComplements.j0 k (!t312) a0_0 a0_1 a0_2 a1_0 a1_1 a1_2)) else (laminalaw04_ValueComplements.j0 k true a0_0 a0_1 a0_2 a1_0 a1_1 a1_2))) = some r := h
  clear h
  have HC3 := Aside0.mk H
  clear H
  go_enter Try.func5, Try.ntmps5
  go_upto_region 1 with (first | ((with_reducible refine gate_dst (N := 2) rfl ?_); refine box_event ?hg (N := 2) ?hd (cs := #[.int .i64 a0_0, .int .i64 a0_1, .string a0_2]) (t := 23) ?hr ?_; (case hd => rfl); (case hg => rfl); (case hr => first | (go_simp; done) | (go_simp; rfl)); intro gb309 hg w4 hbox hb; have n0_ := Aside0.mk (below_step (by repeat (first | (with_reducible first | exact HB.out | apply below_alloc | apply pw_below_drewN | apply below_drew1) | exact HB.out)) hb); have n1_ := Aside0.mk (hbox); have n2_ := Aside0.mk ((by rw [hg]; exact (below_size (by repeat (first | (with_reducible first | exact HB.out | apply below_alloc | apply pw_below_drewN | apply below_drew1) | exact HB.out))) : w.heap.size ≤ gb309)); have n3_ := Aside0.mk ((by rw [hg]; exact (below_size (by repeat (first | (with_reducible first | exact HB.out | apply below_alloc | apply pw_below_drewN | apply below_drew1) | exact HB.out))) : w.heap.size ≤ gb309)); clear HB; have HB := n0_; have BK309 := n1_; have GW309 := n2_; have GE309 := n3_; clear n0_ n1_ n2_ n3_; clear hb hbox hg) | ((with_reducible refine gate_dst (N := 3) rfl ?_); refine box_event ?hg (N := 3) ?hd (cs := #[.int .i64 a1_0, .int .i64 a1_1, .string a1_2]) (t := 23) ?hr ?_; (case hd => rfl); (case hg => rfl); (case hr => first | (go_simp; done) | (go_simp; rfl)); intro gb310 hg w5 hbox hb; have n0_ := Aside0.mk (blk_below (g := gb309) (o := .cells #[.int .i64 a0_0, .int .i64 a0_1, .string a0_2] 23 (0, 0)) (by (with_reducible repeat (first | refine blk_drewN ?_ _ | refine blk_drew ?_ | refine blk_alloc ?_ _)); exact BK309.out) hb); have n1_ := Aside0.mk (below_step (by repeat (first | (with_reducible first | exact HB.out | apply below_alloc | apply pw_below_drewN | apply below_drew1 | refine below_set ?_ GE309.out) | exact HB.out)) hb); have n2_ := Aside0.mk (hbox); have n3_ := Aside0.mk ((by rw [hg]; exact (below_size (by repeat (first | (with_reducible first | exact HB.out | apply below_alloc | apply pw_below_drewN | apply below_drew1 | refine below_set ?_ GE309.out) | exact HB.out))) : w.heap.size ≤ gb310)); have n4_ := Aside0.mk ((by rw [hg]; exact (below_size (by repeat (first | (with_reducible first | exact HB.out | apply below_alloc | apply pw_below_drewN | apply below_drew1 | refine below_set ?_ GE309.out) | exact HB.out))) : w.heap.size ≤ gb310)); have n5_ := Aside0.mk ((by rw [hg]; exact Nat.ne_of_lt (blk_lt (g := gb309) (o := .cells #[.int .i64 a0_0, .int .i64 a0_1, .string a0_2] 23 (0, 0)) (by (with_reducible repeat (first | refine blk_drewN ?_ _ | refine blk_drew ?_ | refine blk_alloc ?_ _)); exact BK309.out)) : gb309 ≠ gb310)); have n6_ := Aside0.mk ((by rw [hg]; exact Nat.ne_of_gt (blk_lt (g := gb309) (o := .cells #[.int .i64 a0_0, .int .i64 a0_1, .string a0_2] 23 (0, 0)) (by (with_reducible repeat (first | refine blk_drewN ?_ _ | refine blk_drew ?_ | refine blk_alloc ?_ _)); exact BK309.out)) : gb310 ≠ gb309)); clear BK309; clear HB; have BK309 := n0_; have HB := n1_; have BK310 := n2_; have GW310 := n3_; have GE310 := n4_; have NB309_310 := n5_; have NB310_309 := n6_; clear n0_ n1_ n2_ n3_ n4_ n5_ n6_; clear hb hbox hg))
  (try simp only [Act.put, List.setIfInBounds_toArray, List.set_cons_zero, List.set_cons_succ])
  go_cut [15] (fun v15 wc => ∃ (kq : Nat) (x15_2 : Bool), v15 = .bool x15_2 ∧ Aside0 (laminalaw04_ValueComplements.j0 kq x15_2 a0_0 a0_1 a0_2 a1_0 a1_1 a1_2 = some r) ∧ Aside0 (kq ≤ k) ∧ Aside0 (wc.heap[gb309]? = some (.cells #[.int .i64 a0_0, .int .i64 a0_1, .string a0_2] 23 (0, 0))) ∧ Aside0 (wc.heap[gb310]? = some (.cells #[.int .i64 a1_0, .int .i64 a1_1, .string a1_2] 23 (0, 0))) ∧ Aside0 (Below w.heap.size w wc))
  case first =>
    have H := HC3.out
    clear HC3
    replace H := Option.bind_eq_some_iff.mp H
    obtain ⟨t311, A60, H⟩ := H
    replace H : (if t311 = true then ((laminaref04_Valid.f a1_0 a1_1 a1_2).bind fun t312 => (laminalaw04_ValueComplements.j0 k (!t312) a0_0 a0_1 a0_2 a1_0 a1_1 a1_2)) else (laminalaw04_ValueComplements.j0 k true a0_0 a0_1 a0_2 a1_0 a1_1 a1_2)) = some r := H
    have A6 := Aside0.mk A60
    clear A60
    by_cases c7 : t311 = true
    · subst c7
      have H1 : ((laminaref04_Valid.f a1_0 a1_1 a1_2).bind fun t312 => (laminalaw04_ValueComplements.j0 k (!t312) a0_0 a0_1 a0_2 a1_0 a1_1 a1_2)) = some r := by rw [if_pos rfl] at H; exact H
      clear H
      have H := H1
      clear H1
      replace H := Option.bind_eq_some_iff.mp H
      obtain ⟨t312, A80, H⟩ := H
      replace H : (laminalaw04_ValueComplements.j0 k (!t312) a0_0 a0_1 a0_2 a1_0 a1_1 a1_2) = some r := H
      have A8 := Aside0.mk A80
      clear A80
      have H' := Aside0.mk H
      clear H
      have hnb9 := NB309_310.out
      have hnc9 := NB310_309.out
      have hcz10_0 : w5.cell? ⟨gb309, 0, none⟩ = some (.int .i64 a0_0) := (blk_cell BK309.out 0).trans rfl
      have hcz10_1 : w5.cell? ⟨gb309, 1, none⟩ = some (.int .i64 a0_1) := (blk_cell BK309.out 1).trans rfl
      have hcz10_2 : w5.cell? ⟨gb309, 2, none⟩ = some (.string a0_2) := (blk_cell BK309.out 2).trans rfl
      have hfz10_0 := blk_frozen BK309.out 0
      have hfz10_1 := blk_frozen BK309.out 1
      have hfz10_2 := blk_frozen BK309.out 2
      go_wp2_with (first | ((with_reducible refine gate_callee (f := 14) rfl ?_); refine goesL_ (some 9) rfl rfl Try.func14 (by kernel_rfl) rfl #[.agg #[.int .i64 a0_0, .int .i64 a0_1, .string a0_2]] rfl (by (try simp only [List.map_toArray, List.map_cons, List.map_nil]); first | done | rfl | (simp only [List.length_drop, List.length_take]; rfl) | (simp only [Int.ofNat_lt, Int.ofNat_le, gt_iff_lt, ge_iff_le]; rfl)) ?_; (with_reducible refine (laminaref04_Valid.calls a0_0 a0_1 a0_2 true _ A6.out).mono ?_); rintro e w11 ⟨rfl, hb⟩; refine ⟨_, rfl, ?_⟩; have n0_ := Aside0.mk (blk_below (g := gb309) (o := .cells #[.int .i64 a0_0, .int .i64 a0_1, .string a0_2] 23 (0, 0)) (by (with_reducible repeat (first | refine blk_drewN ?_ _ | refine blk_drew ?_ | refine blk_alloc ?_ _)); exact BK309.out) hb); have n1_ := Aside0.mk (blk_below (g := gb310) (o := .cells #[.int .i64 a1_0, .int .i64 a1_1, .string a1_2] 23 (0, 0)) (by (with_reducible repeat (first | refine blk_drewN ?_ _ | refine blk_drew ?_ | refine blk_alloc ?_ _)); exact BK310.out) hb); have n2_ := Aside0.mk (below_step (by repeat (first | (with_reducible first | exact HB.out | apply below_alloc | apply pw_below_drewN | apply below_drew1 | refine below_set ?_ GE309.out | refine below_set ?_ GE310.out) | exact HB.out)) hb); clear BK309; clear BK310; clear HB; have BK309 := n0_; have BK310 := n1_; have HB := n2_; clear n0_ n1_ n2_; (try clear hb); (try clear hb2); (try clear hk); (try clear hi); have hcz12_0 : w11.cell? ⟨gb310, 0, none⟩ = some (.int .i64 a1_0) := (blk_cell BK310.out 0).trans rfl; have hcz12_1 : w11.cell? ⟨gb310, 1, none⟩ = some (.int .i64 a1_1) := (blk_cell BK310.out 1).trans rfl; have hcz12_2 : w11.cell? ⟨gb310, 2, none⟩ = some (.string a1_2) := (blk_cell BK310.out 2).trans rfl; have hfz12_0 := blk_frozen BK310.out 0; have hfz12_1 := blk_frozen BK310.out 1; have hfz12_2 := blk_frozen BK310.out 2) | (go_at_call 14; (with_reducible refine (laminaref04_Valid.calls a1_0 a1_1 a1_2 t312 _ A8.out).mono ?_); rintro e w13 ⟨rfl, hb⟩; have n0_ := Aside0.mk (blk_below (g := gb309) (o := .cells #[.int .i64 a0_0, .int .i64 a0_1, .string a0_2] 23 (0, 0)) (by (with_reducible repeat (first | refine blk_drewN ?_ _ | refine blk_drew ?_ | refine blk_alloc ?_ _)); exact BK309.out) hb); have n1_ := Aside0.mk (blk_below (g := gb310) (o := .cells #[.int .i64 a1_0, .int .i64 a1_1, .string a1_2] 23 (0, 0)) (by (with_reducible repeat (first | refine blk_drewN ?_ _ | refine blk_drew ?_ | refine blk_alloc ?_ _)); exact BK310.out) hb); have n2_ := Aside0.mk (below_step (by repeat (first | (with_reducible first | exact HB.out | apply below_alloc | apply pw_below_drewN | apply below_drew1 | refine below_set ?_ GE309.out | refine below_set ?_ GE310.out) | exact HB.out)) hb); clear BK309; clear BK310; clear HB; have BK309 := n0_; have BK310 := n1_; have HB := n2_; clear n0_ n1_ n2_; (try clear hb); (try clear hb2); (try clear hk); (try clear hi)))
      go_meet
      case rel => exact ⟨_, (!t312), (by first | rfl | (simp; done) | (simp [*]; done)), H', ⟨by first | omega | exact Nat.le_refl _⟩, ⟨by (with_reducible repeat (first | refine blk_drewN ?_ _ | refine blk_drew ?_ | refine blk_alloc ?_ _)); exact BK309.out⟩, ⟨by (with_reducible repeat (first | refine blk_drewN ?_ _ | refine blk_drew ?_ | refine blk_alloc ?_ _)); exact BK310.out⟩, ⟨by repeat (first | (with_reducible first | exact HB.out | apply below_alloc | apply pw_below_drewN | apply below_drew1 | refine below_set ?_ GE309.out | refine below_set ?_ GE310.out) | exact HB.out)⟩⟩
    · replace c7 := Bool.eq_false_iff.mpr c7
      subst c7
      have H1 : (laminalaw04_ValueComplements.j0 k true a0_0 a0_1 a0_2 a1_0 a1_1 a1_2) = some r := by rw [if_neg (show ¬ (false = true) by decide)] at H; exact H
      clear H
      have H := H1
      clear H1
      have H' := Aside0.mk H
      clear H
      have hnb14 := NB309_310.out
      have hnc14 := NB310_309.out
      have hcz15_0 : w5.cell? ⟨gb309, 0, none⟩ = some (.int .i64 a0_0) := (blk_cell BK309.out 0).trans rfl
      have hcz15_1 : w5.cell? ⟨gb309, 1, none⟩ = some (.int .i64 a0_1) := (blk_cell BK309.out 1).trans rfl
      have hcz15_2 : w5.cell? ⟨gb309, 2, none⟩ = some (.string a0_2) := (blk_cell BK309.out 2).trans rfl
      have hfz15_0 := blk_frozen BK309.out 0
      have hfz15_1 := blk_frozen BK309.out 1
      have hfz15_2 := blk_frozen BK309.out 2
      go_wp2_with (first | ((with_reducible refine gate_callee (f := 14) rfl ?_); refine goesL_ (some 9) rfl rfl Try.func14 (by kernel_rfl) rfl #[.agg #[.int .i64 a0_0, .int .i64 a0_1, .string a0_2]] rfl (by (try simp only [List.map_toArray, List.map_cons, List.map_nil]); first | done | rfl | (simp only [List.length_drop, List.length_take]; rfl) | (simp only [Int.ofNat_lt, Int.ofNat_le, gt_iff_lt, ge_iff_le]; rfl)) ?_; (with_reducible refine (laminaref04_Valid.calls a0_0 a0_1 a0_2 false _ A6.out).mono ?_); rintro e w16 ⟨rfl, hb⟩; refine ⟨_, rfl, ?_⟩; have n0_ := Aside0.mk (blk_below (g := gb309) (o := .cells #[.int .i64 a0_0, .int .i64 a0_1, .string a0_2] 23 (0, 0)) (by (with_reducible repeat (first | refine blk_drewN ?_ _ | refine blk_drew ?_ | refine blk_alloc ?_ _)); exact BK309.out) hb); have n1_ := Aside0.mk (blk_below (g := gb310) (o := .cells #[.int .i64 a1_0, .int .i64 a1_1, .string a1_2] 23 (0, 0)) (by (with_reducible repeat (first | refine blk_drewN ?_ _ | refine blk_drew ?_ | refine blk_alloc ?_ _)); exact BK310.out) hb); have n2_ := Aside0.mk (below_step (by repeat (first | (with_reducible first | exact HB.out | apply below_alloc | apply pw_below_drewN | apply below_drew1 | refine below_set ?_ GE309.out | refine below_set ?_ GE310.out) | exact HB.out)) hb); clear BK309; clear BK310; clear HB; have BK309 := n0_; have BK310 := n1_; have HB := n2_; clear n0_ n1_ n2_; (try clear hb); (try clear hb2); (try clear hk); (try clear hi)))
      go_meet
      case rel => exact ⟨_, (true), (by first | rfl | (simp; done) | (simp [*]; done)), H', ⟨by first | omega | exact Nat.le_refl _⟩, ⟨by (with_reducible repeat (first | refine blk_drewN ?_ _ | refine blk_drew ?_ | refine blk_alloc ?_ _)); exact BK309.out⟩, ⟨by (with_reducible repeat (first | refine blk_drewN ?_ _ | refine blk_drew ?_ | refine blk_alloc ?_ _)); exact BK310.out⟩, ⟨by repeat (first | (with_reducible first | exact HB.out | apply below_alloc | apply pw_below_drewN | apply below_drew1 | refine below_set ?_ GE309.out | refine below_set ?_ GE310.out) | exact HB.out)⟩⟩
  case rest =>
    clear HC3
    try clear c1
    try clear p2
    try clear c5
    try clear c7
    try clear c9
    try clear c14
    try clear hcz10_0
    try clear hcz10_1
    try clear hcz10_2
    try clear hcz12_0
    try clear hcz12_1
    try clear hcz12_2
    try clear hcz15_0
    try clear hcz15_1
    try clear hcz15_2
    try clear hfz10_0
    try clear hfz10_1
    try clear hfz10_2
    try clear hfz12_0
    try clear hfz12_1
    try clear hfz12_2
    try clear hfz15_0
    try clear hfz15_1
    try clear hfz15_2
    obtain ⟨kq, x15_2, rfl, HA, HJ2, BK309, BK310, HB⟩ := hcut
    cases kq with
    | zero => exact absurd HA.out (by simp [laminalaw04_ValueComplements.j0])
    | succ kj2 =>
      have H := HA.out
      clear HA
      simp only [laminalaw04_ValueComplements.j0] at H
      by_cases c17 : x15_2 = true
      · subst c17
        have H1 : ((laminalaw04_awake.f kj2).bind fun t313 => (some t313)) = some r := by rw [if_pos rfl] at H; exact H
        clear H
        have H := H1
        clear H1
        replace H := Option.bind_eq_some_iff.mp H
        obtain ⟨t313, A180, H⟩ := H
        replace H : (some t313) = some r := H
        have A18 := Aside0.mk A180
        clear A180
        obtain rfl := Option.some.inj H
        go_wp2_with (first | ((with_reducible refine gate_callee (f := 15) rfl ?_); refine goesL_ (some 16) rfl rfl Try.func15 (by kernel_rfl) rfl #[] rfl (by (try simp only [List.map_toArray, List.map_cons, List.map_nil]); first | done | rfl | (simp only [List.length_drop, List.length_take]; rfl) | (simp only [Int.ofNat_lt, Int.ofNat_le, gt_iff_lt, ge_iff_le]; rfl)) ?_; (with_reducible refine (laminalaw04_awake.calls kj2  t313 _ A18.out).mono ?_); rintro e w19 ⟨rfl, hb⟩; refine ⟨_, rfl, ?_⟩; have n0_ := Aside0.mk (blk_below (g := gb309) (o := .cells #[.int .i64 a0_0, .int .i64 a0_1, .string a0_2] 23 (0, 0)) (by (with_reducible repeat (first | refine blk_drewN ?_ _ | refine blk_drew ?_ | refine blk_alloc ?_ _)); exact BK309.out) hb); have n1_ := Aside0.mk (blk_below (g := gb310) (o := .cells #[.int .i64 a1_0, .int .i64 a1_1, .string a1_2] 23 (0, 0)) (by (with_reducible repeat (first | refine blk_drewN ?_ _ | refine blk_drew ?_ | refine blk_alloc ?_ _)); exact BK310.out) hb); have n2_ := Aside0.mk (below_step (by repeat (first | (with_reducible first | exact HB.out | apply below_alloc | apply pw_below_drewN | apply below_drew1 | refine below_set ?_ GE309.out | refine below_set ?_ GE310.out) | exact HB.out)) hb); clear BK309; clear BK310; clear HB; have BK309 := n0_; have BK310 := n1_; have HB := n2_; clear n0_ n1_ n2_; (try clear hb); (try clear hb2); (try clear hk); (try clear hi)))
        go_ret
        exact ⟨by first | rfl | (simp [errW_none, errW_some] <;> rfl) | (simp [*, errW_none, errW_some] <;> rfl), by repeat (first | (with_reducible first | exact HB.out | apply below_alloc | apply pw_below_drewN | apply below_drew1 | refine below_set ?_ GE309.out | refine below_set ?_ GE310.out) | exact HB.out)⟩
      · replace c17 := Bool.eq_false_iff.mpr c17
        subst c17
        have H1 : ((value_Test.f kj2 3 a0_0 a0_1 a0_2 a1_0 a1_1 a1_2).bind fun bt314 => ((value_Test.f kj2 1 a0_0 a0_1 a0_2 a1_0 a1_1 a1_2).bind fun bt317 => ((value_Test.f kj2 5 a0_0 a0_1 a0_2 a1_0 a1_1 a1_2).bind fun bt320 => ((value_Test.f kj2 6 a0_0 a0_1 a0_2 a1_0 a1_1 a1_2).bind fun bt326 => ((value_Not.f bt314.1 bt314.2.1 bt314.2.2).bind fun bt329 => (if (!(bt326.1 == bt329.1) || (!(bt326.2.1 == bt329.2.1) || (!(bt326.2.2.toList == bt329.2.2.toList)))) = true then (none) else ((value_Test.f kj2 2 a0_0 a0_1 a0_2 a1_0 a1_1 a1_2).bind fun bt332 => ((value_Not.f bt317.1 bt317.2.1 bt317.2.2).bind fun bt335 => (if (!(bt332.1 == bt335.1) || (!(bt332.2.1 == bt335.2.1) || (!(bt332.2.2.toList == bt335.2.2.toList)))) = true then (none) else ((value_Test.f kj2 4 a0_0 a0_1 a0_2 a1_0 a1_1 a1_2).bind fun bt338 => ((value_Not.f bt320.1 bt320.2.1 bt320.2.2).bind fun bt341 => (if (!(bt338.1 == bt341.1) || (!(bt338.2.1 == bt341.2.1) || (!(bt338.2.2.toList == bt341.2.2.toList)))) = true then (none) else (if a0_0 = 0 then (laminalaw04_ValueComplements.j1 kj2 true bt314.1 bt314.2.1 bt314.2.2 bt317.1 bt317.2.1 bt317.2.2 bt320.1 bt320.2.1 bt320.2.2) else (laminalaw04_ValueComplements.j1 kj2 (a0_0 != a1_0) bt314.1 bt314.2.1 bt314.2.2 bt317.1 bt317.2.1 bt317.2.2 bt320.1 bt320.2.1 bt320.2.2)))))))))))))) = some r := by rw [if_neg (show ¬ (false = true) by decide)] at H; exact H
        clear H
        have H := H1
        clear H1
        replace H := Option.bind_eq_some_iff.mp H
        obtain ⟨⟨t314, t315, t316⟩, A200, H⟩ := H
        replace H : ((value_Test.f kj2 1 a0_0 a0_1 a0_2 a1_0 a1_1 a1_2).bind fun bt317 => ((value_Test.f kj2 5 a0_0 a0_1 a0_2 a1_0 a1_1 a1_2).bind fun bt320 => ((value_Test.f kj2 6 a0_0 a0_1 a0_2 a1_0 a1_1 a1_2).bind fun bt326 => ((value_Not.f t314 t315 t316).bind fun bt329 => (if (!(bt326.1 == bt329.1) || (!(bt326.2.1 == bt329.2.1) || (!(bt326.2.2.toList == bt329.2.2.toList)))) = true then (none) else ((value_Test.f kj2 2 a0_0 a0_1 a0_2 a1_0 a1_1 a1_2).bind fun bt332 => ((value_Not.f bt317.1 bt317.2.1 bt317.2.2).bind fun bt335 => (if (!(bt332.1 == bt335.1) || (!(bt332.2.1 == bt335.2.1) || (!(bt332.2.2.toList == bt335.2.2.toList)))) = true then (none) else ((value_Test.f kj2 4 a0_0 a0_1 a0_2 a1_0 a1_1 a1_2).bind fun bt338 => ((value_Not.f bt320.1 bt320.2.1 bt320.2.2).bind fun bt341 => (if (!(bt338.1 == bt341.1) || (!(bt338.2.1 == bt341.2.1) || (!(bt338.2.2.toList == bt341.2.2.toList)))) = true then (none) else (if a0_0 = 0 then (laminalaw04_ValueComplements.j1 kj2 true t314 t315 t316 bt317.1 bt317.2.1 bt317.2.2 bt320.1 bt320.2.1 bt320.2.2) else (laminalaw04_ValueComplements.j1 kj2 (a0_0 != a1_0) t314 t315 t316 bt317.1 bt317.2.1 bt317.2.2 bt320.1 bt320.2.1 bt320.2.2))))))))))))) = some r := H
        have A20 := Aside0.mk A200
        clear A200
        replace H := Option.bind_eq_some_iff.mp H
        obtain ⟨⟨t317, t318, t319⟩, A210, H⟩ := H
        replace H : ((value_Test.f kj2 5 a0_0 a0_1 a0_2 a1_0 a1_1 a1_2).bind fun bt320 => ((value_Test.f kj2 6 a0_0 a0_1 a0_2 a1_0 a1_1 a1_2).bind fun bt326 => ((value_Not.f t314 t315 t316).bind fun bt329 => (if (!(bt326.1 == bt329.1) || (!(bt326.2.1 == bt329.2.1) || (!(bt326.2.2.toList == bt329.2.2.toList)))) = true then (none) else ((value_Test.f kj2 2 a0_0 a0_1 a0_2 a1_0 a1_1 a1_2).bind fun bt332 => ((value_Not.f t317 t318 t319).bind fun bt335 => (if (!(bt332.1 == bt335.1) || (!(bt332.2.1 == bt335.2.1) || (!(bt332.2.2.toList == bt335.2.2.toList)))) = true then (none) else ((value_Test.f kj2 4 a0_0 a0_1 a0_2 a1_0 a1_1 a1_2).bind fun bt338 => ((value_Not.f bt320.1 bt320.2.1 bt320.2.2).bind fun bt341 => (if (!(bt338.1 == bt341.1) || (!(bt338.2.1 == bt341.2.1) || (!(bt338.2.2.toList == bt341.2.2.toList)))) = true then (none) else (if a0_0 = 0 then (laminalaw04_ValueComplements.j1 kj2 true t314 t315 t316 t317 t318 t319 bt320.1 bt320.2.1 bt320.2.2) else (laminalaw04_ValueComplements.j1 kj2 (a0_0 != a1_0) t314 t315 t316 t317 t318 t319 bt320.1 bt320.2.1 bt320.2.2)))))))))))) = some r := H
        have A21 := Aside0.mk A210
        clear A210
        replace H := Option.bind_eq_some_iff.mp H
        obtain ⟨⟨t320, t321, t322⟩, A220, H⟩ := H
        replace H : ((value_Test.f kj2 6 a0_0 a0_1 a0_2 a1_0 a1_1 a1_2).bind fun bt326 => ((value_Not.f t314 t315 t316).bind fun bt329 => (if (!(bt326.1 == bt329.1) || (!(bt326.2.1 == bt329.2.1) || (!(bt326.2.2.toList == bt329.2.2.toList)))) = true then (none) else ((value_Test.f kj2 2 a0_0 a0_1 a0_2 a1_0 a1_1 a1_2).bind fun bt332 => ((value_Not.f t317 t318 t319).bind fun bt335 => (if (!(bt332.1 == bt335.1) || (!(bt332.2.1 == bt335.2.1) || (!(bt332.2.2.toList == bt335.2.2.toList)))) = true then (none) else ((value_Test.f kj2 4 a0_0 a0_1 a0_2 a1_0 a1_1 a1_2).bind fun bt338 => ((value_Not.f t320 t321 t322).bind fun bt341 => (if (!(bt338.1 == bt341.1) || (!(bt338.2.1 == bt341.2.1) || (!(bt338.2.2.toList == bt341.2.2.toList)))) = true then (none) else (if a0_0 = 0 then (laminalaw04_ValueComplements.j1 kj2 true t314 t315 t316 t317 t318 t319 t320 t321 t322) else (laminalaw04_ValueComplements.j1 kj2 (a0_0 != a1_0) t314 t315 t316 t317 t318 t319 t320 t321 t322))))))))))) = some r := H
        have A22 := Aside0.mk A220
        clear A220
        replace H := Option.bind_eq_some_iff.mp H
        obtain ⟨⟨t326, t327, t328⟩, A230, H⟩ := H
        replace H : ((value_Not.f t314 t315 t316).bind fun bt329 => (if (!(t326 == bt329.1) || (!(t327 == bt329.2.1) || (!(t328.toList == bt329.2.2.toList)))) = true then (none) else ((value_Test.f kj2 2 a0_0 a0_1 a0_2 a1_0 a1_1 a1_2).bind fun bt332 => ((value_Not.f t317 t318 t319).bind fun bt335 => (if (!(bt332.1 == bt335.1) || (!(bt332.2.1 == bt335.2.1) || (!(bt332.2.2.toList == bt335.2.2.toList)))) = true then (none) else ((value_Test.f kj2 4 a0_0 a0_1 a0_2 a1_0 a1_1 a1_2).bind fun bt338 => ((value_Not.f t320 t321 t322).bind fun bt341 => (if (!(bt338.1 == bt341.1) || (!(bt338.2.1 == bt341.2.1) || (!(bt338.2.2.toList == bt341.2.2.toList)))) = true then (none) else (if a0_0 = 0 then (laminalaw04_ValueComplements.j1 kj2 true t314 t315 t316 t317 t318 t319 t320 t321 t322) else (laminalaw04_ValueComplements.j1 kj2 (a0_0 != a1_0) t314 t315 t316 t317 t318 t319 t320 t321 t322)))))))))) = some r := H
        have A23 := Aside0.mk A230
        clear A230
        replace H := Option.bind_eq_some_iff.mp H
        obtain ⟨⟨t329, t330, t331⟩, A240, H⟩ := H
        replace H : (if (!(t326 == t329) || (!(t327 == t330) || (!(t328.toList == t331.toList)))) = true then (none) else ((value_Test.f kj2 2 a0_0 a0_1 a0_2 a1_0 a1_1 a1_2).bind fun bt332 => ((value_Not.f t317 t318 t319).bind fun bt335 => (if (!(bt332.1 == bt335.1) || (!(bt332.2.1 == bt335.2.1) || (!(bt332.2.2.toList == bt335.2.2.toList)))) = true then (none) else ((value_Test.f kj2 4 a0_0 a0_1 a0_2 a1_0 a1_1 a1_2).bind fun bt338 => ((value_Not.f t320 t321 t322).bind fun bt341 => (if (!(bt338.1 == bt341.1) || (!(bt338.2.1 == bt341.2.1) || (!(bt338.2.2.toList == bt341.2.2.toList)))) = true then (none) else (if a0_0 = 0 then (laminalaw04_ValueComplements.j1 kj2 true t314 t315 t316 t317 t318 t319 t320 t321 t322) else (laminalaw04_ValueComplements.j1 kj2 (a0_0 != a1_0) t314 t315 t316 t317 t318 t319 t320 t321 t322))))))))) = some r := H
        have A24 := Aside0.mk A240
        clear A240
        by_cases c25 : (!(t326 == t329) || (!(t327 == t330) || (!(t328.toList == t331.toList)))) = true
        · rw [if_pos c25] at H
          exact absurd H (by simp)
        · rw [if_neg c25] at H
          have c25b0 : (!(t326 == t329) || (!(t327 == t330) || (!(t328.toList == t331.toList)))) = false := by simpa using c25
          clear c25
          replace H := Option.bind_eq_some_iff.mp H
          obtain ⟨⟨t332, t333, t334⟩, A260, H⟩ := H
          replace H : ((value_Not.f t317 t318 t319).bind fun bt335 => (if (!(t332 == bt335.1) || (!(t333 == bt335.2.1) || (!(t334.toList == bt335.2.2.toList)))) = true then (none) else ((value_Test.f kj2 4 a0_0 a0_1 a0_2 a1_0 a1_1 a1_2).bind fun bt338 => ((value_Not.f t320 t321 t322).bind fun bt341 => (if (!(bt338.1 == bt341.1) || (!(bt338.2.1 == bt341.2.1) || (!(bt338.2.2.toList == bt341.2.2.toList)))) = true then (none) else (if a0_0 = 0 then (laminalaw04_ValueComplements.j1 kj2 true t314 t315 t316 t317 t318 t319 t320 t321 t322) else (laminalaw04_ValueComplements.j1 kj2 (a0_0 != a1_0) t314 t315 t316 t317 t318 t319 t320 t321 t322))))))) = some r := H
          have A26 := Aside0.mk A260
          clear A260
          replace H := Option.bind_eq_some_iff.mp H
          obtain ⟨⟨t335, t336, t337⟩, A270, H⟩ := H
          replace H : (if (!(t332 == t335) || (!(t333 == t336) || (!(t334.toList == t337.toList)))) = true then (none) else ((value_Test.f kj2 4 a0_0 a0_1 a0_2 a1_0 a1_1 a1_2).bind fun bt338 => ((value_Not.f t320 t321 t322).bind fun bt341 => (if (!(bt338.1 == bt341.1) || (!(bt338.2.1 == bt341.2.1) || (!(bt338.2.2.toList == bt341.2.2.toList)))) = true then (none) else (if a0_0 = 0 then (laminalaw04_ValueComplements.j1 kj2 true t314 t315 t316 t317 t318 t319 t320 t321 t322) else (laminalaw04_ValueComplements.j1 kj2 (a0_0 != a1_0) t314 t315 t316 t317 t318 t319 t320 t321 t322)))))) = some r := H
          have A27 := Aside0.mk A270
          clear A270
          by_cases c28 : (!(t332 == t335) || (!(t333 == t336) || (!(t334.toList == t337.toList)))) = true
          · rw [if_pos c28] at H
            exact absurd H (by simp)
          · rw [if_neg c28] at H
            have c28b0 : (!(t332 == t335) || (!(t333 == t336) || (!(t334.toList == t337.toList)))) = false := by simpa using c28
            clear c28
            replace H := Option.bind_eq_some_iff.mp H
            obtain ⟨⟨t338, t339, t340⟩, A290, H⟩ := H
            replace H : ((value_Not.f t320 t321 t322).bind fun bt341 => (if (!(t338 == bt341.1) || (!(t339 == bt341.2.1) || (!(t340.toList == bt341.2.2.toList)))) = true then (none) else (if a0_0 = 0 then (laminalaw04_ValueComplements.j1 kj2 true t314 t315 t316 t317 t318 t319 t320 t321 t322) else (laminalaw04_ValueComplements.j1 kj2 (a0_0 != a1_0) t314 t315 t316 t317 t318 t319 t320 t321 t322)))) = some r := H
            have A29 := Aside0.mk A290
            clear A290
            replace H := Option.bind_eq_some_iff.mp H
            obtain ⟨⟨t341, t342, t343⟩, A300, H⟩ := H
            replace H : (if (!(t338 == t341) || (!(t339 == t342) || (!(t340.toList == t343.toList)))) = true then (none) else (if a0_0 = 0 then (laminalaw04_ValueComplements.j1 kj2 true t314 t315 t316 t317 t318 t319 t320 t321 t322) else (laminalaw04_ValueComplements.j1 kj2 (a0_0 != a1_0) t314 t315 t316 t317 t318 t319 t320 t321 t322))) = some r := H
            have A30 := Aside0.mk A300
            clear A300
            by_cases c31 : (!(t338 == t341) || (!(t339 == t342) || (!(t340.toList == t343.toList)))) = true
            · rw [if_pos c31] at H
              exact absurd H (by simp)
            · rw [if_neg c31] at H
              have c31b0 : (!(t338 == t341) || (!(t339 == t342) || (!(t340.toList == t343.toList)))) = false := by simpa using c31
              clear c31
              have HC32 := Aside0.mk H
              clear H
              try go_wp2
              have n0_ := Aside0.mk (blk_drew BK309.out)
              have n1_ := Aside0.mk (blk_drew BK310.out)
              have n2_ := Aside0.mk (below_drew1 HB.out)
              clear BK309
              clear BK310
              clear HB
              have BK309 := n0_
              have BK310 := n1_
              have HB := n2_
              clear n0_ n1_ n2_
              refine start_ (n := 15) (S := fun w' => w'.cell? ⟨gb309, 0, none⟩ = some (.int .i64 a0_0) ∧ w'.cell? ⟨gb309, 1, none⟩ = some (.int .i64 a0_1) ∧ w'.cell? ⟨gb309, 2, none⟩ = some (.string a0_2) ∧ w'.cell? ⟨gb310, 0, none⟩ = some (.int .i64 a1_0) ∧ w'.cell? ⟨gb310, 1, none⟩ = some (.int .i64 a1_1) ∧ w'.cell? ⟨gb310, 2, none⟩ = some (.string a1_2)) (ds := []) #[false, false, false, false, false, false, false, false, false, false, false, false, false, false, false] (by kernel_rfl) rfl rfl ⟨(blk_cell BK309.out 0).trans rfl, (blk_cell BK309.out 1).trans rfl, (blk_cell BK309.out 2).trans rfl, (blk_cell BK310.out 0).trans rfl, (blk_cell BK310.out 1).trans rfl, (blk_cell BK310.out 2).trans rfl⟩ (fun hHeld => ?_); refine with_tabW laminalaw04_ValueComplements.tab3 laminalaw04_ValueComplements.bits3 (fun HT_ HW_ => ?_)
              generalize wc.drew = w33 at BK309 BK310 HB hHeld ⊢
              refine take_ (i := 0) (N := some 17) (v := ?_) (a' := ?_) #[true, false, false, false, false, false, false, false, false, false, false, false, false, false, false] rfl rfl (take_ofW HT_.out HW_.out (by kernel_rfl)) (fun _ _ _ h => h) (Or.inl ⟨by rfl, ?_⟩) hHeld ?_ ?_
              rotate_left
              · rintro w' ⟨s0, s1, s2, s3, s4, s5⟩
                go_simp
                with_reducible rfl
              rotate_left
              · simp only [Act.put, List.setIfInBounds_toArray, List.set_cons_zero, List.set_cons_succ, i64_w, i32_w]
                rfl
              refine take_ (i := 1) (N := some 18) (v := ?_) (a' := ?_) #[true, true, false, false, false, false, false, false, false, false, false, false, false, false, false] rfl rfl (take_ofW HT_.out HW_.out (by kernel_rfl)) (fun _ _ _ h => h) (Or.inl ⟨by rfl, ?_⟩) hHeld ?_ ?_
              rotate_left
              · rintro w' ⟨s0, s1, s2, s3, s4, s5⟩
                go_simp
                with_reducible rfl
              rotate_left
              · simp only [Act.put, List.setIfInBounds_toArray, List.set_cons_zero, List.set_cons_succ, i64_w, i32_w]
                rfl
              refine take_ (i := 3) (N := some 20) (v := ?_) (a' := ?_) #[true, true, false, true, false, false, false, false, false, false, false, false, false, false, false] rfl rfl (take_ofW HT_.out HW_.out (by kernel_rfl)) (fun _ _ _ h => h) (Or.inl ⟨by rfl, ?_⟩) hHeld ?_ ?_
              rotate_left
              · rintro w' ⟨s0, s1, s2, s3, s4, s5⟩
                go_simp
                with_reducible rfl
              rotate_left
              · simp only [Act.put, List.setIfInBounds_toArray, List.set_cons_zero, List.set_cons_succ, i64_w, i32_w]
                rfl
              refine take_ (i := 4) (N := some 21) (v := ?_) (a' := ?_) #[true, true, false, true, true, false, false, false, false, false, false, false, false, false, false] rfl rfl (take_ofW HT_.out HW_.out (by kernel_rfl)) (fun _ _ _ h => h) (Or.inl ⟨by rfl, ?_⟩) hHeld ?_ ?_
              rotate_left
              · rintro w' ⟨s0, s1, s2, s3, s4, s5⟩
                go_simp
                with_reducible rfl
              rotate_left
              · simp only [Act.put, List.setIfInBounds_toArray, List.set_cons_zero, List.set_cons_succ, i64_w, i32_w]
                rfl
              refine take_ (i := 6) (N := some 23) (v := ?_) (a' := ?_) #[true, true, false, true, true, false, true, false, false, false, false, false, false, false, false] rfl rfl (take_ofW HT_.out HW_.out (by kernel_rfl)) (fun _ _ _ h => h) (Or.inl ⟨by rfl, ?_⟩) hHeld ?_ ?_
              rotate_left
              · rintro w' ⟨s0, s1, s2, s3, s4, s5⟩
                go_simp
                with_reducible rfl
              rotate_left
              · simp only [Act.put, List.setIfInBounds_toArray, List.set_cons_zero, List.set_cons_succ, i64_w, i32_w]
                rfl
              refine take_ (i := 7) (N := some 24) (v := ?_) (a' := ?_) #[true, true, false, true, true, false, true, true, false, false, false, false, false, false, false] rfl rfl (take_ofW HT_.out HW_.out (by kernel_rfl)) (fun _ _ _ h => h) (Or.inl ⟨by rfl, ?_⟩) hHeld ?_ ?_
              rotate_left
              · rintro w' ⟨s0, s1, s2, s3, s4, s5⟩
                go_simp
                with_reducible rfl
              rotate_left
              · simp only [Act.put, List.setIfInBounds_toArray, List.set_cons_zero, List.set_cons_succ, i64_w, i32_w]
                rfl
              refine join_ (σ := Nat × Nat × Nat) 3 #[true, true, true, true, true, true, true, true, true, true, true, true, false, false, false] (fun s_ => [(19, .agg #[.int .i64 t314, .int .i64 t315, .string t316]), (22, .agg #[.int .i64 t317, .int .i64 t318, .string t319]), (25, .agg #[.int .i64 t320, .int .i64 t321, .string t322]), (5, .pointer (some ⟨s_.1, 0, none⟩)), (6, .pointer (some ⟨s_.2.1, 0, none⟩)), (7, .pointer (some ⟨s_.2.2, 0, none⟩))]) (fun s_ w' => (w'.cell? ⟨gb309, 0, none⟩ = some (.int .i64 a0_0) ∧ w'.cell? ⟨gb309, 1, none⟩ = some (.int .i64 a0_1) ∧ w'.cell? ⟨gb309, 2, none⟩ = some (.string a0_2) ∧ w'.cell? ⟨gb310, 0, none⟩ = some (.int .i64 a1_0) ∧ w'.cell? ⟨gb310, 1, none⟩ = some (.int .i64 a1_1) ∧ w'.cell? ⟨gb310, 2, none⟩ = some (.string a1_2)) ∧ (w'.heap[gb309]? = some (.cells #[.int .i64 a0_0, .int .i64 a0_1, .string a0_2] 23 (0, 0))) ∧ (w'.heap[gb310]? = some (.cells #[.int .i64 a1_0, .int .i64 a1_1, .string a1_2] 23 (0, 0))) ∧ (w'.heap[s_.1]? = some (.cells #[.int .i64 0, .int .i64 0, .string (⟨#[]⟩ : ByteArray)] 23 (0, 0))) ∧ (w'.heap[s_.2.1]? = some (.cells #[.int .i64 0, .int .i64 0, .string (⟨#[]⟩ : ByteArray)] 23 (0, 0))) ∧ (w'.heap[s_.2.2]? = some (.cells #[.int .i64 0, .int .i64 0, .string (⟨#[]⟩ : ByteArray)] 23 (0, 0))) ∧ (w.heap.size ≤ s_.1) ∧ (w.heap.size ≤ s_.1) ∧ (gb309 ≠ s_.1) ∧ (s_.1 ≠ gb309) ∧ (gb310 ≠ s_.1) ∧ (s_.1 ≠ gb310) ∧ (s_.2.1 ≠ s_.1) ∧ (s_.1 ≠ s_.2.1) ∧ (s_.2.2 ≠ s_.1) ∧ (s_.1 ≠ s_.2.2) ∧ (w.heap.size ≤ s_.2.1) ∧ (w.heap.size ≤ s_.2.1) ∧ (gb309 ≠ s_.2.1) ∧ (s_.2.1 ≠ gb309) ∧ (gb310 ≠ s_.2.1) ∧ (s_.2.1 ≠ gb310) ∧ (s_.2.2 ≠ s_.2.1) ∧ (s_.2.1 ≠ s_.2.2) ∧ (w.heap.size ≤ s_.2.2) ∧ (w.heap.size ≤ s_.2.2) ∧ (gb309 ≠ s_.2.2) ∧ (s_.2.2 ≠ gb309) ∧ (gb310 ≠ s_.2.2) ∧ (s_.2.2 ≠ gb310) ∧ (Below w.heap.size w w')) ?_ ?_
              rotate_left
              · intro hJ
                refine reify_ (fun Z a0 hZ ha0 => ?_)
                have HF0 : vF w gb309 gb310 (.cells #[.int .i64 a0_0, .int .i64 a0_1, .string a0_2] 23 (0, 0)) (.cells #[.int .i64 a1_0, .int .i64 a1_1, .string a1_2] 23 (0, 0)) (.cells #[.int .i64 0, .int .i64 0, .string (⟨#[]⟩ : ByteArray)] 23 (0, 0)) none none none w33 := ⟨BK309.out, BK310.out, HB.out, vOkN, vOkN, vOkN, vOk2N, vOk2N, vOk2R⟩
                have J3_012 : ∀ g0 g1 g2 w', vF w gb309 gb310 (.cells #[.int .i64 a0_0, .int .i64 a0_1, .string a0_2] 23 (0, 0)) (.cells #[.int .i64 a1_0, .int .i64 a1_1, .string a1_2] 23 (0, 0)) (.cells #[.int .i64 0, .int .i64 0, .string (⟨#[]⟩ : ByteArray)] 23 (0, 0)) (some g0) (some g1) (some g2) w' → Z 3 #[true, true, true, true, true, true, true, true, true, true, true, true, false, false, false] (putAll a0 [(19, .agg #[.int .i64 t314, .int .i64 t315, .string t316]), (22, .agg #[.int .i64 t317, .int .i64 t318, .string t319]), (25, .agg #[.int .i64 t320, .int .i64 t321, .string t322]), (5, .pointer (some ⟨g0, 0, none⟩)), (6, .pointer (some ⟨g1, 0, none⟩)), (7, .pointer (some ⟨g2, 0, none⟩))]) w' := by
                  intro g0 g1 g2 w' hF
                  rw [ha0]
                  obtain ⟨f1, f2, f3, f4, f5, f6, f7, f8, f9⟩ := id hF
                  obtain ⟨p1, p2, p3, p4⟩ := f4 g0 rfl
                  obtain ⟨q1, q2, q3, q4⟩ := f5 g1 rfl
                  obtain ⟨r1, r2, r3, r4⟩ := f6 g2 rfl
                  have n1 := f7 g0 g1 rfl rfl
                  have n2 := f8 g0 g2 rfl rfl
                  have n3 := f9 g1 g2 rfl rfl
                  exact (hZ _ _ _ _).2 (hJ (g0, g1, g2) w' ⟨vF_held hF, f1, f2, p1, q1, r1, p2, p2, p3, p3.symm, p4, p4.symm, n1.symm, n1, n2.symm, n2, q2, q2, q3, q3.symm, q4, q4.symm, n3.symm, n3, r2, r2, r3, r3.symm, r4, r4.symm, f3⟩)
                have J2_012 : ∀ g0 g1 g2 w', vF w gb309 gb310 (.cells #[.int .i64 a0_0, .int .i64 a0_1, .string a0_2] 23 (0, 0)) (.cells #[.int .i64 a1_0, .int .i64 a1_1, .string a1_2] 23 (0, 0)) (.cells #[.int .i64 0, .int .i64 0, .string (⟨#[]⟩ : ByteArray)] 23 (0, 0)) (some g0) (some g1) (some g2) w' → Z 4 #[true, true, true, true, true, true, true, true, false, true, true, true, false, false, false] (putAll a0 [(19, .agg #[.int .i64 t314, .int .i64 t315, .string t316]), (22, .agg #[.int .i64 t317, .int .i64 t318, .string t319]), (5, .pointer (some ⟨g0, 0, none⟩)), (6, .pointer (some ⟨g1, 0, none⟩)), (7, .pointer (some ⟨g2, 0, none⟩))]) w' := by
                  intro g0 g1 g2 w' hF
                  refine (hZ _ _ _ _).2 (one_ (i := 8) (N := some 25) #[true, true, true, true, true, true, true, true, true, true, true, true, false, false, false] rfl rfl (one_of HT_.out (by kernel_rfl)) (by decide) (fun K hK => ?_))
                  · refine goes_ Try.func19 (by kernel_rfl) rfl #[.int .i64 5, .agg #[.int .i64 a0_0, .int .i64 a0_1, .string a0_2], .agg #[.int .i64 a1_0, .int .i64 a1_1, .string a1_2]] (by rfl) rfl rfl (by rw [ha0]; (try simp only [putAll, Act.put, List.setIfInBounds_toArray, List.set_cons_zero, List.set_cons_succ, List.map_toArray, List.map_cons, List.map_nil]); rfl) ?_
                    with_reducible refine (value_Test.calls kj2 5 a0_0 a0_1 a0_2 a1_0 a1_1 a1_2 t320 t321 t322 _ A22.out).mono ?_
                    rintro e w2 ⟨rfl, hb⟩
                    refine ⟨_, rfl, ?_⟩
                    have hF2 := vF_below hF hb
                    exact hK.out _ _ (vF_held hF2) (fun _ => norm_ (by rw [ha0]; first | (simp only [putAll, Act.put, List.setIfInBounds_toArray, List.set_cons_zero, List.set_cons_succ]; done) | (simp only [putAll, Act.put, List.setIfInBounds_toArray, List.set_cons_zero, List.set_cons_succ]; rfl)) ((hZ _ _ _ _).1 (J3_012 g0 g1 g2 w2 hF2)))
                have J3_01 : ∀ g0 g1 w', vF w gb309 gb310 (.cells #[.int .i64 a0_0, .int .i64 a0_1, .string a0_2] 23 (0, 0)) (.cells #[.int .i64 a1_0, .int .i64 a1_1, .string a1_2] 23 (0, 0)) (.cells #[.int .i64 0, .int .i64 0, .string (⟨#[]⟩ : ByteArray)] 23 (0, 0)) (some g0) (some g1) none w' → Z 4 #[true, true, true, true, true, true, true, true, true, true, true, false, false, false, false] (putAll a0 [(19, .agg #[.int .i64 t314, .int .i64 t315, .string t316]), (22, .agg #[.int .i64 t317, .int .i64 t318, .string t319]), (25, .agg #[.int .i64 t320, .int .i64 t321, .string t322]), (5, .pointer (some ⟨g0, 0, none⟩)), (6, .pointer (some ⟨g1, 0, none⟩))]) w' := by
                  intro g0 g1 w' hF
                  refine (hZ _ _ _ _).2 (one_ (i := 11) (N := some 7) #[true, true, true, true, true, true, true, true, true, true, true, true, false, false, false] rfl rfl (one_of HT_.out (by kernel_rfl)) (by decide) (fun K hK => ?_))
                  · refine box_step ?hg (N := 7) ?hd (cs := #[.int .i64 0, .int .i64 0, .string (⟨#[]⟩ : ByteArray)]) (t := 23) ?hr ?_; (case hd => rfl); (case hg => rfl); (case hr => first | (go_simp; done) | (go_simp; rfl))
                    intro g2 hg w2 hbox hb
                    have hF2 := vF_2 hF hg hbox hb
                    exact hK.out _ _ (vF_held hF2) (fun _ => norm_ (by rw [ha0]; first | (simp only [putAll, Act.put, List.setIfInBounds_toArray, List.set_cons_zero, List.set_cons_succ]; done) | (simp only [putAll, Act.put, List.setIfInBounds_toArray, List.set_cons_zero, List.set_cons_succ]; rfl)) ((hZ _ _ _ _).1 (J3_012 g0 g1 g2 w2 hF2)))
                have J3_02 : ∀ g0 g2 w', vF w gb309 gb310 (.cells #[.int .i64 a0_0, .int .i64 a0_1, .string a0_2] 23 (0, 0)) (.cells #[.int .i64 a1_0, .int .i64 a1_1, .string a1_2] 23 (0, 0)) (.cells #[.int .i64 0, .int .i64 0, .string (⟨#[]⟩ : ByteArray)] 23 (0, 0)) (some g0) none (some g2) w' → Z 4 #[true, true, true, true, true, true, true, true, true, true, false, true, false, false, false] (putAll a0 [(19, .agg #[.int .i64 t314, .int .i64 t315, .string t316]), (22, .agg #[.int .i64 t317, .int .i64 t318, .string t319]), (25, .agg #[.int .i64 t320, .int .i64 t321, .string t322]), (5, .pointer (some ⟨g0, 0, none⟩)), (7, .pointer (some ⟨g2, 0, none⟩))]) w' := by
                  intro g0 g2 w' hF
                  refine (hZ _ _ _ _).2 (one_ (i := 10) (N := some 6) #[true, true, true, true, true, true, true, true, true, true, true, true, false, false, false] rfl rfl (one_of HT_.out (by kernel_rfl)) (by decide) (fun K hK => ?_))
                  · refine box_step ?hg (N := 6) ?hd (cs := #[.int .i64 0, .int .i64 0, .string (⟨#[]⟩ : ByteArray)]) (t := 23) ?hr ?_; (case hd => rfl); (case hg => rfl); (case hr => first | (go_simp; done) | (go_simp; rfl))
                    intro g1 hg w2 hbox hb
                    have hF2 := vF_1 hF hg hbox hb
                    exact hK.out _ _ (vF_held hF2) (fun _ => norm_ (by rw [ha0]; first | (simp only [putAll, Act.put, List.setIfInBounds_toArray, List.set_cons_zero, List.set_cons_succ]; done) | (simp only [putAll, Act.put, List.setIfInBounds_toArray, List.set_cons_zero, List.set_cons_succ]; rfl)) ((hZ _ _ _ _).1 (J3_012 g0 g1 g2 w2 hF2)))
                have J3_12 : ∀ g1 g2 w', vF w gb309 gb310 (.cells #[.int .i64 a0_0, .int .i64 a0_1, .string a0_2] 23 (0, 0)) (.cells #[.int .i64 a1_0, .int .i64 a1_1, .string a1_2] 23 (0, 0)) (.cells #[.int .i64 0, .int .i64 0, .string (⟨#[]⟩ : ByteArray)] 23 (0, 0)) none (some g1) (some g2) w' → Z 4 #[true, true, true, true, true, true, true, true, true, false, true, true, false, false, false] (putAll a0 [(19, .agg #[.int .i64 t314, .int .i64 t315, .string t316]), (22, .agg #[.int .i64 t317, .int .i64 t318, .string t319]), (25, .agg #[.int .i64 t320, .int .i64 t321, .string t322]), (6, .pointer (some ⟨g1, 0, none⟩)), (7, .pointer (some ⟨g2, 0, none⟩))]) w' := by
                  intro g1 g2 w' hF
                  refine (hZ _ _ _ _).2 (one_ (i := 9) (N := some 5) #[true, true, true, true, true, true, true, true, true, true, true, true, false, false, false] rfl rfl (one_of HT_.out (by kernel_rfl)) (by decide) (fun K hK => ?_))
                  · refine box_step ?hg (N := 5) ?hd (cs := #[.int .i64 0, .int .i64 0, .string (⟨#[]⟩ : ByteArray)]) (t := 23) ?hr ?_; (case hd => rfl); (case hg => rfl); (case hr => first | (go_simp; done) | (go_simp; rfl))
                    intro g0 hg w2 hbox hb
                    have hF2 := vF_0 hF hg hbox hb
                    exact hK.out _ _ (vF_held hF2) (fun _ => norm_ (by rw [ha0]; first | (simp only [putAll, Act.put, List.setIfInBounds_toArray, List.set_cons_zero, List.set_cons_succ]; done) | (simp only [putAll, Act.put, List.setIfInBounds_toArray, List.set_cons_zero, List.set_cons_succ]; rfl)) ((hZ _ _ _ _).1 (J3_012 g0 g1 g2 w2 hF2)))
                have J1_012 : ∀ g0 g1 g2 w', vF w gb309 gb310 (.cells #[.int .i64 a0_0, .int .i64 a0_1, .string a0_2] 23 (0, 0)) (.cells #[.int .i64 a1_0, .int .i64 a1_1, .string a1_2] 23 (0, 0)) (.cells #[.int .i64 0, .int .i64 0, .string (⟨#[]⟩ : ByteArray)] 23 (0, 0)) (some g0) (some g1) (some g2) w' → Z 5 #[true, true, true, true, true, false, true, true, false, true, true, true, false, false, false] (putAll a0 [(19, .agg #[.int .i64 t314, .int .i64 t315, .string t316]), (5, .pointer (some ⟨g0, 0, none⟩)), (6, .pointer (some ⟨g1, 0, none⟩)), (7, .pointer (some ⟨g2, 0, none⟩))]) w' := by
                  intro g0 g1 g2 w' hF
                  refine (hZ _ _ _ _).2 (one_ (i := 5) (N := some 22) #[true, true, true, true, true, true, true, true, false, true, true, true, false, false, false] rfl rfl (one_of HT_.out (by kernel_rfl)) (by decide) (fun K hK => ?_))
                  · refine goes_ Try.func19 (by kernel_rfl) rfl #[.int .i64 1, .agg #[.int .i64 a0_0, .int .i64 a0_1, .string a0_2], .agg #[.int .i64 a1_0, .int .i64 a1_1, .string a1_2]] (by rfl) rfl rfl (by rw [ha0]; (try simp only [putAll, Act.put, List.setIfInBounds_toArray, List.set_cons_zero, List.set_cons_succ, List.map_toArray, List.map_cons, List.map_nil]); rfl) ?_
                    with_reducible refine (value_Test.calls kj2 1 a0_0 a0_1 a0_2 a1_0 a1_1 a1_2 t317 t318 t319 _ A21.out).mono ?_
                    rintro e w2 ⟨rfl, hb⟩
                    refine ⟨_, rfl, ?_⟩
                    have hF2 := vF_below hF hb
                    exact hK.out _ _ (vF_held hF2) (fun _ => norm_ (by rw [ha0]; first | (simp only [putAll, Act.put, List.setIfInBounds_toArray, List.set_cons_zero, List.set_cons_succ]; done) | (simp only [putAll, Act.put, List.setIfInBounds_toArray, List.set_cons_zero, List.set_cons_succ]; rfl)) ((hZ _ _ _ _).1 (J2_012 g0 g1 g2 w2 hF2)))
                have J2_01 : ∀ g0 g1 w', vF w gb309 gb310 (.cells #[.int .i64 a0_0, .int .i64 a0_1, .string a0_2] 23 (0, 0)) (.cells #[.int .i64 a1_0, .int .i64 a1_1, .string a1_2] 23 (0, 0)) (.cells #[.int .i64 0, .int .i64 0, .string (⟨#[]⟩ : ByteArray)] 23 (0, 0)) (some g0) (some g1) none w' → Z 5 #[true, true, true, true, true, true, true, true, false, true, true, false, false, false, false] (putAll a0 [(19, .agg #[.int .i64 t314, .int .i64 t315, .string t316]), (22, .agg #[.int .i64 t317, .int .i64 t318, .string t319]), (5, .pointer (some ⟨g0, 0, none⟩)), (6, .pointer (some ⟨g1, 0, none⟩))]) w' := by
                  intro g0 g1 w' hF
                  refine (hZ _ _ _ _).2 (two_ (i := 8) (j := 11) (Ni := some 25) (Nj := some 7) #[true, true, true, true, true, true, true, true, true, true, true, false, false, false, false] #[true, true, true, true, true, true, true, true, false, true, true, true, false, false, false] rfl rfl rfl rfl (two_of HT_.out (by kernel_rfl)) (by decide) (by decide) (fun K hK => ?_) (fun K hK => ?_))
                  · refine goes_ Try.func19 (by kernel_rfl) rfl #[.int .i64 5, .agg #[.int .i64 a0_0, .int .i64 a0_1, .string a0_2], .agg #[.int .i64 a1_0, .int .i64 a1_1, .string a1_2]] (by rfl) rfl rfl (by rw [ha0]; (try simp only [putAll, Act.put, List.setIfInBounds_toArray, List.set_cons_zero, List.set_cons_succ, List.map_toArray, List.map_cons, List.map_nil]); rfl) ?_
                    with_reducible refine (value_Test.calls kj2 5 a0_0 a0_1 a0_2 a1_0 a1_1 a1_2 t320 t321 t322 _ A22.out).mono ?_
                    rintro e w2 ⟨rfl, hb⟩
                    refine ⟨_, rfl, ?_⟩
                    have hF2 := vF_below hF hb
                    exact hK.out _ _ (vF_held hF2) (fun _ => norm_ (by rw [ha0]; first | (simp only [putAll, Act.put, List.setIfInBounds_toArray, List.set_cons_zero, List.set_cons_succ]; done) | (simp only [putAll, Act.put, List.setIfInBounds_toArray, List.set_cons_zero, List.set_cons_succ]; rfl)) ((hZ _ _ _ _).1 (J3_01 g0 g1 w2 hF2)))
                  · refine box_step ?hg (N := 7) ?hd (cs := #[.int .i64 0, .int .i64 0, .string (⟨#[]⟩ : ByteArray)]) (t := 23) ?hr ?_; (case hd => rfl); (case hg => rfl); (case hr => first | (go_simp; done) | (go_simp; rfl))
                    intro g2 hg w2 hbox hb
                    have hF2 := vF_2 hF hg hbox hb
                    exact hK.out _ _ (vF_held hF2) (fun _ => norm_ (by rw [ha0]; first | (simp only [putAll, Act.put, List.setIfInBounds_toArray, List.set_cons_zero, List.set_cons_succ]; done) | (simp only [putAll, Act.put, List.setIfInBounds_toArray, List.set_cons_zero, List.set_cons_succ]; rfl)) ((hZ _ _ _ _).1 (J2_012 g0 g1 g2 w2 hF2)))
                have J2_02 : ∀ g0 g2 w', vF w gb309 gb310 (.cells #[.int .i64 a0_0, .int .i64 a0_1, .string a0_2] 23 (0, 0)) (.cells #[.int .i64 a1_0, .int .i64 a1_1, .string a1_2] 23 (0, 0)) (.cells #[.int .i64 0, .int .i64 0, .string (⟨#[]⟩ : ByteArray)] 23 (0, 0)) (some g0) none (some g2) w' → Z 5 #[true, true, true, true, true, true, true, true, false, true, false, true, false, false, false] (putAll a0 [(19, .agg #[.int .i64 t314, .int .i64 t315, .string t316]), (22, .agg #[.int .i64 t317, .int .i64 t318, .string t319]), (5, .pointer (some ⟨g0, 0, none⟩)), (7, .pointer (some ⟨g2, 0, none⟩))]) w' := by
                  intro g0 g2 w' hF
                  refine (hZ _ _ _ _).2 (two_ (i := 8) (j := 10) (Ni := some 25) (Nj := some 6) #[true, true, true, true, true, true, true, true, true, true, false, true, false, false, false] #[true, true, true, true, true, true, true, true, false, true, true, true, false, false, false] rfl rfl rfl rfl (two_of HT_.out (by kernel_rfl)) (by decide) (by decide) (fun K hK => ?_) (fun K hK => ?_))
                  · refine goes_ Try.func19 (by kernel_rfl) rfl #[.int .i64 5, .agg #[.int .i64 a0_0, .int .i64 a0_1, .string a0_2], .agg #[.int .i64 a1_0, .int .i64 a1_1, .string a1_2]] (by rfl) rfl rfl (by rw [ha0]; (try simp only [putAll, Act.put, List.setIfInBounds_toArray, List.set_cons_zero, List.set_cons_succ, List.map_toArray, List.map_cons, List.map_nil]); rfl) ?_
                    with_reducible refine (value_Test.calls kj2 5 a0_0 a0_1 a0_2 a1_0 a1_1 a1_2 t320 t321 t322 _ A22.out).mono ?_
                    rintro e w2 ⟨rfl, hb⟩
                    refine ⟨_, rfl, ?_⟩
                    have hF2 := vF_below hF hb
                    exact hK.out _ _ (vF_held hF2) (fun _ => norm_ (by rw [ha0]; first | (simp only [putAll, Act.put, List.setIfInBounds_toArray, List.set_cons_zero, List.set_cons_succ]; done) | (simp only [putAll, Act.put, List.setIfInBounds_toArray, List.set_cons_zero, List.set_cons_succ]; rfl)) ((hZ _ _ _ _).1 (J3_02 g0 g2 w2 hF2)))
                  · refine box_step ?hg (N := 6) ?hd (cs := #[.int .i64 0, .int .i64 0, .string (⟨#[]⟩ : ByteArray)]) (t := 23) ?hr ?_; (case hd => rfl); (case hg => rfl); (case hr => first | (go_simp; done) | (go_simp; rfl))
                    intro g1 hg w2 hbox hb
                    have hF2 := vF_1 hF hg hbox hb
                    exact hK.out _ _ (vF_held hF2) (fun _ => norm_ (by rw [ha0]; first | (simp only [putAll, Act.put, List.setIfInBounds_toArray, List.set_cons_zero, List.set_cons_succ]; done) | (simp only [putAll, Act.put, List.setIfInBounds_toArray, List.set_cons_zero, List.set_cons_succ]; rfl)) ((hZ _ _ _ _).1 (J2_012 g0 g1 g2 w2 hF2)))
                have J2_12 : ∀ g1 g2 w', vF w gb309 gb310 (.cells #[.int .i64 a0_0, .int .i64 a0_1, .string a0_2] 23 (0, 0)) (.cells #[.int .i64 a1_0, .int .i64 a1_1, .string a1_2] 23 (0, 0)) (.cells #[.int .i64 0, .int .i64 0, .string (⟨#[]⟩ : ByteArray)] 23 (0, 0)) none (some g1) (some g2) w' → Z 5 #[true, true, true, true, true, true, true, true, false, false, true, true, false, false, false] (putAll a0 [(19, .agg #[.int .i64 t314, .int .i64 t315, .string t316]), (22, .agg #[.int .i64 t317, .int .i64 t318, .string t319]), (6, .pointer (some ⟨g1, 0, none⟩)), (7, .pointer (some ⟨g2, 0, none⟩))]) w' := by
                  intro g1 g2 w' hF
                  refine (hZ _ _ _ _).2 (two_ (i := 8) (j := 9) (Ni := some 25) (Nj := some 5) #[true, true, true, true, true, true, true, true, true, false, true, true, false, false, false] #[true, true, true, true, true, true, true, true, false, true, true, true, false, false, false] rfl rfl rfl rfl (two_of HT_.out (by kernel_rfl)) (by decide) (by decide) (fun K hK => ?_) (fun K hK => ?_))
                  · refine goes_ Try.func19 (by kernel_rfl) rfl #[.int .i64 5, .agg #[.int .i64 a0_0, .int .i64 a0_1, .string a0_2], .agg #[.int .i64 a1_0, .int .i64 a1_1, .string a1_2]] (by rfl) rfl rfl (by rw [ha0]; (try simp only [putAll, Act.put, List.setIfInBounds_toArray, List.set_cons_zero, List.set_cons_succ, List.map_toArray, List.map_cons, List.map_nil]); rfl) ?_
                    with_reducible refine (value_Test.calls kj2 5 a0_0 a0_1 a0_2 a1_0 a1_1 a1_2 t320 t321 t322 _ A22.out).mono ?_
                    rintro e w2 ⟨rfl, hb⟩
                    refine ⟨_, rfl, ?_⟩
                    have hF2 := vF_below hF hb
                    exact hK.out _ _ (vF_held hF2) (fun _ => norm_ (by rw [ha0]; first | (simp only [putAll, Act.put, List.setIfInBounds_toArray, List.set_cons_zero, List.set_cons_succ]; done) | (simp only [putAll, Act.put, List.setIfInBounds_toArray, List.set_cons_zero, List.set_cons_succ]; rfl)) ((hZ _ _ _ _).1 (J3_12 g1 g2 w2 hF2)))
                  · refine box_step ?hg (N := 5) ?hd (cs := #[.int .i64 0, .int .i64 0, .string (⟨#[]⟩ : ByteArray)]) (t := 23) ?hr ?_; (case hd => rfl); (case hg => rfl); (case hr => first | (go_simp; done) | (go_simp; rfl))
                    intro g0 hg w2 hbox hb
                    have hF2 := vF_0 hF hg hbox hb
                    exact hK.out _ _ (vF_held hF2) (fun _ => norm_ (by rw [ha0]; first | (simp only [putAll, Act.put, List.setIfInBounds_toArray, List.set_cons_zero, List.set_cons_succ]; done) | (simp only [putAll, Act.put, List.setIfInBounds_toArray, List.set_cons_zero, List.set_cons_succ]; rfl)) ((hZ _ _ _ _).1 (J2_012 g0 g1 g2 w2 hF2)))
                have J3_0 : ∀ g0 w', vF w gb309 gb310 (.cells #[.int .i64 a0_0, .int .i64 a0_1, .string a0_2] 23 (0, 0)) (.cells #[.int .i64 a1_0, .int .i64 a1_1, .string a1_2] 23 (0, 0)) (.cells #[.int .i64 0, .int .i64 0, .string (⟨#[]⟩ : ByteArray)] 23 (0, 0)) (some g0) none none w' → Z 5 #[true, true, true, true, true, true, true, true, true, true, false, false, false, false, false] (putAll a0 [(19, .agg #[.int .i64 t314, .int .i64 t315, .string t316]), (22, .agg #[.int .i64 t317, .int .i64 t318, .string t319]), (25, .agg #[.int .i64 t320, .int .i64 t321, .string t322]), (5, .pointer (some ⟨g0, 0, none⟩))]) w' := by
                  intro g0 w' hF
                  refine (hZ _ _ _ _).2 (two_ (i := 10) (j := 11) (Ni := some 6) (Nj := some 7) #[true, true, true, true, true, true, true, true, true, true, true, false, false, false, false] #[true, true, true, true, true, true, true, true, true, true, false, true, false, false, false] rfl rfl rfl rfl (two_of HT_.out (by kernel_rfl)) (by decide) (by decide) (fun K hK => ?_) (fun K hK => ?_))
                  · refine box_step ?hg (N := 6) ?hd (cs := #[.int .i64 0, .int .i64 0, .string (⟨#[]⟩ : ByteArray)]) (t := 23) ?hr ?_; (case hd => rfl); (case hg => rfl); (case hr => first | (go_simp; done) | (go_simp; rfl))
                    intro g1 hg w2 hbox hb
                    have hF2 := vF_1 hF hg hbox hb
                    exact hK.out _ _ (vF_held hF2) (fun _ => norm_ (by rw [ha0]; first | (simp only [putAll, Act.put, List.setIfInBounds_toArray, List.set_cons_zero, List.set_cons_succ]; done) | (simp only [putAll, Act.put, List.setIfInBounds_toArray, List.set_cons_zero, List.set_cons_succ]; rfl)) ((hZ _ _ _ _).1 (J3_01 g0 g1 w2 hF2)))
                  · refine box_step ?hg (N := 7) ?hd (cs := #[.int .i64 0, .int .i64 0, .string (⟨#[]⟩ : ByteArray)]) (t := 23) ?hr ?_; (case hd => rfl); (case hg => rfl); (case hr => first | (go_simp; done) | (go_simp; rfl))
                    intro g2 hg w2 hbox hb
                    have hF2 := vF_2 hF hg hbox hb
                    exact hK.out _ _ (vF_held hF2) (fun _ => norm_ (by rw [ha0]; first | (simp only [putAll, Act.put, List.setIfInBounds_toArray, List.set_cons_zero, List.set_cons_succ]; done) | (simp only [putAll, Act.put, List.setIfInBounds_toArray, List.set_cons_zero, List.set_cons_succ]; rfl)) ((hZ _ _ _ _).1 (J3_02 g0 g2 w2 hF2)))
                have J3_1 : ∀ g1 w', vF w gb309 gb310 (.cells #[.int .i64 a0_0, .int .i64 a0_1, .string a0_2] 23 (0, 0)) (.cells #[.int .i64 a1_0, .int .i64 a1_1, .string a1_2] 23 (0, 0)) (.cells #[.int .i64 0, .int .i64 0, .string (⟨#[]⟩ : ByteArray)] 23 (0, 0)) none (some g1) none w' → Z 5 #[true, true, true, true, true, true, true, true, true, false, true, false, false, false, false] (putAll a0 [(19, .agg #[.int .i64 t314, .int .i64 t315, .string t316]), (22, .agg #[.int .i64 t317, .int .i64 t318, .string t319]), (25, .agg #[.int .i64 t320, .int .i64 t321, .string t322]), (6, .pointer (some ⟨g1, 0, none⟩))]) w' := by
                  intro g1 w' hF
                  refine (hZ _ _ _ _).2 (two_ (i := 9) (j := 11) (Ni := some 5) (Nj := some 7) #[true, true, true, true, true, true, true, true, true, true, true, false, false, false, false] #[true, true, true, true, true, true, true, true, true, false, true, true, false, false, false] rfl rfl rfl rfl (two_of HT_.out (by kernel_rfl)) (by decide) (by decide) (fun K hK => ?_) (fun K hK => ?_))
                  · refine box_step ?hg (N := 5) ?hd (cs := #[.int .i64 0, .int .i64 0, .string (⟨#[]⟩ : ByteArray)]) (t := 23) ?hr ?_; (case hd => rfl); (case hg => rfl); (case hr => first | (go_simp; done) | (go_simp; rfl))
                    intro g0 hg w2 hbox hb
                    have hF2 := vF_0 hF hg hbox hb
                    exact hK.out _ _ (vF_held hF2) (fun _ => norm_ (by rw [ha0]; first | (simp only [putAll, Act.put, List.setIfInBounds_toArray, List.set_cons_zero, List.set_cons_succ]; done) | (simp only [putAll, Act.put, List.setIfInBounds_toArray, List.set_cons_zero, List.set_cons_succ]; rfl)) ((hZ _ _ _ _).1 (J3_01 g0 g1 w2 hF2)))
                  · refine box_step ?hg (N := 7) ?hd (cs := #[.int .i64 0, .int .i64 0, .string (⟨#[]⟩ : ByteArray)]) (t := 23) ?hr ?_; (case hd => rfl); (case hg => rfl); (case hr => first | (go_simp; done) | (go_simp; rfl))
                    intro g2 hg w2 hbox hb
                    have hF2 := vF_2 hF hg hbox hb
                    exact hK.out _ _ (vF_held hF2) (fun _ => norm_ (by rw [ha0]; first | (simp only [putAll, Act.put, List.setIfInBounds_toArray, List.set_cons_zero, List.set_cons_succ]; done) | (simp only [putAll, Act.put, List.setIfInBounds_toArray, List.set_cons_zero, List.set_cons_succ]; rfl)) ((hZ _ _ _ _).1 (J3_12 g1 g2 w2 hF2)))
                have J3_2 : ∀ g2 w', vF w gb309 gb310 (.cells #[.int .i64 a0_0, .int .i64 a0_1, .string a0_2] 23 (0, 0)) (.cells #[.int .i64 a1_0, .int .i64 a1_1, .string a1_2] 23 (0, 0)) (.cells #[.int .i64 0, .int .i64 0, .string (⟨#[]⟩ : ByteArray)] 23 (0, 0)) none none (some g2) w' → Z 5 #[true, true, true, true, true, true, true, true, true, false, false, true, false, false, false] (putAll a0 [(19, .agg #[.int .i64 t314, .int .i64 t315, .string t316]), (22, .agg #[.int .i64 t317, .int .i64 t318, .string t319]), (25, .agg #[.int .i64 t320, .int .i64 t321, .string t322]), (7, .pointer (some ⟨g2, 0, none⟩))]) w' := by
                  intro g2 w' hF
                  refine (hZ _ _ _ _).2 (two_ (i := 9) (j := 10) (Ni := some 5) (Nj := some 6) #[true, true, true, true, true, true, true, true, true, true, false, true, false, false, false] #[true, true, true, true, true, true, true, true, true, false, true, true, false, false, false] rfl rfl rfl rfl (two_of HT_.out (by kernel_rfl)) (by decide) (by decide) (fun K hK => ?_) (fun K hK => ?_))
                  · refine box_step ?hg (N := 5) ?hd (cs := #[.int .i64 0, .int .i64 0, .string (⟨#[]⟩ : ByteArray)]) (t := 23) ?hr ?_; (case hd => rfl); (case hg => rfl); (case hr => first | (go_simp; done) | (go_simp; rfl))
                    intro g0 hg w2 hbox hb
                    have hF2 := vF_0 hF hg hbox hb
                    exact hK.out _ _ (vF_held hF2) (fun _ => norm_ (by rw [ha0]; first | (simp only [putAll, Act.put, List.setIfInBounds_toArray, List.set_cons_zero, List.set_cons_succ]; done) | (simp only [putAll, Act.put, List.setIfInBounds_toArray, List.set_cons_zero, List.set_cons_succ]; rfl)) ((hZ _ _ _ _).1 (J3_02 g0 g2 w2 hF2)))
                  · refine box_step ?hg (N := 6) ?hd (cs := #[.int .i64 0, .int .i64 0, .string (⟨#[]⟩ : ByteArray)]) (t := 23) ?hr ?_; (case hd => rfl); (case hg => rfl); (case hr => first | (go_simp; done) | (go_simp; rfl))
                    intro g1 hg w2 hbox hb
                    have hF2 := vF_1 hF hg hbox hb
                    exact hK.out _ _ (vF_held hF2) (fun _ => norm_ (by rw [ha0]; first | (simp only [putAll, Act.put, List.setIfInBounds_toArray, List.set_cons_zero, List.set_cons_succ]; done) | (simp only [putAll, Act.put, List.setIfInBounds_toArray, List.set_cons_zero, List.set_cons_succ]; rfl)) ((hZ _ _ _ _).1 (J3_12 g1 g2 w2 hF2)))
                have J0_012 : ∀ g0 g1 g2 w', vF w gb309 gb310 (.cells #[.int .i64 a0_0, .int .i64 a0_1, .string a0_2] 23 (0, 0)) (.cells #[.int .i64 a1_0, .int .i64 a1_1, .string a1_2] 23 (0, 0)) (.cells #[.int .i64 0, .int .i64 0, .string (⟨#[]⟩ : ByteArray)] 23 (0, 0)) (some g0) (some g1) (some g2) w' → Z 6 #[true, true, false, true, true, false, true, true, false, true, true, true, false, false, false] (putAll a0 [(5, .pointer (some ⟨g0, 0, none⟩)), (6, .pointer (some ⟨g1, 0, none⟩)), (7, .pointer (some ⟨g2, 0, none⟩))]) w' := by
                  intro g0 g1 g2 w' hF
                  refine (hZ _ _ _ _).2 (one_ (i := 2) (N := some 19) #[true, true, true, true, true, false, true, true, false, true, true, true, false, false, false] rfl rfl (one_of HT_.out (by kernel_rfl)) (by decide) (fun K hK => ?_))
                  · refine goes_ Try.func19 (by kernel_rfl) rfl #[.int .i64 3, .agg #[.int .i64 a0_0, .int .i64 a0_1, .string a0_2], .agg #[.int .i64 a1_0, .int .i64 a1_1, .string a1_2]] (by rfl) rfl rfl (by rw [ha0]; (try simp only [putAll, Act.put, List.setIfInBounds_toArray, List.set_cons_zero, List.set_cons_succ, List.map_toArray, List.map_cons, List.map_nil]); rfl) ?_
                    with_reducible refine (value_Test.calls kj2 3 a0_0 a0_1 a0_2 a1_0 a1_1 a1_2 t314 t315 t316 _ A20.out).mono ?_
                    rintro e w2 ⟨rfl, hb⟩
                    refine ⟨_, rfl, ?_⟩
                    have hF2 := vF_below hF hb
                    exact hK.out _ _ (vF_held hF2) (fun _ => norm_ (by rw [ha0]; first | (simp only [putAll, Act.put, List.setIfInBounds_toArray, List.set_cons_zero, List.set_cons_succ]; done) | (simp only [putAll, Act.put, List.setIfInBounds_toArray, List.set_cons_zero, List.set_cons_succ]; rfl)) ((hZ _ _ _ _).1 (J1_012 g0 g1 g2 w2 hF2)))
                have J1_01 : ∀ g0 g1 w', vF w gb309 gb310 (.cells #[.int .i64 a0_0, .int .i64 a0_1, .string a0_2] 23 (0, 0)) (.cells #[.int .i64 a1_0, .int .i64 a1_1, .string a1_2] 23 (0, 0)) (.cells #[.int .i64 0, .int .i64 0, .string (⟨#[]⟩ : ByteArray)] 23 (0, 0)) (some g0) (some g1) none w' → Z 6 #[true, true, true, true, true, false, true, true, false, true, true, false, false, false, false] (putAll a0 [(19, .agg #[.int .i64 t314, .int .i64 t315, .string t316]), (5, .pointer (some ⟨g0, 0, none⟩)), (6, .pointer (some ⟨g1, 0, none⟩))]) w' := by
                  intro g0 g1 w' hF
                  refine (hZ _ _ _ _).2 (two_ (i := 5) (j := 11) (Ni := some 22) (Nj := some 7) #[true, true, true, true, true, true, true, true, false, true, true, false, false, false, false] #[true, true, true, true, true, false, true, true, false, true, true, true, false, false, false] rfl rfl rfl rfl (two_of HT_.out (by kernel_rfl)) (by decide) (by decide) (fun K hK => ?_) (fun K hK => ?_))
                  · refine goes_ Try.func19 (by kernel_rfl) rfl #[.int .i64 1, .agg #[.int .i64 a0_0, .int .i64 a0_1, .string a0_2], .agg #[.int .i64 a1_0, .int .i64 a1_1, .string a1_2]] (by rfl) rfl rfl (by rw [ha0]; (try simp only [putAll, Act.put, List.setIfInBounds_toArray, List.set_cons_zero, List.set_cons_succ, List.map_toArray, List.map_cons, List.map_nil]); rfl) ?_
                    with_reducible refine (value_Test.calls kj2 1 a0_0 a0_1 a0_2 a1_0 a1_1 a1_2 t317 t318 t319 _ A21.out).mono ?_
                    rintro e w2 ⟨rfl, hb⟩
                    refine ⟨_, rfl, ?_⟩
                    have hF2 := vF_below hF hb
                    exact hK.out _ _ (vF_held hF2) (fun _ => norm_ (by rw [ha0]; first | (simp only [putAll, Act.put, List.setIfInBounds_toArray, List.set_cons_zero, List.set_cons_succ]; done) | (simp only [putAll, Act.put, List.setIfInBounds_toArray, List.set_cons_zero, List.set_cons_succ]; rfl)) ((hZ _ _ _ _).1 (J2_01 g0 g1 w2 hF2)))
                  · refine box_step ?hg (N := 7) ?hd (cs := #[.int .i64 0, .int .i64 0, .string (⟨#[]⟩ : ByteArray)]) (t := 23) ?hr ?_; (case hd => rfl); (case hg => rfl); (case hr => first | (go_simp; done) | (go_simp; rfl))
                    intro g2 hg w2 hbox hb
                    have hF2 := vF_2 hF hg hbox hb
                    exact hK.out _ _ (vF_held hF2) (fun _ => norm_ (by rw [ha0]; first | (simp only [putAll, Act.put, List.setIfInBounds_toArray, List.set_cons_zero, List.set_cons_succ]; done) | (simp only [putAll, Act.put, List.setIfInBounds_toArray, List.set_cons_zero, List.set_cons_succ]; rfl)) ((hZ _ _ _ _).1 (J1_012 g0 g1 g2 w2 hF2)))
                have J1_02 : ∀ g0 g2 w', vF w gb309 gb310 (.cells #[.int .i64 a0_0, .int .i64 a0_1, .string a0_2] 23 (0, 0)) (.cells #[.int .i64 a1_0, .int .i64 a1_1, .string a1_2] 23 (0, 0)) (.cells #[.int .i64 0, .int .i64 0, .string (⟨#[]⟩ : ByteArray)] 23 (0, 0)) (some g0) none (some g2) w' → Z 6 #[true, true, true, true, true, false, true, true, false, true, false, true, false, false, false] (putAll a0 [(19, .agg #[.int .i64 t314, .int .i64 t315, .string t316]), (5, .pointer (some ⟨g0, 0, none⟩)), (7, .pointer (some ⟨g2, 0, none⟩))]) w' := by
                  intro g0 g2 w' hF
                  refine (hZ _ _ _ _).2 (two_ (i := 5) (j := 10) (Ni := some 22) (Nj := some 6) #[true, true, true, true, true, true, true, true, false, true, false, true, false, false, false] #[true, true, true, true, true, false, true, true, false, true, true, true, false, false, false] rfl rfl rfl rfl (two_of HT_.out (by kernel_rfl)) (by decide) (by decide) (fun K hK => ?_) (fun K hK => ?_))
                  · refine goes_ Try.func19 (by kernel_rfl) rfl #[.int .i64 1, .agg #[.int .i64 a0_0, .int .i64 a0_1, .string a0_2], .agg #[.int .i64 a1_0, .int .i64 a1_1, .string a1_2]] (by rfl) rfl rfl (by rw [ha0]; (try simp only [putAll, Act.put, List.setIfInBounds_toArray, List.set_cons_zero, List.set_cons_succ, List.map_toArray, List.map_cons, List.map_nil]); rfl) ?_
                    with_reducible refine (value_Test.calls kj2 1 a0_0 a0_1 a0_2 a1_0 a1_1 a1_2 t317 t318 t319 _ A21.out).mono ?_
                    rintro e w2 ⟨rfl, hb⟩
                    refine ⟨_, rfl, ?_⟩
                    have hF2 := vF_below hF hb
                    exact hK.out _ _ (vF_held hF2) (fun _ => norm_ (by rw [ha0]; first | (simp only [putAll, Act.put, List.setIfInBounds_toArray, List.set_cons_zero, List.set_cons_succ]; done) | (simp only [putAll, Act.put, List.setIfInBounds_toArray, List.set_cons_zero, List.set_cons_succ]; rfl)) ((hZ _ _ _ _).1 (J2_02 g0 g2 w2 hF2)))
                  · refine box_step ?hg (N := 6) ?hd (cs := #[.int .i64 0, .int .i64 0, .string (⟨#[]⟩ : ByteArray)]) (t := 23) ?hr ?_; (case hd => rfl); (case hg => rfl); (case hr => first | (go_simp; done) | (go_simp; rfl))
                    intro g1 hg w2 hbox hb
                    have hF2 := vF_1 hF hg hbox hb
                    exact hK.out _ _ (vF_held hF2) (fun _ => norm_ (by rw [ha0]; first | (simp only [putAll, Act.put, List.setIfInBounds_toArray, List.set_cons_zero, List.set_cons_succ]; done) | (simp only [putAll, Act.put, List.setIfInBounds_toArray, List.set_cons_zero, List.set_cons_succ]; rfl)) ((hZ _ _ _ _).1 (J1_012 g0 g1 g2 w2 hF2)))
                have J1_12 : ∀ g1 g2 w', vF w gb309 gb310 (.cells #[.int .i64 a0_0, .int .i64 a0_1, .string a0_2] 23 (0, 0)) (.cells #[.int .i64 a1_0, .int .i64 a1_1, .string a1_2] 23 (0, 0)) (.cells #[.int .i64 0, .int .i64 0, .string (⟨#[]⟩ : ByteArray)] 23 (0, 0)) none (some g1) (some g2) w' → Z 6 #[true, true, true, true, true, false, true, true, false, false, true, true, false, false, false] (putAll a0 [(19, .agg #[.int .i64 t314, .int .i64 t315, .string t316]), (6, .pointer (some ⟨g1, 0, none⟩)), (7, .pointer (some ⟨g2, 0, none⟩))]) w' := by
                  intro g1 g2 w' hF
                  refine (hZ _ _ _ _).2 (two_ (i := 5) (j := 9) (Ni := some 22) (Nj := some 5) #[true, true, true, true, true, true, true, true, false, false, true, true, false, false, false] #[true, true, true, true, true, false, true, true, false, true, true, true, false, false, false] rfl rfl rfl rfl (two_of HT_.out (by kernel_rfl)) (by decide) (by decide) (fun K hK => ?_) (fun K hK => ?_))
                  · refine goes_ Try.func19 (by kernel_rfl) rfl #[.int .i64 1, .agg #[.int .i64 a0_0, .int .i64 a0_1, .string a0_2], .agg #[.int .i64 a1_0, .int .i64 a1_1, .string a1_2]] (by rfl) rfl rfl (by rw [ha0]; (try simp only [putAll, Act.put, List.setIfInBounds_toArray, List.set_cons_zero, List.set_cons_succ, List.map_toArray, List.map_cons, List.map_nil]); rfl) ?_
                    with_reducible refine (value_Test.calls kj2 1 a0_0 a0_1 a0_2 a1_0 a1_1 a1_2 t317 t318 t319 _ A21.out).mono ?_
                    rintro e w2 ⟨rfl, hb⟩
                    refine ⟨_, rfl, ?_⟩
                    have hF2 := vF_below hF hb
                    exact hK.out _ _ (vF_held hF2) (fun _ => norm_ (by rw [ha0]; first | (simp only [putAll, Act.put, List.setIfInBounds_toArray, List.set_cons_zero, List.set_cons_succ]; done) | (simp only [putAll, Act.put, List.setIfInBounds_toArray, List.set_cons_zero, List.set_cons_succ]; rfl)) ((hZ _ _ _ _).1 (J2_12 g1 g2 w2 hF2)))
                  · refine box_step ?hg (N := 5) ?hd (cs := #[.int .i64 0, .int .i64 0, .string (⟨#[]⟩ : ByteArray)]) (t := 23) ?hr ?_; (case hd => rfl); (case hg => rfl); (case hr => first | (go_simp; done) | (go_simp; rfl))
                    intro g0 hg w2 hbox hb
                    have hF2 := vF_0 hF hg hbox hb
                    exact hK.out _ _ (vF_held hF2) (fun _ => norm_ (by rw [ha0]; first | (simp only [putAll, Act.put, List.setIfInBounds_toArray, List.set_cons_zero, List.set_cons_succ]; done) | (simp only [putAll, Act.put, List.setIfInBounds_toArray, List.set_cons_zero, List.set_cons_succ]; rfl)) ((hZ _ _ _ _).1 (J1_012 g0 g1 g2 w2 hF2)))
                have J2_0 : ∀ g0 w', vF w gb309 gb310 (.cells #[.int .i64 a0_0, .int .i64 a0_1, .string a0_2] 23 (0, 0)) (.cells #[.int .i64 a1_0, .int .i64 a1_1, .string a1_2] 23 (0, 0)) (.cells #[.int .i64 0, .int .i64 0, .string (⟨#[]⟩ : ByteArray)] 23 (0, 0)) (some g0) none none w' → Z 6 #[true, true, true, true, true, true, true, true, false, true, false, false, false, false, false] (putAll a0 [(19, .agg #[.int .i64 t314, .int .i64 t315, .string t316]), (22, .agg #[.int .i64 t317, .int .i64 t318, .string t319]), (5, .pointer (some ⟨g0, 0, none⟩))]) w' := by
                  intro g0 w' hF
                  refine (hZ _ _ _ _).2 (three_ (i := 8) (j := 10) (k := 11) (Ni := some 25) (Nj := some 6) (Nk := some 7) #[true, true, true, true, true, true, true, true, true, true, false, false, false, false, false] #[true, true, true, true, true, true, true, true, false, true, true, false, false, false, false] #[true, true, true, true, true, true, true, true, false, true, false, true, false, false, false] rfl rfl rfl rfl rfl rfl (three_of HT_.out (by kernel_rfl)) (by decide) (by decide) (by decide) (fun K hK => ?_) (fun K hK => ?_) (fun K hK => ?_))
                  · refine goes_ Try.func19 (by kernel_rfl) rfl #[.int .i64 5, .agg #[.int .i64 a0_0, .int .i64 a0_1, .string a0_2], .agg #[.int .i64 a1_0, .int .i64 a1_1, .string a1_2]] (by rfl) rfl rfl (by rw [ha0]; (try simp only [putAll, Act.put, List.setIfInBounds_toArray, List.set_cons_zero, List.set_cons_succ, List.map_toArray, List.map_cons, List.map_nil]); rfl) ?_
                    with_reducible refine (value_Test.calls kj2 5 a0_0 a0_1 a0_2 a1_0 a1_1 a1_2 t320 t321 t322 _ A22.out).mono ?_
                    rintro e w2 ⟨rfl, hb⟩
                    refine ⟨_, rfl, ?_⟩
                    have hF2 := vF_below hF hb
                    exact hK.out _ _ (vF_held hF2) (fun _ => norm_ (by rw [ha0]; first | (simp only [putAll, Act.put, List.setIfInBounds_toArray, List.set_cons_zero, List.set_cons_succ]; done) | (simp only [putAll, Act.put, List.setIfInBounds_toArray, List.set_cons_zero, List.set_cons_succ]; rfl)) ((hZ _ _ _ _).1 (J3_0 g0 w2 hF2)))
                  · refine box_step ?hg (N := 6) ?hd (cs := #[.int .i64 0, .int .i64 0, .string (⟨#[]⟩ : ByteArray)]) (t := 23) ?hr ?_; (case hd => rfl); (case hg => rfl); (case hr => first | (go_simp; done) | (go_simp; rfl))
                    intro g1 hg w2 hbox hb
                    have hF2 := vF_1 hF hg hbox hb
                    exact hK.out _ _ (vF_held hF2) (fun _ => norm_ (by rw [ha0]; first | (simp only [putAll, Act.put, List.setIfInBounds_toArray, List.set_cons_zero, List.set_cons_succ]; done) | (simp only [putAll, Act.put, List.setIfInBounds_toArray, List.set_cons_zero, List.set_cons_succ]; rfl)) ((hZ _ _ _ _).1 (J2_01 g0 g1 w2 hF2)))
                  · refine box_step ?hg (N := 7) ?hd (cs := #[.int .i64 0, .int .i64 0, .string (⟨#[]⟩ : ByteArray)]) (t := 23) ?hr ?_; (case hd => rfl); (case hg => rfl); (case hr => first | (go_simp; done) | (go_simp; rfl))
                    intro g2 hg w2 hbox hb
                    have hF2 := vF_2 hF hg hbox hb
                    exact hK.out _ _ (vF_held hF2) (fun _ => norm_ (by rw [ha0]; first | (simp only [putAll, Act.put, List.setIfInBounds_toArray, List.set_cons_zero, List.set_cons_succ]; done) | (simp only [putAll, Act.put, List.setIfInBounds_toArray, List.set_cons_zero, List.set_cons_succ]; rfl)) ((hZ _ _ _ _).1 (J2_02 g0 g2 w2 hF2)))
                have J2_1 : ∀ g1 w', vF w gb309 gb310 (.cells #[.int .i64 a0_0, .int .i64 a0_1, .string a0_2] 23 (0, 0)) (.cells #[.int .i64 a1_0, .int .i64 a1_1, .string a1_2] 23 (0, 0)) (.cells #[.int .i64 0, .int .i64 0, .string (⟨#[]⟩ : ByteArray)] 23 (0, 0)) none (some g1) none w' → Z 6 #[true, true, true, true, true, true, true, true, false, false, true, false, false, false, false] (putAll a0 [(19, .agg #[.int .i64 t314, .int .i64 t315, .string t316]), (22, .agg #[.int .i64 t317, .int .i64 t318, .string t319]), (6, .pointer (some ⟨g1, 0, none⟩))]) w' := by
                  intro g1 w' hF
                  refine (hZ _ _ _ _).2 (three_ (i := 8) (j := 9) (k := 11) (Ni := some 25) (Nj := some 5) (Nk := some 7) #[true, true, true, true, true, true, true, true, true, false, true, false, false, false, false] #[true, true, true, true, true, true, true, true, false, true, true, false, false, false, false] #[true, true, true, true, true, true, true, true, false, false, true, true, false, false, false] rfl rfl rfl rfl rfl rfl (three_of HT_.out (by kernel_rfl)) (by decide) (by decide) (by decide) (fun K hK => ?_) (fun K hK => ?_) (fun K hK => ?_))
                  · refine goes_ Try.func19 (by kernel_rfl) rfl #[.int .i64 5, .agg #[.int .i64 a0_0, .int .i64 a0_1, .string a0_2], .agg #[.int .i64 a1_0, .int .i64 a1_1, .string a1_2]] (by rfl) rfl rfl (by rw [ha0]; (try simp only [putAll, Act.put, List.setIfInBounds_toArray, List.set_cons_zero, List.set_cons_succ, List.map_toArray, List.map_cons, List.map_nil]); rfl) ?_
                    with_reducible refine (value_Test.calls kj2 5 a0_0 a0_1 a0_2 a1_0 a1_1 a1_2 t320 t321 t322 _ A22.out).mono ?_
                    rintro e w2 ⟨rfl, hb⟩
                    refine ⟨_, rfl, ?_⟩
                    have hF2 := vF_below hF hb
                    exact hK.out _ _ (vF_held hF2) (fun _ => norm_ (by rw [ha0]; first | (simp only [putAll, Act.put, List.setIfInBounds_toArray, List.set_cons_zero, List.set_cons_succ]; done) | (simp only [putAll, Act.put, List.setIfInBounds_toArray, List.set_cons_zero, List.set_cons_succ]; rfl)) ((hZ _ _ _ _).1 (J3_1 g1 w2 hF2)))
                  · refine box_step ?hg (N := 5) ?hd (cs := #[.int .i64 0, .int .i64 0, .string (⟨#[]⟩ : ByteArray)]) (t := 23) ?hr ?_; (case hd => rfl); (case hg => rfl); (case hr => first | (go_simp; done) | (go_simp; rfl))
                    intro g0 hg w2 hbox hb
                    have hF2 := vF_0 hF hg hbox hb
                    exact hK.out _ _ (vF_held hF2) (fun _ => norm_ (by rw [ha0]; first | (simp only [putAll, Act.put, List.setIfInBounds_toArray, List.set_cons_zero, List.set_cons_succ]; done) | (simp only [putAll, Act.put, List.setIfInBounds_toArray, List.set_cons_zero, List.set_cons_succ]; rfl)) ((hZ _ _ _ _).1 (J2_01 g0 g1 w2 hF2)))
                  · refine box_step ?hg (N := 7) ?hd (cs := #[.int .i64 0, .int .i64 0, .string (⟨#[]⟩ : ByteArray)]) (t := 23) ?hr ?_; (case hd => rfl); (case hg => rfl); (case hr => first | (go_simp; done) | (go_simp; rfl))
                    intro g2 hg w2 hbox hb
                    have hF2 := vF_2 hF hg hbox hb
                    exact hK.out _ _ (vF_held hF2) (fun _ => norm_ (by rw [ha0]; first | (simp only [putAll, Act.put, List.setIfInBounds_toArray, List.set_cons_zero, List.set_cons_succ]; done) | (simp only [putAll, Act.put, List.setIfInBounds_toArray, List.set_cons_zero, List.set_cons_succ]; rfl)) ((hZ _ _ _ _).1 (J2_12 g1 g2 w2 hF2)))
                have J2_2 : ∀ g2 w', vF w gb309 gb310 (.cells #[.int .i64 a0_0, .int .i64 a0_1, .string a0_2] 23 (0, 0)) (.cells #[.int .i64 a1_0, .int .i64 a1_1, .string a1_2] 23 (0, 0)) (.cells #[.int .i64 0, .int .i64 0, .string (⟨#[]⟩ : ByteArray)] 23 (0, 0)) none none (some g2) w' → Z 6 #[true, true, true, true, true, true, true, true, false, false, false, true, false, false, false] (putAll a0 [(19, .agg #[.int .i64 t314, .int .i64 t315, .string t316]), (22, .agg #[.int .i64 t317, .int .i64 t318, .string t319]), (7, .pointer (some ⟨g2, 0, none⟩))]) w' := by
                  intro g2 w' hF
                  refine (hZ _ _ _ _).2 (three_ (i := 8) (j := 9) (k := 10) (Ni := some 25) (Nj := some 5) (Nk := some 6) #[true, true, true, true, true, true, true, true, true, false, false, true, false, false, false] #[true, true, true, true, true, true, true, true, false, true, false, true, false, false, false] #[true, true, true, true, true, true, true, true, false, false, true, true, false, false, false] rfl rfl rfl rfl rfl rfl (three_of HT_.out (by kernel_rfl)) (by decide) (by decide) (by decide) (fun K hK => ?_) (fun K hK => ?_) (fun K hK => ?_))
                  · refine goes_ Try.func19 (by kernel_rfl) rfl #[.int .i64 5, .agg #[.int .i64 a0_0, .int .i64 a0_1, .string a0_2], .agg #[.int .i64 a1_0, .int .i64 a1_1, .string a1_2]] (by rfl) rfl rfl (by rw [ha0]; (try simp only [putAll, Act.put, List.setIfInBounds_toArray, List.set_cons_zero, List.set_cons_succ, List.map_toArray, List.map_cons, List.map_nil]); rfl) ?_
                    with_reducible refine (value_Test.calls kj2 5 a0_0 a0_1 a0_2 a1_0 a1_1 a1_2 t320 t321 t322 _ A22.out).mono ?_
                    rintro e w2 ⟨rfl, hb⟩
                    refine ⟨_, rfl, ?_⟩
                    have hF2 := vF_below hF hb
                    exact hK.out _ _ (vF_held hF2) (fun _ => norm_ (by rw [ha0]; first | (simp only [putAll, Act.put, List.setIfInBounds_toArray, List.set_cons_zero, List.set_cons_succ]; done) | (simp only [putAll, Act.put, List.setIfInBounds_toArray, List.set_cons_zero, List.set_cons_succ]; rfl)) ((hZ _ _ _ _).1 (J3_2 g2 w2 hF2)))
                  · refine box_step ?hg (N := 5) ?hd (cs := #[.int .i64 0, .int .i64 0, .string (⟨#[]⟩ : ByteArray)]) (t := 23) ?hr ?_; (case hd => rfl); (case hg => rfl); (case hr => first | (go_simp; done) | (go_simp; rfl))
                    intro g0 hg w2 hbox hb
                    have hF2 := vF_0 hF hg hbox hb
                    exact hK.out _ _ (vF_held hF2) (fun _ => norm_ (by rw [ha0]; first | (simp only [putAll, Act.put, List.setIfInBounds_toArray, List.set_cons_zero, List.set_cons_succ]; done) | (simp only [putAll, Act.put, List.setIfInBounds_toArray, List.set_cons_zero, List.set_cons_succ]; rfl)) ((hZ _ _ _ _).1 (J2_02 g0 g2 w2 hF2)))
                  · refine box_step ?hg (N := 6) ?hd (cs := #[.int .i64 0, .int .i64 0, .string (⟨#[]⟩ : ByteArray)]) (t := 23) ?hr ?_; (case hd => rfl); (case hg => rfl); (case hr => first | (go_simp; done) | (go_simp; rfl))
                    intro g1 hg w2 hbox hb
                    have hF2 := vF_1 hF hg hbox hb
                    exact hK.out _ _ (vF_held hF2) (fun _ => norm_ (by rw [ha0]; first | (simp only [putAll, Act.put, List.setIfInBounds_toArray, List.set_cons_zero, List.set_cons_succ]; done) | (simp only [putAll, Act.put, List.setIfInBounds_toArray, List.set_cons_zero, List.set_cons_succ]; rfl)) ((hZ _ _ _ _).1 (J2_12 g1 g2 w2 hF2)))
                have J3_n : ∀ w', vF w gb309 gb310 (.cells #[.int .i64 a0_0, .int .i64 a0_1, .string a0_2] 23 (0, 0)) (.cells #[.int .i64 a1_0, .int .i64 a1_1, .string a1_2] 23 (0, 0)) (.cells #[.int .i64 0, .int .i64 0, .string (⟨#[]⟩ : ByteArray)] 23 (0, 0)) none none none w' → Z 6 #[true, true, true, true, true, true, true, true, true, false, false, false, false, false, false] (putAll a0 [(19, .agg #[.int .i64 t314, .int .i64 t315, .string t316]), (22, .agg #[.int .i64 t317, .int .i64 t318, .string t319]), (25, .agg #[.int .i64 t320, .int .i64 t321, .string t322])]) w' := by
                  intro w' hF
                  refine (hZ _ _ _ _).2 (three_ (i := 9) (j := 10) (k := 11) (Ni := some 5) (Nj := some 6) (Nk := some 7) #[true, true, true, true, true, true, true, true, true, true, false, false, false, false, false] #[true, true, true, true, true, true, true, true, true, false, true, false, false, false, false] #[true, true, true, true, true, true, true, true, true, false, false, true, false, false, false] rfl rfl rfl rfl rfl rfl (three_of HT_.out (by kernel_rfl)) (by decide) (by decide) (by decide) (fun K hK => ?_) (fun K hK => ?_) (fun K hK => ?_))
                  · refine box_step ?hg (N := 5) ?hd (cs := #[.int .i64 0, .int .i64 0, .string (⟨#[]⟩ : ByteArray)]) (t := 23) ?hr ?_; (case hd => rfl); (case hg => rfl); (case hr => first | (go_simp; done) | (go_simp; rfl))
                    intro g0 hg w2 hbox hb
                    have hF2 := vF_0 hF hg hbox hb
                    exact hK.out _ _ (vF_held hF2) (fun _ => norm_ (by rw [ha0]; first | (simp only [putAll, Act.put, List.setIfInBounds_toArray, List.set_cons_zero, List.set_cons_succ]; done) | (simp only [putAll, Act.put, List.setIfInBounds_toArray, List.set_cons_zero, List.set_cons_succ]; rfl)) ((hZ _ _ _ _).1 (J3_0 g0 w2 hF2)))
                  · refine box_step ?hg (N := 6) ?hd (cs := #[.int .i64 0, .int .i64 0, .string (⟨#[]⟩ : ByteArray)]) (t := 23) ?hr ?_; (case hd => rfl); (case hg => rfl); (case hr => first | (go_simp; done) | (go_simp; rfl))
                    intro g1 hg w2 hbox hb
                    have hF2 := vF_1 hF hg hbox hb
                    exact hK.out _ _ (vF_held hF2) (fun _ => norm_ (by rw [ha0]; first | (simp only [putAll, Act.put, List.setIfInBounds_toArray, List.set_cons_zero, List.set_cons_succ]; done) | (simp only [putAll, Act.put, List.setIfInBounds_toArray, List.set_cons_zero, List.set_cons_succ]; rfl)) ((hZ _ _ _ _).1 (J3_1 g1 w2 hF2)))
                  · refine box_step ?hg (N := 7) ?hd (cs := #[.int .i64 0, .int .i64 0, .string (⟨#[]⟩ : ByteArray)]) (t := 23) ?hr ?_; (case hd => rfl); (case hg => rfl); (case hr => first | (go_simp; done) | (go_simp; rfl))
                    intro g2 hg w2 hbox hb
                    have hF2 := vF_2 hF hg hbox hb
                    exact hK.out _ _ (vF_held hF2) (fun _ => norm_ (by rw [ha0]; first | (simp only [putAll, Act.put, List.setIfInBounds_toArray, List.set_cons_zero, List.set_cons_succ]; done) | (simp only [putAll, Act.put, List.setIfInBounds_toArray, List.set_cons_zero, List.set_cons_succ]; rfl)) ((hZ _ _ _ _).1 (J3_2 g2 w2 hF2)))
                have J0_01 : ∀ g0 g1 w', vF w gb309 gb310 (.cells #[.int .i64 a0_0, .int .i64 a0_1, .string a0_2] 23 (0, 0)) (.cells #[.int .i64 a1_0, .int .i64 a1_1, .string a1_2] 23 (0, 0)) (.cells #[.int .i64 0, .int .i64 0, .string (⟨#[]⟩ : ByteArray)] 23 (0, 0)) (some g0) (some g1) none w' → Z 7 #[true, true, false, true, true, false, true, true, false, true, true, false, false, false, false] (putAll a0 [(5, .pointer (some ⟨g0, 0, none⟩)), (6, .pointer (some ⟨g1, 0, none⟩))]) w' := by
                  intro g0 g1 w' hF
                  refine (hZ _ _ _ _).2 (two_ (i := 2) (j := 11) (Ni := some 19) (Nj := some 7) #[true, true, true, true, true, false, true, true, false, true, true, false, false, false, false] #[true, true, false, true, true, false, true, true, false, true, true, true, false, false, false] rfl rfl rfl rfl (two_of HT_.out (by kernel_rfl)) (by decide) (by decide) (fun K hK => ?_) (fun K hK => ?_))
                  · refine goes_ Try.func19 (by kernel_rfl) rfl #[.int .i64 3, .agg #[.int .i64 a0_0, .int .i64 a0_1, .string a0_2], .agg #[.int .i64 a1_0, .int .i64 a1_1, .string a1_2]] (by rfl) rfl rfl (by rw [ha0]; (try simp only [putAll, Act.put, List.setIfInBounds_toArray, List.set_cons_zero, List.set_cons_succ, List.map_toArray, List.map_cons, List.map_nil]); rfl) ?_
                    with_reducible refine (value_Test.calls kj2 3 a0_0 a0_1 a0_2 a1_0 a1_1 a1_2 t314 t315 t316 _ A20.out).mono ?_
                    rintro e w2 ⟨rfl, hb⟩
                    refine ⟨_, rfl, ?_⟩
                    have hF2 := vF_below hF hb
                    exact hK.out _ _ (vF_held hF2) (fun _ => norm_ (by rw [ha0]; first | (simp only [putAll, Act.put, List.setIfInBounds_toArray, List.set_cons_zero, List.set_cons_succ]; done) | (simp only [putAll, Act.put, List.setIfInBounds_toArray, List.set_cons_zero, List.set_cons_succ]; rfl)) ((hZ _ _ _ _).1 (J1_01 g0 g1 w2 hF2)))
                  · refine box_step ?hg (N := 7) ?hd (cs := #[.int .i64 0, .int .i64 0, .string (⟨#[]⟩ : ByteArray)]) (t := 23) ?hr ?_; (case hd => rfl); (case hg => rfl); (case hr => first | (go_simp; done) | (go_simp; rfl))
                    intro g2 hg w2 hbox hb
                    have hF2 := vF_2 hF hg hbox hb
                    exact hK.out _ _ (vF_held hF2) (fun _ => norm_ (by rw [ha0]; first | (simp only [putAll, Act.put, List.setIfInBounds_toArray, List.set_cons_zero, List.set_cons_succ]; done) | (simp only [putAll, Act.put, List.setIfInBounds_toArray, List.set_cons_zero, List.set_cons_succ]; rfl)) ((hZ _ _ _ _).1 (J0_012 g0 g1 g2 w2 hF2)))
                have J0_02 : ∀ g0 g2 w', vF w gb309 gb310 (.cells #[.int .i64 a0_0, .int .i64 a0_1, .string a0_2] 23 (0, 0)) (.cells #[.int .i64 a1_0, .int .i64 a1_1, .string a1_2] 23 (0, 0)) (.cells #[.int .i64 0, .int .i64 0, .string (⟨#[]⟩ : ByteArray)] 23 (0, 0)) (some g0) none (some g2) w' → Z 7 #[true, true, false, true, true, false, true, true, false, true, false, true, false, false, false] (putAll a0 [(5, .pointer (some ⟨g0, 0, none⟩)), (7, .pointer (some ⟨g2, 0, none⟩))]) w' := by
                  intro g0 g2 w' hF
                  refine (hZ _ _ _ _).2 (two_ (i := 2) (j := 10) (Ni := some 19) (Nj := some 6) #[true, true, true, true, true, false, true, true, false, true, false, true, false, false, false] #[true, true, false, true, true, false, true, true, false, true, true, true, false, false, false] rfl rfl rfl rfl (two_of HT_.out (by kernel_rfl)) (by decide) (by decide) (fun K hK => ?_) (fun K hK => ?_))
                  · refine goes_ Try.func19 (by kernel_rfl) rfl #[.int .i64 3, .agg #[.int .i64 a0_0, .int .i64 a0_1, .string a0_2], .agg #[.int .i64 a1_0, .int .i64 a1_1, .string a1_2]] (by rfl) rfl rfl (by rw [ha0]; (try simp only [putAll, Act.put, List.setIfInBounds_toArray, List.set_cons_zero, List.set_cons_succ, List.map_toArray, List.map_cons, List.map_nil]); rfl) ?_
                    with_reducible refine (value_Test.calls kj2 3 a0_0 a0_1 a0_2 a1_0 a1_1 a1_2 t314 t315 t316 _ A20.out).mono ?_
                    rintro e w2 ⟨rfl, hb⟩
                    refine ⟨_, rfl, ?_⟩
                    have hF2 := vF_below hF hb
                    exact hK.out _ _ (vF_held hF2) (fun _ => norm_ (by rw [ha0]; first | (simp only [putAll, Act.put, List.setIfInBounds_toArray, List.set_cons_zero, List.set_cons_succ]; done) | (simp only [putAll, Act.put, List.setIfInBounds_toArray, List.set_cons_zero, List.set_cons_succ]; rfl)) ((hZ _ _ _ _).1 (J1_02 g0 g2 w2 hF2)))
                  · refine box_step ?hg (N := 6) ?hd (cs := #[.int .i64 0, .int .i64 0, .string (⟨#[]⟩ : ByteArray)]) (t := 23) ?hr ?_; (case hd => rfl); (case hg => rfl); (case hr => first | (go_simp; done) | (go_simp; rfl))
                    intro g1 hg w2 hbox hb
                    have hF2 := vF_1 hF hg hbox hb
                    exact hK.out _ _ (vF_held hF2) (fun _ => norm_ (by rw [ha0]; first | (simp only [putAll, Act.put, List.setIfInBounds_toArray, List.set_cons_zero, List.set_cons_succ]; done) | (simp only [putAll, Act.put, List.setIfInBounds_toArray, List.set_cons_zero, List.set_cons_succ]; rfl)) ((hZ _ _ _ _).1 (J0_012 g0 g1 g2 w2 hF2)))
                have J0_12 : ∀ g1 g2 w', vF w gb309 gb310 (.cells #[.int .i64 a0_0, .int .i64 a0_1, .string a0_2] 23 (0, 0)) (.cells #[.int .i64 a1_0, .int .i64 a1_1, .string a1_2] 23 (0, 0)) (.cells #[.int .i64 0, .int .i64 0, .string (⟨#[]⟩ : ByteArray)] 23 (0, 0)) none (some g1) (some g2) w' → Z 7 #[true, true, false, true, true, false, true, true, false, false, true, true, false, false, false] (putAll a0 [(6, .pointer (some ⟨g1, 0, none⟩)), (7, .pointer (some ⟨g2, 0, none⟩))]) w' := by
                  intro g1 g2 w' hF
                  refine (hZ _ _ _ _).2 (two_ (i := 2) (j := 9) (Ni := some 19) (Nj := some 5) #[true, true, true, true, true, false, true, true, false, false, true, true, false, false, false] #[true, true, false, true, true, false, true, true, false, true, true, true, false, false, false] rfl rfl rfl rfl (two_of HT_.out (by kernel_rfl)) (by decide) (by decide) (fun K hK => ?_) (fun K hK => ?_))
                  · refine goes_ Try.func19 (by kernel_rfl) rfl #[.int .i64 3, .agg #[.int .i64 a0_0, .int .i64 a0_1, .string a0_2], .agg #[.int .i64 a1_0, .int .i64 a1_1, .string a1_2]] (by rfl) rfl rfl (by rw [ha0]; (try simp only [putAll, Act.put, List.setIfInBounds_toArray, List.set_cons_zero, List.set_cons_succ, List.map_toArray, List.map_cons, List.map_nil]); rfl) ?_
                    with_reducible refine (value_Test.calls kj2 3 a0_0 a0_1 a0_2 a1_0 a1_1 a1_2 t314 t315 t316 _ A20.out).mono ?_
                    rintro e w2 ⟨rfl, hb⟩
                    refine ⟨_, rfl, ?_⟩
                    have hF2 := vF_below hF hb
                    exact hK.out _ _ (vF_held hF2) (fun _ => norm_ (by rw [ha0]; first | (simp only [putAll, Act.put, List.setIfInBounds_toArray, List.set_cons_zero, List.set_cons_succ]; done) | (simp only [putAll, Act.put, List.setIfInBounds_toArray, List.set_cons_zero, List.set_cons_succ]; rfl)) ((hZ _ _ _ _).1 (J1_12 g1 g2 w2 hF2)))
                  · refine box_step ?hg (N := 5) ?hd (cs := #[.int .i64 0, .int .i64 0, .string (⟨#[]⟩ : ByteArray)]) (t := 23) ?hr ?_; (case hd => rfl); (case hg => rfl); (case hr => first | (go_simp; done) | (go_simp; rfl))
                    intro g0 hg w2 hbox hb
                    have hF2 := vF_0 hF hg hbox hb
                    exact hK.out _ _ (vF_held hF2) (fun _ => norm_ (by rw [ha0]; first | (simp only [putAll, Act.put, List.setIfInBounds_toArray, List.set_cons_zero, List.set_cons_succ]; done) | (simp only [putAll, Act.put, List.setIfInBounds_toArray, List.set_cons_zero, List.set_cons_succ]; rfl)) ((hZ _ _ _ _).1 (J0_012 g0 g1 g2 w2 hF2)))
                have J1_0 : ∀ g0 w', vF w gb309 gb310 (.cells #[.int .i64 a0_0, .int .i64 a0_1, .string a0_2] 23 (0, 0)) (.cells #[.int .i64 a1_0, .int .i64 a1_1, .string a1_2] 23 (0, 0)) (.cells #[.int .i64 0, .int .i64 0, .string (⟨#[]⟩ : ByteArray)] 23 (0, 0)) (some g0) none none w' → Z 7 #[true, true, true, true, true, false, true, true, false, true, false, false, false, false, false] (putAll a0 [(19, .agg #[.int .i64 t314, .int .i64 t315, .string t316]), (5, .pointer (some ⟨g0, 0, none⟩))]) w' := by
                  intro g0 w' hF
                  refine (hZ _ _ _ _).2 (three_ (i := 5) (j := 10) (k := 11) (Ni := some 22) (Nj := some 6) (Nk := some 7) #[true, true, true, true, true, true, true, true, false, true, false, false, false, false, false] #[true, true, true, true, true, false, true, true, false, true, true, false, false, false, false] #[true, true, true, true, true, false, true, true, false, true, false, true, false, false, false] rfl rfl rfl rfl rfl rfl (three_of HT_.out (by kernel_rfl)) (by decide) (by decide) (by decide) (fun K hK => ?_) (fun K hK => ?_) (fun K hK => ?_))
                  · refine goes_ Try.func19 (by kernel_rfl) rfl #[.int .i64 1, .agg #[.int .i64 a0_0, .int .i64 a0_1, .string a0_2], .agg #[.int .i64 a1_0, .int .i64 a1_1, .string a1_2]] (by rfl) rfl rfl (by rw [ha0]; (try simp only [putAll, Act.put, List.setIfInBounds_toArray, List.set_cons_zero, List.set_cons_succ, List.map_toArray, List.map_cons, List.map_nil]); rfl) ?_
                    with_reducible refine (value_Test.calls kj2 1 a0_0 a0_1 a0_2 a1_0 a1_1 a1_2 t317 t318 t319 _ A21.out).mono ?_
                    rintro e w2 ⟨rfl, hb⟩
                    refine ⟨_, rfl, ?_⟩
                    have hF2 := vF_below hF hb
                    exact hK.out _ _ (vF_held hF2) (fun _ => norm_ (by rw [ha0]; first | (simp only [putAll, Act.put, List.setIfInBounds_toArray, List.set_cons_zero, List.set_cons_succ]; done) | (simp only [putAll, Act.put, List.setIfInBounds_toArray, List.set_cons_zero, List.set_cons_succ]; rfl)) ((hZ _ _ _ _).1 (J2_0 g0 w2 hF2)))
                  · refine box_step ?hg (N := 6) ?hd (cs := #[.int .i64 0, .int .i64 0, .string (⟨#[]⟩ : ByteArray)]) (t := 23) ?hr ?_; (case hd => rfl); (case hg => rfl); (case hr => first | (go_simp; done) | (go_simp; rfl))
                    intro g1 hg w2 hbox hb
                    have hF2 := vF_1 hF hg hbox hb
                    exact hK.out _ _ (vF_held hF2) (fun _ => norm_ (by rw [ha0]; first | (simp only [putAll, Act.put, List.setIfInBounds_toArray, List.set_cons_zero, List.set_cons_succ]; done) | (simp only [putAll, Act.put, List.setIfInBounds_toArray, List.set_cons_zero, List.set_cons_succ]; rfl)) ((hZ _ _ _ _).1 (J1_01 g0 g1 w2 hF2)))
                  · refine box_step ?hg (N := 7) ?hd (cs := #[.int .i64 0, .int .i64 0, .string (⟨#[]⟩ : ByteArray)]) (t := 23) ?hr ?_; (case hd => rfl); (case hg => rfl); (case hr => first | (go_simp; done) | (go_simp; rfl))
                    intro g2 hg w2 hbox hb
                    have hF2 := vF_2 hF hg hbox hb
                    exact hK.out _ _ (vF_held hF2) (fun _ => norm_ (by rw [ha0]; first | (simp only [putAll, Act.put, List.setIfInBounds_toArray, List.set_cons_zero, List.set_cons_succ]; done) | (simp only [putAll, Act.put, List.setIfInBounds_toArray, List.set_cons_zero, List.set_cons_succ]; rfl)) ((hZ _ _ _ _).1 (J1_02 g0 g2 w2 hF2)))
                have J1_1 : ∀ g1 w', vF w gb309 gb310 (.cells #[.int .i64 a0_0, .int .i64 a0_1, .string a0_2] 23 (0, 0)) (.cells #[.int .i64 a1_0, .int .i64 a1_1, .string a1_2] 23 (0, 0)) (.cells #[.int .i64 0, .int .i64 0, .string (⟨#[]⟩ : ByteArray)] 23 (0, 0)) none (some g1) none w' → Z 7 #[true, true, true, true, true, false, true, true, false, false, true, false, false, false, false] (putAll a0 [(19, .agg #[.int .i64 t314, .int .i64 t315, .string t316]), (6, .pointer (some ⟨g1, 0, none⟩))]) w' := by
                  intro g1 w' hF
                  refine (hZ _ _ _ _).2 (three_ (i := 5) (j := 9) (k := 11) (Ni := some 22) (Nj := some 5) (Nk := some 7) #[true, true, true, true, true, true, true, true, false, false, true, false, false, false, false] #[true, true, true, true, true, false, true, true, false, true, true, false, false, false, false] #[true, true, true, true, true, false, true, true, false, false, true, true, false, false, false] rfl rfl rfl rfl rfl rfl (three_of HT_.out (by kernel_rfl)) (by decide) (by decide) (by decide) (fun K hK => ?_) (fun K hK => ?_) (fun K hK => ?_))
                  · refine goes_ Try.func19 (by kernel_rfl) rfl #[.int .i64 1, .agg #[.int .i64 a0_0, .int .i64 a0_1, .string a0_2], .agg #[.int .i64 a1_0, .int .i64 a1_1, .string a1_2]] (by rfl) rfl rfl (by rw [ha0]; (try simp only [putAll, Act.put, List.setIfInBounds_toArray, List.set_cons_zero, List.set_cons_succ, List.map_toArray, List.map_cons, List.map_nil]); rfl) ?_
                    with_reducible refine (value_Test.calls kj2 1 a0_0 a0_1 a0_2 a1_0 a1_1 a1_2 t317 t318 t319 _ A21.out).mono ?_
                    rintro e w2 ⟨rfl, hb⟩
                    refine ⟨_, rfl, ?_⟩
                    have hF2 := vF_below hF hb
                    exact hK.out _ _ (vF_held hF2) (fun _ => norm_ (by rw [ha0]; first | (simp only [putAll, Act.put, List.setIfInBounds_toArray, List.set_cons_zero, List.set_cons_succ]; done) | (simp only [putAll, Act.put, List.setIfInBounds_toArray, List.set_cons_zero, List.set_cons_succ]; rfl)) ((hZ _ _ _ _).1 (J2_1 g1 w2 hF2)))
                  · refine box_step ?hg (N := 5) ?hd (cs := #[.int .i64 0, .int .i64 0, .string (⟨#[]⟩ : ByteArray)]) (t := 23) ?hr ?_; (case hd => rfl); (case hg => rfl); (case hr => first | (go_simp; done) | (go_simp; rfl))
                    intro g0 hg w2 hbox hb
                    have hF2 := vF_0 hF hg hbox hb
                    exact hK.out _ _ (vF_held hF2) (fun _ => norm_ (by rw [ha0]; first | (simp only [putAll, Act.put, List.setIfInBounds_toArray, List.set_cons_zero, List.set_cons_succ]; done) | (simp only [putAll, Act.put, List.setIfInBounds_toArray, List.set_cons_zero, List.set_cons_succ]; rfl)) ((hZ _ _ _ _).1 (J1_01 g0 g1 w2 hF2)))
                  · refine box_step ?hg (N := 7) ?hd (cs := #[.int .i64 0, .int .i64 0, .string (⟨#[]⟩ : ByteArray)]) (t := 23) ?hr ?_; (case hd => rfl); (case hg => rfl); (case hr => first | (go_simp; done) | (go_simp; rfl))
                    intro g2 hg w2 hbox hb
                    have hF2 := vF_2 hF hg hbox hb
                    exact hK.out _ _ (vF_held hF2) (fun _ => norm_ (by rw [ha0]; first | (simp only [putAll, Act.put, List.setIfInBounds_toArray, List.set_cons_zero, List.set_cons_succ]; done) | (simp only [putAll, Act.put, List.setIfInBounds_toArray, List.set_cons_zero, List.set_cons_succ]; rfl)) ((hZ _ _ _ _).1 (J1_12 g1 g2 w2 hF2)))
                have J1_2 : ∀ g2 w', vF w gb309 gb310 (.cells #[.int .i64 a0_0, .int .i64 a0_1, .string a0_2] 23 (0, 0)) (.cells #[.int .i64 a1_0, .int .i64 a1_1, .string a1_2] 23 (0, 0)) (.cells #[.int .i64 0, .int .i64 0, .string (⟨#[]⟩ : ByteArray)] 23 (0, 0)) none none (some g2) w' → Z 7 #[true, true, true, true, true, false, true, true, false, false, false, true, false, false, false] (putAll a0 [(19, .agg #[.int .i64 t314, .int .i64 t315, .string t316]), (7, .pointer (some ⟨g2, 0, none⟩))]) w' := by
                  intro g2 w' hF
                  refine (hZ _ _ _ _).2 (three_ (i := 5) (j := 9) (k := 10) (Ni := some 22) (Nj := some 5) (Nk := some 6) #[true, true, true, true, true, true, true, true, false, false, false, true, false, false, false] #[true, true, true, true, true, false, true, true, false, true, false, true, false, false, false] #[true, true, true, true, true, false, true, true, false, false, true, true, false, false, false] rfl rfl rfl rfl rfl rfl (three_of HT_.out (by kernel_rfl)) (by decide) (by decide) (by decide) (fun K hK => ?_) (fun K hK => ?_) (fun K hK => ?_))
                  · refine goes_ Try.func19 (by kernel_rfl) rfl #[.int .i64 1, .agg #[.int .i64 a0_0, .int .i64 a0_1, .string a0_2], .agg #[.int .i64 a1_0, .int .i64 a1_1, .string a1_2]] (by rfl) rfl rfl (by rw [ha0]; (try simp only [putAll, Act.put, List.setIfInBounds_toArray, List.set_cons_zero, List.set_cons_succ, List.map_toArray, List.map_cons, List.map_nil]); rfl) ?_
                    with_reducible refine (value_Test.calls kj2 1 a0_0 a0_1 a0_2 a1_0 a1_1 a1_2 t317 t318 t319 _ A21.out).mono ?_
                    rintro e w2 ⟨rfl, hb⟩
                    refine ⟨_, rfl, ?_⟩
                    have hF2 := vF_below hF hb
                    exact hK.out _ _ (vF_held hF2) (fun _ => norm_ (by rw [ha0]; first | (simp only [putAll, Act.put, List.setIfInBounds_toArray, List.set_cons_zero, List.set_cons_succ]; done) | (simp only [putAll, Act.put, List.setIfInBounds_toArray, List.set_cons_zero, List.set_cons_succ]; rfl)) ((hZ _ _ _ _).1 (J2_2 g2 w2 hF2)))
                  · refine box_step ?hg (N := 5) ?hd (cs := #[.int .i64 0, .int .i64 0, .string (⟨#[]⟩ : ByteArray)]) (t := 23) ?hr ?_; (case hd => rfl); (case hg => rfl); (case hr => first | (go_simp; done) | (go_simp; rfl))
                    intro g0 hg w2 hbox hb
                    have hF2 := vF_0 hF hg hbox hb
                    exact hK.out _ _ (vF_held hF2) (fun _ => norm_ (by rw [ha0]; first | (simp only [putAll, Act.put, List.setIfInBounds_toArray, List.set_cons_zero, List.set_cons_succ]; done) | (simp only [putAll, Act.put, List.setIfInBounds_toArray, List.set_cons_zero, List.set_cons_succ]; rfl)) ((hZ _ _ _ _).1 (J1_02 g0 g2 w2 hF2)))
                  · refine box_step ?hg (N := 6) ?hd (cs := #[.int .i64 0, .int .i64 0, .string (⟨#[]⟩ : ByteArray)]) (t := 23) ?hr ?_; (case hd => rfl); (case hg => rfl); (case hr => first | (go_simp; done) | (go_simp; rfl))
                    intro g1 hg w2 hbox hb
                    have hF2 := vF_1 hF hg hbox hb
                    exact hK.out _ _ (vF_held hF2) (fun _ => norm_ (by rw [ha0]; first | (simp only [putAll, Act.put, List.setIfInBounds_toArray, List.set_cons_zero, List.set_cons_succ]; done) | (simp only [putAll, Act.put, List.setIfInBounds_toArray, List.set_cons_zero, List.set_cons_succ]; rfl)) ((hZ _ _ _ _).1 (J1_12 g1 g2 w2 hF2)))
                have J2_n : ∀ w', vF w gb309 gb310 (.cells #[.int .i64 a0_0, .int .i64 a0_1, .string a0_2] 23 (0, 0)) (.cells #[.int .i64 a1_0, .int .i64 a1_1, .string a1_2] 23 (0, 0)) (.cells #[.int .i64 0, .int .i64 0, .string (⟨#[]⟩ : ByteArray)] 23 (0, 0)) none none none w' → Z 7 #[true, true, true, true, true, true, true, true, false, false, false, false, false, false, false] (putAll a0 [(19, .agg #[.int .i64 t314, .int .i64 t315, .string t316]), (22, .agg #[.int .i64 t317, .int .i64 t318, .string t319])]) w' := by
                  intro w' hF
                  refine (hZ _ _ _ _).2 (four_ (i := 8) (j := 9) (k := 10) (m := 11) (Ni := some 25) (Nj := some 5) (Nk := some 6) (Nm := some 7) #[true, true, true, true, true, true, true, true, true, false, false, false, false, false, false] #[true, true, true, true, true, true, true, true, false, true, false, false, false, false, false] #[true, true, true, true, true, true, true, true, false, false, true, false, false, false, false] #[true, true, true, true, true, true, true, true, false, false, false, true, false, false, false] rfl rfl rfl rfl rfl rfl rfl rfl (four_of HT_.out (by kernel_rfl)) (by decide) (by decide) (by decide) (by decide) (fun K hK => ?_) (fun K hK => ?_) (fun K hK => ?_) (fun K hK => ?_))
                  · refine goes_ Try.func19 (by kernel_rfl) rfl #[.int .i64 5, .agg #[.int .i64 a0_0, .int .i64 a0_1, .string a0_2], .agg #[.int .i64 a1_0, .int .i64 a1_1, .string a1_2]] (by rfl) rfl rfl (by rw [ha0]; (try simp only [putAll, Act.put, List.setIfInBounds_toArray, List.set_cons_zero, List.set_cons_succ, List.map_toArray, List.map_cons, List.map_nil]); rfl) ?_
                    with_reducible refine (value_Test.calls kj2 5 a0_0 a0_1 a0_2 a1_0 a1_1 a1_2 t320 t321 t322 _ A22.out).mono ?_
                    rintro e w2 ⟨rfl, hb⟩
                    refine ⟨_, rfl, ?_⟩
                    have hF2 := vF_below hF hb
                    exact hK.out _ _ (vF_held hF2) (fun _ => norm_ (by rw [ha0]; first | (simp only [putAll, Act.put, List.setIfInBounds_toArray, List.set_cons_zero, List.set_cons_succ]; done) | (simp only [putAll, Act.put, List.setIfInBounds_toArray, List.set_cons_zero, List.set_cons_succ]; rfl)) ((hZ _ _ _ _).1 (J3_n w2 hF2)))
                  · refine box_step ?hg (N := 5) ?hd (cs := #[.int .i64 0, .int .i64 0, .string (⟨#[]⟩ : ByteArray)]) (t := 23) ?hr ?_; (case hd => rfl); (case hg => rfl); (case hr => first | (go_simp; done) | (go_simp; rfl))
                    intro g0 hg w2 hbox hb
                    have hF2 := vF_0 hF hg hbox hb
                    exact hK.out _ _ (vF_held hF2) (fun _ => norm_ (by rw [ha0]; first | (simp only [putAll, Act.put, List.setIfInBounds_toArray, List.set_cons_zero, List.set_cons_succ]; done) | (simp only [putAll, Act.put, List.setIfInBounds_toArray, List.set_cons_zero, List.set_cons_succ]; rfl)) ((hZ _ _ _ _).1 (J2_0 g0 w2 hF2)))
                  · refine box_step ?hg (N := 6) ?hd (cs := #[.int .i64 0, .int .i64 0, .string (⟨#[]⟩ : ByteArray)]) (t := 23) ?hr ?_; (case hd => rfl); (case hg => rfl); (case hr => first | (go_simp; done) | (go_simp; rfl))
                    intro g1 hg w2 hbox hb
                    have hF2 := vF_1 hF hg hbox hb
                    exact hK.out _ _ (vF_held hF2) (fun _ => norm_ (by rw [ha0]; first | (simp only [putAll, Act.put, List.setIfInBounds_toArray, List.set_cons_zero, List.set_cons_succ]; done) | (simp only [putAll, Act.put, List.setIfInBounds_toArray, List.set_cons_zero, List.set_cons_succ]; rfl)) ((hZ _ _ _ _).1 (J2_1 g1 w2 hF2)))
                  · refine box_step ?hg (N := 7) ?hd (cs := #[.int .i64 0, .int .i64 0, .string (⟨#[]⟩ : ByteArray)]) (t := 23) ?hr ?_; (case hd => rfl); (case hg => rfl); (case hr => first | (go_simp; done) | (go_simp; rfl))
                    intro g2 hg w2 hbox hb
                    have hF2 := vF_2 hF hg hbox hb
                    exact hK.out _ _ (vF_held hF2) (fun _ => norm_ (by rw [ha0]; first | (simp only [putAll, Act.put, List.setIfInBounds_toArray, List.set_cons_zero, List.set_cons_succ]; done) | (simp only [putAll, Act.put, List.setIfInBounds_toArray, List.set_cons_zero, List.set_cons_succ]; rfl)) ((hZ _ _ _ _).1 (J2_2 g2 w2 hF2)))
                have J0_0 : ∀ g0 w', vF w gb309 gb310 (.cells #[.int .i64 a0_0, .int .i64 a0_1, .string a0_2] 23 (0, 0)) (.cells #[.int .i64 a1_0, .int .i64 a1_1, .string a1_2] 23 (0, 0)) (.cells #[.int .i64 0, .int .i64 0, .string (⟨#[]⟩ : ByteArray)] 23 (0, 0)) (some g0) none none w' → Z 8 #[true, true, false, true, true, false, true, true, false, true, false, false, false, false, false] (putAll a0 [(5, .pointer (some ⟨g0, 0, none⟩))]) w' := by
                  intro g0 w' hF
                  refine (hZ _ _ _ _).2 (three_ (i := 2) (j := 10) (k := 11) (Ni := some 19) (Nj := some 6) (Nk := some 7) #[true, true, true, true, true, false, true, true, false, true, false, false, false, false, false] #[true, true, false, true, true, false, true, true, false, true, true, false, false, false, false] #[true, true, false, true, true, false, true, true, false, true, false, true, false, false, false] rfl rfl rfl rfl rfl rfl (three_of HT_.out (by kernel_rfl)) (by decide) (by decide) (by decide) (fun K hK => ?_) (fun K hK => ?_) (fun K hK => ?_))
                  · refine goes_ Try.func19 (by kernel_rfl) rfl #[.int .i64 3, .agg #[.int .i64 a0_0, .int .i64 a0_1, .string a0_2], .agg #[.int .i64 a1_0, .int .i64 a1_1, .string a1_2]] (by rfl) rfl rfl (by rw [ha0]; (try simp only [putAll, Act.put, List.setIfInBounds_toArray, List.set_cons_zero, List.set_cons_succ, List.map_toArray, List.map_cons, List.map_nil]); rfl) ?_
                    with_reducible refine (value_Test.calls kj2 3 a0_0 a0_1 a0_2 a1_0 a1_1 a1_2 t314 t315 t316 _ A20.out).mono ?_
                    rintro e w2 ⟨rfl, hb⟩
                    refine ⟨_, rfl, ?_⟩
                    have hF2 := vF_below hF hb
                    exact hK.out _ _ (vF_held hF2) (fun _ => norm_ (by rw [ha0]; first | (simp only [putAll, Act.put, List.setIfInBounds_toArray, List.set_cons_zero, List.set_cons_succ]; done) | (simp only [putAll, Act.put, List.setIfInBounds_toArray, List.set_cons_zero, List.set_cons_succ]; rfl)) ((hZ _ _ _ _).1 (J1_0 g0 w2 hF2)))
                  · refine box_step ?hg (N := 6) ?hd (cs := #[.int .i64 0, .int .i64 0, .string (⟨#[]⟩ : ByteArray)]) (t := 23) ?hr ?_; (case hd => rfl); (case hg => rfl); (case hr => first | (go_simp; done) | (go_simp; rfl))
                    intro g1 hg w2 hbox hb
                    have hF2 := vF_1 hF hg hbox hb
                    exact hK.out _ _ (vF_held hF2) (fun _ => norm_ (by rw [ha0]; first | (simp only [putAll, Act.put, List.setIfInBounds_toArray, List.set_cons_zero, List.set_cons_succ]; done) | (simp only [putAll, Act.put, List.setIfInBounds_toArray, List.set_cons_zero, List.set_cons_succ]; rfl)) ((hZ _ _ _ _).1 (J0_01 g0 g1 w2 hF2)))
                  · refine box_step ?hg (N := 7) ?hd (cs := #[.int .i64 0, .int .i64 0, .string (⟨#[]⟩ : ByteArray)]) (t := 23) ?hr ?_; (case hd => rfl); (case hg => rfl); (case hr => first | (go_simp; done) | (go_simp; rfl))
                    intro g2 hg w2 hbox hb
                    have hF2 := vF_2 hF hg hbox hb
                    exact hK.out _ _ (vF_held hF2) (fun _ => norm_ (by rw [ha0]; first | (simp only [putAll, Act.put, List.setIfInBounds_toArray, List.set_cons_zero, List.set_cons_succ]; done) | (simp only [putAll, Act.put, List.setIfInBounds_toArray, List.set_cons_zero, List.set_cons_succ]; rfl)) ((hZ _ _ _ _).1 (J0_02 g0 g2 w2 hF2)))
                have J0_1 : ∀ g1 w', vF w gb309 gb310 (.cells #[.int .i64 a0_0, .int .i64 a0_1, .string a0_2] 23 (0, 0)) (.cells #[.int .i64 a1_0, .int .i64 a1_1, .string a1_2] 23 (0, 0)) (.cells #[.int .i64 0, .int .i64 0, .string (⟨#[]⟩ : ByteArray)] 23 (0, 0)) none (some g1) none w' → Z 8 #[true, true, false, true, true, false, true, true, false, false, true, false, false, false, false] (putAll a0 [(6, .pointer (some ⟨g1, 0, none⟩))]) w' := by
                  intro g1 w' hF
                  refine (hZ _ _ _ _).2 (three_ (i := 2) (j := 9) (k := 11) (Ni := some 19) (Nj := some 5) (Nk := some 7) #[true, true, true, true, true, false, true, true, false, false, true, false, false, false, false] #[true, true, false, true, true, false, true, true, false, true, true, false, false, false, false] #[true, true, false, true, true, false, true, true, false, false, true, true, false, false, false] rfl rfl rfl rfl rfl rfl (three_of HT_.out (by kernel_rfl)) (by decide) (by decide) (by decide) (fun K hK => ?_) (fun K hK => ?_) (fun K hK => ?_))
                  · refine goes_ Try.func19 (by kernel_rfl) rfl #[.int .i64 3, .agg #[.int .i64 a0_0, .int .i64 a0_1, .string a0_2], .agg #[.int .i64 a1_0, .int .i64 a1_1, .string a1_2]] (by rfl) rfl rfl (by rw [ha0]; (try simp only [putAll, Act.put, List.setIfInBounds_toArray, List.set_cons_zero, List.set_cons_succ, List.map_toArray, List.map_cons, List.map_nil]); rfl) ?_
                    with_reducible refine (value_Test.calls kj2 3 a0_0 a0_1 a0_2 a1_0 a1_1 a1_2 t314 t315 t316 _ A20.out).mono ?_
                    rintro e w2 ⟨rfl, hb⟩
                    refine ⟨_, rfl, ?_⟩
                    have hF2 := vF_below hF hb
                    exact hK.out _ _ (vF_held hF2) (fun _ => norm_ (by rw [ha0]; first | (simp only [putAll, Act.put, List.setIfInBounds_toArray, List.set_cons_zero, List.set_cons_succ]; done) | (simp only [putAll, Act.put, List.setIfInBounds_toArray, List.set_cons_zero, List.set_cons_succ]; rfl)) ((hZ _ _ _ _).1 (J1_1 g1 w2 hF2)))
                  · refine box_step ?hg (N := 5) ?hd (cs := #[.int .i64 0, .int .i64 0, .string (⟨#[]⟩ : ByteArray)]) (t := 23) ?hr ?_; (case hd => rfl); (case hg => rfl); (case hr => first | (go_simp; done) | (go_simp; rfl))
                    intro g0 hg w2 hbox hb
                    have hF2 := vF_0 hF hg hbox hb
                    exact hK.out _ _ (vF_held hF2) (fun _ => norm_ (by rw [ha0]; first | (simp only [putAll, Act.put, List.setIfInBounds_toArray, List.set_cons_zero, List.set_cons_succ]; done) | (simp only [putAll, Act.put, List.setIfInBounds_toArray, List.set_cons_zero, List.set_cons_succ]; rfl)) ((hZ _ _ _ _).1 (J0_01 g0 g1 w2 hF2)))
                  · refine box_step ?hg (N := 7) ?hd (cs := #[.int .i64 0, .int .i64 0, .string (⟨#[]⟩ : ByteArray)]) (t := 23) ?hr ?_; (case hd => rfl); (case hg => rfl); (case hr => first | (go_simp; done) | (go_simp; rfl))
                    intro g2 hg w2 hbox hb
                    have hF2 := vF_2 hF hg hbox hb
                    exact hK.out _ _ (vF_held hF2) (fun _ => norm_ (by rw [ha0]; first | (simp only [putAll, Act.put, List.setIfInBounds_toArray, List.set_cons_zero, List.set_cons_succ]; done) | (simp only [putAll, Act.put, List.setIfInBounds_toArray, List.set_cons_zero, List.set_cons_succ]; rfl)) ((hZ _ _ _ _).1 (J0_12 g1 g2 w2 hF2)))
                have J0_2 : ∀ g2 w', vF w gb309 gb310 (.cells #[.int .i64 a0_0, .int .i64 a0_1, .string a0_2] 23 (0, 0)) (.cells #[.int .i64 a1_0, .int .i64 a1_1, .string a1_2] 23 (0, 0)) (.cells #[.int .i64 0, .int .i64 0, .string (⟨#[]⟩ : ByteArray)] 23 (0, 0)) none none (some g2) w' → Z 8 #[true, true, false, true, true, false, true, true, false, false, false, true, false, false, false] (putAll a0 [(7, .pointer (some ⟨g2, 0, none⟩))]) w' := by
                  intro g2 w' hF
                  refine (hZ _ _ _ _).2 (three_ (i := 2) (j := 9) (k := 10) (Ni := some 19) (Nj := some 5) (Nk := some 6) #[true, true, true, true, true, false, true, true, false, false, false, true, false, false, false] #[true, true, false, true, true, false, true, true, false, true, false, true, false, false, false] #[true, true, false, true, true, false, true, true, false, false, true, true, false, false, false] rfl rfl rfl rfl rfl rfl (three_of HT_.out (by kernel_rfl)) (by decide) (by decide) (by decide) (fun K hK => ?_) (fun K hK => ?_) (fun K hK => ?_))
                  · refine goes_ Try.func19 (by kernel_rfl) rfl #[.int .i64 3, .agg #[.int .i64 a0_0, .int .i64 a0_1, .string a0_2], .agg #[.int .i64 a1_0, .int .i64 a1_1, .string a1_2]] (by rfl) rfl rfl (by rw [ha0]; (try simp only [putAll, Act.put, List.setIfInBounds_toArray, List.set_cons_zero, List.set_cons_succ, List.map_toArray, List.map_cons, List.map_nil]); rfl) ?_
                    with_reducible refine (value_Test.calls kj2 3 a0_0 a0_1 a0_2 a1_0 a1_1 a1_2 t314 t315 t316 _ A20.out).mono ?_
                    rintro e w2 ⟨rfl, hb⟩
                    refine ⟨_, rfl, ?_⟩
                    have hF2 := vF_below hF hb
                    exact hK.out _ _ (vF_held hF2) (fun _ => norm_ (by rw [ha0]; first | (simp only [putAll, Act.put, List.setIfInBounds_toArray, List.set_cons_zero, List.set_cons_succ]; done) | (simp only [putAll, Act.put, List.setIfInBounds_toArray, List.set_cons_zero, List.set_cons_succ]; rfl)) ((hZ _ _ _ _).1 (J1_2 g2 w2 hF2)))
                  · refine box_step ?hg (N := 5) ?hd (cs := #[.int .i64 0, .int .i64 0, .string (⟨#[]⟩ : ByteArray)]) (t := 23) ?hr ?_; (case hd => rfl); (case hg => rfl); (case hr => first | (go_simp; done) | (go_simp; rfl))
                    intro g0 hg w2 hbox hb
                    have hF2 := vF_0 hF hg hbox hb
                    exact hK.out _ _ (vF_held hF2) (fun _ => norm_ (by rw [ha0]; first | (simp only [putAll, Act.put, List.setIfInBounds_toArray, List.set_cons_zero, List.set_cons_succ]; done) | (simp only [putAll, Act.put, List.setIfInBounds_toArray, List.set_cons_zero, List.set_cons_succ]; rfl)) ((hZ _ _ _ _).1 (J0_02 g0 g2 w2 hF2)))
                  · refine box_step ?hg (N := 6) ?hd (cs := #[.int .i64 0, .int .i64 0, .string (⟨#[]⟩ : ByteArray)]) (t := 23) ?hr ?_; (case hd => rfl); (case hg => rfl); (case hr => first | (go_simp; done) | (go_simp; rfl))
                    intro g1 hg w2 hbox hb
                    have hF2 := vF_1 hF hg hbox hb
                    exact hK.out _ _ (vF_held hF2) (fun _ => norm_ (by rw [ha0]; first | (simp only [putAll, Act.put, List.setIfInBounds_toArray, List.set_cons_zero, List.set_cons_succ]; done) | (simp only [putAll, Act.put, List.setIfInBounds_toArray, List.set_cons_zero, List.set_cons_succ]; rfl)) ((hZ _ _ _ _).1 (J0_12 g1 g2 w2 hF2)))
                have J1_n : ∀ w', vF w gb309 gb310 (.cells #[.int .i64 a0_0, .int .i64 a0_1, .string a0_2] 23 (0, 0)) (.cells #[.int .i64 a1_0, .int .i64 a1_1, .string a1_2] 23 (0, 0)) (.cells #[.int .i64 0, .int .i64 0, .string (⟨#[]⟩ : ByteArray)] 23 (0, 0)) none none none w' → Z 8 #[true, true, true, true, true, false, true, true, false, false, false, false, false, false, false] (putAll a0 [(19, .agg #[.int .i64 t314, .int .i64 t315, .string t316])]) w' := by
                  intro w' hF
                  refine (hZ _ _ _ _).2 (four_ (i := 5) (j := 9) (k := 10) (m := 11) (Ni := some 22) (Nj := some 5) (Nk := some 6) (Nm := some 7) #[true, true, true, true, true, true, true, true, false, false, false, false, false, false, false] #[true, true, true, true, true, false, true, true, false, true, false, false, false, false, false] #[true, true, true, true, true, false, true, true, false, false, true, false, false, false, false] #[true, true, true, true, true, false, true, true, false, false, false, true, false, false, false] rfl rfl rfl rfl rfl rfl rfl rfl (four_of HT_.out (by kernel_rfl)) (by decide) (by decide) (by decide) (by decide) (fun K hK => ?_) (fun K hK => ?_) (fun K hK => ?_) (fun K hK => ?_))
                  · refine goes_ Try.func19 (by kernel_rfl) rfl #[.int .i64 1, .agg #[.int .i64 a0_0, .int .i64 a0_1, .string a0_2], .agg #[.int .i64 a1_0, .int .i64 a1_1, .string a1_2]] (by rfl) rfl rfl (by rw [ha0]; (try simp only [putAll, Act.put, List.setIfInBounds_toArray, List.set_cons_zero, List.set_cons_succ, List.map_toArray, List.map_cons, List.map_nil]); rfl) ?_
                    with_reducible refine (value_Test.calls kj2 1 a0_0 a0_1 a0_2 a1_0 a1_1 a1_2 t317 t318 t319 _ A21.out).mono ?_
                    rintro e w2 ⟨rfl, hb⟩
                    refine ⟨_, rfl, ?_⟩
                    have hF2 := vF_below hF hb
                    exact hK.out _ _ (vF_held hF2) (fun _ => norm_ (by rw [ha0]; first | (simp only [putAll, Act.put, List.setIfInBounds_toArray, List.set_cons_zero, List.set_cons_succ]; done) | (simp only [putAll, Act.put, List.setIfInBounds_toArray, List.set_cons_zero, List.set_cons_succ]; rfl)) ((hZ _ _ _ _).1 (J2_n w2 hF2)))
                  · refine box_step ?hg (N := 5) ?hd (cs := #[.int .i64 0, .int .i64 0, .string (⟨#[]⟩ : ByteArray)]) (t := 23) ?hr ?_; (case hd => rfl); (case hg => rfl); (case hr => first | (go_simp; done) | (go_simp; rfl))
                    intro g0 hg w2 hbox hb
                    have hF2 := vF_0 hF hg hbox hb
                    exact hK.out _ _ (vF_held hF2) (fun _ => norm_ (by rw [ha0]; first | (simp only [putAll, Act.put, List.setIfInBounds_toArray, List.set_cons_zero, List.set_cons_succ]; done) | (simp only [putAll, Act.put, List.setIfInBounds_toArray, List.set_cons_zero, List.set_cons_succ]; rfl)) ((hZ _ _ _ _).1 (J1_0 g0 w2 hF2)))
                  · refine box_step ?hg (N := 6) ?hd (cs := #[.int .i64 0, .int .i64 0, .string (⟨#[]⟩ : ByteArray)]) (t := 23) ?hr ?_; (case hd => rfl); (case hg => rfl); (case hr => first | (go_simp; done) | (go_simp; rfl))
                    intro g1 hg w2 hbox hb
                    have hF2 := vF_1 hF hg hbox hb
                    exact hK.out _ _ (vF_held hF2) (fun _ => norm_ (by rw [ha0]; first | (simp only [putAll, Act.put, List.setIfInBounds_toArray, List.set_cons_zero, List.set_cons_succ]; done) | (simp only [putAll, Act.put, List.setIfInBounds_toArray, List.set_cons_zero, List.set_cons_succ]; rfl)) ((hZ _ _ _ _).1 (J1_1 g1 w2 hF2)))
                  · refine box_step ?hg (N := 7) ?hd (cs := #[.int .i64 0, .int .i64 0, .string (⟨#[]⟩ : ByteArray)]) (t := 23) ?hr ?_; (case hd => rfl); (case hg => rfl); (case hr => first | (go_simp; done) | (go_simp; rfl))
                    intro g2 hg w2 hbox hb
                    have hF2 := vF_2 hF hg hbox hb
                    exact hK.out _ _ (vF_held hF2) (fun _ => norm_ (by rw [ha0]; first | (simp only [putAll, Act.put, List.setIfInBounds_toArray, List.set_cons_zero, List.set_cons_succ]; done) | (simp only [putAll, Act.put, List.setIfInBounds_toArray, List.set_cons_zero, List.set_cons_succ]; rfl)) ((hZ _ _ _ _).1 (J1_2 g2 w2 hF2)))
                have J0_n : ∀ w', vF w gb309 gb310 (.cells #[.int .i64 a0_0, .int .i64 a0_1, .string a0_2] 23 (0, 0)) (.cells #[.int .i64 a1_0, .int .i64 a1_1, .string a1_2] 23 (0, 0)) (.cells #[.int .i64 0, .int .i64 0, .string (⟨#[]⟩ : ByteArray)] 23 (0, 0)) none none none w' → Z 9 #[true, true, false, true, true, false, true, true, false, false, false, false, false, false, false] (putAll a0 []) w' := by
                  intro w' hF
                  refine (hZ _ _ _ _).2 (four_ (i := 2) (j := 9) (k := 10) (m := 11) (Ni := some 19) (Nj := some 5) (Nk := some 6) (Nm := some 7) #[true, true, true, true, true, false, true, true, false, false, false, false, false, false, false] #[true, true, false, true, true, false, true, true, false, true, false, false, false, false, false] #[true, true, false, true, true, false, true, true, false, false, true, false, false, false, false] #[true, true, false, true, true, false, true, true, false, false, false, true, false, false, false] rfl rfl rfl rfl rfl rfl rfl rfl (four_of HT_.out (by kernel_rfl)) (by decide) (by decide) (by decide) (by decide) (fun K hK => ?_) (fun K hK => ?_) (fun K hK => ?_) (fun K hK => ?_))
                  · refine goes_ Try.func19 (by kernel_rfl) rfl #[.int .i64 3, .agg #[.int .i64 a0_0, .int .i64 a0_1, .string a0_2], .agg #[.int .i64 a1_0, .int .i64 a1_1, .string a1_2]] (by rfl) rfl rfl (by rw [ha0]; (try simp only [putAll, Act.put, List.setIfInBounds_toArray, List.set_cons_zero, List.set_cons_succ, List.map_toArray, List.map_cons, List.map_nil]); rfl) ?_
                    with_reducible refine (value_Test.calls kj2 3 a0_0 a0_1 a0_2 a1_0 a1_1 a1_2 t314 t315 t316 _ A20.out).mono ?_
                    rintro e w2 ⟨rfl, hb⟩
                    refine ⟨_, rfl, ?_⟩
                    have hF2 := vF_below hF hb
                    exact hK.out _ _ (vF_held hF2) (fun _ => norm_ (by rw [ha0]; first | (simp only [putAll, Act.put, List.setIfInBounds_toArray, List.set_cons_zero, List.set_cons_succ]; done) | (simp only [putAll, Act.put, List.setIfInBounds_toArray, List.set_cons_zero, List.set_cons_succ]; rfl)) ((hZ _ _ _ _).1 (J1_n w2 hF2)))
                  · refine box_step ?hg (N := 5) ?hd (cs := #[.int .i64 0, .int .i64 0, .string (⟨#[]⟩ : ByteArray)]) (t := 23) ?hr ?_; (case hd => rfl); (case hg => rfl); (case hr => first | (go_simp; done) | (go_simp; rfl))
                    intro g0 hg w2 hbox hb
                    have hF2 := vF_0 hF hg hbox hb
                    exact hK.out _ _ (vF_held hF2) (fun _ => norm_ (by rw [ha0]; first | (simp only [putAll, Act.put, List.setIfInBounds_toArray, List.set_cons_zero, List.set_cons_succ]; done) | (simp only [putAll, Act.put, List.setIfInBounds_toArray, List.set_cons_zero, List.set_cons_succ]; rfl)) ((hZ _ _ _ _).1 (J0_0 g0 w2 hF2)))
                  · refine box_step ?hg (N := 6) ?hd (cs := #[.int .i64 0, .int .i64 0, .string (⟨#[]⟩ : ByteArray)]) (t := 23) ?hr ?_; (case hd => rfl); (case hg => rfl); (case hr => first | (go_simp; done) | (go_simp; rfl))
                    intro g1 hg w2 hbox hb
                    have hF2 := vF_1 hF hg hbox hb
                    exact hK.out _ _ (vF_held hF2) (fun _ => norm_ (by rw [ha0]; first | (simp only [putAll, Act.put, List.setIfInBounds_toArray, List.set_cons_zero, List.set_cons_succ]; done) | (simp only [putAll, Act.put, List.setIfInBounds_toArray, List.set_cons_zero, List.set_cons_succ]; rfl)) ((hZ _ _ _ _).1 (J0_1 g1 w2 hF2)))
                  · refine box_step ?hg (N := 7) ?hd (cs := #[.int .i64 0, .int .i64 0, .string (⟨#[]⟩ : ByteArray)]) (t := 23) ?hr ?_; (case hd => rfl); (case hg => rfl); (case hr => first | (go_simp; done) | (go_simp; rfl))
                    intro g2 hg w2 hbox hb
                    have hF2 := vF_2 hF hg hbox hb
                    exact hK.out _ _ (vF_held hF2) (fun _ => norm_ (by rw [ha0]; first | (simp only [putAll, Act.put, List.setIfInBounds_toArray, List.set_cons_zero, List.set_cons_succ]; done) | (simp only [putAll, Act.put, List.setIfInBounds_toArray, List.set_cons_zero, List.set_cons_succ]; rfl)) ((hZ _ _ _ _).1 (J0_2 g2 w2 hF2)))
                have hend := J0_n w33 HF0
                exact hend
              rintro ⟨gb323, gb324, gb325⟩ w40 ⟨hS_, h0_, h1_, h2_, h3_, h4_, h5_, h6_, h7_, h8_, h9_, h10_, h11_, h12_, h13_, h14_, h15_, h16_, h17_, h18_, h19_, h20_, h21_, h22_, h23_, h24_, h25_, h26_, h27_, h28_, h29_⟩
              have n0_ : Aside0 (w40.heap[gb309]? = some (.cells #[.int .i64 a0_0, .int .i64 a0_1, .string a0_2] 23 (0, 0))) := ⟨h0_⟩
              have n1_ : Aside0 (w40.heap[gb310]? = some (.cells #[.int .i64 a1_0, .int .i64 a1_1, .string a1_2] 23 (0, 0))) := ⟨h1_⟩
              have n2_ : Aside0 (w40.heap[gb323]? = some (.cells #[.int .i64 0, .int .i64 0, .string (⟨#[]⟩ : ByteArray)] 23 (0, 0))) := ⟨h2_⟩
              have n3_ : Aside0 (w40.heap[gb324]? = some (.cells #[.int .i64 0, .int .i64 0, .string (⟨#[]⟩ : ByteArray)] 23 (0, 0))) := ⟨h3_⟩
              have n4_ : Aside0 (w40.heap[gb325]? = some (.cells #[.int .i64 0, .int .i64 0, .string (⟨#[]⟩ : ByteArray)] 23 (0, 0))) := ⟨h4_⟩
              have n5_ : Aside0 (w.heap.size ≤ gb323) := ⟨h5_⟩
              have n6_ : Aside0 (w.heap.size ≤ gb323) := ⟨h6_⟩
              have n7_ : Aside0 (gb309 ≠ gb323) := ⟨h7_⟩
              have n8_ : Aside0 (gb323 ≠ gb309) := ⟨h8_⟩
              have n9_ : Aside0 (gb310 ≠ gb323) := ⟨h9_⟩
              have n10_ : Aside0 (gb323 ≠ gb310) := ⟨h10_⟩
              have n11_ : Aside0 (gb324 ≠ gb323) := ⟨h11_⟩
              have n12_ : Aside0 (gb323 ≠ gb324) := ⟨h12_⟩
              have n13_ : Aside0 (gb325 ≠ gb323) := ⟨h13_⟩
              have n14_ : Aside0 (gb323 ≠ gb325) := ⟨h14_⟩
              have n15_ : Aside0 (w.heap.size ≤ gb324) := ⟨h15_⟩
              have n16_ : Aside0 (w.heap.size ≤ gb324) := ⟨h16_⟩
              have n17_ : Aside0 (gb309 ≠ gb324) := ⟨h17_⟩
              have n18_ : Aside0 (gb324 ≠ gb309) := ⟨h18_⟩
              have n19_ : Aside0 (gb310 ≠ gb324) := ⟨h19_⟩
              have n20_ : Aside0 (gb324 ≠ gb310) := ⟨h20_⟩
              have n21_ : Aside0 (gb325 ≠ gb324) := ⟨h21_⟩
              have n22_ : Aside0 (gb324 ≠ gb325) := ⟨h22_⟩
              have n23_ : Aside0 (w.heap.size ≤ gb325) := ⟨h23_⟩
              have n24_ : Aside0 (w.heap.size ≤ gb325) := ⟨h24_⟩
              have n25_ : Aside0 (gb309 ≠ gb325) := ⟨h25_⟩
              have n26_ : Aside0 (gb325 ≠ gb309) := ⟨h26_⟩
              have n27_ : Aside0 (gb310 ≠ gb325) := ⟨h27_⟩
              have n28_ : Aside0 (gb325 ≠ gb310) := ⟨h28_⟩
              have n29_ : Aside0 (Below w.heap.size w w40) := ⟨h29_⟩
              clear BK309
              clear BK310
              clear HB
              clear h0_ h1_ h2_ h3_ h4_ h5_ h6_ h7_ h8_ h9_ h10_ h11_ h12_ h13_ h14_ h15_ h16_ h17_ h18_ h19_ h20_ h21_ h22_ h23_ h24_ h25_ h26_ h27_ h28_ h29_
              have BK309 := n0_
              have BK310 := n1_
              have BK323 := n2_
              have BK324 := n3_
              have BK325 := n4_
              have GW323 := n5_
              have GE323 := n6_
              have NB309_323 := n7_
              have NB323_309 := n8_
              have NB310_323 := n9_
              have NB323_310 := n10_
              have NB324_323 := n11_
              have NB323_324 := n12_
              have NB325_323 := n13_
              have NB323_325 := n14_
              have GW324 := n15_
              have GE324 := n16_
              have NB309_324 := n17_
              have NB324_309 := n18_
              have NB310_324 := n19_
              have NB324_310 := n20_
              have NB325_324 := n21_
              have NB324_325 := n22_
              have GW325 := n23_
              have GE325 := n24_
              have NB309_325 := n25_
              have NB325_309 := n26_
              have NB310_325 := n27_
              have NB325_310 := n28_
              have HB := n29_
              clear n0_ n1_ n2_ n3_ n4_ n5_ n6_ n7_ n8_ n9_ n10_ n11_ n12_ n13_ n14_ n15_ n16_ n17_ n18_ n19_ n20_ n21_ n22_ n23_ n24_ n25_ n26_ n27_ n28_ n29_
              have hHeld : w40.cell? ⟨gb309, 0, none⟩ = some (.int .i64 a0_0) ∧ w40.cell? ⟨gb309, 1, none⟩ = some (.int .i64 a0_1) ∧ w40.cell? ⟨gb309, 2, none⟩ = some (.string a0_2) ∧ w40.cell? ⟨gb310, 0, none⟩ = some (.int .i64 a1_0) ∧ w40.cell? ⟨gb310, 1, none⟩ = some (.int .i64 a1_1) ∧ w40.cell? ⟨gb310, 2, none⟩ = some (.string a1_2) := hS_
              refine norm_ (a' := ?_) ?_ ?_
              rotate_left
              · simp only [putAll, Act.put, List.setIfInBounds_toArray, List.set_cons_zero, List.set_cons_succ]
                rfl
              refine one_ (i := 12) (N := none) #[true, true, true, true, true, true, true, true, true, true, true, true, true, false, false] rfl rfl (one_of HT_.out (by kernel_rfl)) (by decide) (fun K hK => ?_)
              have hs41 : w40.cell? ⟨gb323, 0, none⟩ = some (.int .i64 0) := (blk_cell BK323.out 0).trans rfl
              have hfs41 := blk_frozen BK323.out 0
              have hns41_0 := NB309_323.out
              have hns41_1 := NB310_323.out
              have hns41_3 := NB324_323.out
              have hns41_4 := NB325_323.out
              have hms41_0 := NB323_309.out
              have hms41_1 := NB323_310.out
              have hms41_3 := NB323_324.out
              have hms41_4 := NB323_325.out
              have hs42 : w40.cell? ⟨gb323, 1, none⟩ = some (.int .i64 0) := (blk_cell BK323.out 1).trans rfl
              have hfs42 := blk_frozen BK323.out 1
              have hns42_0 := NB309_323.out
              have hns42_1 := NB310_323.out
              have hns42_3 := NB324_323.out
              have hns42_4 := NB325_323.out
              have hms42_0 := NB323_309.out
              have hms42_1 := NB323_310.out
              have hms42_3 := NB323_324.out
              have hms42_4 := NB323_325.out
              have hs43 : w40.cell? ⟨gb323, 2, none⟩ = some (.string (⟨#[]⟩ : ByteArray)) := (blk_cell BK323.out 2).trans rfl
              have hfs43 := blk_frozen BK323.out 2
              have hns43_0 := NB309_323.out
              have hns43_1 := NB310_323.out
              have hns43_3 := NB324_323.out
              have hns43_4 := NB325_323.out
              have hms43_0 := NB323_309.out
              have hms43_1 := NB323_310.out
              have hms43_3 := NB323_324.out
              have hms43_4 := NB323_325.out
              refine skip_ (w1 := ?_) (by rfl) rfl ?_ ?_
              rotate_left
              · go_simp
                rfl
              refine hK.out _ _ ⟨((cell_far (p := ⟨gb323, _, none⟩) NB309_323.out _).trans (((cell_far (p := ⟨gb323, _, none⟩) NB309_323.out _).trans (((cell_far (p := ⟨gb323, _, none⟩) NB309_323.out _).trans (hHeld.1)))))), ((cell_far (p := ⟨gb323, _, none⟩) NB309_323.out _).trans (((cell_far (p := ⟨gb323, _, none⟩) NB309_323.out _).trans (((cell_far (p := ⟨gb323, _, none⟩) NB309_323.out _).trans (hHeld.2.1)))))), ((cell_far (p := ⟨gb323, _, none⟩) NB309_323.out _).trans (((cell_far (p := ⟨gb323, _, none⟩) NB309_323.out _).trans (((cell_far (p := ⟨gb323, _, none⟩) NB309_323.out _).trans (hHeld.2.2.1)))))), ((cell_far (p := ⟨gb323, _, none⟩) NB310_323.out _).trans (((cell_far (p := ⟨gb323, _, none⟩) NB310_323.out _).trans (((cell_far (p := ⟨gb323, _, none⟩) NB310_323.out _).trans (hHeld.2.2.2.1)))))), ((cell_far (p := ⟨gb323, _, none⟩) NB310_323.out _).trans (((cell_far (p := ⟨gb323, _, none⟩) NB310_323.out _).trans (((cell_far (p := ⟨gb323, _, none⟩) NB310_323.out _).trans (hHeld.2.2.2.2.1)))))), ((cell_far (p := ⟨gb323, _, none⟩) NB310_323.out _).trans (((cell_far (p := ⟨gb323, _, none⟩) NB310_323.out _).trans (((cell_far (p := ⟨gb323, _, none⟩) NB310_323.out _).trans (hHeld.2.2.2.2.2))))))⟩ (fun hHeld => ?_)
              clear hK K
              refine one_ (i := 13) (N := none) #[true, true, true, true, true, true, true, true, true, true, true, true, true, true, false] rfl rfl (one_of HT_.out (by kernel_rfl)) (by decide) (fun K hK => ?_)
              have hs44 : w40.cell? ⟨gb324, 0, none⟩ = some (.int .i64 0) := (blk_cell BK324.out 0).trans rfl
              have hfs44 := blk_frozen BK324.out 0
              have hns44_0 := NB309_324.out
              have hns44_1 := NB310_324.out
              have hns44_2 := NB323_324.out
              have hns44_4 := NB325_324.out
              have hms44_0 := NB324_309.out
              have hms44_1 := NB324_310.out
              have hms44_2 := NB324_323.out
              have hms44_4 := NB324_325.out
              have hs45 : w40.cell? ⟨gb324, 1, none⟩ = some (.int .i64 0) := (blk_cell BK324.out 1).trans rfl
              have hfs45 := blk_frozen BK324.out 1
              have hns45_0 := NB309_324.out
              have hns45_1 := NB310_324.out
              have hns45_2 := NB323_324.out
              have hns45_4 := NB325_324.out
              have hms45_0 := NB324_309.out
              have hms45_1 := NB324_310.out
              have hms45_2 := NB324_323.out
              have hms45_4 := NB324_325.out
              have hs46 : w40.cell? ⟨gb324, 2, none⟩ = some (.string (⟨#[]⟩ : ByteArray)) := (blk_cell BK324.out 2).trans rfl
              have hfs46 := blk_frozen BK324.out 2
              have hns46_0 := NB309_324.out
              have hns46_1 := NB310_324.out
              have hns46_2 := NB323_324.out
              have hns46_4 := NB325_324.out
              have hms46_0 := NB324_309.out
              have hms46_1 := NB324_310.out
              have hms46_2 := NB324_323.out
              have hms46_4 := NB324_325.out
              refine skip_ (w1 := ?_) (by rfl) rfl ?_ ?_
              rotate_left
              · go_simp
                rfl
              refine hK.out _ _ ⟨((cell_far (p := ⟨gb324, _, none⟩) NB309_324.out _).trans (((cell_far (p := ⟨gb324, _, none⟩) NB309_324.out _).trans (((cell_far (p := ⟨gb324, _, none⟩) NB309_324.out _).trans (hHeld.1)))))), ((cell_far (p := ⟨gb324, _, none⟩) NB309_324.out _).trans (((cell_far (p := ⟨gb324, _, none⟩) NB309_324.out _).trans (((cell_far (p := ⟨gb324, _, none⟩) NB309_324.out _).trans (hHeld.2.1)))))), ((cell_far (p := ⟨gb324, _, none⟩) NB309_324.out _).trans (((cell_far (p := ⟨gb324, _, none⟩) NB309_324.out _).trans (((cell_far (p := ⟨gb324, _, none⟩) NB309_324.out _).trans (hHeld.2.2.1)))))), ((cell_far (p := ⟨gb324, _, none⟩) NB310_324.out _).trans (((cell_far (p := ⟨gb324, _, none⟩) NB310_324.out _).trans (((cell_far (p := ⟨gb324, _, none⟩) NB310_324.out _).trans (hHeld.2.2.2.1)))))), ((cell_far (p := ⟨gb324, _, none⟩) NB310_324.out _).trans (((cell_far (p := ⟨gb324, _, none⟩) NB310_324.out _).trans (((cell_far (p := ⟨gb324, _, none⟩) NB310_324.out _).trans (hHeld.2.2.2.2.1)))))), ((cell_far (p := ⟨gb324, _, none⟩) NB310_324.out _).trans (((cell_far (p := ⟨gb324, _, none⟩) NB310_324.out _).trans (((cell_far (p := ⟨gb324, _, none⟩) NB310_324.out _).trans (hHeld.2.2.2.2.2))))))⟩ (fun hHeld => ?_)
              clear hK K
              refine one_ (i := 14) (N := none) #[true, true, true, true, true, true, true, true, true, true, true, true, true, true, true] rfl rfl (one_of HT_.out (by kernel_rfl)) (by decide) (fun K hK => ?_)
              have hs47 : w40.cell? ⟨gb325, 0, none⟩ = some (.int .i64 0) := (blk_cell BK325.out 0).trans rfl
              have hfs47 := blk_frozen BK325.out 0
              have hns47_0 := NB309_325.out
              have hns47_1 := NB310_325.out
              have hns47_2 := NB323_325.out
              have hns47_3 := NB324_325.out
              have hms47_0 := NB325_309.out
              have hms47_1 := NB325_310.out
              have hms47_2 := NB325_323.out
              have hms47_3 := NB325_324.out
              have hs48 : w40.cell? ⟨gb325, 1, none⟩ = some (.int .i64 0) := (blk_cell BK325.out 1).trans rfl
              have hfs48 := blk_frozen BK325.out 1
              have hns48_0 := NB309_325.out
              have hns48_1 := NB310_325.out
              have hns48_2 := NB323_325.out
              have hns48_3 := NB324_325.out
              have hms48_0 := NB325_309.out
              have hms48_1 := NB325_310.out
              have hms48_2 := NB325_323.out
              have hms48_3 := NB325_324.out
              have hs49 : w40.cell? ⟨gb325, 2, none⟩ = some (.string (⟨#[]⟩ : ByteArray)) := (blk_cell BK325.out 2).trans rfl
              have hfs49 := blk_frozen BK325.out 2
              have hns49_0 := NB309_325.out
              have hns49_1 := NB310_325.out
              have hns49_2 := NB323_325.out
              have hns49_3 := NB324_325.out
              have hms49_0 := NB325_309.out
              have hms49_1 := NB325_310.out
              have hms49_2 := NB325_323.out
              have hms49_3 := NB325_324.out
              refine skip_ (w1 := ?_) (by rfl) rfl ?_ ?_
              rotate_left
              · go_simp
                rfl
              refine hK.out _ _ ⟨((cell_far (p := ⟨gb325, _, none⟩) NB309_325.out _).trans (((cell_far (p := ⟨gb325, _, none⟩) NB309_325.out _).trans (((cell_far (p := ⟨gb325, _, none⟩) NB309_325.out _).trans (hHeld.1)))))), ((cell_far (p := ⟨gb325, _, none⟩) NB309_325.out _).trans (((cell_far (p := ⟨gb325, _, none⟩) NB309_325.out _).trans (((cell_far (p := ⟨gb325, _, none⟩) NB309_325.out _).trans (hHeld.2.1)))))), ((cell_far (p := ⟨gb325, _, none⟩) NB309_325.out _).trans (((cell_far (p := ⟨gb325, _, none⟩) NB309_325.out _).trans (((cell_far (p := ⟨gb325, _, none⟩) NB309_325.out _).trans (hHeld.2.2.1)))))), ((cell_far (p := ⟨gb325, _, none⟩) NB310_325.out _).trans (((cell_far (p := ⟨gb325, _, none⟩) NB310_325.out _).trans (((cell_far (p := ⟨gb325, _, none⟩) NB310_325.out _).trans (hHeld.2.2.2.1)))))), ((cell_far (p := ⟨gb325, _, none⟩) NB310_325.out _).trans (((cell_far (p := ⟨gb325, _, none⟩) NB310_325.out _).trans (((cell_far (p := ⟨gb325, _, none⟩) NB310_325.out _).trans (hHeld.2.2.2.2.1)))))), ((cell_far (p := ⟨gb325, _, none⟩) NB310_325.out _).trans (((cell_far (p := ⟨gb325, _, none⟩) NB310_325.out _).trans (((cell_far (p := ⟨gb325, _, none⟩) NB310_325.out _).trans (hHeld.2.2.2.2.2))))))⟩ (fun hHeld => ?_)
              clear hK K
              refine done_ (done_of HT_.out (by kernel_rfl)) ?_
              try go_wp2
              have n0_ : Aside0 ((((((((((w40.setCell ⟨gb323, 0, none⟩ (.int .i64 t314)).setCell ⟨gb323, 1, none⟩ (.int .i64 t315)).setCell ⟨gb323, 2, none⟩ (.string t316)).setCell ⟨gb324, 0, none⟩ (.int .i64 t317)).setCell ⟨gb324, 1, none⟩ (.int .i64 t318)).setCell ⟨gb324, 2, none⟩ (.string t319)).setCell ⟨gb325, 0, none⟩ (.int .i64 t320)).setCell ⟨gb325, 1, none⟩ (.int .i64 t321)).setCell ⟨gb325, 2, none⟩ (.string t322)).heap[gb309]? = some (.cells #[.int .i64 a0_0, .int .i64 a0_1, .string a0_2] 23 (0, 0))) := ⟨by (with_reducible repeat (first | refine blk_drewN ?_ _ | refine blk_drew ?_ | refine blk_alloc ?_ _)); refine blk_far ?_ NB309_325.out _; (with_reducible repeat (first | refine blk_drewN ?_ _ | refine blk_drew ?_ | refine blk_alloc ?_ _)); refine blk_far ?_ NB309_325.out _; (with_reducible repeat (first | refine blk_drewN ?_ _ | refine blk_drew ?_ | refine blk_alloc ?_ _)); refine blk_far ?_ NB309_325.out _; (with_reducible repeat (first | refine blk_drewN ?_ _ | refine blk_drew ?_ | refine blk_alloc ?_ _)); refine blk_far ?_ NB309_324.out _; (with_reducible repeat (first | refine blk_drewN ?_ _ | refine blk_drew ?_ | refine blk_alloc ?_ _)); refine blk_far ?_ NB309_324.out _; (with_reducible repeat (first | refine blk_drewN ?_ _ | refine blk_drew ?_ | refine blk_alloc ?_ _)); refine blk_far ?_ NB309_324.out _; (with_reducible repeat (first | refine blk_drewN ?_ _ | refine blk_drew ?_ | refine blk_alloc ?_ _)); refine blk_far ?_ NB309_323.out _; (with_reducible repeat (first | refine blk_drewN ?_ _ | refine blk_drew ?_ | refine blk_alloc ?_ _)); refine blk_far ?_ NB309_323.out _; (with_reducible repeat (first | refine blk_drewN ?_ _ | refine blk_drew ?_ | refine blk_alloc ?_ _)); refine blk_far ?_ NB309_323.out _; (with_reducible repeat (first | refine blk_drewN ?_ _ | refine blk_drew ?_ | refine blk_alloc ?_ _)); exact BK309.out⟩
              have n1_ : Aside0 ((((((((((w40.setCell ⟨gb323, 0, none⟩ (.int .i64 t314)).setCell ⟨gb323, 1, none⟩ (.int .i64 t315)).setCell ⟨gb323, 2, none⟩ (.string t316)).setCell ⟨gb324, 0, none⟩ (.int .i64 t317)).setCell ⟨gb324, 1, none⟩ (.int .i64 t318)).setCell ⟨gb324, 2, none⟩ (.string t319)).setCell ⟨gb325, 0, none⟩ (.int .i64 t320)).setCell ⟨gb325, 1, none⟩ (.int .i64 t321)).setCell ⟨gb325, 2, none⟩ (.string t322)).heap[gb310]? = some (.cells #[.int .i64 a1_0, .int .i64 a1_1, .string a1_2] 23 (0, 0))) := ⟨by (with_reducible repeat (first | refine blk_drewN ?_ _ | refine blk_drew ?_ | refine blk_alloc ?_ _)); refine blk_far ?_ NB310_325.out _; (with_reducible repeat (first | refine blk_drewN ?_ _ | refine blk_drew ?_ | refine blk_alloc ?_ _)); refine blk_far ?_ NB310_325.out _; (with_reducible repeat (first | refine blk_drewN ?_ _ | refine blk_drew ?_ | refine blk_alloc ?_ _)); refine blk_far ?_ NB310_325.out _; (with_reducible repeat (first | refine blk_drewN ?_ _ | refine blk_drew ?_ | refine blk_alloc ?_ _)); refine blk_far ?_ NB310_324.out _; (with_reducible repeat (first | refine blk_drewN ?_ _ | refine blk_drew ?_ | refine blk_alloc ?_ _)); refine blk_far ?_ NB310_324.out _; (with_reducible repeat (first | refine blk_drewN ?_ _ | refine blk_drew ?_ | refine blk_alloc ?_ _)); refine blk_far ?_ NB310_324.out _; (with_reducible repeat (first | refine blk_drewN ?_ _ | refine blk_drew ?_ | refine blk_alloc ?_ _)); refine blk_far ?_ NB310_323.out _; (with_reducible repeat (first | refine blk_drewN ?_ _ | refine blk_drew ?_ | refine blk_alloc ?_ _)); refine blk_far ?_ NB310_323.out _; (with_reducible repeat (first | refine blk_drewN ?_ _ | refine blk_drew ?_ | refine blk_alloc ?_ _)); refine blk_far ?_ NB310_323.out _; (with_reducible repeat (first | refine blk_drewN ?_ _ | refine blk_drew ?_ | refine blk_alloc ?_ _)); exact BK310.out⟩
              have n2_ : Aside0 ((((((((((w40.setCell ⟨gb323, 0, none⟩ (.int .i64 t314)).setCell ⟨gb323, 1, none⟩ (.int .i64 t315)).setCell ⟨gb323, 2, none⟩ (.string t316)).setCell ⟨gb324, 0, none⟩ (.int .i64 t317)).setCell ⟨gb324, 1, none⟩ (.int .i64 t318)).setCell ⟨gb324, 2, none⟩ (.string t319)).setCell ⟨gb325, 0, none⟩ (.int .i64 t320)).setCell ⟨gb325, 1, none⟩ (.int .i64 t321)).setCell ⟨gb325, 2, none⟩ (.string t322)).heap[gb323]? = some (.cells #[.int .i64 t314, .int .i64 t315, .string t316] 23 (0, 0))) := ⟨by (with_reducible repeat (first | refine blk_drewN ?_ _ | refine blk_drew ?_ | refine blk_alloc ?_ _)); refine blk_far ?_ NB323_325.out _; (with_reducible repeat (first | refine blk_drewN ?_ _ | refine blk_drew ?_ | refine blk_alloc ?_ _)); refine blk_far ?_ NB323_325.out _; (with_reducible repeat (first | refine blk_drewN ?_ _ | refine blk_drew ?_ | refine blk_alloc ?_ _)); refine blk_far ?_ NB323_325.out _; (with_reducible repeat (first | refine blk_drewN ?_ _ | refine blk_drew ?_ | refine blk_alloc ?_ _)); refine blk_far ?_ NB323_324.out _; (with_reducible repeat (first | refine blk_drewN ?_ _ | refine blk_drew ?_ | refine blk_alloc ?_ _)); refine blk_far ?_ NB323_324.out _; (with_reducible repeat (first | refine blk_drewN ?_ _ | refine blk_drew ?_ | refine blk_alloc ?_ _)); refine blk_far ?_ NB323_324.out _; (with_reducible repeat (first | refine blk_drewN ?_ _ | refine blk_drew ?_ | refine blk_alloc ?_ _)); refine blk_put (cs := #[.int .i64 t314, .int .i64 t315, .string (⟨#[]⟩ : ByteArray)]) ?_ 2 _ rfl; (with_reducible repeat (first | refine blk_drewN ?_ _ | refine blk_drew ?_ | refine blk_alloc ?_ _)); refine blk_put (cs := #[.int .i64 t314, .int .i64 0, .string (⟨#[]⟩ : ByteArray)]) ?_ 1 _ rfl; (with_reducible repeat (first | refine blk_drewN ?_ _ | refine blk_drew ?_ | refine blk_alloc ?_ _)); refine blk_put (cs := #[.int .i64 0, .int .i64 0, .string (⟨#[]⟩ : ByteArray)]) ?_ 0 _ rfl; (with_reducible repeat (first | refine blk_drewN ?_ _ | refine blk_drew ?_ | refine blk_alloc ?_ _)); exact BK323.out⟩
              have n3_ : Aside0 ((((((((((w40.setCell ⟨gb323, 0, none⟩ (.int .i64 t314)).setCell ⟨gb323, 1, none⟩ (.int .i64 t315)).setCell ⟨gb323, 2, none⟩ (.string t316)).setCell ⟨gb324, 0, none⟩ (.int .i64 t317)).setCell ⟨gb324, 1, none⟩ (.int .i64 t318)).setCell ⟨gb324, 2, none⟩ (.string t319)).setCell ⟨gb325, 0, none⟩ (.int .i64 t320)).setCell ⟨gb325, 1, none⟩ (.int .i64 t321)).setCell ⟨gb325, 2, none⟩ (.string t322)).heap[gb324]? = some (.cells #[.int .i64 t317, .int .i64 t318, .string t319] 23 (0, 0))) := ⟨by (with_reducible repeat (first | refine blk_drewN ?_ _ | refine blk_drew ?_ | refine blk_alloc ?_ _)); refine blk_far ?_ NB324_325.out _; (with_reducible repeat (first | refine blk_drewN ?_ _ | refine blk_drew ?_ | refine blk_alloc ?_ _)); refine blk_far ?_ NB324_325.out _; (with_reducible repeat (first | refine blk_drewN ?_ _ | refine blk_drew ?_ | refine blk_alloc ?_ _)); refine blk_far ?_ NB324_325.out _; (with_reducible repeat (first | refine blk_drewN ?_ _ | refine blk_drew ?_ | refine blk_alloc ?_ _)); refine blk_put (cs := #[.int .i64 t317, .int .i64 t318, .string (⟨#[]⟩ : ByteArray)]) ?_ 2 _ rfl; (with_reducible repeat (first | refine blk_drewN ?_ _ | refine blk_drew ?_ | refine blk_alloc ?_ _)); refine blk_put (cs := #[.int .i64 t317, .int .i64 0, .string (⟨#[]⟩ : ByteArray)]) ?_ 1 _ rfl; (with_reducible repeat (first | refine blk_drewN ?_ _ | refine blk_drew ?_ | refine blk_alloc ?_ _)); refine blk_put (cs := #[.int .i64 0, .int .i64 0, .string (⟨#[]⟩ : ByteArray)]) ?_ 0 _ rfl; (with_reducible repeat (first | refine blk_drewN ?_ _ | refine blk_drew ?_ | refine blk_alloc ?_ _)); refine blk_far ?_ NB324_323.out _; (with_reducible repeat (first | refine blk_drewN ?_ _ | refine blk_drew ?_ | refine blk_alloc ?_ _)); refine blk_far ?_ NB324_323.out _; (with_reducible repeat (first | refine blk_drewN ?_ _ | refine blk_drew ?_ | refine blk_alloc ?_ _)); refine blk_far ?_ NB324_323.out _; (with_reducible repeat (first | refine blk_drewN ?_ _ | refine blk_drew ?_ | refine blk_alloc ?_ _)); exact BK324.out⟩
              have n4_ : Aside0 ((((((((((w40.setCell ⟨gb323, 0, none⟩ (.int .i64 t314)).setCell ⟨gb323, 1, none⟩ (.int .i64 t315)).setCell ⟨gb323, 2, none⟩ (.string t316)).setCell ⟨gb324, 0, none⟩ (.int .i64 t317)).setCell ⟨gb324, 1, none⟩ (.int .i64 t318)).setCell ⟨gb324, 2, none⟩ (.string t319)).setCell ⟨gb325, 0, none⟩ (.int .i64 t320)).setCell ⟨gb325, 1, none⟩ (.int .i64 t321)).setCell ⟨gb325, 2, none⟩ (.string t322)).heap[gb325]? = some (.cells #[.int .i64 t320, .int .i64 t321, .string t322] 23 (0, 0))) := ⟨by (with_reducible repeat (first | refine blk_drewN ?_ _ | refine blk_drew ?_ | refine blk_alloc ?_ _)); refine blk_put (cs := #[.int .i64 t320, .int .i64 t321, .string (⟨#[]⟩ : ByteArray)]) ?_ 2 _ rfl; (with_reducible repeat (first | refine blk_drewN ?_ _ | refine blk_drew ?_ | refine blk_alloc ?_ _)); refine blk_put (cs := #[.int .i64 t320, .int .i64 0, .string (⟨#[]⟩ : ByteArray)]) ?_ 1 _ rfl; (with_reducible repeat (first | refine blk_drewN ?_ _ | refine blk_drew ?_ | refine blk_alloc ?_ _)); refine blk_put (cs := #[.int .i64 0, .int .i64 0, .string (⟨#[]⟩ : ByteArray)]) ?_ 0 _ rfl; (with_reducible repeat (first | refine blk_drewN ?_ _ | refine blk_drew ?_ | refine blk_alloc ?_ _)); refine blk_far ?_ NB325_324.out _; (with_reducible repeat (first | refine blk_drewN ?_ _ | refine blk_drew ?_ | refine blk_alloc ?_ _)); refine blk_far ?_ NB325_324.out _; (with_reducible repeat (first | refine blk_drewN ?_ _ | refine blk_drew ?_ | refine blk_alloc ?_ _)); refine blk_far ?_ NB325_324.out _; (with_reducible repeat (first | refine blk_drewN ?_ _ | refine blk_drew ?_ | refine blk_alloc ?_ _)); refine blk_far ?_ NB325_323.out _; (with_reducible repeat (first | refine blk_drewN ?_ _ | refine blk_drew ?_ | refine blk_alloc ?_ _)); refine blk_far ?_ NB325_323.out _; (with_reducible repeat (first | refine blk_drewN ?_ _ | refine blk_drew ?_ | refine blk_alloc ?_ _)); refine blk_far ?_ NB325_323.out _; (with_reducible repeat (first | refine blk_drewN ?_ _ | refine blk_drew ?_ | refine blk_alloc ?_ _)); exact BK325.out⟩
              have n5_ : Aside0 (Below w.heap.size w (((((((((w40.setCell ⟨gb323, 0, none⟩ (.int .i64 t314)).setCell ⟨gb323, 1, none⟩ (.int .i64 t315)).setCell ⟨gb323, 2, none⟩ (.string t316)).setCell ⟨gb324, 0, none⟩ (.int .i64 t317)).setCell ⟨gb324, 1, none⟩ (.int .i64 t318)).setCell ⟨gb324, 2, none⟩ (.string t319)).setCell ⟨gb325, 0, none⟩ (.int .i64 t320)).setCell ⟨gb325, 1, none⟩ (.int .i64 t321)).setCell ⟨gb325, 2, none⟩ (.string t322))) := ⟨by repeat (first | (with_reducible first | exact HB.out | apply below_alloc | apply pw_below_drewN | apply below_drew1 | refine below_set ?_ GE309.out | refine below_set ?_ GE310.out | refine below_set ?_ GE323.out | refine below_set ?_ GE324.out | refine below_set ?_ GE325.out) | exact HB.out)⟩
              (try clear BK309)
              (try clear BK310)
              (try clear BK323)
              (try clear BK324)
              (try clear BK325)
              (try clear HB)
              generalize (((((((((w40.setCell ⟨gb323, 0, none⟩ (.int .i64 t314)).setCell ⟨gb323, 1, none⟩ (.int .i64 t315)).setCell ⟨gb323, 2, none⟩ (.string t316)).setCell ⟨gb324, 0, none⟩ (.int .i64 t317)).setCell ⟨gb324, 1, none⟩ (.int .i64 t318)).setCell ⟨gb324, 2, none⟩ (.string t319)).setCell ⟨gb325, 0, none⟩ (.int .i64 t320)).setCell ⟨gb325, 1, none⟩ (.int .i64 t321)).setCell ⟨gb325, 2, none⟩ (.string t322)) = w50 at n0_ n1_ n2_ n3_ n4_ n5_ ⊢
              have BK309 := n0_
              have BK310 := n1_
              have BK323 := n2_
              have BK324 := n3_
              have BK325 := n4_
              have HB := n5_
              clear n0_ n1_ n2_ n3_ n4_ n5_
              have n0_ := Aside0.mk (blk_drew BK309.out)
              have n1_ := Aside0.mk (blk_drew BK310.out)
              have n2_ := Aside0.mk (blk_drew BK323.out)
              have n3_ := Aside0.mk (blk_drew BK324.out)
              have n4_ := Aside0.mk (blk_drew BK325.out)
              have n5_ := Aside0.mk (below_drew1 HB.out)
              clear BK309
              clear BK310
              clear BK323
              clear BK324
              clear BK325
              clear HB
              have BK309 := n0_
              have BK310 := n1_
              have BK323 := n2_
              have BK324 := n3_
              have BK325 := n4_
              have HB := n5_
              clear n0_ n1_ n2_ n3_ n4_ n5_
              refine start_ (n := 22) (S := fun w' => w'.cell? ⟨gb309, 0, none⟩ = some (.int .i64 a0_0) ∧ w'.cell? ⟨gb309, 1, none⟩ = some (.int .i64 a0_1) ∧ w'.cell? ⟨gb309, 2, none⟩ = some (.string a0_2) ∧ w'.cell? ⟨gb310, 0, none⟩ = some (.int .i64 a1_0) ∧ w'.cell? ⟨gb310, 1, none⟩ = some (.int .i64 a1_1) ∧ w'.cell? ⟨gb310, 2, none⟩ = some (.string a1_2) ∧ w'.cell? ⟨gb323, 0, none⟩ = some (.int .i64 t314) ∧ w'.cell? ⟨gb323, 1, none⟩ = some (.int .i64 t315) ∧ w'.cell? ⟨gb323, 2, none⟩ = some (.string t316) ∧ w'.cell? ⟨gb324, 0, none⟩ = some (.int .i64 t317) ∧ w'.cell? ⟨gb324, 1, none⟩ = some (.int .i64 t318) ∧ w'.cell? ⟨gb324, 2, none⟩ = some (.string t319) ∧ w'.cell? ⟨gb325, 0, none⟩ = some (.int .i64 t320) ∧ w'.cell? ⟨gb325, 1, none⟩ = some (.int .i64 t321) ∧ w'.cell? ⟨gb325, 2, none⟩ = some (.string t322)) (ds := []) #[false, false, false, false, false, false, false, false, false, false, false, false, false, false, false, false, false, false, false, false, false, false] (by kernel_rfl) rfl rfl ⟨(blk_cell BK309.out 0).trans rfl, (blk_cell BK309.out 1).trans rfl, (blk_cell BK309.out 2).trans rfl, (blk_cell BK310.out 0).trans rfl, (blk_cell BK310.out 1).trans rfl, (blk_cell BK310.out 2).trans rfl, (blk_cell BK323.out 0).trans rfl, (blk_cell BK323.out 1).trans rfl, (blk_cell BK323.out 2).trans rfl, (blk_cell BK324.out 0).trans rfl, (blk_cell BK324.out 1).trans rfl, (blk_cell BK324.out 2).trans rfl, (blk_cell BK325.out 0).trans rfl, (blk_cell BK325.out 1).trans rfl, (blk_cell BK325.out 2).trans rfl⟩ (fun hHeld => ?_); refine with_tabW laminalaw04_ValueComplements.tab4 laminalaw04_ValueComplements.bits4 (fun HT_ HW_ => ?_)
              generalize w50.drew = w51 at BK309 BK310 BK323 BK324 BK325 HB hHeld ⊢
              refine take_ (i := 0) (N := some 26) (v := ?_) (a' := ?_) #[true, false, false, false, false, false, false, false, false, false, false, false, false, false, false, false, false, false, false, false, false, false] rfl rfl (take_ofW HT_.out HW_.out (by kernel_rfl)) (fun _ _ _ h => h) (Or.inl ⟨by rfl, ?_⟩) hHeld ?_ ?_
              rotate_left
              · rintro w' ⟨s0, s1, s2, s3, s4, s5, s6, s7, s8, s9, s10, s11, s12, s13, s14⟩
                go_simp
                with_reducible rfl
              rotate_left
              · simp only [Act.put, List.setIfInBounds_toArray, List.set_cons_zero, List.set_cons_succ, i64_w, i32_w]
                rfl
              refine take_ (i := 1) (N := some 27) (v := ?_) (a' := ?_) #[true, true, false, false, false, false, false, false, false, false, false, false, false, false, false, false, false, false, false, false, false, false] rfl rfl (take_ofW HT_.out HW_.out (by kernel_rfl)) (fun _ _ _ h => h) (Or.inl ⟨by rfl, ?_⟩) hHeld ?_ ?_
              rotate_left
              · rintro w' ⟨s0, s1, s2, s3, s4, s5, s6, s7, s8, s9, s10, s11, s12, s13, s14⟩
                go_simp
                with_reducible rfl
              rotate_left
              · simp only [Act.put, List.setIfInBounds_toArray, List.set_cons_zero, List.set_cons_succ, i64_w, i32_w]
                rfl
              refine take_ (i := 3) (N := some 29) (v := ?_) (a' := ?_) #[true, true, false, true, false, false, false, false, false, false, false, false, false, false, false, false, false, false, false, false, false, false] rfl rfl (take_ofW HT_.out HW_.out (by kernel_rfl)) (fun _ _ _ h => h) (Or.inl ⟨by rfl, ?_⟩) hHeld ?_ ?_
              rotate_left
              · rintro w' ⟨s0, s1, s2, s3, s4, s5, s6, s7, s8, s9, s10, s11, s12, s13, s14⟩
                go_simp
                with_reducible rfl
              rotate_left
              · simp only [Act.put, List.setIfInBounds_toArray, List.set_cons_zero, List.set_cons_succ, i64_w, i32_w]
                rfl
              refine one_ (i := 2) (N := some 28) #[true, true, true, true, false, false, false, false, false, false, false, false, false, false, false, false, false, false, false, false, false, false] rfl rfl (one_of HT_.out (by kernel_rfl)) (by decide) (fun K hK => ?_)
              refine goes_ Try.func19 (by kernel_rfl) rfl #[.int .i64 6, .agg #[.int .i64 a0_0, .int .i64 a0_1, .string a0_2], .agg #[.int .i64 a1_0, .int .i64 a1_1, .string a1_2]] (by rfl) rfl rfl (by (try simp only [List.map_toArray, List.map_cons, List.map_nil]); first | done | rfl | (simp only [List.length_drop, List.length_take]; rfl) | (simp only [Int.ofNat_lt, Int.ofNat_le, gt_iff_lt, ge_iff_le]; rfl)) ?_
              with_reducible refine (value_Test.calls kj2 6 a0_0 a0_1 a0_2 a1_0 a1_1 a1_2 t326 t327 t328 _ A23.out).mono ?_
              rintro e w52 ⟨rfl, hb⟩
              refine ⟨_, rfl, ?_⟩
              have n0_ := Aside0.mk (blk_below (g := gb309) (o := .cells #[.int .i64 a0_0, .int .i64 a0_1, .string a0_2] 23 (0, 0)) (by (with_reducible repeat (first | refine blk_drewN ?_ _ | refine blk_drew ?_ | refine blk_alloc ?_ _)); exact BK309.out) hb)
              have n1_ := Aside0.mk (blk_below (g := gb310) (o := .cells #[.int .i64 a1_0, .int .i64 a1_1, .string a1_2] 23 (0, 0)) (by (with_reducible repeat (first | refine blk_drewN ?_ _ | refine blk_drew ?_ | refine blk_alloc ?_ _)); exact BK310.out) hb)
              have n2_ := Aside0.mk (blk_below (g := gb323) (o := .cells #[.int .i64 t314, .int .i64 t315, .string t316] 23 (0, 0)) (by (with_reducible repeat (first | refine blk_drewN ?_ _ | refine blk_drew ?_ | refine blk_alloc ?_ _)); exact BK323.out) hb)
              have n3_ := Aside0.mk (blk_below (g := gb324) (o := .cells #[.int .i64 t317, .int .i64 t318, .string t319] 23 (0, 0)) (by (with_reducible repeat (first | refine blk_drewN ?_ _ | refine blk_drew ?_ | refine blk_alloc ?_ _)); exact BK324.out) hb)
              have n4_ := Aside0.mk (blk_below (g := gb325) (o := .cells #[.int .i64 t320, .int .i64 t321, .string t322] 23 (0, 0)) (by (with_reducible repeat (first | refine blk_drewN ?_ _ | refine blk_drew ?_ | refine blk_alloc ?_ _)); exact BK325.out) hb)
              have n5_ := Aside0.mk (below_step (by repeat (first | (with_reducible first | exact HB.out | apply below_alloc | apply pw_below_drewN | apply below_drew1 | refine below_set ?_ GE309.out | refine below_set ?_ GE310.out | refine below_set ?_ GE323.out | refine below_set ?_ GE324.out | refine below_set ?_ GE325.out) | exact HB.out)) hb)
              clear BK309
              clear BK310
              clear BK323
              clear BK324
              clear BK325
              clear HB
              have BK309 := n0_
              have BK310 := n1_
              have BK323 := n2_
              have BK324 := n3_
              have BK325 := n4_
              have HB := n5_
              clear n0_ n1_ n2_ n3_ n4_ n5_
              (try clear hb)
              (try clear hb2)
              (try clear hk)
              (try clear hi)
              refine hK.out _ _ ⟨(blk_cell BK309.out 0).trans rfl, (blk_cell BK309.out 1).trans rfl, (blk_cell BK309.out 2).trans rfl, (blk_cell BK310.out 0).trans rfl, (blk_cell BK310.out 1).trans rfl, (blk_cell BK310.out 2).trans rfl, (blk_cell BK323.out 0).trans rfl, (blk_cell BK323.out 1).trans rfl, (blk_cell BK323.out 2).trans rfl, (blk_cell BK324.out 0).trans rfl, (blk_cell BK324.out 1).trans rfl, (blk_cell BK324.out 2).trans rfl, (blk_cell BK325.out 0).trans rfl, (blk_cell BK325.out 1).trans rfl, (blk_cell BK325.out 2).trans rfl⟩ (fun hHeld => ?_)
              clear hK K
              refine norm_ (a' := ?_) ?_ ?_
              rotate_left
              · show Act.put _ (some 28) _ = _
                simp only [Act.put, List.setIfInBounds_toArray, List.set_cons_zero, List.set_cons_succ, i64_w, i32_w]
                rfl
              refine one_ (i := 4) (N := some 30) #[true, true, true, true, true, false, false, false, false, false, false, false, false, false, false, false, false, false, false, false, false, false] rfl rfl (one_of HT_.out (by kernel_rfl)) (by decide) (fun K hK => ?_)
              refine goes_ Try.func20 (by kernel_rfl) rfl #[.agg #[.int .i64 t314, .int .i64 t315, .string t316]] (by rfl) rfl rfl (by (try simp only [List.map_toArray, List.map_cons, List.map_nil]); first | done | rfl | (simp only [List.length_drop, List.length_take]; rfl) | (simp only [Int.ofNat_lt, Int.ofNat_le, gt_iff_lt, ge_iff_le]; rfl)) ?_
              with_reducible refine (value_Not.calls t314 t315 t316 t329 t330 t331 _ A24.out).mono ?_
              rintro e w53 ⟨rfl, hb⟩
              refine ⟨_, rfl, ?_⟩
              have n0_ := Aside0.mk (blk_below (g := gb309) (o := .cells #[.int .i64 a0_0, .int .i64 a0_1, .string a0_2] 23 (0, 0)) (by (with_reducible repeat (first | refine blk_drewN ?_ _ | refine blk_drew ?_ | refine blk_alloc ?_ _)); exact BK309.out) hb)
              have n1_ := Aside0.mk (blk_below (g := gb310) (o := .cells #[.int .i64 a1_0, .int .i64 a1_1, .string a1_2] 23 (0, 0)) (by (with_reducible repeat (first | refine blk_drewN ?_ _ | refine blk_drew ?_ | refine blk_alloc ?_ _)); exact BK310.out) hb)
              have n2_ := Aside0.mk (blk_below (g := gb323) (o := .cells #[.int .i64 t314, .int .i64 t315, .string t316] 23 (0, 0)) (by (with_reducible repeat (first | refine blk_drewN ?_ _ | refine blk_drew ?_ | refine blk_alloc ?_ _)); exact BK323.out) hb)
              have n3_ := Aside0.mk (blk_below (g := gb324) (o := .cells #[.int .i64 t317, .int .i64 t318, .string t319] 23 (0, 0)) (by (with_reducible repeat (first | refine blk_drewN ?_ _ | refine blk_drew ?_ | refine blk_alloc ?_ _)); exact BK324.out) hb)
              have n4_ := Aside0.mk (blk_below (g := gb325) (o := .cells #[.int .i64 t320, .int .i64 t321, .string t322] 23 (0, 0)) (by (with_reducible repeat (first | refine blk_drewN ?_ _ | refine blk_drew ?_ | refine blk_alloc ?_ _)); exact BK325.out) hb)
              have n5_ := Aside0.mk (below_step (by repeat (first | (with_reducible first | exact HB.out | apply below_alloc | apply pw_below_drewN | apply below_drew1 | refine below_set ?_ GE309.out | refine below_set ?_ GE310.out | refine below_set ?_ GE323.out | refine below_set ?_ GE324.out | refine below_set ?_ GE325.out) | exact HB.out)) hb)
              clear BK309
              clear BK310
              clear BK323
              clear BK324
              clear BK325
              clear HB
              have BK309 := n0_
              have BK310 := n1_
              have BK323 := n2_
              have BK324 := n3_
              have BK325 := n4_
              have HB := n5_
              clear n0_ n1_ n2_ n3_ n4_ n5_
              (try clear hb)
              (try clear hb2)
              (try clear hk)
              (try clear hi)
              refine hK.out _ _ ⟨(blk_cell BK309.out 0).trans rfl, (blk_cell BK309.out 1).trans rfl, (blk_cell BK309.out 2).trans rfl, (blk_cell BK310.out 0).trans rfl, (blk_cell BK310.out 1).trans rfl, (blk_cell BK310.out 2).trans rfl, (blk_cell BK323.out 0).trans rfl, (blk_cell BK323.out 1).trans rfl, (blk_cell BK323.out 2).trans rfl, (blk_cell BK324.out 0).trans rfl, (blk_cell BK324.out 1).trans rfl, (blk_cell BK324.out 2).trans rfl, (blk_cell BK325.out 0).trans rfl, (blk_cell BK325.out 1).trans rfl, (blk_cell BK325.out 2).trans rfl⟩ (fun hHeld => ?_)
              clear hK K
              refine norm_ (a' := ?_) ?_ ?_
              rotate_left
              · show Act.put _ (some 30) _ = _
                simp only [Act.put, List.setIfInBounds_toArray, List.set_cons_zero, List.set_cons_succ, i64_w, i32_w]
                rfl
              refine pure_ (i := 5) (N := some 31) (v := ?_) (a' := ?_) #[true, true, true, true, true, true, false, false, false, false, false, false, false, false, false, false, false, false, false, false, false, false] rfl rfl (any_of HT_.out (by kernel_rfl)) (fun _ _ _ h => h) (Or.inl ⟨by rfl, ?_⟩) ?_ ?_
              rotate_left
              · intro w'
                go_simp
                with_reducible rfl
              rotate_left
              · simp only [Act.put, List.setIfInBounds_toArray, List.set_cons_zero, List.set_cons_succ, i64_w, i32_w]
                rfl
              refine pure_ (i := 6) (N := some 32) (v := ?_) (a' := ?_) #[true, true, true, true, true, true, true, false, false, false, false, false, false, false, false, false, false, false, false, false, false, false] rfl rfl (any_of HT_.out (by kernel_rfl)) (fun _ _ _ h => h) (Or.inl ⟨by rfl, ?_⟩) ?_ ?_
              rotate_left
              · intro w'
                go_simp
                with_reducible rfl
              rotate_left
              · simp only [Act.put, List.setIfInBounds_toArray, List.set_cons_zero, List.set_cons_succ, i64_w, i32_w]
                rfl
              refine take_ (i := 7) (N := some 33) (v := ?_) (a' := ?_) #[true, true, true, true, true, true, true, true, false, false, false, false, false, false, false, false, false, false, false, false, false, false] rfl rfl (take_ofW HT_.out HW_.out (by kernel_rfl)) (fun _ _ _ h => h) (Or.inl ⟨by rfl, ?_⟩) hHeld ?_ ?_
              rotate_left
              · rintro w' ⟨s0, s1, s2, s3, s4, s5, s6, s7, s8, s9, s10, s11, s12, s13, s14⟩
                go_simp
                with_reducible rfl
              rotate_left
              · simp only [Act.put, List.setIfInBounds_toArray, List.set_cons_zero, List.set_cons_succ, i64_w, i32_w]
                rfl
              refine take_ (i := 8) (N := some 34) (v := ?_) (a' := ?_) #[true, true, true, true, true, true, true, true, true, false, false, false, false, false, false, false, false, false, false, false, false, false] rfl rfl (take_ofW HT_.out HW_.out (by kernel_rfl)) (fun _ _ _ h => h) (Or.inl ⟨by rfl, ?_⟩) hHeld ?_ ?_
              rotate_left
              · rintro w' ⟨s0, s1, s2, s3, s4, s5, s6, s7, s8, s9, s10, s11, s12, s13, s14⟩
                go_simp
                with_reducible rfl
              rotate_left
              · simp only [Act.put, List.setIfInBounds_toArray, List.set_cons_zero, List.set_cons_succ, i64_w, i32_w]
                rfl
              refine take_ (i := 10) (N := some 36) (v := ?_) (a' := ?_) #[true, true, true, true, true, true, true, true, true, false, true, false, false, false, false, false, false, false, false, false, false, false] rfl rfl (take_ofW HT_.out HW_.out (by kernel_rfl)) (fun _ _ _ h => h) (Or.inl ⟨by rfl, ?_⟩) hHeld ?_ ?_
              rotate_left
              · rintro w' ⟨s0, s1, s2, s3, s4, s5, s6, s7, s8, s9, s10, s11, s12, s13, s14⟩
                go_simp
                with_reducible rfl
              rotate_left
              · simp only [Act.put, List.setIfInBounds_toArray, List.set_cons_zero, List.set_cons_succ, i64_w, i32_w]
                rfl
              refine one_ (i := 9) (N := some 35) #[true, true, true, true, true, true, true, true, true, true, true, false, false, false, false, false, false, false, false, false, false, false] rfl rfl (one_of HT_.out (by kernel_rfl)) (by decide) (fun K hK => ?_)
              refine goes_ Try.func19 (by kernel_rfl) rfl #[.int .i64 2, .agg #[.int .i64 a0_0, .int .i64 a0_1, .string a0_2], .agg #[.int .i64 a1_0, .int .i64 a1_1, .string a1_2]] (by rfl) rfl rfl (by (try simp only [List.map_toArray, List.map_cons, List.map_nil]); first | done | rfl | (simp only [List.length_drop, List.length_take]; rfl) | (simp only [Int.ofNat_lt, Int.ofNat_le, gt_iff_lt, ge_iff_le]; rfl)) ?_
              with_reducible refine (value_Test.calls kj2 2 a0_0 a0_1 a0_2 a1_0 a1_1 a1_2 t332 t333 t334 _ A26.out).mono ?_
              rintro e w54 ⟨rfl, hb⟩
              refine ⟨_, rfl, ?_⟩
              have n0_ := Aside0.mk (blk_below (g := gb309) (o := .cells #[.int .i64 a0_0, .int .i64 a0_1, .string a0_2] 23 (0, 0)) (by (with_reducible repeat (first | refine blk_drewN ?_ _ | refine blk_drew ?_ | refine blk_alloc ?_ _)); exact BK309.out) hb)
              have n1_ := Aside0.mk (blk_below (g := gb310) (o := .cells #[.int .i64 a1_0, .int .i64 a1_1, .string a1_2] 23 (0, 0)) (by (with_reducible repeat (first | refine blk_drewN ?_ _ | refine blk_drew ?_ | refine blk_alloc ?_ _)); exact BK310.out) hb)
              have n2_ := Aside0.mk (blk_below (g := gb323) (o := .cells #[.int .i64 t314, .int .i64 t315, .string t316] 23 (0, 0)) (by (with_reducible repeat (first | refine blk_drewN ?_ _ | refine blk_drew ?_ | refine blk_alloc ?_ _)); exact BK323.out) hb)
              have n3_ := Aside0.mk (blk_below (g := gb324) (o := .cells #[.int .i64 t317, .int .i64 t318, .string t319] 23 (0, 0)) (by (with_reducible repeat (first | refine blk_drewN ?_ _ | refine blk_drew ?_ | refine blk_alloc ?_ _)); exact BK324.out) hb)
              have n4_ := Aside0.mk (blk_below (g := gb325) (o := .cells #[.int .i64 t320, .int .i64 t321, .string t322] 23 (0, 0)) (by (with_reducible repeat (first | refine blk_drewN ?_ _ | refine blk_drew ?_ | refine blk_alloc ?_ _)); exact BK325.out) hb)
              have n5_ := Aside0.mk (below_step (by repeat (first | (with_reducible first | exact HB.out | apply below_alloc | apply pw_below_drewN | apply below_drew1 | refine below_set ?_ GE309.out | refine below_set ?_ GE310.out | refine below_set ?_ GE323.out | refine below_set ?_ GE324.out | refine below_set ?_ GE325.out) | exact HB.out)) hb)
              clear BK309
              clear BK310
              clear BK323
              clear BK324
              clear BK325
              clear HB
              have BK309 := n0_
              have BK310 := n1_
              have BK323 := n2_
              have BK324 := n3_
              have BK325 := n4_
              have HB := n5_
              clear n0_ n1_ n2_ n3_ n4_ n5_
              (try clear hb)
              (try clear hb2)
              (try clear hk)
              (try clear hi)
              refine hK.out _ _ ⟨(blk_cell BK309.out 0).trans rfl, (blk_cell BK309.out 1).trans rfl, (blk_cell BK309.out 2).trans rfl, (blk_cell BK310.out 0).trans rfl, (blk_cell BK310.out 1).trans rfl, (blk_cell BK310.out 2).trans rfl, (blk_cell BK323.out 0).trans rfl, (blk_cell BK323.out 1).trans rfl, (blk_cell BK323.out 2).trans rfl, (blk_cell BK324.out 0).trans rfl, (blk_cell BK324.out 1).trans rfl, (blk_cell BK324.out 2).trans rfl, (blk_cell BK325.out 0).trans rfl, (blk_cell BK325.out 1).trans rfl, (blk_cell BK325.out 2).trans rfl⟩ (fun hHeld => ?_)
              clear hK K
              refine norm_ (a' := ?_) ?_ ?_
              rotate_left
              · show Act.put _ (some 35) _ = _
                simp only [Act.put, List.setIfInBounds_toArray, List.set_cons_zero, List.set_cons_succ, i64_w, i32_w]
                rfl
              refine one_ (i := 11) (N := some 37) #[true, true, true, true, true, true, true, true, true, true, true, true, false, false, false, false, false, false, false, false, false, false] rfl rfl (one_of HT_.out (by kernel_rfl)) (by decide) (fun K hK => ?_)
              refine goes_ Try.func20 (by kernel_rfl) rfl #[.agg #[.int .i64 t317, .int .i64 t318, .string t319]] (by rfl) rfl rfl (by (try simp only [List.map_toArray, List.map_cons, List.map_nil]); first | done | rfl | (simp only [List.length_drop, List.length_take]; rfl) | (simp only [Int.ofNat_lt, Int.ofNat_le, gt_iff_lt, ge_iff_le]; rfl)) ?_
              with_reducible refine (value_Not.calls t317 t318 t319 t335 t336 t337 _ A27.out).mono ?_
              rintro e w55 ⟨rfl, hb⟩
              refine ⟨_, rfl, ?_⟩
              have n0_ := Aside0.mk (blk_below (g := gb309) (o := .cells #[.int .i64 a0_0, .int .i64 a0_1, .string a0_2] 23 (0, 0)) (by (with_reducible repeat (first | refine blk_drewN ?_ _ | refine blk_drew ?_ | refine blk_alloc ?_ _)); exact BK309.out) hb)
              have n1_ := Aside0.mk (blk_below (g := gb310) (o := .cells #[.int .i64 a1_0, .int .i64 a1_1, .string a1_2] 23 (0, 0)) (by (with_reducible repeat (first | refine blk_drewN ?_ _ | refine blk_drew ?_ | refine blk_alloc ?_ _)); exact BK310.out) hb)
              have n2_ := Aside0.mk (blk_below (g := gb323) (o := .cells #[.int .i64 t314, .int .i64 t315, .string t316] 23 (0, 0)) (by (with_reducible repeat (first | refine blk_drewN ?_ _ | refine blk_drew ?_ | refine blk_alloc ?_ _)); exact BK323.out) hb)
              have n3_ := Aside0.mk (blk_below (g := gb324) (o := .cells #[.int .i64 t317, .int .i64 t318, .string t319] 23 (0, 0)) (by (with_reducible repeat (first | refine blk_drewN ?_ _ | refine blk_drew ?_ | refine blk_alloc ?_ _)); exact BK324.out) hb)
              have n4_ := Aside0.mk (blk_below (g := gb325) (o := .cells #[.int .i64 t320, .int .i64 t321, .string t322] 23 (0, 0)) (by (with_reducible repeat (first | refine blk_drewN ?_ _ | refine blk_drew ?_ | refine blk_alloc ?_ _)); exact BK325.out) hb)
              have n5_ := Aside0.mk (below_step (by repeat (first | (with_reducible first | exact HB.out | apply below_alloc | apply pw_below_drewN | apply below_drew1 | refine below_set ?_ GE309.out | refine below_set ?_ GE310.out | refine below_set ?_ GE323.out | refine below_set ?_ GE324.out | refine below_set ?_ GE325.out) | exact HB.out)) hb)
              clear BK309
              clear BK310
              clear BK323
              clear BK324
              clear BK325
              clear HB
              have BK309 := n0_
              have BK310 := n1_
              have BK323 := n2_
              have BK324 := n3_
              have BK325 := n4_
              have HB := n5_
              clear n0_ n1_ n2_ n3_ n4_ n5_
              (try clear hb)
              (try clear hb2)
              (try clear hk)
              (try clear hi)
              refine hK.out _ _ ⟨(blk_cell BK309.out 0).trans rfl, (blk_cell BK309.out 1).trans rfl, (blk_cell BK309.out 2).trans rfl, (blk_cell BK310.out 0).trans rfl, (blk_cell BK310.out 1).trans rfl, (blk_cell BK310.out 2).trans rfl, (blk_cell BK323.out 0).trans rfl, (blk_cell BK323.out 1).trans rfl, (blk_cell BK323.out 2).trans rfl, (blk_cell BK324.out 0).trans rfl, (blk_cell BK324.out 1).trans rfl, (blk_cell BK324.out 2).trans rfl, (blk_cell BK325.out 0).trans rfl, (blk_cell BK325.out 1).trans rfl, (blk_cell BK325.out 2).trans rfl⟩ (fun hHeld => ?_)
              clear hK K
              refine norm_ (a' := ?_) ?_ ?_
              rotate_left
              · show Act.put _ (some 37) _ = _
                simp only [Act.put, List.setIfInBounds_toArray, List.set_cons_zero, List.set_cons_succ, i64_w, i32_w]
                rfl
              refine pure_ (i := 12) (N := some 38) (v := ?_) (a' := ?_) #[true, true, true, true, true, true, true, true, true, true, true, true, true, false, false, false, false, false, false, false, false, false] rfl rfl (any_of HT_.out (by kernel_rfl)) (fun _ _ _ h => h) (Or.inl ⟨by rfl, ?_⟩) ?_ ?_
              rotate_left
              · intro w'
                go_simp
                with_reducible rfl
              rotate_left
              · simp only [Act.put, List.setIfInBounds_toArray, List.set_cons_zero, List.set_cons_succ, i64_w, i32_w]
                rfl
              refine pure_ (i := 13) (N := some 39) (v := ?_) (a' := ?_) #[true, true, true, true, true, true, true, true, true, true, true, true, true, true, false, false, false, false, false, false, false, false] rfl rfl (any_of HT_.out (by kernel_rfl)) (fun _ _ _ h => h) (Or.inl ⟨by rfl, ?_⟩) ?_ ?_
              rotate_left
              · intro w'
                go_simp
                with_reducible rfl
              rotate_left
              · simp only [Act.put, List.setIfInBounds_toArray, List.set_cons_zero, List.set_cons_succ, i64_w, i32_w]
                rfl
              refine pure_ (i := 14) (N := some 40) (v := ?_) (a' := ?_) #[true, true, true, true, true, true, true, true, true, true, true, true, true, true, true, false, false, false, false, false, false, false] rfl rfl (any_of HT_.out (by kernel_rfl)) (fun _ _ _ h => h) (Or.inl ⟨by rfl, ?_⟩) ?_ ?_
              rotate_left
              · intro w'
                go_simp
                with_reducible rfl
              rotate_left
              · simp only [Act.put, List.setIfInBounds_toArray, List.set_cons_zero, List.set_cons_succ, i64_w, i32_w]
                rfl
              refine take_ (i := 15) (N := some 41) (v := ?_) (a' := ?_) #[true, true, true, true, true, true, true, true, true, true, true, true, true, true, true, true, false, false, false, false, false, false] rfl rfl (take_ofW HT_.out HW_.out (by kernel_rfl)) (fun _ _ _ h => h) (Or.inl ⟨by rfl, ?_⟩) hHeld ?_ ?_
              rotate_left
              · rintro w' ⟨s0, s1, s2, s3, s4, s5, s6, s7, s8, s9, s10, s11, s12, s13, s14⟩
                go_simp
                with_reducible rfl
              rotate_left
              · simp only [Act.put, List.setIfInBounds_toArray, List.set_cons_zero, List.set_cons_succ, i64_w, i32_w]
                rfl
              refine take_ (i := 16) (N := some 42) (v := ?_) (a' := ?_) #[true, true, true, true, true, true, true, true, true, true, true, true, true, true, true, true, true, false, false, false, false, false] rfl rfl (take_ofW HT_.out HW_.out (by kernel_rfl)) (fun _ _ _ h => h) (Or.inl ⟨by rfl, ?_⟩) hHeld ?_ ?_
              rotate_left
              · rintro w' ⟨s0, s1, s2, s3, s4, s5, s6, s7, s8, s9, s10, s11, s12, s13, s14⟩
                go_simp
                with_reducible rfl
              rotate_left
              · simp only [Act.put, List.setIfInBounds_toArray, List.set_cons_zero, List.set_cons_succ, i64_w, i32_w]
                rfl
              refine take_ (i := 18) (N := some 44) (v := ?_) (a' := ?_) #[true, true, true, true, true, true, true, true, true, true, true, true, true, true, true, true, true, false, true, false, false, false] rfl rfl (take_ofW HT_.out HW_.out (by kernel_rfl)) (fun _ _ _ h => h) (Or.inl ⟨by rfl, ?_⟩) hHeld ?_ ?_
              rotate_left
              · rintro w' ⟨s0, s1, s2, s3, s4, s5, s6, s7, s8, s9, s10, s11, s12, s13, s14⟩
                go_simp
                with_reducible rfl
              rotate_left
              · simp only [Act.put, List.setIfInBounds_toArray, List.set_cons_zero, List.set_cons_succ, i64_w, i32_w]
                rfl
              refine one_ (i := 17) (N := some 43) #[true, true, true, true, true, true, true, true, true, true, true, true, true, true, true, true, true, true, true, false, false, false] rfl rfl (one_of HT_.out (by kernel_rfl)) (by decide) (fun K hK => ?_)
              refine goes_ Try.func19 (by kernel_rfl) rfl #[.int .i64 4, .agg #[.int .i64 a0_0, .int .i64 a0_1, .string a0_2], .agg #[.int .i64 a1_0, .int .i64 a1_1, .string a1_2]] (by rfl) rfl rfl (by (try simp only [List.map_toArray, List.map_cons, List.map_nil]); first | done | rfl | (simp only [List.length_drop, List.length_take]; rfl) | (simp only [Int.ofNat_lt, Int.ofNat_le, gt_iff_lt, ge_iff_le]; rfl)) ?_
              with_reducible refine (value_Test.calls kj2 4 a0_0 a0_1 a0_2 a1_0 a1_1 a1_2 t338 t339 t340 _ A29.out).mono ?_
              rintro e w56 ⟨rfl, hb⟩
              refine ⟨_, rfl, ?_⟩
              have n0_ := Aside0.mk (blk_below (g := gb309) (o := .cells #[.int .i64 a0_0, .int .i64 a0_1, .string a0_2] 23 (0, 0)) (by (with_reducible repeat (first | refine blk_drewN ?_ _ | refine blk_drew ?_ | refine blk_alloc ?_ _)); exact BK309.out) hb)
              have n1_ := Aside0.mk (blk_below (g := gb310) (o := .cells #[.int .i64 a1_0, .int .i64 a1_1, .string a1_2] 23 (0, 0)) (by (with_reducible repeat (first | refine blk_drewN ?_ _ | refine blk_drew ?_ | refine blk_alloc ?_ _)); exact BK310.out) hb)
              have n2_ := Aside0.mk (blk_below (g := gb323) (o := .cells #[.int .i64 t314, .int .i64 t315, .string t316] 23 (0, 0)) (by (with_reducible repeat (first | refine blk_drewN ?_ _ | refine blk_drew ?_ | refine blk_alloc ?_ _)); exact BK323.out) hb)
              have n3_ := Aside0.mk (blk_below (g := gb324) (o := .cells #[.int .i64 t317, .int .i64 t318, .string t319] 23 (0, 0)) (by (with_reducible repeat (first | refine blk_drewN ?_ _ | refine blk_drew ?_ | refine blk_alloc ?_ _)); exact BK324.out) hb)
              have n4_ := Aside0.mk (blk_below (g := gb325) (o := .cells #[.int .i64 t320, .int .i64 t321, .string t322] 23 (0, 0)) (by (with_reducible repeat (first | refine blk_drewN ?_ _ | refine blk_drew ?_ | refine blk_alloc ?_ _)); exact BK325.out) hb)
              have n5_ := Aside0.mk (below_step (by repeat (first | (with_reducible first | exact HB.out | apply below_alloc | apply pw_below_drewN | apply below_drew1 | refine below_set ?_ GE309.out | refine below_set ?_ GE310.out | refine below_set ?_ GE323.out | refine below_set ?_ GE324.out | refine below_set ?_ GE325.out) | exact HB.out)) hb)
              clear BK309
              clear BK310
              clear BK323
              clear BK324
              clear BK325
              clear HB
              have BK309 := n0_
              have BK310 := n1_
              have BK323 := n2_
              have BK324 := n3_
              have BK325 := n4_
              have HB := n5_
              clear n0_ n1_ n2_ n3_ n4_ n5_
              (try clear hb)
              (try clear hb2)
              (try clear hk)
              (try clear hi)
              refine hK.out _ _ ⟨(blk_cell BK309.out 0).trans rfl, (blk_cell BK309.out 1).trans rfl, (blk_cell BK309.out 2).trans rfl, (blk_cell BK310.out 0).trans rfl, (blk_cell BK310.out 1).trans rfl, (blk_cell BK310.out 2).trans rfl, (blk_cell BK323.out 0).trans rfl, (blk_cell BK323.out 1).trans rfl, (blk_cell BK323.out 2).trans rfl, (blk_cell BK324.out 0).trans rfl, (blk_cell BK324.out 1).trans rfl, (blk_cell BK324.out 2).trans rfl, (blk_cell BK325.out 0).trans rfl, (blk_cell BK325.out 1).trans rfl, (blk_cell BK325.out 2).trans rfl⟩ (fun hHeld => ?_)
              clear hK K
              refine norm_ (a' := ?_) ?_ ?_
              rotate_left
              · show Act.put _ (some 43) _ = _
                simp only [Act.put, List.setIfInBounds_toArray, List.set_cons_zero, List.set_cons_succ, i64_w, i32_w]
                rfl
              refine one_ (i := 19) (N := some 45) #[true, true, true, true, true, true, true, true, true, true, true, true, true, true, true, true, true, true, true, true, false, false] rfl rfl (one_of HT_.out (by kernel_rfl)) (by decide) (fun K hK => ?_)
              refine goes_ Try.func20 (by kernel_rfl) rfl #[.agg #[.int .i64 t320, .int .i64 t321, .string t322]] (by rfl) rfl rfl (by (try simp only [List.map_toArray, List.map_cons, List.map_nil]); first | done | rfl | (simp only [List.length_drop, List.length_take]; rfl) | (simp only [Int.ofNat_lt, Int.ofNat_le, gt_iff_lt, ge_iff_le]; rfl)) ?_
              with_reducible refine (value_Not.calls t320 t321 t322 t341 t342 t343 _ A30.out).mono ?_
              rintro e w57 ⟨rfl, hb⟩
              refine ⟨_, rfl, ?_⟩
              have n0_ := Aside0.mk (blk_below (g := gb309) (o := .cells #[.int .i64 a0_0, .int .i64 a0_1, .string a0_2] 23 (0, 0)) (by (with_reducible repeat (first | refine blk_drewN ?_ _ | refine blk_drew ?_ | refine blk_alloc ?_ _)); exact BK309.out) hb)
              have n1_ := Aside0.mk (blk_below (g := gb310) (o := .cells #[.int .i64 a1_0, .int .i64 a1_1, .string a1_2] 23 (0, 0)) (by (with_reducible repeat (first | refine blk_drewN ?_ _ | refine blk_drew ?_ | refine blk_alloc ?_ _)); exact BK310.out) hb)
              have n2_ := Aside0.mk (blk_below (g := gb323) (o := .cells #[.int .i64 t314, .int .i64 t315, .string t316] 23 (0, 0)) (by (with_reducible repeat (first | refine blk_drewN ?_ _ | refine blk_drew ?_ | refine blk_alloc ?_ _)); exact BK323.out) hb)
              have n3_ := Aside0.mk (blk_below (g := gb324) (o := .cells #[.int .i64 t317, .int .i64 t318, .string t319] 23 (0, 0)) (by (with_reducible repeat (first | refine blk_drewN ?_ _ | refine blk_drew ?_ | refine blk_alloc ?_ _)); exact BK324.out) hb)
              have n4_ := Aside0.mk (blk_below (g := gb325) (o := .cells #[.int .i64 t320, .int .i64 t321, .string t322] 23 (0, 0)) (by (with_reducible repeat (first | refine blk_drewN ?_ _ | refine blk_drew ?_ | refine blk_alloc ?_ _)); exact BK325.out) hb)
              have n5_ := Aside0.mk (below_step (by repeat (first | (with_reducible first | exact HB.out | apply below_alloc | apply pw_below_drewN | apply below_drew1 | refine below_set ?_ GE309.out | refine below_set ?_ GE310.out | refine below_set ?_ GE323.out | refine below_set ?_ GE324.out | refine below_set ?_ GE325.out) | exact HB.out)) hb)
              clear BK309
              clear BK310
              clear BK323
              clear BK324
              clear BK325
              clear HB
              have BK309 := n0_
              have BK310 := n1_
              have BK323 := n2_
              have BK324 := n3_
              have BK325 := n4_
              have HB := n5_
              clear n0_ n1_ n2_ n3_ n4_ n5_
              (try clear hb)
              (try clear hb2)
              (try clear hk)
              (try clear hi)
              refine hK.out _ _ ⟨(blk_cell BK309.out 0).trans rfl, (blk_cell BK309.out 1).trans rfl, (blk_cell BK309.out 2).trans rfl, (blk_cell BK310.out 0).trans rfl, (blk_cell BK310.out 1).trans rfl, (blk_cell BK310.out 2).trans rfl, (blk_cell BK323.out 0).trans rfl, (blk_cell BK323.out 1).trans rfl, (blk_cell BK323.out 2).trans rfl, (blk_cell BK324.out 0).trans rfl, (blk_cell BK324.out 1).trans rfl, (blk_cell BK324.out 2).trans rfl, (blk_cell BK325.out 0).trans rfl, (blk_cell BK325.out 1).trans rfl, (blk_cell BK325.out 2).trans rfl⟩ (fun hHeld => ?_)
              clear hK K
              refine norm_ (a' := ?_) ?_ ?_
              rotate_left
              · show Act.put _ (some 45) _ = _
                simp only [Act.put, List.setIfInBounds_toArray, List.set_cons_zero, List.set_cons_succ, i64_w, i32_w]
                rfl
              refine pure_ (i := 20) (N := some 46) (v := ?_) (a' := ?_) #[true, true, true, true, true, true, true, true, true, true, true, true, true, true, true, true, true, true, true, true, true, false] rfl rfl (any_of HT_.out (by kernel_rfl)) (fun _ _ _ h => h) (Or.inl ⟨by rfl, ?_⟩) ?_ ?_
              rotate_left
              · intro w'
                go_simp
                with_reducible rfl
              rotate_left
              · simp only [Act.put, List.setIfInBounds_toArray, List.set_cons_zero, List.set_cons_succ, i64_w, i32_w]
                rfl
              refine pure_ (i := 21) (N := some 47) (v := ?_) (a' := ?_) #[true, true, true, true, true, true, true, true, true, true, true, true, true, true, true, true, true, true, true, true, true, true] rfl rfl (any_of HT_.out (by kernel_rfl)) (fun _ _ _ h => h) (Or.inl ⟨by rfl, ?_⟩) ?_ ?_
              rotate_left
              · intro w'
                go_simp
                with_reducible rfl
              rotate_left
              · simp only [Act.put, List.setIfInBounds_toArray, List.set_cons_zero, List.set_cons_succ, i64_w, i32_w]
                rfl
              refine done_ (done_of HT_.out (by kernel_rfl)) ?_
              go_upto_region 6 with (fail)
              go_cut [57] (fun v57 wc => ∃ (kq : Nat) (x57_31 : Bool), v57 = .bool x57_31 ∧ Aside0 (laminalaw04_ValueComplements.j1 kq x57_31 t314 t315 t316 t317 t318 t319 t320 t321 t322 = some r) ∧ Aside0 (kq ≤ kj2) ∧ Aside0 (wc.heap[gb309]? = some (.cells #[.int .i64 a0_0, .int .i64 a0_1, .string a0_2] 23 (0, 0))) ∧ Aside0 (wc.heap[gb310]? = some (.cells #[.int .i64 a1_0, .int .i64 a1_1, .string a1_2] 23 (0, 0))) ∧ Aside0 (wc.heap[gb323]? = some (.cells #[.int .i64 t314, .int .i64 t315, .string t316] 23 (0, 0))) ∧ Aside0 (wc.heap[gb324]? = some (.cells #[.int .i64 t317, .int .i64 t318, .string t319] 23 (0, 0))) ∧ Aside0 (wc.heap[gb325]? = some (.cells #[.int .i64 t320, .int .i64 t321, .string t322] 23 (0, 0))) ∧ Aside0 (Below w.heap.size w wc))
              case first =>
                have H := HC32.out
                clear HC32
                by_cases c58 : a0_0 = 0
                · rw [if_pos c58] at H
                  have c58b0 : (a0_0 == 0) = true := beq_iff_eq.mpr c58
                  have c58b1 : (a0_0 != 0) = false := bne_eq_false_iff_eq.mpr c58
                  clear c58
                  (first | rw [c58b0] | (simp only [i64_w, i32_w]; rw [c58b0]) | skip)
                  have H' := Aside0.mk H
                  clear H
                  have hnb59 := NB309_310.out
                  have hnc59 := NB310_309.out
                  have hnb60 := NB309_323.out
                  have hnc60 := NB323_309.out
                  have hnb61 := NB309_324.out
                  have hnc61 := NB324_309.out
                  have hnb62 := NB309_325.out
                  have hnc62 := NB325_309.out
                  have hcz63_0 : w57.cell? ⟨gb309, 0, none⟩ = some (.int .i64 a0_0) := (blk_cell BK309.out 0).trans rfl
                  have hcz63_1 : w57.cell? ⟨gb309, 1, none⟩ = some (.int .i64 a0_1) := (blk_cell BK309.out 1).trans rfl
                  have hcz63_2 : w57.cell? ⟨gb309, 2, none⟩ = some (.string a0_2) := (blk_cell BK309.out 2).trans rfl
                  have hfz63_0 := blk_frozen BK309.out 0
                  have hfz63_1 := blk_frozen BK309.out 1
                  have hfz63_2 := blk_frozen BK309.out 2
                  go_wp2
                  go_meet
                  case rel => exact ⟨_, (true), (by first | rfl | (simp; done) | (simp [*]; done)), H', ⟨by have := HJ2.out; first | omega | exact Nat.le_refl _⟩, ⟨by (with_reducible repeat (first | refine blk_drewN ?_ _ | refine blk_drew ?_ | refine blk_alloc ?_ _)); exact BK309.out⟩, ⟨by (with_reducible repeat (first | refine blk_drewN ?_ _ | refine blk_drew ?_ | refine blk_alloc ?_ _)); exact BK310.out⟩, ⟨by (with_reducible repeat (first | refine blk_drewN ?_ _ | refine blk_drew ?_ | refine blk_alloc ?_ _)); exact BK323.out⟩, ⟨by (with_reducible repeat (first | refine blk_drewN ?_ _ | refine blk_drew ?_ | refine blk_alloc ?_ _)); exact BK324.out⟩, ⟨by (with_reducible repeat (first | refine blk_drewN ?_ _ | refine blk_drew ?_ | refine blk_alloc ?_ _)); exact BK325.out⟩, ⟨by repeat (first | (with_reducible first | exact HB.out | apply below_alloc | apply pw_below_drewN | apply below_drew1 | refine below_set ?_ GE309.out | refine below_set ?_ GE310.out | refine below_set ?_ GE323.out | refine below_set ?_ GE324.out | refine below_set ?_ GE325.out) | exact HB.out)⟩⟩
                · rw [if_neg c58] at H
                  have c58b0 : (a0_0 == 0) = false := beq_eq_false_iff_ne.mpr c58
                  have c58b1 : (a0_0 != 0) = true := bne_iff_ne.mpr c58
                  (first | rw [c58b0] | (simp only [i64_w, i32_w]; rw [c58b0]) | skip)
                  have H' := Aside0.mk H
                  clear H
                  have hnb64 := NB309_310.out
                  have hnc64 := NB310_309.out
                  have hnb65 := NB309_323.out
                  have hnc65 := NB323_309.out
                  have hnb66 := NB309_324.out
                  have hnc66 := NB324_309.out
                  have hnb67 := NB309_325.out
                  have hnc67 := NB325_309.out
                  have hcz68_0 : w57.cell? ⟨gb309, 0, none⟩ = some (.int .i64 a0_0) := (blk_cell BK309.out 0).trans rfl
                  have hcz68_1 : w57.cell? ⟨gb309, 1, none⟩ = some (.int .i64 a0_1) := (blk_cell BK309.out 1).trans rfl
                  have hcz68_2 : w57.cell? ⟨gb309, 2, none⟩ = some (.string a0_2) := (blk_cell BK309.out 2).trans rfl
                  have hfz68_0 := blk_frozen BK309.out 0
                  have hfz68_1 := blk_frozen BK309.out 1
                  have hfz68_2 := blk_frozen BK309.out 2
                  have hnb69 := NB310_323.out
                  have hnc69 := NB323_310.out
                  have hnb70 := NB310_324.out
                  have hnc70 := NB324_310.out
                  have hnb71 := NB310_325.out
                  have hnc71 := NB325_310.out
                  have hcz72_0 : w57.cell? ⟨gb310, 0, none⟩ = some (.int .i64 a1_0) := (blk_cell BK310.out 0).trans rfl
                  have hcz72_1 : w57.cell? ⟨gb310, 1, none⟩ = some (.int .i64 a1_1) := (blk_cell BK310.out 1).trans rfl
                  have hcz72_2 : w57.cell? ⟨gb310, 2, none⟩ = some (.string a1_2) := (blk_cell BK310.out 2).trans rfl
                  have hfz72_0 := blk_frozen BK310.out 0
                  have hfz72_1 := blk_frozen BK310.out 1
                  have hfz72_2 := blk_frozen BK310.out 2
                  go_wp2
                  go_meet
                  case rel => exact ⟨_, ((a0_0 != a1_0)), (by first | rfl | (simp; done) | (simp [*]; done)), H', ⟨by have := HJ2.out; first | omega | exact Nat.le_refl _⟩, ⟨by (with_reducible repeat (first | refine blk_drewN ?_ _ | refine blk_drew ?_ | refine blk_alloc ?_ _)); exact BK309.out⟩, ⟨by (with_reducible repeat (first | refine blk_drewN ?_ _ | refine blk_drew ?_ | refine blk_alloc ?_ _)); exact BK310.out⟩, ⟨by (with_reducible repeat (first | refine blk_drewN ?_ _ | refine blk_drew ?_ | refine blk_alloc ?_ _)); exact BK323.out⟩, ⟨by (with_reducible repeat (first | refine blk_drewN ?_ _ | refine blk_drew ?_ | refine blk_alloc ?_ _)); exact BK324.out⟩, ⟨by (with_reducible repeat (first | refine blk_drewN ?_ _ | refine blk_drew ?_ | refine blk_alloc ?_ _)); exact BK325.out⟩, ⟨by repeat (first | (with_reducible first | exact HB.out | apply below_alloc | apply pw_below_drewN | apply below_drew1 | refine below_set ?_ GE309.out | refine below_set ?_ GE310.out | refine below_set ?_ GE323.out | refine below_set ?_ GE324.out | refine below_set ?_ GE325.out) | exact HB.out)⟩⟩
              case rest =>
                clear HC32
                try clear c1
                try clear c2
                try clear p2
                try clear c5
                try clear c6
                try clear c7
                try clear c19
                try clear c20
                try clear c58
                try clear c58b0
                try clear c58b1
                try clear c59
                try clear c60
                try clear c61
                try clear c62
                try clear c64
                try clear c65
                try clear c66
                try clear c67
                try clear c69
                try clear c70
                try clear c71
                try clear hcz63_0
                try clear hcz63_1
                try clear hcz63_2
                try clear hcz68_0
                try clear hcz68_1
                try clear hcz68_2
                try clear hcz72_0
                try clear hcz72_1
                try clear hcz72_2
                try clear hfz63_0
                try clear hfz63_1
                try clear hfz63_2
                try clear hfz68_0
                try clear hfz68_1
                try clear hfz68_2
                try clear hfz72_0
                try clear hfz72_1
                try clear hfz72_2
                obtain ⟨kq, x57_31, rfl, HA, HJ31, BK309, BK310, BK323, BK324, BK325, HB⟩ := hcut
                cases kq with
                | zero => exact absurd HA.out (by simp [laminalaw04_ValueComplements.j1])
                | succ kj31 =>
                  have H := HA.out
                  clear HA
                  simp only [laminalaw04_ValueComplements.j1] at H
                  by_cases c73 : x57_31 = true
                  · subst c73
                    have H1 : (if t314 = 0 then (if t317 = 0 then (if t320 = 0 then ((laminalaw04_awake.f kj31).bind fun t344 => (some t344)) else (none)) else (none)) else (none)) = some r := by rw [if_pos rfl] at H; exact H
                    clear H
                    have H := H1
                    clear H1
                    by_cases c74 : t314 = 0
                    · rw [if_pos c74] at H
                      have c74b0 : (t314 == 0) = true := beq_iff_eq.mpr c74
                      have c74b1 : (t314 != 0) = false := bne_eq_false_iff_eq.mpr c74
                      clear c74
                      by_cases c75 : t317 = 0
                      · rw [if_pos c75] at H
                        have c75b0 : (t317 == 0) = true := beq_iff_eq.mpr c75
                        have c75b1 : (t317 != 0) = false := bne_eq_false_iff_eq.mpr c75
                        clear c75
                        by_cases c76 : t320 = 0
                        · rw [if_pos c76] at H
                          have c76b0 : (t320 == 0) = true := beq_iff_eq.mpr c76
                          have c76b1 : (t320 != 0) = false := bne_eq_false_iff_eq.mpr c76
                          clear c76
                          replace H := Option.bind_eq_some_iff.mp H
                          obtain ⟨t344, A770, H⟩ := H
                          replace H : (some t344) = some r := H
                          have A77 := Aside0.mk A770
                          clear A770
                          obtain rfl := Option.some.inj H
                          have hnb78 := NB323_309.out
                          have hnc78 := NB309_323.out
                          have hnb79 := NB323_310.out
                          have hnc79 := NB310_323.out
                          have hnb80 := NB323_324.out
                          have hnc80 := NB324_323.out
                          have hnb81 := NB323_325.out
                          have hnc81 := NB325_323.out
                          have hcz82_0 : wc.cell? ⟨gb323, 0, none⟩ = some (.int .i64 t314) := (blk_cell BK323.out 0).trans rfl
                          have hcz82_1 : wc.cell? ⟨gb323, 1, none⟩ = some (.int .i64 t315) := (blk_cell BK323.out 1).trans rfl
                          have hcz82_2 : wc.cell? ⟨gb323, 2, none⟩ = some (.string t316) := (blk_cell BK323.out 2).trans rfl
                          have hfz82_0 := blk_frozen BK323.out 0
                          have hfz82_1 := blk_frozen BK323.out 1
                          have hfz82_2 := blk_frozen BK323.out 2
                          have hnb83 := NB324_309.out
                          have hnc83 := NB309_324.out
                          have hnb84 := NB324_310.out
                          have hnc84 := NB310_324.out
                          have hnb85 := NB324_325.out
                          have hnc85 := NB325_324.out
                          have hcz86_0 : wc.cell? ⟨gb324, 0, none⟩ = some (.int .i64 t317) := (blk_cell BK324.out 0).trans rfl
                          have hcz86_1 : wc.cell? ⟨gb324, 1, none⟩ = some (.int .i64 t318) := (blk_cell BK324.out 1).trans rfl
                          have hcz86_2 : wc.cell? ⟨gb324, 2, none⟩ = some (.string t319) := (blk_cell BK324.out 2).trans rfl
                          have hfz86_0 := blk_frozen BK324.out 0
                          have hfz86_1 := blk_frozen BK324.out 1
                          have hfz86_2 := blk_frozen BK324.out 2
                          have hnb87 := NB325_309.out
                          have hnc87 := NB309_325.out
                          have hnb88 := NB325_310.out
                          have hnc88 := NB310_325.out
                          have hcz89_0 : wc.cell? ⟨gb325, 0, none⟩ = some (.int .i64 t320) := (blk_cell BK325.out 0).trans rfl
                          have hcz89_1 : wc.cell? ⟨gb325, 1, none⟩ = some (.int .i64 t321) := (blk_cell BK325.out 1).trans rfl
                          have hcz89_2 : wc.cell? ⟨gb325, 2, none⟩ = some (.string t322) := (blk_cell BK325.out 2).trans rfl
                          have hfz89_0 := blk_frozen BK325.out 0
                          have hfz89_1 := blk_frozen BK325.out 1
                          have hfz89_2 := blk_frozen BK325.out 2
                          go_wp2_with (first | (go_at_call 15; (with_reducible refine (laminalaw04_awake.calls kj31  t344 _ A77.out).mono ?_); rintro e w90 ⟨rfl, hb⟩; have n0_ := Aside0.mk (blk_below (g := gb309) (o := .cells #[.int .i64 a0_0, .int .i64 a0_1, .string a0_2] 23 (0, 0)) (by (with_reducible repeat (first | refine blk_drewN ?_ _ | refine blk_drew ?_ | refine blk_alloc ?_ _)); exact BK309.out) hb); have n1_ := Aside0.mk (blk_below (g := gb310) (o := .cells #[.int .i64 a1_0, .int .i64 a1_1, .string a1_2] 23 (0, 0)) (by (with_reducible repeat (first | refine blk_drewN ?_ _ | refine blk_drew ?_ | refine blk_alloc ?_ _)); exact BK310.out) hb); have n2_ := Aside0.mk (blk_below (g := gb323) (o := .cells #[.int .i64 t314, .int .i64 t315, .string t316] 23 (0, 0)) (by (with_reducible repeat (first | refine blk_drewN ?_ _ | refine blk_drew ?_ | refine blk_alloc ?_ _)); exact BK323.out) hb); have n3_ := Aside0.mk (blk_below (g := gb324) (o := .cells #[.int .i64 t317, .int .i64 t318, .string t319] 23 (0, 0)) (by (with_reducible repeat (first | refine blk_drewN ?_ _ | refine blk_drew ?_ | refine blk_alloc ?_ _)); exact BK324.out) hb); have n4_ := Aside0.mk (blk_below (g := gb325) (o := .cells #[.int .i64 t320, .int .i64 t321, .string t322] 23 (0, 0)) (by (with_reducible repeat (first | refine blk_drewN ?_ _ | refine blk_drew ?_ | refine blk_alloc ?_ _)); exact BK325.out) hb); have n5_ := Aside0.mk (below_step (by repeat (first | (with_reducible first | exact HB.out | apply below_alloc | apply pw_below_drewN | apply below_drew1 | refine below_set ?_ GE309.out | refine below_set ?_ GE310.out | refine below_set ?_ GE323.out | refine below_set ?_ GE324.out | refine below_set ?_ GE325.out) | exact HB.out)) hb); clear BK309; clear BK310; clear BK323; clear BK324; clear BK325; clear HB; have BK309 := n0_; have BK310 := n1_; have BK323 := n2_; have BK324 := n3_; have BK325 := n4_; have HB := n5_; clear n0_ n1_ n2_ n3_ n4_ n5_; (try clear hb); (try clear hb2); (try clear hk); (try clear hi)))
                          go_ret
                          exact ⟨by first | rfl | (simp [errW_none, errW_some] <;> rfl) | (simp [*, errW_none, errW_some] <;> rfl), by repeat (first | (with_reducible first | exact HB.out | apply below_alloc | apply pw_below_drewN | apply below_drew1 | refine below_set ?_ GE309.out | refine below_set ?_ GE310.out | refine below_set ?_ GE323.out | refine below_set ?_ GE324.out | refine below_set ?_ GE325.out) | exact HB.out)⟩
                        · rw [if_neg c76] at H
                          exact absurd H (by simp)
                      · rw [if_neg c75] at H
                        exact absurd H (by simp)
                    · rw [if_neg c74] at H
                      exact absurd H (by simp)
                  · replace c73 := Bool.eq_false_iff.mpr c73
                    subst c73
                    have H1 : (if (wrap64 ((wrap64 (t315 + t318)) + t321)) = 1 then ((laminalaw04_awake.f kj31).bind fun t345 => (some t345)) else (none)) = some r := by rw [if_neg (show ¬ (false = true) by decide)] at H; exact H
                    clear H
                    have H := H1
                    clear H1
                    by_cases c91 : (wrap64 ((wrap64 (t315 + t318)) + t321)) = 1
                    · rw [if_pos c91] at H
                      have c91b0 : ((wrap64 ((wrap64 (t315 + t318)) + t321)) == 1) = true := beq_iff_eq.mpr c91
                      have c91b1 : ((wrap64 ((wrap64 (t315 + t318)) + t321)) != 1) = false := bne_eq_false_iff_eq.mpr c91
                      clear c91
                      replace H := Option.bind_eq_some_iff.mp H
                      obtain ⟨t345, A920, H⟩ := H
                      replace H : (some t345) = some r := H
                      have A92 := Aside0.mk A920
                      clear A920
                      obtain rfl := Option.some.inj H
                      have hnb93 := NB323_309.out
                      have hnc93 := NB309_323.out
                      have hnb94 := NB323_310.out
                      have hnc94 := NB310_323.out
                      have hnb95 := NB323_324.out
                      have hnc95 := NB324_323.out
                      have hnb96 := NB323_325.out
                      have hnc96 := NB325_323.out
                      have hcz97_0 : wc.cell? ⟨gb323, 0, none⟩ = some (.int .i64 t314) := (blk_cell BK323.out 0).trans rfl
                      have hcz97_1 : wc.cell? ⟨gb323, 1, none⟩ = some (.int .i64 t315) := (blk_cell BK323.out 1).trans rfl
                      have hcz97_2 : wc.cell? ⟨gb323, 2, none⟩ = some (.string t316) := (blk_cell BK323.out 2).trans rfl
                      have hfz97_0 := blk_frozen BK323.out 0
                      have hfz97_1 := blk_frozen BK323.out 1
                      have hfz97_2 := blk_frozen BK323.out 2
                      have hnb98 := NB324_309.out
                      have hnc98 := NB309_324.out
                      have hnb99 := NB324_310.out
                      have hnc99 := NB310_324.out
                      have hnb100 := NB324_325.out
                      have hnc100 := NB325_324.out
                      have hcz101_0 : wc.cell? ⟨gb324, 0, none⟩ = some (.int .i64 t317) := (blk_cell BK324.out 0).trans rfl
                      have hcz101_1 : wc.cell? ⟨gb324, 1, none⟩ = some (.int .i64 t318) := (blk_cell BK324.out 1).trans rfl
                      have hcz101_2 : wc.cell? ⟨gb324, 2, none⟩ = some (.string t319) := (blk_cell BK324.out 2).trans rfl
                      have hfz101_0 := blk_frozen BK324.out 0
                      have hfz101_1 := blk_frozen BK324.out 1
                      have hfz101_2 := blk_frozen BK324.out 2
                      have hnb102 := NB325_309.out
                      have hnc102 := NB309_325.out
                      have hnb103 := NB325_310.out
                      have hnc103 := NB310_325.out
                      have hcz104_0 : wc.cell? ⟨gb325, 0, none⟩ = some (.int .i64 t320) := (blk_cell BK325.out 0).trans rfl
                      have hcz104_1 : wc.cell? ⟨gb325, 1, none⟩ = some (.int .i64 t321) := (blk_cell BK325.out 1).trans rfl
                      have hcz104_2 : wc.cell? ⟨gb325, 2, none⟩ = some (.string t322) := (blk_cell BK325.out 2).trans rfl
                      have hfz104_0 := blk_frozen BK325.out 0
                      have hfz104_1 := blk_frozen BK325.out 1
                      have hfz104_2 := blk_frozen BK325.out 2
                      go_wp2_with (first | (go_at_call 15; (with_reducible refine (laminalaw04_awake.calls kj31  t345 _ A92.out).mono ?_); rintro e w105 ⟨rfl, hb⟩; have n0_ := Aside0.mk (blk_below (g := gb309) (o := .cells #[.int .i64 a0_0, .int .i64 a0_1, .string a0_2] 23 (0, 0)) (by (with_reducible repeat (first | refine blk_drewN ?_ _ | refine blk_drew ?_ | refine blk_alloc ?_ _)); exact BK309.out) hb); have n1_ := Aside0.mk (blk_below (g := gb310) (o := .cells #[.int .i64 a1_0, .int .i64 a1_1, .string a1_2] 23 (0, 0)) (by (with_reducible repeat (first | refine blk_drewN ?_ _ | refine blk_drew ?_ | refine blk_alloc ?_ _)); exact BK310.out) hb); have n2_ := Aside0.mk (blk_below (g := gb323) (o := .cells #[.int .i64 t314, .int .i64 t315, .string t316] 23 (0, 0)) (by (with_reducible repeat (first | refine blk_drewN ?_ _ | refine blk_drew ?_ | refine blk_alloc ?_ _)); exact BK323.out) hb); have n3_ := Aside0.mk (blk_below (g := gb324) (o := .cells #[.int .i64 t317, .int .i64 t318, .string t319] 23 (0, 0)) (by (with_reducible repeat (first | refine blk_drewN ?_ _ | refine blk_drew ?_ | refine blk_alloc ?_ _)); exact BK324.out) hb); have n4_ := Aside0.mk (blk_below (g := gb325) (o := .cells #[.int .i64 t320, .int .i64 t321, .string t322] 23 (0, 0)) (by (with_reducible repeat (first | refine blk_drewN ?_ _ | refine blk_drew ?_ | refine blk_alloc ?_ _)); exact BK325.out) hb); have n5_ := Aside0.mk (below_step (by repeat (first | (with_reducible first | exact HB.out | apply below_alloc | apply pw_below_drewN | apply below_drew1 | refine below_set ?_ GE309.out | refine below_set ?_ GE310.out | refine below_set ?_ GE323.out | refine below_set ?_ GE324.out | refine below_set ?_ GE325.out) | exact HB.out)) hb); clear BK309; clear BK310; clear BK323; clear BK324; clear BK325; clear HB; have BK309 := n0_; have BK310 := n1_; have BK323 := n2_; have BK324 := n3_; have BK325 := n4_; have HB := n5_; clear n0_ n1_ n2_ n3_ n4_ n5_; (try clear hb); (try clear hb2); (try clear hk); (try clear hi)))
                      go_ret
                      exact ⟨by first | rfl | (simp [errW_none, errW_some] <;> rfl) | (simp [*, errW_none, errW_some] <;> rfl), by repeat (first | (with_reducible first | exact HB.out | apply below_alloc | apply pw_below_drewN | apply below_drew1 | refine below_set ?_ GE309.out | refine below_set ?_ GE310.out | refine below_set ?_ GE323.out | refine below_set ?_ GE324.out | refine below_set ?_ GE325.out) | exact HB.out)⟩
                    · rw [if_neg c91] at H
                      exact absurd H (by simp)

end Go.Proofs.Ytiklldjfcdblbaa.P
