/- What Go functions of the given program return, told as Lean functions, and the walks that show it, with plain facts on them: B18, laminaref16_validHashes, Px50, laminaref16_Valid, U9, HD. Conditions: the hypotheses that stand at each theorem. -/
import Derived.Test.YtackcingpffidaaZa0
import Derived.Test.YtackcingpffidaaZa1
import Derived.Test.YtackcingpffidaaZa2
import Derived.Test.YtackcingpffidaaZa5
import Derived.Test.YtackcingpffidaaZa6
import Derived.Test.YtackcingpffidaaZa7
import Derived.Test.YtackcingpffidaaZa8
import Derived.Test.YtackcingpffidaaZa9
namespace Go.Proofs.Ytackcingpffidaa.P
open Go.RowKit Go.Proofs.YtackcingpffidaaW.PrintWords Go.Proofs.YtackcingpffidaaW.PrintLast Go.Proofs.YtackcingpffidaaW.PrintMore
set_option linter.unusedVariables false
theorem sort12_len_l : ∀ k, (∀ x0 x1 x2 x6 r, slices_insertionSortOrdered_uint64.l0 k x0 x1 x2 x6 = some r → r.length = x0.length) ∧ (∀ x0 x1 x2 x6 x7 r, slices_insertionSortOrdered_uint64.l1 k x0 x1 x2 x6 x7 = some r → r.length = x0.length)
  | 0 => ⟨fun _ _ _ _ r h => by simp [slices_insertionSortOrdered_uint64.l0] at h, fun _ _ _ _ _ r h => by simp [slices_insertionSortOrdered_uint64.l1] at h⟩
  | k + 1 => by
    obtain ⟨i0, i1⟩ := sort12_len_l k
    constructor
    · intro x0 x1 x2 x6 r h
      unfold slices_insertionSortOrdered_uint64.l0 at h
      split at h
      · exact i1 _ _ _ _ _ _ h
      · obtain rfl := Option.some.inj h; rfl
    · intro x0 x1 x2 x6 x7 r h
      unfold slices_insertionSortOrdered_uint64.l1 at h
      split at h
      · split at h
        · split at h
          · split at h
            · split at h
              · obtain ⟨t, h1, h2⟩ := Option.bind_eq_some_iff.mp h
                split at h2
                · have := i1 _ _ _ _ _ _ h2
                  simpa using this
                · exact i0 _ _ _ _ _ h2
              · exact absurd h (by simp)
            · exact absurd h (by simp)
          · exact absurd h (by simp)
        · exact absurd h (by simp)
      · exact i0 _ _ _ _ _ h
theorem sort12_len (k : Nat) (l r : List Int) (h : sort12 k l = some r) : r.length = l.length := by
  unfold sort12 at h
  split at h
  · exact (sort12_len_l k).1 _ _ _ _ _ h
  · exact absurd h (by simp)
theorem sort12.mono (k : Nat) (l : List Int) : LeO (sort12 k l) (sort12 (k + 1) l) := by
  unfold sort12
  exact LeO.ite (slices_insertionSortOrdered_uint64.mono _ _ _ _) (LeO.none _)
theorem hashS.mono (k : Nat) : ∀ S, LeO (hashS k S) (hashS (k + 1) S)
  | [] => LeO.refl _
  | v :: vs => LeO.bind (value_Hash.mono _ _ _) (fun _ => LeO.bind (hashS.mono k vs) (fun _ => LeO.refl _))
theorem bump.mono (k : Nat) (v : S39) (cs : List Int) (r : Nat) : LeO (bump k v cs r) (bump (k + 1) v cs r) := LeO.bind (sketch_cell.mono _ _ _ _ _) (fun _ => LeO.refl _)
theorem bumps.mono (k : Nat) (v : S39) : ∀ m cs r, LeO (bumps k v cs r m) (bumps (k + 1) v cs r m)
  | 0, _, _ => LeO.refl _
  | m + 1, cs, r => LeO.bind (bump.mono k v cs r) (fun _ => bumps.mono k v m _ _)
theorem counts.mono (k : Nat) : ∀ S cs, LeO (counts k S cs) (counts (k + 1) S cs)
  | [], _ => LeO.refl _
  | v :: vs, cs => LeO.bind (bumps.mono k v 4 cs 0) (fun _ => counts.mono k vs _)
def rangeB (n : Nat) (sp : List Int) : Bool := decide (sp.length ≤ 1000) && sp.all (fun x => decide (0 ≤ x) && decide (x < n))
/-- What sketch.Build makes of a list, by a sort rs of its hashes. -/
def buildF (rs : List Int → Option (List Int)) (k : Nat) (l0 : List S39) : Option (Int × Int × List Int × Bool × List Int × (List (S39)) × List Int) :=
  (hashS k (sortV (someS l0))).bind fun hs => (counts k (sortV (someS l0)) (List.replicate 256 0)).bind fun cs => (smallS rs hs).bind fun rb => (sketch_spread.f k ((sortV (someS l0)).length : Int)).bind fun sp =>
    if decide (l0.length ≤ 100000) && rangeB (sortV (someS l0)).length sp then some ((l0.length : Int), (l0.length : Int) - ((sortV (someS l0)).length : Int), rb.1, rb.2, cs, (fenceS (sortV (someS l0)) sp [] []).1, (fenceS (sortV (someS l0)) sp [] []).2) else none
theorem buildF.mono (k : Nat) (rs rs' : List Int → Option (List Int)) (h : ∀ l, LeO (rs l) (rs' l)) (l0 : List S39) : LeO (buildF rs k l0) (buildF rs' (k + 1) l0) :=
  LeO.bind (hashS.mono k _) (fun _ => LeO.bind (counts.mono k _ _) (fun _ => LeO.bind (LeO.bind (h _) (fun _ => LeO.refl _)) (fun _ => LeO.bind (sketch_spread.mono _ k) (fun _ => LeO.refl _))))
theorem buildF_calls (rs : List Int → Option (List Int)) (hS : Sorts rs) (hlen : ∀ l r, rs l = some r → r.length = l.length) (k : Nat) (A0 : Option Addr) (c0 : Nat) (l0 : List (S39)) (r1 : Int) (r2 : Int) (r3 : List Int) (r4 : Bool) (r5 : List Int) (r6 : List (S39)) (r7 : List Int) (w : World) (hr0 : Kd.C k39 w A0 l0.length l0) (hc0 : l0.length ≤ c0) (h : buildF rs k l0 = some (r1, r2, r3, r4, r5, r6, r7)) :
    Calls Try.prog 18 #[.slice A0 l0.length c0] w fun e w' => ∃ v2_ v4_ v5_ v6_ : Value, e = .returned (.agg #[.int .i64 r1, .int .i64 r2, v2_, .bool r4, v4_, v5_, v6_]) ∧ Kd.R (Kd.int .u64) 53 w' w.heap.size (fun _ => True) v2_ r3 ∧ Kd.R (Kd.int .i64) 3 w' w.heap.size (fun k_ => some k_ ≠ (v6_ : Value).ownBlock) v4_ r5 ∧ Kd.R k39 39 w' w.heap.size (fun _ => True) v5_ r6 ∧ Kd.R (Kd.int .i64) 3 w' w.heap.size (fun k_ => some k_ ≠ (v4_ : Value).ownBlock) v6_ r7 ∧ Below w.heap.size w w' := by
  obtain ⟨hs, h1, h⟩ := Option.bind_eq_some_iff.mp h
  obtain ⟨cs, h2, h⟩ := Option.bind_eq_some_iff.mp h
  obtain ⟨⟨rr, bb⟩, h3, h⟩ := Option.bind_eq_some_iff.mp h
  obtain ⟨sp, h4, h⟩ := Option.bind_eq_some_iff.mp h
  split at h
  · rename_i hg
    rw [Bool.and_eq_true] at hg
    obtain ⟨hg1, hg2⟩ := hg
    unfold rangeB at hg2
    rw [Bool.and_eq_true, List.all_eq_true] at hg2
    injection h with h
    injection h with e1 h
    injection h with e2 h
    injection h with e3 h
    injection h with e4 h
    injection h with e5 h
    injection h with e6 e7
    subst e1 e2 e3 e4 e5 e6 e7
    refine f18_calls rs hS hlen k A0 c0 l0 w hr0 hc0 (of_decide_eq_true hg1) _ hs _ _ sp _ _ _ rfl h1 h2 h3 h4 rfl (of_decide_eq_true hg2.1) (fun j hj => ?_)
    have := hg2.2 (rd sp j) (by unfold rd; rw [Int.toNat_natCast, List.getD_eq_getElem?_getD, List.getElem?_eq_getElem hj]; exact List.getElem_mem hj)
    rw [Bool.and_eq_true] at this
    exact ⟨of_decide_eq_true this.1, of_decide_eq_true this.2⟩
  · exact absurd h (by simp)
def sketch_Build.f (k : Nat) (l0 : List (S39)) : Option (Int × Int × List Int × Bool × List Int × (List (S39)) × List Int) := buildF (sort12 k) k l0
theorem sketch_Build.mono : ∀ a0 k, LeO (sketch_Build.f k a0) (sketch_Build.f (k + 1) a0) := fun a0 k => buildF.mono k _ _ (sort12.mono k) a0
theorem sketch_Build.calls (k : Nat) (A0 : Option Addr) (c0 : Nat) (l0 : List (S39)) (r1 : Int) (r2 : Int) (r3 : List Int) (r4 : Bool) (r5 : List Int) (r6 : List (S39)) (r7 : List Int) (w : World) (hr0 : Kd.C k39 w A0 l0.length l0) (hc0 : l0.length ≤ c0) (h : sketch_Build.f k l0 = some (r1, r2, r3, r4, r5, r6, r7)) :
    Calls Try.prog 18 #[.slice A0 l0.length c0] w fun e w' => ∃ v2_ v4_ v5_ v6_ : Value, e = .returned (.agg #[.int .i64 r1, .int .i64 r2, v2_, .bool r4, v4_, v5_, v6_]) ∧ Kd.R (Kd.int .u64) 53 w' w.heap.size (fun _ => True) v2_ r3 ∧ Kd.R (Kd.int .i64) 3 w' w.heap.size (fun k_ => some k_ ≠ (v6_ : Value).ownBlock) v4_ r5 ∧ Kd.R k39 39 w' w.heap.size (fun _ => True) v5_ r6 ∧ Kd.R (Kd.int .i64) 3 w' w.heap.size (fun k_ => some k_ ≠ (v4_ : Value).ownBlock) v6_ r7 ∧ Below w.heap.size w w' :=
  buildF_calls (sort12 k) (sorts12 k) (sort12_len k) k A0 c0 l0 r1 r2 r3 r4 r5 r6 r7 w hr0 hc0 h
def sketch_validCounters.f (l0 : List Int) (a1 : Int) : Option (Bool) := some (cntB l0 a1)
theorem sketch_validCounters.calls (A0 : Option Addr) (c0 : Nat) (l0 : List Int) (a1 : Int) (r : Bool) (w : World) (hr0 : Kd.C (Kd.int .i64) w A0 l0.length l0) (hc0 : l0.length ≤ c0) (h : sketch_validCounters.f l0 a1 = some r) :
    Calls Try.prog 67 #[.slice A0 l0.length c0, .int .i64 a1] w fun e w' => e = .returned (.bool r) ∧ Below w.heap.size w w' := by
  obtain rfl := Option.some.inj h
  refine (f67_calls A0 c0 l0 a1 w hr0 hc0).mono ?_
  rintro e w' ⟨he, n, rfl⟩
  exact ⟨he, pw_below_drewN (Below.refl _ _) _⟩
def sketch_validFences.f (a0_0 : Int) (a0_1 : Int) (l0_2 : List Int) (a0_3 : Bool) (l0_4 : List Int) (l0_5 : List (S39)) (l0_6 : List Int) (a1 : Int) : Option (Bool) := some (fencesB l0_5 l0_6 a1)
theorem sketch_validFences.calls (a0_0 : Int) (a0_1 : Int) (A0_2 : Option Addr) (c0_2 : Nat) (l0_2 : List Int) (a0_3 : Bool) (A0_4 : Option Addr) (c0_4 : Nat) (l0_4 : List Int) (A0_5 : Option Addr) (c0_5 : Nat) (l0_5 : List (S39)) (A0_6 : Option Addr) (c0_6 : Nat) (l0_6 : List Int) (a1 : Int) (r : Bool) (w : World) (hr0_2 : Kd.C (Kd.int .u64) w A0_2 l0_2.length l0_2) (hc0_2 : l0_2.length ≤ c0_2) (hr0_4 : Kd.C (Kd.int .i64) w A0_4 l0_4.length l0_4) (hc0_4 : l0_4.length ≤ c0_4) (hr0_5 : Kd.C k39 w A0_5 l0_5.length l0_5) (hc0_5 : l0_5.length ≤ c0_5) (hr0_6 : Kd.C (Kd.int .i64) w A0_6 l0_6.length l0_6) (hc0_6 : l0_6.length ≤ c0_6) (h : sketch_validFences.f a0_0 a0_1 l0_2 a0_3 l0_4 l0_5 l0_6 a1 = some r) :
    Calls Try.prog 68 #[.agg #[.int .i64 a0_0, .int .i64 a0_1, .slice A0_2 l0_2.length c0_2, .bool a0_3, .slice A0_4 l0_4.length c0_4, .slice A0_5 l0_5.length c0_5, .slice A0_6 l0_6.length c0_6], .int .i64 a1] w fun e w' => e = .returned (.bool r) ∧ Below w.heap.size w w' := by
  obtain rfl := Option.some.inj h
  exact f68_calls a0_0 a0_1 A0_2 c0_2 l0_2 a0_3 A0_4 c0_4 l0_4 A0_5 c0_5 l0_5 A0_6 c0_6 l0_6 a1 w hr0_5 hr0_6
def laminaref16_validFences.f (a0_0 : Int) (a0_1 : Int) (l0_2 : List Int) (a0_3 : Bool) (l0_4 : List Int) (l0_5 : List (S39)) (l0_6 : List Int) : Option (Bool) := some (rfencesB l0_5 l0_6 (wrap64 (a0_0 - a0_1)))
theorem laminaref16_validFences.calls (a0_0 : Int) (a0_1 : Int) (A0_2 : Option Addr) (c0_2 : Nat) (l0_2 : List Int) (a0_3 : Bool) (A0_4 : Option Addr) (c0_4 : Nat) (l0_4 : List Int) (A0_5 : Option Addr) (c0_5 : Nat) (l0_5 : List (S39)) (A0_6 : Option Addr) (c0_6 : Nat) (l0_6 : List Int) (r : Bool) (w : World) (hr0_2 : Kd.C (Kd.int .u64) w A0_2 l0_2.length l0_2) (hc0_2 : l0_2.length ≤ c0_2) (hr0_4 : Kd.C (Kd.int .i64) w A0_4 l0_4.length l0_4) (hc0_4 : l0_4.length ≤ c0_4) (hr0_5 : Kd.C k39 w A0_5 l0_5.length l0_5) (hc0_5 : l0_5.length ≤ c0_5) (hr0_6 : Kd.C (Kd.int .i64) w A0_6 l0_6.length l0_6) (hc0_6 : l0_6.length ≤ c0_6) (h : laminaref16_validFences.f a0_0 a0_1 l0_2 a0_3 l0_4 l0_5 l0_6 = some r) :
    Calls Try.prog 39 #[.agg #[.int .i64 a0_0, .int .i64 a0_1, .slice A0_2 l0_2.length c0_2, .bool a0_3, .slice A0_4 l0_4.length c0_4, .slice A0_5 l0_5.length c0_5, .slice A0_6 l0_6.length c0_6]] w fun e w' => e = .returned (.bool r) ∧ Below w.heap.size w w' := by
  obtain rfl := Option.some.inj h
  exact f39_calls a0_0 a0_1 A0_2 c0_2 l0_2 a0_3 A0_4 c0_4 l0_4 A0_5 c0_5 l0_5 A0_6 c0_6 l0_6 _ rfl w hr0_5 hr0_6
end Go.Proofs.Ytackcingpffidaa.P
namespace Go.Proofs.Ytackcingpffidaa.P
open Go.RowKit Go.Proofs.YtackcingpffidaaW.PrintWords Go.Proofs.YtackcingpffidaaW.PrintLast Go.Proofs.YtackcingpffidaaW.PrintMore
attribute [local go_sem] max2_int min2_int max_two min_two max_three min_three max_four min_four Go.Proofs.YtackcingpffidaaQ.str_gtr Go.Proofs.YtackcingpffidaaQ.str_leq Go.Proofs.YtackcingpffidaaQ.str_geq   -- for this text's walks alone
set_option linter.unusedVariables false
set_option linter.unusedSimpArgs false
/-! ### laminaref16_validHashes: function 37 -/
mutual
def laminaref16_validHashes.j0 : Nat → Bool → Int → Int → List Int → Bool → List Int → List (S39) → List Int → Option (Bool)
 | 0, _, _, _, _, _, _, _, _ => none
 | k + 1, x38, x103000, x103001, x103002, x103003, x103004, x103005, x103006 => if x38 = true then (some false) else (laminaref16_validHashes.l0 k 1 x103000 x103001 x103002 x103003 x103004 x103005 x103006)
def laminaref16_validHashes.l0 : Nat → Int → Int → Int → List Int → Bool → List Int → List (S39) → List Int → Option (Bool)
 | 0, _, _, _, _, _, _, _, _ => none
 | k + 1, x4, x103000, x103001, x103002, x103003, x103004, x103005, x103006 => if x4 < (x103002.length : Int) then (if 0 ≤ x4 then (if 0 ≤ (wrap64 (x4 - 1)) then (if (wrap64 (x4 - 1)) < (x103002.length : Int) then (if (rd x103002 x4) ≤ (rd x103002 (wrap64 (x4 - 1))) then (some false) else (laminaref16_validHashes.l0 k (wrap64 (x4 + 1)) x103000 x103001 x103002 x103003 x103004 x103005 x103006)) else (none)) else (none)) else (none)) else (some true)
end
def laminaref16_validHashes.f (k : Nat) (a0_0 : Int) (a0_1 : Int) (l0_2 : List Int) (a0_3 : Bool) (l0_4 : List Int) (l0_5 : List (S39)) (l0_6 : List Int) : Option (Bool) := (laminaref16_values.f a0_0 a0_1 l0_2 a0_3 l0_4 l0_5 l0_6).bind fun t103 => (if (l0_2.length : Int) > 32 then (laminaref16_validHashes.j0 k true a0_0 a0_1 l0_2 a0_3 l0_4 l0_5 l0_6) else (if (l0_2.length : Int) > t103 then (laminaref16_validHashes.j0 k true a0_0 a0_1 l0_2 a0_3 l0_4 l0_5 l0_6) else (if t103 > 0 then (if (l0_2.length : Int) = 0 then (laminaref16_validHashes.j0 k true a0_0 a0_1 l0_2 a0_3 l0_4 l0_5 l0_6) else (if a0_3 = true then (laminaref16_validHashes.j0 k false a0_0 a0_1 l0_2 a0_3 l0_4 l0_5 l0_6) else (laminaref16_validHashes.j0 k ((l0_2.length : Int) != 32) a0_0 a0_1 l0_2 a0_3 l0_4 l0_5 l0_6))) else (if a0_3 = true then (laminaref16_validHashes.j0 k false a0_0 a0_1 l0_2 a0_3 l0_4 l0_5 l0_6) else (laminaref16_validHashes.j0 k ((l0_2.length : Int) != 32) a0_0 a0_1 l0_2 a0_3 l0_4 l0_5 l0_6)))))
theorem laminaref16_validHashes.mono_l : ∀ k, (∀ y0 y1 y2 y3 y4 y5 y6 y7, LeO (laminaref16_validHashes.j0 k y0 y1 y2 y3 y4 y5 y6 y7) (laminaref16_validHashes.j0 (k + 1) y0 y1 y2 y3 y4 y5 y6 y7)) ∧ (∀ y0 y1 y2 y3 y4 y5 y6 y7, LeO (laminaref16_validHashes.l0 k y0 y1 y2 y3 y4 y5 y6 y7) (laminaref16_validHashes.l0 (k + 1) y0 y1 y2 y3 y4 y5 y6 y7))
 | 0 => ⟨fun _ _ _ _ _ _ _ _ r h => by simp [laminaref16_validHashes.j0] at h, fun _ _ _ _ _ _ _ _ r h => by simp [laminaref16_validHashes.l0] at h⟩
 | k + 1 => by
  obtain ⟨ih0, ih1⟩ := laminaref16_validHashes.mono_l k
  refine ⟨?_, ?_⟩
  ·intro y0 y1 y2 y3 y4 y5 y6 y7
   unfold laminaref16_validHashes.j0
   repeat' first
   | (with_reducible exact ih0 _ _ _ _ _ _ _ _)
   | (with_reducible exact ih1 _ _ _ _ _ _ _ _)
   | (with_reducible exact LeO.refl _)
   | (with_reducible exact LeO.none _)
   | (with_reducible refine LeO.ite ?_ ?_)
   | (with_reducible refine LeO.bind ?_ (fun _ => ?_))
   | exact ih0 _ _ _ _ _ _ _ _
   | exact ih1 _ _ _ _ _ _ _ _
   | exact LeO.none _
   | refine LeO.ite ?_ ?_
   | refine LeO.bind ?_ (fun _ => ?_)
  ·intro y0 y1 y2 y3 y4 y5 y6 y7
   unfold laminaref16_validHashes.l0
   repeat' first
   | (with_reducible exact ih0 _ _ _ _ _ _ _ _)
   | (with_reducible exact ih1 _ _ _ _ _ _ _ _)
   | (with_reducible exact LeO.refl _)
   | (with_reducible exact LeO.none _)
   | (with_reducible refine LeO.ite ?_ ?_)
   | (with_reducible refine LeO.bind ?_ (fun _ => ?_))
   | exact ih0 _ _ _ _ _ _ _ _
   | exact ih1 _ _ _ _ _ _ _ _
   | exact LeO.none _
   | refine LeO.ite ?_ ?_
   | refine LeO.bind ?_ (fun _ => ?_)
theorem laminaref16_validHashes.mono : ∀ a0 a1 a2 a3 a4 a5 a6 k, LeO (laminaref16_validHashes.f k a0 a1 a2 a3 a4 a5 a6) (laminaref16_validHashes.f (k + 1) a0 a1 a2 a3 a4 a5 a6) := by
 intro a0 a1 a2 a3 a4 a5 a6 k
 obtain ⟨ih0, ih1⟩ := laminaref16_validHashes.mono_l k
 unfold laminaref16_validHashes.f
 repeat' first
   | (with_reducible exact ih0 _ _ _ _ _ _ _ _)
   | (with_reducible exact ih1 _ _ _ _ _ _ _ _)
   | (with_reducible exact LeO.refl _)
   | (with_reducible exact LeO.none _)
   | (with_reducible refine LeO.ite ?_ ?_)
   | (with_reducible refine LeO.bind ?_ (fun _ => ?_))
   | exact ih0 _ _ _ _ _ _ _ _
   | exact ih1 _ _ _ _ _ _ _ _
   | exact LeO.none _
   | refine LeO.ite ?_ ?_
   | refine LeO.bind ?_ (fun _ => ?_)
set_option maxHeartbeats 8000000 in
set_option maxRecDepth 100000 in
theorem laminaref16_validHashes.calls (k : Nat) (a0_0 : Int) (a0_1 : Int) (A0_2 : Option Addr) (c0_2 : Nat) (l0_2 : List Int) (a0_3 : Bool) (A0_4 : Option Addr) (c0_4 : Nat) (l0_4 : List Int) (A0_5 : Option Addr) (c0_5 : Nat) (l0_5 : List (S39)) (A0_6 : Option Addr) (c0_6 : Nat) (l0_6 : List Int) (r : Bool) (w : World) (hr0_2 : Kd.C (Kd.int .u64) w A0_2 l0_2.length l0_2) (hc0_2 : l0_2.length ≤ c0_2) (hr0_4 : Kd.C (Kd.int .i64) w A0_4 l0_4.length l0_4) (hc0_4 : l0_4.length ≤ c0_4) (hr0_5 : Kd.C k39 w A0_5 l0_5.length l0_5) (hc0_5 : l0_5.length ≤ c0_5) (hr0_6 : Kd.C (Kd.int .i64) w A0_6 l0_6.length l0_6) (hc0_6 : l0_6.length ≤ c0_6) (h : laminaref16_validHashes.f k a0_0 a0_1 l0_2 a0_3 l0_4 l0_5 l0_6 = some r) :
  Calls Try.prog 37 #[.agg #[.int .i64 a0_0, .int .i64 a0_1, .slice A0_2 l0_2.length c0_2, .bool a0_3, .slice A0_4 l0_4.length c0_4, .slice A0_5 l0_5.length c0_5, .slice A0_6 l0_6.length c0_6]] w fun e w' => e = .returned (.bool r) ∧ Below w.heap.size w w' := by
 have hu26 := Try.underlying26
 have HR0_2 := Aside0.mk hr0_2
 have HC0_2 := Aside0.mk hc0_2
 clear hr0_2 hc0_2
 have HR0_4 := Aside0.mk hr0_4
 have HC0_4 := Aside0.mk hc0_4
 clear hr0_4 hc0_4
 have HR0_5 := Aside0.mk hr0_5
 have HC0_5 := Aside0.mk hc0_5
 clear hr0_5 hc0_5
 have HR0_6 := Aside0.mk hr0_6
 have HC0_6 := Aside0.mk hc0_6
 clear hr0_6 hc0_6
 have HB := Aside0.mk (Below.refl w.heap.size w)
 have H : ((laminaref16_values.f a0_0 a0_1 l0_2 a0_3 l0_4 l0_5 l0_6).bind fun t103 => (if (l0_2.length : Int) > 32 then (laminaref16_validHashes.j0 k true a0_0 a0_1 l0_2 a0_3 l0_4 l0_5 l0_6) else (if (l0_2.length : Int) > t103 then (laminaref16_validHashes.j0 k true a0_0 a0_1 l0_2 a0_3 l0_4 l0_5 l0_6) else (if t103 > 0 then (if (l0_2.length : Int) = 0 then (laminaref16_validHashes.j0 k true a0_0 a0_1 l0_2 a0_3 l0_4 l0_5 l0_6) else (if a0_3 = true then (laminaref16_validHashes.j0 k false a0_0 a0_1 l0_2 a0_3 l0_4 l0_5 l0_6) else (laminaref16_validHashes.j0 k ((l0_2.length : Int) != 32) a0_0 a0_1 l0_2 a0_3 l0_4 l0_5 l0_6))) else (if a0_3 = true then (laminaref16_validHashes.j0 k false a0_0 a0_1 l0_2 a0_3 l0_4 l0_5 l0_6) else (laminaref16_validHashes.j0 k ((l0_2.length : Int) != 32) a0_0 a0_1 l0_2 a0_3 l0_4 l0_5 l0_6)))))) = some r := h
 clear h
 replace H := Option.bind_eq_some_iff.mp H
 obtain ⟨t103, A20, H⟩ := H
 replace H : (if (l0_2.length : Int) > 32 then (laminaref16_validHashes.j0 k true a0_0 a0_1 l0_2 a0_3 l0_4 l0_5 l0_6) else (if (l0_2.length : Int) > t103 then (laminaref16_validHashes.j0 k true a0_0 a0_1 l0_2 a0_3 l0_4 l0_5 l0_6) else (if t103 > 0 then (if (l0_2.length : Int) = 0 then (laminaref16_validHashes.j0 k true a0_0 a0_1 l0_2 a0_3 l0_4 l0_5 l0_6) else (if a0_3 = true then (laminaref16_validHashes.j0 k false a0_0 a0_1 l0_2 a0_3 l0_4 l0_5 l0_6) else (laminaref16_validHashes.j0 k ((l0_2.length : Int) != 32) a0_0 a0_1 l0_2 a0_3 l0_4 l0_5 l0_6))) else (if a0_3 = true then (laminaref16_validHashes.j0 k false a0_0 a0_1 l0_2 a0_3 l0_4 l0_5 l0_6) else (laminaref16_validHashes.j0 k ((l0_2.length : Int) != 32) a0_0 a0_1 l0_2 a0_3 l0_4 l0_5 l0_6))))) = some r := H
 have A2 := Aside0.mk A20
 clear A20
 have HC3 := Aside0.mk H
 clear H
 go_enter Try.func37, Try.ntmps37
 go_upto_region 2 with (first | ((with_reducible refine gate_dst (N := 1) rfl ?_); (try (refine gate_guard (by rfl) ?_; dsimp only)); refine box_ 1 (cs := #[.int .i64 a0_0, .int .i64 a0_1, .slice A0_2 l0_2.length c0_2, .bool a0_3, .slice A0_4 l0_4.length c0_4, .slice A0_5 l0_5.length c0_5, .slice A0_6 l0_6.length c0_6]) (t := 26) ?_; intro gb102 hg w4 hbox hb; have BK102 := Aside0.mk (hbox); have GW102 := Aside0.mk ((by rw [hg]; exact (below_size (hb_ HB.out)) : w.heap.size ≤ gb102)); have GE102 := Aside0.mk ((by rw [hg]; exact (below_size (hb_ HB.out)) : w.heap.size ≤ gb102)); replace HB := Aside0.mk (below_step (hb_ HB.out) hb); clear hb hbox hg; obtain ⟨hcz5_0, hcz5_1, hcz5_2, hcz5_3, hcz5_4, hcz5_5, hcz5_6, hfz5_0, hfz5_1, hfz5_2, hfz5_3, hfz5_4, hfz5_5, hfz5_6⟩ := bf7 BK102.out) | (go_at_call 80; (with_reducible refine (laminaref16_values.calls a0_0 a0_1 _ _ l0_2 a0_3 _ _ l0_4 _ _ l0_5 _ _ l0_6 t103 _ ?side1 ?side2 ?side3 ?side4 ?side5 ?side6 ?side7 ?side8 A2.out).mono ?_); (case side1 => exact cb_ HR0_2.out HB.out); (case side2 => exact HC0_2.out); (case side3 => exact cb_ HR0_4.out HB.out); (case side4 => exact HC0_4.out); (case side5 => exact cb_ HR0_5.out HB.out); (case side6 => exact HC0_5.out); (case side7 => exact cb_ HR0_6.out HB.out); (case side8 => exact HC0_6.out); rintro e w6 ⟨rfl, hb⟩; replace BK102 := Aside0.mk (blk_below (bk_ BK102.out) hb); replace HB := Aside0.mk (below_step (hb1_ HB.out GE102.out) hb); (try clear hb)))
 repeat (go_quiet (first | ((with_reducible refine gate_dst (N := 1) rfl ?_); (try (refine gate_guard (by rfl) ?_; dsimp only)); refine box_ 1 (cs := #[.int .i64 a0_0, .int .i64 a0_1, .slice A0_2 l0_2.length c0_2, .bool a0_3, .slice A0_4 l0_4.length c0_4, .slice A0_5 l0_5.length c0_5, .slice A0_6 l0_6.length c0_6]) (t := 26) ?_; intro gb102 hg w4 hbox hb; have BK102 := Aside0.mk (hbox); have GW102 := Aside0.mk ((by rw [hg]; exact (below_size (hb_ HB.out)) : w.heap.size ≤ gb102)); have GE102 := Aside0.mk ((by rw [hg]; exact (below_size (hb_ HB.out)) : w.heap.size ≤ gb102)); replace HB := Aside0.mk (below_step (hb_ HB.out) hb); clear hb hbox hg; obtain ⟨hcz5_0, hcz5_1, hcz5_2, hcz5_3, hcz5_4, hcz5_5, hcz5_6, hfz5_0, hfz5_1, hfz5_2, hfz5_3, hfz5_4, hfz5_5, hfz5_6⟩ := bf7 BK102.out) | (go_at_call 80; (with_reducible refine (laminaref16_values.calls a0_0 a0_1 _ _ l0_2 a0_3 _ _ l0_4 _ _ l0_5 _ _ l0_6 t103 _ ?side1 ?side2 ?side3 ?side4 ?side5 ?side6 ?side7 ?side8 A2.out).mono ?_); (case side1 => exact cb_ HR0_2.out HB.out); (case side2 => exact HC0_2.out); (case side3 => exact cb_ HR0_4.out HB.out); (case side4 => exact HC0_4.out); (case side5 => exact cb_ HR0_5.out HB.out); (case side6 => exact HC0_5.out); (case side7 => exact cb_ HR0_6.out HB.out); (case side8 => exact HC0_6.out); rintro e w6 ⟨rfl, hb⟩; replace BK102 := Aside0.mk (blk_below (bk_ BK102.out) hb); replace HB := Aside0.mk (below_step (hb1_ HB.out GE102.out) hb); (try clear hb))); go_upto_region 2 with (first | ((with_reducible refine gate_dst (N := 1) rfl ?_); (try (refine gate_guard (by rfl) ?_; dsimp only)); refine box_ 1 (cs := #[.int .i64 a0_0, .int .i64 a0_1, .slice A0_2 l0_2.length c0_2, .bool a0_3, .slice A0_4 l0_4.length c0_4, .slice A0_5 l0_5.length c0_5, .slice A0_6 l0_6.length c0_6]) (t := 26) ?_; intro gb102 hg w4 hbox hb; have BK102 := Aside0.mk (hbox); have GW102 := Aside0.mk ((by rw [hg]; exact (below_size (hb_ HB.out)) : w.heap.size ≤ gb102)); have GE102 := Aside0.mk ((by rw [hg]; exact (below_size (hb_ HB.out)) : w.heap.size ≤ gb102)); replace HB := Aside0.mk (below_step (hb_ HB.out) hb); clear hb hbox hg; obtain ⟨hcz5_0, hcz5_1, hcz5_2, hcz5_3, hcz5_4, hcz5_5, hcz5_6, hfz5_0, hfz5_1, hfz5_2, hfz5_3, hfz5_4, hfz5_5, hfz5_6⟩ := bf7 BK102.out) | (go_at_call 80; (with_reducible refine (laminaref16_values.calls a0_0 a0_1 _ _ l0_2 a0_3 _ _ l0_4 _ _ l0_5 _ _ l0_6 t103 _ ?side1 ?side2 ?side3 ?side4 ?side5 ?side6 ?side7 ?side8 A2.out).mono ?_); (case side1 => exact cb_ HR0_2.out HB.out); (case side2 => exact HC0_2.out); (case side3 => exact cb_ HR0_4.out HB.out); (case side4 => exact HC0_4.out); (case side5 => exact cb_ HR0_5.out HB.out); (case side6 => exact HC0_5.out); (case side7 => exact cb_ HR0_6.out HB.out); (case side8 => exact HC0_6.out); rintro e w6 ⟨rfl, hb⟩; replace BK102 := Aside0.mk (blk_below (bk_ BK102.out) hb); replace HB := Aside0.mk (below_step (hb1_ HB.out GE102.out) hb); (try clear hb))))
 (try simp only [Act.put, List.setIfInBounds_toArray, List.set_cons_zero, List.set_cons_succ])
 go_cut [38] (fun v38 wc => ∃ (kq : Nat) (x38_2 : Bool), v38 = .bool x38_2 ∧ Aside0 (laminaref16_validHashes.j0 kq x38_2 a0_0 a0_1 l0_2 a0_3 l0_4 l0_5 l0_6 = some r) ∧ Aside0 (kq ≤ k) ∧ Aside0 (wc.heap[gb102]? = some (.cells #[.int .i64 a0_0, .int .i64 a0_1, (.slice A0_2 l0_2.length c0_2), .bool a0_3, (.slice A0_4 l0_4.length c0_4), (.slice A0_5 l0_5.length c0_5), (.slice A0_6 l0_6.length c0_6)] 26 (0, 0))) ∧ Aside0 (Below w.heap.size w wc))
 case first =>
  have H := HC3.out
  clear HC3
  by_cases c7 : (l0_2.length : Int) > 32
  ·rw [if_pos c7] at H
   have c7b0 : decide (32 < (l0_2.length : Int)) = true := decide_eq_true c7
   have c7b1 : decide (32 < l0_2.length) = true := decide_eq_true (by omega)
   clear c7
   (first | rw [c7b0] | (simp only [i64_w, i32_w]; rw [c7b0]) | skip)
   have H' := Aside0.mk H
   clear H
   obtain ⟨hcz8_0, hcz8_1, hcz8_2, hcz8_3, hcz8_4, hcz8_5, hcz8_6, hfz8_0, hfz8_1, hfz8_2, hfz8_3, hfz8_4, hfz8_5, hfz8_6⟩ := bf7 BK102.out
   go_wp2
   repeat (go_quiet (fail); try go_wp2)
   go_meet
   case rel => exact ⟨_, (true), (by first | rfl | (simp; done) | (simp [*]; done)), H', ⟨by first | omega | exact Nat.le_refl _⟩, ⟨by (with_reducible repeat (first | refine blk_drewN ?_ _ | refine blk_drew ?_ | refine blk_alloc ?_ _)); exact BK102.out⟩, ⟨(hb1_ HB.out GE102.out)⟩⟩
  ·rw [if_neg c7] at H
   have c7b0 : decide (32 < (l0_2.length : Int)) = false := decide_eq_false c7
   have c7b1 : decide (32 < l0_2.length) = false := decide_eq_false (by omega)
   clear c7
   (first | rw [c7b0] | (simp only [i64_w, i32_w]; rw [c7b0]) | skip)
   by_cases c9 : (l0_2.length : Int) > t103
   ·rw [if_pos c9] at H
    have c9b0 : decide (t103 < (l0_2.length : Int)) = true := decide_eq_true c9
    clear c9
    have H' := Aside0.mk H
    clear H
    obtain ⟨hcz10_0, hcz10_1, hcz10_2, hcz10_3, hcz10_4, hcz10_5, hcz10_6, hfz10_0, hfz10_1, hfz10_2, hfz10_3, hfz10_4, hfz10_5, hfz10_6⟩ := bf7 BK102.out
    go_wp2
    repeat (go_quiet (fail); try go_wp2)
    go_meet
    case rel => exact ⟨_, (true), (by first | rfl | (simp; done) | (simp [*]; done)), H', ⟨by first | omega | exact Nat.le_refl _⟩, ⟨by (with_reducible repeat (first | refine blk_drewN ?_ _ | refine blk_drew ?_ | refine blk_alloc ?_ _)); exact BK102.out⟩, ⟨(hb1_ HB.out GE102.out)⟩⟩
   ·rw [if_neg c9] at H
    have c9b0 : decide (t103 < (l0_2.length : Int)) = false := decide_eq_false c9
    clear c9
    by_cases c11 : t103 > 0
    ·rw [if_pos c11] at H
     have c11b0 : decide (0 < t103) = true := decide_eq_true c11
     clear c11
     by_cases c12 : (l0_2.length : Int) = 0
     ·rw [if_pos c12] at H
      have c12b0 : ((l0_2.length : Int) == 0) = true := beq_iff_eq.mpr c12
      have c12b1 : ((l0_2.length : Int) != 0) = false := bne_eq_false_iff_eq.mpr c12
      clear c12
      have H' := Aside0.mk H
      clear H
      obtain ⟨hcz13_0, hcz13_1, hcz13_2, hcz13_3, hcz13_4, hcz13_5, hcz13_6, hfz13_0, hfz13_1, hfz13_2, hfz13_3, hfz13_4, hfz13_5, hfz13_6⟩ := bf7 BK102.out
      go_wp2
      repeat (go_quiet (fail); try go_wp2)
      go_meet
      case rel => exact ⟨_, (true), (by first | rfl | (simp; done) | (simp [*]; done)), H', ⟨by first | omega | exact Nat.le_refl _⟩, ⟨by (with_reducible repeat (first | refine blk_drewN ?_ _ | refine blk_drew ?_ | refine blk_alloc ?_ _)); exact BK102.out⟩, ⟨(hb1_ HB.out GE102.out)⟩⟩
     ·rw [if_neg c12] at H
      have c12b0 : ((l0_2.length : Int) == 0) = false := beq_eq_false_iff_ne.mpr c12
      have c12b1 : ((l0_2.length : Int) != 0) = true := bne_iff_ne.mpr c12
      have c12b2 : ¬ (l0_2 = []) := fun h_ => c12 (by rw [h_]; rfl)
      by_cases c14 : a0_3 = true
      ·subst c14
       have H1 : (laminaref16_validHashes.j0 k false a0_0 a0_1 l0_2 true l0_4 l0_5 l0_6) = some r := by rw [if_pos rfl] at H; exact H
       clear H
       have H := H1
       clear H1
       have H' := Aside0.mk H
       clear H
       obtain ⟨hcz15_0, hcz15_1, hcz15_2, hcz15_3, hcz15_4, hcz15_5, hcz15_6, hfz15_0, hfz15_1, hfz15_2, hfz15_3, hfz15_4, hfz15_5, hfz15_6⟩ := bf7 BK102.out
       go_wp2
       repeat (go_quiet (fail); try go_wp2)
       go_meet
       case rel => exact ⟨_, (false), (by first | rfl | (simp; done) | (simp [*]; done)), H', ⟨by first | omega | exact Nat.le_refl _⟩, ⟨by (with_reducible repeat (first | refine blk_drewN ?_ _ | refine blk_drew ?_ | refine blk_alloc ?_ _)); exact BK102.out⟩, ⟨(hb1_ HB.out GE102.out)⟩⟩
      ·replace c14 := Bool.eq_false_iff.mpr c14
       subst c14
       have H1 : (laminaref16_validHashes.j0 k ((l0_2.length : Int) != 32) a0_0 a0_1 l0_2 false l0_4 l0_5 l0_6) = some r := by rw [if_neg (show ¬ (false = true) by decide)] at H; exact H
       clear H
       have H := H1
       clear H1
       have H' := Aside0.mk H
       clear H
       obtain ⟨hcz16_0, hcz16_1, hcz16_2, hcz16_3, hcz16_4, hcz16_5, hcz16_6, hfz16_0, hfz16_1, hfz16_2, hfz16_3, hfz16_4, hfz16_5, hfz16_6⟩ := bf7 BK102.out
       go_wp2
       repeat (go_quiet (fail); try go_wp2)
       go_meet
       case rel => exact ⟨_, (((l0_2.length : Int) != 32)), (by first | rfl | (simp; done) | (simp [*]; done)), H', ⟨by first | omega | exact Nat.le_refl _⟩, ⟨by (with_reducible repeat (first | refine blk_drewN ?_ _ | refine blk_drew ?_ | refine blk_alloc ?_ _)); exact BK102.out⟩, ⟨(hb1_ HB.out GE102.out)⟩⟩
    ·rw [if_neg c11] at H
     have c11b0 : decide (0 < t103) = false := decide_eq_false c11
     clear c11
     by_cases c17 : a0_3 = true
     ·subst c17
      have H1 : (laminaref16_validHashes.j0 k false a0_0 a0_1 l0_2 true l0_4 l0_5 l0_6) = some r := by rw [if_pos rfl] at H; exact H
      clear H
      have H := H1
      clear H1
      have H' := Aside0.mk H
      clear H
      obtain ⟨hcz18_0, hcz18_1, hcz18_2, hcz18_3, hcz18_4, hcz18_5, hcz18_6, hfz18_0, hfz18_1, hfz18_2, hfz18_3, hfz18_4, hfz18_5, hfz18_6⟩ := bf7 BK102.out
      go_wp2
      repeat (go_quiet (fail); try go_wp2)
      go_meet
      case rel => exact ⟨_, (false), (by first | rfl | (simp; done) | (simp [*]; done)), H', ⟨by first | omega | exact Nat.le_refl _⟩, ⟨by (with_reducible repeat (first | refine blk_drewN ?_ _ | refine blk_drew ?_ | refine blk_alloc ?_ _)); exact BK102.out⟩, ⟨(hb1_ HB.out GE102.out)⟩⟩
     ·replace c17 := Bool.eq_false_iff.mpr c17
      subst c17
      have H1 : (laminaref16_validHashes.j0 k ((l0_2.length : Int) != 32) a0_0 a0_1 l0_2 false l0_4 l0_5 l0_6) = some r := by rw [if_neg (show ¬ (false = true) by decide)] at H; exact H
      clear H
      have H := H1
      clear H1
      have H' := Aside0.mk H
      clear H
      obtain ⟨hcz19_0, hcz19_1, hcz19_2, hcz19_3, hcz19_4, hcz19_5, hcz19_6, hfz19_0, hfz19_1, hfz19_2, hfz19_3, hfz19_4, hfz19_5, hfz19_6⟩ := bf7 BK102.out
      go_wp2
      repeat (go_quiet (fail); try go_wp2)
      go_meet
      case rel => exact ⟨_, (((l0_2.length : Int) != 32)), (by first | rfl | (simp; done) | (simp [*]; done)), H', ⟨by first | omega | exact Nat.le_refl _⟩, ⟨by (with_reducible repeat (first | refine blk_drewN ?_ _ | refine blk_drew ?_ | refine blk_alloc ?_ _)); exact BK102.out⟩, ⟨(hb1_ HB.out GE102.out)⟩⟩
 case rest =>
  clear HC3
  try clear c1
  try clear p2
  try clear c3
  try clear c7
  try clear c7b0
  try clear c7b1
  try clear c9
  try clear c9b0
  try clear c11
  try clear c11b0
  try clear c12
  try clear c12b0
  try clear c12b1
  try clear c12b2
  try clear c14
  try clear c17
  try clear hcz10_0 hcz10_1 hcz10_2 hcz10_3 hcz10_4 hcz10_5 hcz10_6 hfz10_0 hfz10_1 hfz10_2 hfz10_3 hfz10_4 hfz10_5 hfz10_6
  try clear hcz13_0 hcz13_1 hcz13_2 hcz13_3 hcz13_4 hcz13_5 hcz13_6 hfz13_0 hfz13_1 hfz13_2 hfz13_3 hfz13_4 hfz13_5 hfz13_6
  try clear hcz15_0 hcz15_1 hcz15_2 hcz15_3 hcz15_4 hcz15_5 hcz15_6 hfz15_0 hfz15_1 hfz15_2 hfz15_3 hfz15_4 hfz15_5 hfz15_6
  try clear hcz16_0 hcz16_1 hcz16_2 hcz16_3 hcz16_4 hcz16_5 hcz16_6 hfz16_0 hfz16_1 hfz16_2 hfz16_3 hfz16_4 hfz16_5 hfz16_6
  try clear hcz18_0 hcz18_1 hcz18_2 hcz18_3 hcz18_4 hcz18_5 hcz18_6 hfz18_0 hfz18_1 hfz18_2 hfz18_3 hfz18_4 hfz18_5 hfz18_6
  try clear hcz19_0 hcz19_1 hcz19_2 hcz19_3 hcz19_4 hcz19_5 hcz19_6 hfz19_0 hfz19_1 hfz19_2 hfz19_3 hfz19_4 hfz19_5 hfz19_6
  try clear hcz5_0 hcz5_1 hcz5_2 hcz5_3 hcz5_4 hcz5_5 hcz5_6 hfz5_0 hfz5_1 hfz5_2 hfz5_3 hfz5_4 hfz5_5 hfz5_6
  try clear hcz8_0 hcz8_1 hcz8_2 hcz8_3 hcz8_4 hcz8_5 hcz8_6 hfz8_0 hfz8_1 hfz8_2 hfz8_3 hfz8_4 hfz8_5 hfz8_6
  obtain ⟨kq, x38_2, rfl, HA, HJ2, BK102, HB⟩ := hcut
  cases kq with
  | zero => exact absurd HA.out (by simp [laminaref16_validHashes.j0])
  | succ kj2 =>
   have H := HA.out
   clear HA
   simp only [laminaref16_validHashes.j0] at H
   by_cases c20 : x38_2 = true
   ·subst c20
    have H1 : (some false) = some r := by rw [if_pos rfl] at H; exact H
    clear H
    have H := H1
    clear H1
    obtain rfl := Option.some.inj H
    go_wp2
    repeat (go_quiet (fail); try go_wp2)
    go_ret
    exact er_ ((hb1_ HB.out GE102.out))
   ·replace c20 := Bool.eq_false_iff.mpr c20
    subst c20
    have H1 : (laminaref16_validHashes.l0 kj2 1 a0_0 a0_1 l0_2 a0_3 l0_4 l0_5 l0_6) = some r := by rw [if_neg (show ¬ (false = true) by decide)] at H; exact H
    clear H
    have H := H1
    clear H1
    have H' := Aside0.mk H
    clear H
    go_wp2
    repeat (go_quiet (fail); try go_wp2)
    go_loopg [4] kj2 (fun kq v4 w' => ∃ (x4_2 : Int), v4 = .int .i64 x4_2 ∧ Aside0 (laminaref16_validHashes.l0 kq x4_2 a0_0 a0_1 l0_2 a0_3 l0_4 l0_5 l0_6 = some r) ∧ Aside0 (kq ≤ kj2) ∧ Aside0 (w'.heap[gb102]? = some (.cells #[.int .i64 a0_0, .int .i64 a0_1, (.slice A0_2 l0_2.length c0_2), .bool a0_3, (.slice A0_4 l0_4.length c0_4), (.slice A0_5 l0_5.length c0_5), (.slice A0_6 l0_6.length c0_6)] 26 (0, 0))) ∧ Aside0 (Below w.heap.size w w'))
    case atStart => exact ⟨(1), (by first | rfl | (simp; done) | (simp [*]; done)), H', ⟨Nat.le_refl _⟩, ⟨by (with_reducible repeat (first | refine blk_drewN ?_ _ | refine blk_drew ?_ | refine blk_alloc ?_ _)); exact BK102.out⟩, ⟨(hb1_ HB.out GE102.out)⟩⟩
    case round =>
     clear H'
     try clear c1
     try clear c2
     try clear p2
     try clear c3
     try clear c7
     try clear c7b0
     try clear c7b1
     try clear c9
     try clear c9b0
     try clear c11
     try clear c11b0
     try clear c12
     try clear c12b0
     try clear c12b1
     try clear c12b2
     try clear c14
     try clear c17
     try clear c20
     try clear hcz10_0 hcz10_1 hcz10_2 hcz10_3 hcz10_4 hcz10_5 hcz10_6 hfz10_0 hfz10_1 hfz10_2 hfz10_3 hfz10_4 hfz10_5 hfz10_6
     try clear hcz13_0 hcz13_1 hcz13_2 hcz13_3 hcz13_4 hcz13_5 hcz13_6 hfz13_0 hfz13_1 hfz13_2 hfz13_3 hfz13_4 hfz13_5 hfz13_6
     try clear hcz15_0 hcz15_1 hcz15_2 hcz15_3 hcz15_4 hcz15_5 hcz15_6 hfz15_0 hfz15_1 hfz15_2 hfz15_3 hfz15_4 hfz15_5 hfz15_6
     try clear hcz16_0 hcz16_1 hcz16_2 hcz16_3 hcz16_4 hcz16_5 hcz16_6 hfz16_0 hfz16_1 hfz16_2 hfz16_3 hfz16_4 hfz16_5 hfz16_6
     try clear hcz18_0 hcz18_1 hcz18_2 hcz18_3 hcz18_4 hcz18_5 hcz18_6 hfz18_0 hfz18_1 hfz18_2 hfz18_3 hfz18_4 hfz18_5 hfz18_6
     try clear hcz19_0 hcz19_1 hcz19_2 hcz19_3 hcz19_4 hcz19_5 hcz19_6 hfz19_0 hfz19_1 hfz19_2 hfz19_3 hfz19_4 hfz19_5 hfz19_6
     try clear hcz5_0 hcz5_1 hcz5_2 hcz5_3 hcz5_4 hcz5_5 hcz5_6 hfz5_0 hfz5_1 hfz5_2 hfz5_3 hfz5_4 hfz5_5 hfz5_6
     try clear hcz8_0 hcz8_1 hcz8_2 hcz8_3 hcz8_4 hcz8_5 hcz8_6 hfz8_0 hfz8_1 hfz8_2 hfz8_3 hfz8_4 hfz8_5 hfz8_6
     try clear p2
     obtain ⟨x4_2, rfl, HA, HK2, BK102, HB⟩ := hrel
     cases gk with
     | zero => exact absurd HA.out (by simp [laminaref16_validHashes.l0])
     | succ k2 =>
      have H := HA.out
      clear HA
      simp only [laminaref16_validHashes.l0] at H
      by_cases c21 : x4_2 < (l0_2.length : Int)
      ·rw [if_pos c21] at H
       have c21b0 : decide (x4_2 < (l0_2.length : Int)) = true := decide_eq_true c21
       clear c21
       by_cases c22 : 0 ≤ x4_2
       ·rw [if_pos c22] at H
        have c22b0 : decide (0 ≤ x4_2) = true := decide_eq_true c22
        clear c22
        obtain ⟨ji23, hji23⟩ : ∃ j_ : Int, (wrap64 (x4_2 - 1)) = j_ := ⟨_, rfl⟩
        replace H : (if 0 ≤ (ji23) then (if (ji23) < (l0_2.length : Int) then (if (rd l0_2 x4_2) ≤ (rd l0_2 (ji23)) then (some false) else (laminaref16_validHashes.l0 k2 (wrap64 (x4_2 + 1)) a0_0 a0_1 l0_2 a0_3 l0_4 l0_5 l0_6)) else (none)) else (none)) = some r := by first | (rw [hji23] at H; exact H) | (simp only [hji23] at H ⊢; exact H)
        have hji23w : (IntKind.i64.wrap (x4_2 - 1)) = ji23 := (i64_w _).trans hji23
        by_cases c24 : 0 ≤ (ji23)
        ·rw [if_pos c24] at H
         have c24b0 : decide (0 ≤ (ji23)) = true := decide_eq_true c24
         clear c24
         by_cases c25 : (ji23) < (l0_2.length : Int)
         ·rw [if_pos c25] at H
          have c25b0 : decide ((ji23) < (l0_2.length : Int)) = true := decide_eq_true c25
          clear c25
          by_cases c26 : (rd l0_2 x4_2) ≤ (rd l0_2 (ji23))
          ·rw [if_pos c26] at H
           have c26b0 : decide ((rd l0_2 x4_2) ≤ (rd l0_2 (ji23))) = true := decide_eq_true c26
           clear c26
           obtain rfl := Option.some.inj H
           obtain ⟨hcz27_0, hcz27_1, hcz27_2, hcz27_3, hcz27_4, hcz27_5, hcz27_6, hfz27_0, hfz27_1, hfz27_2, hfz27_3, hfz27_4, hfz27_5, hfz27_6⟩ := bf7 BK102.out
           have p104 : 0 ≤ (x4_2 : Int) := of_decide_eq_true (by first | (with_reducible assumption) | assumption)
           have q104 : x4_2 < (l0_2.length : Int) := of_decide_eq_true (by first | (with_reducible assumption) | assumption)
           obtain ⟨ad104, e104, hx104_0⟩ := Kd.at_int HR0_2.out x4_2 p104 q104
           cases e104
           replace hx104_0 := up_ HB.out hx104_0
           replace p104 := eq_true p104
           replace q104 := eq_true q104
           have p105 : 0 ≤ ((ji23) : Int) := of_decide_eq_true (by first | (with_reducible assumption) | assumption)
           have q105 : (ji23) < (l0_2.length : Int) := of_decide_eq_true (by first | (with_reducible assumption) | assumption)
           obtain ⟨ad105, e105, hx105_0⟩ := Kd.at_int HR0_2.out (ji23) p105 q105
           obtain rfl : ad104 = ad105 := (by injection e105)
           replace hx105_0 := up_ HB.out hx105_0
           replace p105 := eq_true p105
           replace q105 := eq_true q105
           go_wp2
           repeat (go_quiet (fail); try go_wp2)
           go_ret
           exact ⟨by first | rfl | (simp [errW_none, errW_some] <;> rfl) | (simp only [← hji23]; first | rfl | (simp [errW_none, errW_some] <;> rfl)) | (simp [*, errW_none, errW_some] <;> rfl), (hb1_ HB.out GE102.out)⟩
          ·rw [if_neg c26] at H
           have c26b0 : decide ((rd l0_2 x4_2) ≤ (rd l0_2 (ji23))) = false := decide_eq_false c26
           clear c26
           have H' := Aside0.mk H
           clear H
           obtain ⟨hcz28_0, hcz28_1, hcz28_2, hcz28_3, hcz28_4, hcz28_5, hcz28_6, hfz28_0, hfz28_1, hfz28_2, hfz28_3, hfz28_4, hfz28_5, hfz28_6⟩ := bf7 BK102.out
           have p104 : 0 ≤ (x4_2 : Int) := of_decide_eq_true (by first | (with_reducible assumption) | assumption)
           have q104 : x4_2 < (l0_2.length : Int) := of_decide_eq_true (by first | (with_reducible assumption) | assumption)
           obtain ⟨ad104, e104, hx104_0⟩ := Kd.at_int HR0_2.out x4_2 p104 q104
           cases e104
           replace hx104_0 := up_ HB.out hx104_0
           replace p104 := eq_true p104
           replace q104 := eq_true q104
           have p105 : 0 ≤ ((ji23) : Int) := of_decide_eq_true (by first | (with_reducible assumption) | assumption)
           have q105 : (ji23) < (l0_2.length : Int) := of_decide_eq_true (by first | (with_reducible assumption) | assumption)
           obtain ⟨ad105, e105, hx105_0⟩ := Kd.at_int HR0_2.out (ji23) p105 q105
           obtain rfl : ad104 = ad105 := (by injection e105)
           replace hx105_0 := up_ HB.out hx105_0
           replace p105 := eq_true p105
           replace q105 := eq_true q105
           go_wp2
           repeat (go_quiet (fail); try go_wp2)
           go_roundg k2
           case measure => have := HJ2.out; have := HK2.out; omega
           case rel => exact ⟨(wrap64 (x4_2 + 1)), (by first | rfl | (simp; done) | (simp [*]; done)), H', ⟨by have := HJ2.out; have := HK2.out; omega⟩, ⟨by (with_reducible repeat (first | refine blk_drewN ?_ _ | refine blk_drew ?_ | refine blk_alloc ?_ _)); exact BK102.out⟩, ⟨(hb1_ HB.out GE102.out)⟩⟩
         ·rw [if_neg c25] at H
          exact absurd H (by simp)
        ·rw [if_neg c24] at H
         exact absurd H (by simp)
       ·rw [if_neg c22] at H
        exact absurd H (by simp)
      ·rw [if_neg c21] at H
       have c21b0 : decide (x4_2 < (l0_2.length : Int)) = false := decide_eq_false c21
       clear c21
       obtain rfl := Option.some.inj H
       obtain ⟨hcz29_0, hcz29_1, hcz29_2, hcz29_3, hcz29_4, hcz29_5, hcz29_6, hfz29_0, hfz29_1, hfz29_2, hfz29_3, hfz29_4, hfz29_5, hfz29_6⟩ := bf7 BK102.out
       go_wp2
       repeat (go_quiet (fail); try go_wp2)
       go_ret
       exact er_ ((hb1_ HB.out GE102.out))
end Go.Proofs.Ytackcingpffidaa.P
namespace Go.Proofs.Ytackcingpffidaa.P
open Go.RowKit Go.Proofs.YtackcingpffidaaW.PrintWords Go.Proofs.YtackcingpffidaaW.PrintLast Go.Proofs.YtackcingpffidaaW.PrintMore
set_option linter.unusedVariables false
set_option linter.unusedSimpArgs false
def rd_L4 (xs : List (List Int)) (i : Int) : (List Int) := xs.getD i.toNat ([] : List Int)
theorem at_L4 {w : World} {A : Option Addr} {n : Nat} {xs : List (List Int)} (h : Kd.C (Kd.slice 53 (Kd.int .u64)) w A n xs) (i : Int) (h0 : 0 ≤ i) (h1 : i < n) : ∃ ad A0 c0, A = some ad ∧ w.cell? (ad.add i.toNat) = some (.slice A0 (rd_L4 xs i).length c0) ∧ (rd_L4 xs i).length ≤ c0 ∧ (Kd.int .u64).C w A0 (rd_L4 xs i).length (rd_L4 xs i) := by
  obtain ⟨ad, c, e, _, hK, hc0⟩ := Kd.C_get h ([] : List Int) i h0 h1
  have hc : ∀ j u, c[j]? = some u → w.cell? (ad.add (i.toNat * 1 + j)) = some u := hc0
  obtain ⟨A0, c0, rfl, l0, g0⟩ := hK
  exact ⟨ad, A0, c0, e, by have hq := hc 0 _ rfl; rwa [Nat.mul_one, Nat.add_zero] at hq, l0, g0⟩
def rd_L6 (xs : List (List S39)) (i : Int) : (List S39) := xs.getD i.toNat ([] : List S39)
theorem at_L6 {w : World} {A : Option Addr} {n : Nat} {xs : List (List S39)} (h : Kd.C (Kd.slice 39 k39) w A n xs) (i : Int) (h0 : 0 ≤ i) (h1 : i < n) : ∃ ad A0 c0, A = some ad ∧ w.cell? (ad.add i.toNat) = some (.slice A0 (rd_L6 xs i).length c0) ∧ (rd_L6 xs i).length ≤ c0 ∧ k39.C w A0 (rd_L6 xs i).length (rd_L6 xs i) := by
  obtain ⟨ad, c, e, _, hK, hc0⟩ := Kd.C_get h ([] : List S39) i h0 h1
  have hc : ∀ j u, c[j]? = some u → w.cell? (ad.add (i.toNat * 1 + j)) = some u := hc0
  obtain ⟨A0, c0, rfl, l0, g0⟩ := hK
  exact ⟨ad, A0, c0, e, by have hq := hc 0 _ rfl; rwa [Nat.mul_one, Nat.add_zero] at hq, l0, g0⟩
structure S26 where
  f0 : Int
  f1 : Int
  f2 : (List Int)
  f3 : Bool
  f4 : (List Int)
  f5 : (List S39)
  f6 : (List Int)
def z26 : S26 := ⟨(0 : Int), (0 : Int), ([] : List Int), false, ([] : List Int), ([] : List S39), ([] : List Int)⟩
def k26 : Kd S26 := Kd.iso (Kd.pair (Kd.int .i64) (Kd.pair (Kd.int .i64) (Kd.pair (Kd.slice 53 (Kd.int .u64)) (Kd.pair Kd.bool (Kd.pair (Kd.slice 3 (Kd.int .i64)) (Kd.pair (Kd.slice 39 k39) (Kd.slice 3 (Kd.int .i64)))))))) (fun x : S26 => (x.f0, x.f1, x.f2, x.f3, x.f4, x.f5, x.f6))
theorem k26_open {w : World} {x : S26} {cs : List Value} (h : k26.K w x cs) : ∃ A2 c2 A4 c4 A5 c5 A6 c6, cs = [.int .i64 x.f0, .int .i64 x.f1, .slice A2 x.f2.length c2, .bool x.f3, .slice A4 x.f4.length c4, .slice A5 x.f5.length c5, .slice A6 x.f6.length c6] ∧ x.f2.length ≤ c2 ∧ (Kd.int .u64).C w A2 x.f2.length x.f2 ∧ x.f4.length ≤ c4 ∧ (Kd.int .i64).C w A4 x.f4.length x.f4 ∧ x.f5.length ≤ c5 ∧ k39.C w A5 x.f5.length x.f5 ∧ x.f6.length ≤ c6 ∧ (Kd.int .i64).C w A6 x.f6.length x.f6 := by
  obtain ⟨_, _, rfl, rfl, ⟨_, _, rfl, rfl, ⟨_, _, rfl, ⟨A2, c2, rfl, l2, g2⟩, ⟨_, _, rfl, rfl, ⟨_, _, rfl, ⟨A4, c4, rfl, l4, g4⟩, ⟨_, _, rfl, ⟨A5, c5, rfl, l5, g5⟩, ⟨A6, c6, rfl, l6, g6⟩⟩⟩⟩⟩⟩⟩ := h
  exact ⟨A2, c2, A4, c4, A5, c5, A6, c6, rfl, l2, g2, l4, g4, l5, g5, l6, g6⟩
theorem k26_openM {w : World} {base : Nat} {ok : Nat → Prop} {x : S26} {cs : List Value} (h : k26.M w base ok x cs) : ∃ v2 v4 v5 v6, cs = [.int .i64 x.f0, .int .i64 x.f1, v2, .bool x.f3, v4, v5, v6] ∧ (Kd.int .u64).R 53 w base ok v2 x.f2 ∧ (Kd.int .i64).R 3 w base ok v4 x.f4 ∧ k39.R 39 w base ok v5 x.f5 ∧ (Kd.int .i64).R 3 w base ok v6 x.f6 := by
  obtain ⟨_, _, rfl, rfl, ⟨_, _, rfl, rfl, ⟨_, _, rfl, ⟨v2, rfl, g2⟩, ⟨_, _, rfl, rfl, ⟨_, _, rfl, ⟨v4, rfl, g4⟩, ⟨_, _, rfl, ⟨v5, rfl, g5⟩, ⟨v6, rfl, g6⟩⟩⟩⟩⟩⟩⟩ := h
  exact ⟨v2, v4, v5, v6, rfl, g2, g4, g5, g6⟩
theorem k26_mk (w : World) (x : S26) {A2 : Option Addr} {c2 : Nat} (l2 : x.f2.length ≤ c2) (g2 : (Kd.int .u64).C w A2 x.f2.length x.f2) {A4 : Option Addr} {c4 : Nat} (l4 : x.f4.length ≤ c4) (g4 : (Kd.int .i64).C w A4 x.f4.length x.f4) {A5 : Option Addr} {c5 : Nat} (l5 : x.f5.length ≤ c5) (g5 : k39.C w A5 x.f5.length x.f5) {A6 : Option Addr} {c6 : Nat} (l6 : x.f6.length ≤ c6) (g6 : (Kd.int .i64).C w A6 x.f6.length x.f6) : k26.K w x [.int .i64 x.f0, .int .i64 x.f1, .slice A2 x.f2.length c2, .bool x.f3, .slice A4 x.f4.length c4, .slice A5 x.f5.length c5, .slice A6 x.f6.length c6] := ⟨[.int .i64 x.f0], [.int .i64 x.f1, .slice A2 x.f2.length c2, .bool x.f3, .slice A4 x.f4.length c4, .slice A5 x.f5.length c5, .slice A6 x.f6.length c6], rfl, rfl, ⟨[.int .i64 x.f1], [.slice A2 x.f2.length c2, .bool x.f3, .slice A4 x.f4.length c4, .slice A5 x.f5.length c5, .slice A6 x.f6.length c6], rfl, rfl, ⟨[.slice A2 x.f2.length c2], [.bool x.f3, .slice A4 x.f4.length c4, .slice A5 x.f5.length c5, .slice A6 x.f6.length c6], rfl, ⟨A2, c2, rfl, l2, g2⟩, ⟨[.bool x.f3], [.slice A4 x.f4.length c4, .slice A5 x.f5.length c5, .slice A6 x.f6.length c6], rfl, rfl, ⟨[.slice A4 x.f4.length c4], [.slice A5 x.f5.length c5, .slice A6 x.f6.length c6], rfl, ⟨A4, c4, rfl, l4, g4⟩, ⟨[.slice A5 x.f5.length c5], [.slice A6 x.f6.length c6], rfl, ⟨A5, c5, rfl, l5, g5⟩, ⟨A6, c6, rfl, l6, g6⟩⟩⟩⟩⟩⟩⟩
theorem k26_mkM (w : World) (base : Nat) (ok : Nat → Prop) (x : S26) {v2 : Value} (g2 : (Kd.int .u64).R 53 w base ok v2 x.f2) {v4 : Value} (g4 : (Kd.int .i64).R 3 w base ok v4 x.f4) {v5 : Value} (g5 : k39.R 39 w base ok v5 x.f5) {v6 : Value} (g6 : (Kd.int .i64).R 3 w base ok v6 x.f6) : k26.M w base ok x [.int .i64 x.f0, .int .i64 x.f1, v2, .bool x.f3, v4, v5, v6] := ⟨[.int .i64 x.f0], [.int .i64 x.f1, v2, .bool x.f3, v4, v5, v6], rfl, rfl, ⟨[.int .i64 x.f1], [v2, .bool x.f3, v4, v5, v6], rfl, rfl, ⟨[v2], [.bool x.f3, v4, v5, v6], rfl, ⟨v2, rfl, g2⟩, ⟨[.bool x.f3], [v4, v5, v6], rfl, rfl, ⟨[v4], [v5, v6], rfl, ⟨v4, rfl, g4⟩, ⟨[v5], [v6], rfl, ⟨v5, rfl, g5⟩, ⟨v6, rfl, g6⟩⟩⟩⟩⟩⟩⟩
theorem k26_openF {W : World} {ok : Nat → Prop} {x : S26} {cs : List Value} (h : Kd.FK k26 W ok x cs) : ∃ A2 c2 A4 c4 A5 c5 A6 c6, cs = [.int .i64 x.f0, .int .i64 x.f1, .slice A2 x.f2.length c2, .bool x.f3, .slice A4 x.f4.length c4, .slice A5 x.f5.length c5, .slice A6 x.f6.length c6] ∧ x.f2.length ≤ c2 ∧ Kd.F (Kd.int .u64) W ok A2 x.f2.length x.f2 ∧ x.f4.length ≤ c4 ∧ Kd.F (Kd.int .i64) W ok A4 x.f4.length x.f4 ∧ x.f5.length ≤ c5 ∧ Kd.F k39 W ok A5 x.f5.length x.f5 ∧ x.f6.length ≤ c6 ∧ Kd.F (Kd.int .i64) W ok A6 x.f6.length x.f6 := by
  obtain ⟨A2, c2, A4, c4, A5, c5, A6, c6, rfl, l2, _, l4, _, l5, _, l6, _⟩ := k26_open (Kd.FK_now h)
  exact ⟨A2, c2, A4, c4, A5, c5, A6, c6, rfl, l2, (fun W' hW => by obtain ⟨A2_, c2_, A4_, c4_, A5_, c5_, A6_, c6_, he, l2_, g2_, l4_, g4_, l5_, g5_, l6_, g6_⟩ := k26_open (h W' hW); injection (Option.some.inj (show some (Value.slice A2 x.f2.length c2) = some (Value.slice A2_ x.f2.length c2_) from congrArg (fun l => l[2]?) he)) with ha_ _ _; rw [ha_]; exact g2_), l4, (fun W' hW => by obtain ⟨A2_, c2_, A4_, c4_, A5_, c5_, A6_, c6_, he, l2_, g2_, l4_, g4_, l5_, g5_, l6_, g6_⟩ := k26_open (h W' hW); injection (Option.some.inj (show some (Value.slice A4 x.f4.length c4) = some (Value.slice A4_ x.f4.length c4_) from congrArg (fun l => l[4]?) he)) with ha_ _ _; rw [ha_]; exact g4_), l5, (fun W' hW => by obtain ⟨A2_, c2_, A4_, c4_, A5_, c5_, A6_, c6_, he, l2_, g2_, l4_, g4_, l5_, g5_, l6_, g6_⟩ := k26_open (h W' hW); injection (Option.some.inj (show some (Value.slice A5 x.f5.length c5) = some (Value.slice A5_ x.f5.length c5_) from congrArg (fun l => l[5]?) he)) with ha_ _ _; rw [ha_]; exact g5_), l6, (fun W' hW => by obtain ⟨A2_, c2_, A4_, c4_, A5_, c5_, A6_, c6_, he, l2_, g2_, l4_, g4_, l5_, g5_, l6_, g6_⟩ := k26_open (h W' hW); injection (Option.some.inj (show some (Value.slice A6 x.f6.length c6) = some (Value.slice A6_ x.f6.length c6_) from congrArg (fun l => l[6]?) he)) with ha_ _ _; rw [ha_]; exact g6_)⟩
theorem k26_mkF (W : World) (ok : Nat → Prop) (x : S26) {A2 : Option Addr} {c2 : Nat} (l2 : x.f2.length ≤ c2) (g2 : Kd.F (Kd.int .u64) W ok A2 x.f2.length x.f2) {A4 : Option Addr} {c4 : Nat} (l4 : x.f4.length ≤ c4) (g4 : Kd.F (Kd.int .i64) W ok A4 x.f4.length x.f4) {A5 : Option Addr} {c5 : Nat} (l5 : x.f5.length ≤ c5) (g5 : Kd.F k39 W ok A5 x.f5.length x.f5) {A6 : Option Addr} {c6 : Nat} (l6 : x.f6.length ≤ c6) (g6 : Kd.F (Kd.int .i64) W ok A6 x.f6.length x.f6) : Kd.FK k26 W ok x [.int .i64 x.f0, .int .i64 x.f1, .slice A2 x.f2.length c2, .bool x.f3, .slice A4 x.f4.length c4, .slice A5 x.f5.length c5, .slice A6 x.f6.length c6] := fun W2 hW => k26_mk W2 x l2 (g2 W2 hW) l4 (g4 W2 hW) l5 (g5 W2 hW) l6 (g6 W2 hW)
def rd_T26 (xs : List S26) (i : Int) : S26 := xs.getD i.toNat z26
theorem at_T26 {w : World} {A : Option Addr} {n : Nat} {xs : List S26} (h : Kd.C k26 w A n xs) (i : Int) (h0 : 0 ≤ i) (h1 : i < n) : ∃ ad A2 c2 A4 c4 A5 c5 A6 c6, A = some ad ∧ w.cell? (ad.add (i.toNat * 7)) = some (.int .i64 (rd_T26 xs i).f0) ∧ w.cell? ⟨(ad.add (i.toNat * 7)).block, (ad.add (i.toNat * 7)).off + 1, none⟩ = some (.int .i64 (rd_T26 xs i).f1) ∧ w.cell? ⟨(ad.add (i.toNat * 7)).block, (ad.add (i.toNat * 7)).off + 2, none⟩ = some (.slice A2 (rd_T26 xs i).f2.length c2) ∧ w.cell? ⟨(ad.add (i.toNat * 7)).block, (ad.add (i.toNat * 7)).off + 3, none⟩ = some (.bool (rd_T26 xs i).f3) ∧ w.cell? ⟨(ad.add (i.toNat * 7)).block, (ad.add (i.toNat * 7)).off + 4, none⟩ = some (.slice A4 (rd_T26 xs i).f4.length c4) ∧ w.cell? ⟨(ad.add (i.toNat * 7)).block, (ad.add (i.toNat * 7)).off + 5, none⟩ = some (.slice A5 (rd_T26 xs i).f5.length c5) ∧ w.cell? ⟨(ad.add (i.toNat * 7)).block, (ad.add (i.toNat * 7)).off + 6, none⟩ = some (.slice A6 (rd_T26 xs i).f6.length c6) ∧ (rd_T26 xs i).f2.length ≤ c2 ∧ (Kd.int .u64).C w A2 (rd_T26 xs i).f2.length (rd_T26 xs i).f2 ∧ (rd_T26 xs i).f4.length ≤ c4 ∧ (Kd.int .i64).C w A4 (rd_T26 xs i).f4.length (rd_T26 xs i).f4 ∧ (rd_T26 xs i).f5.length ≤ c5 ∧ k39.C w A5 (rd_T26 xs i).f5.length (rd_T26 xs i).f5 ∧ (rd_T26 xs i).f6.length ≤ c6 ∧ (Kd.int .i64).C w A6 (rd_T26 xs i).f6.length (rd_T26 xs i).f6 := by
  obtain ⟨ad, c, e, _, hK, hc0⟩ := Kd.C_get h z26 i h0 h1
  have hc : ∀ j u, c[j]? = some u → w.cell? (ad.add (i.toNat * 7 + j)) = some u := hc0
  obtain ⟨A2, c2, A4, c4, A5, c5, A6, c6, rfl, l2, g2, l4, g4, l5, g5, l6, g6⟩ := k26_open hK
  exact ⟨ad, A2, c2, A4, c4, A5, c5, A6, c6, e, hc 0 _ rfl, by rw [← add_field _ _ 1 (by omega)]; exact hc 1 _ rfl, by rw [← add_field _ _ 2 (by omega)]; exact hc 2 _ rfl, by rw [← add_field _ _ 3 (by omega)]; exact hc 3 _ rfl, by rw [← add_field _ _ 4 (by omega)]; exact hc 4 _ rfl, by rw [← add_field _ _ 5 (by omega)]; exact hc 5 _ rfl, by rw [← add_field _ _ 6 (by omega)]; exact hc 6 _ rfl, l2, g2, l4, g4, l5, g5, l6, g6⟩
def rd_L10 (xs : List (List Int)) (i : Int) : (List Int) := xs.getD i.toNat ([] : List Int)
theorem at_L10 {w : World} {A : Option Addr} {n : Nat} {xs : List (List Int)} (h : Kd.C (Kd.slice 5 (Kd.int .u8)) w A n xs) (i : Int) (h0 : 0 ≤ i) (h1 : i < n) : ∃ ad A0 c0, A = some ad ∧ w.cell? (ad.add i.toNat) = some (.slice A0 (rd_L10 xs i).length c0) ∧ (rd_L10 xs i).length ≤ c0 ∧ (Kd.int .u8).C w A0 (rd_L10 xs i).length (rd_L10 xs i) := by
  obtain ⟨ad, c, e, _, hK, hc0⟩ := Kd.C_get h ([] : List Int) i h0 h1
  have hc : ∀ j u, c[j]? = some u → w.cell? (ad.add (i.toNat * 1 + j)) = some u := hc0
  obtain ⟨A0, c0, rfl, l0, g0⟩ := hK
  exact ⟨ad, A0, c0, e, by have hq := hc 0 _ rfl; rwa [Nat.mul_one, Nat.add_zero] at hq, l0, g0⟩
structure S44 where
  f0 : Int
  f1 : Int
def z44 : S44 := ⟨(0 : Int), (0 : Int)⟩
def k44 : Kd S44 := Kd.iso (Kd.pair (Kd.int .i64) (Kd.int .i64)) (fun x : S44 => (x.f0, x.f1))
theorem k44_open {w : World} {x : S44} {cs : List Value} (h : k44.K w x cs) : cs = [.int .i64 x.f0, .int .i64 x.f1] := by
  obtain ⟨_, _, rfl, rfl, rfl⟩ := h
  exact rfl
theorem k44_openM {w : World} {base : Nat} {ok : Nat → Prop} {x : S44} {cs : List Value} (h : k44.M w base ok x cs) : cs = [.int .i64 x.f0, .int .i64 x.f1] := by
  obtain ⟨_, _, rfl, rfl, rfl⟩ := h
  exact rfl
theorem k44_mk (w : World) (x : S44)  : k44.K w x [.int .i64 x.f0, .int .i64 x.f1] := ⟨[.int .i64 x.f0], [.int .i64 x.f1], rfl, rfl, rfl⟩
theorem k44_mkM (w : World) (base : Nat) (ok : Nat → Prop) (x : S44)  : k44.M w base ok x [.int .i64 x.f0, .int .i64 x.f1] := ⟨[.int .i64 x.f0], [.int .i64 x.f1], rfl, rfl, rfl⟩
theorem k44_mkF (W : World) (ok : Nat → Prop) (x : S44) : Kd.FK k44 W ok x [.int .i64 x.f0, .int .i64 x.f1] := fun W2 _ => k44_mk W2 x
def rd_T44 (xs : List S44) (i : Int) : S44 := xs.getD i.toNat z44
theorem at_T44 {w : World} {A : Option Addr} {n : Nat} {xs : List S44} (h : Kd.C k44 w A n xs) (i : Int) (h0 : 0 ≤ i) (h1 : i < n) : ∃ ad , A = some ad ∧ w.cell? (ad.add (i.toNat * 2)) = some (.int .i64 (rd_T44 xs i).f0) ∧ w.cell? ⟨(ad.add (i.toNat * 2)).block, (ad.add (i.toNat * 2)).off + 1, none⟩ = some (.int .i64 (rd_T44 xs i).f1) := by
  obtain ⟨ad, c, e, _, hK, hc0⟩ := Kd.C_get h z44 i h0 h1
  have hc : ∀ j u, c[j]? = some u → w.cell? (ad.add (i.toNat * 2 + j)) = some u := hc0
  obtain rfl := k44_open hK
  exact ⟨ad, e, hc 0 _ rfl, by rw [← add_field _ _ 1 (by omega)]; exact hc 1 _ rfl⟩
structure S41 where
  f0 : Int
  f1 : Int
  f2 : S39
def z41 : S41 := ⟨(0 : Int), (0 : Int), z39⟩
def k41 : Kd S41 := Kd.iso (Kd.pair (Kd.int .i64) (Kd.pair (Kd.int .i64) k39)) (fun x : S41 => (x.f0, x.f1, x.f2))
theorem k41_open {w : World} {x : S41} {cs : List Value} (h : k41.K w x cs) : cs = [.int .i64 x.f0, .int .i64 x.f1, .int .i64 x.f2.f0, .int .i64 x.f2.f1, .string x.f2.f2] := by
  obtain ⟨_, _, rfl, rfl, ⟨_, _, rfl, rfl, s2⟩⟩ := h
  obtain rfl := k39_open s2
  exact rfl
theorem k41_openM {w : World} {base : Nat} {ok : Nat → Prop} {x : S41} {cs : List Value} (h : k41.M w base ok x cs) : cs = [.int .i64 x.f0, .int .i64 x.f1, .int .i64 x.f2.f0, .int .i64 x.f2.f1, .string x.f2.f2] := by
  obtain ⟨_, _, rfl, rfl, ⟨_, _, rfl, rfl, s2⟩⟩ := h
  obtain rfl := k39_openM s2
  exact rfl
theorem k41_mk (w : World) (x : S41)  : k41.K w x [.int .i64 x.f0, .int .i64 x.f1, .int .i64 x.f2.f0, .int .i64 x.f2.f1, .string x.f2.f2] := ⟨[.int .i64 x.f0], [.int .i64 x.f1, .int .i64 x.f2.f0, .int .i64 x.f2.f1, .string x.f2.f2], rfl, rfl, ⟨[.int .i64 x.f1], [.int .i64 x.f2.f0, .int .i64 x.f2.f1, .string x.f2.f2], rfl, rfl, (k39_mk w x.f2 )⟩⟩
theorem k41_mkM (w : World) (base : Nat) (ok : Nat → Prop) (x : S41)  : k41.M w base ok x [.int .i64 x.f0, .int .i64 x.f1, .int .i64 x.f2.f0, .int .i64 x.f2.f1, .string x.f2.f2] := ⟨[.int .i64 x.f0], [.int .i64 x.f1, .int .i64 x.f2.f0, .int .i64 x.f2.f1, .string x.f2.f2], rfl, rfl, ⟨[.int .i64 x.f1], [.int .i64 x.f2.f0, .int .i64 x.f2.f1, .string x.f2.f2], rfl, rfl, (k39_mkM w base ok x.f2 )⟩⟩
theorem k41_mkF (W : World) (ok : Nat → Prop) (x : S41) : Kd.FK k41 W ok x [.int .i64 x.f0, .int .i64 x.f1, .int .i64 x.f2.f0, .int .i64 x.f2.f1, .string x.f2.f2] := fun W2 _ => k41_mk W2 x
def rd_T41 (xs : List S41) (i : Int) : S41 := xs.getD i.toNat z41
theorem at_T41 {w : World} {A : Option Addr} {n : Nat} {xs : List S41} (h : Kd.C k41 w A n xs) (i : Int) (h0 : 0 ≤ i) (h1 : i < n) : ∃ ad , A = some ad ∧ w.cell? (ad.add (i.toNat * 5)) = some (.int .i64 (rd_T41 xs i).f0) ∧ w.cell? ⟨(ad.add (i.toNat * 5)).block, (ad.add (i.toNat * 5)).off + 1, none⟩ = some (.int .i64 (rd_T41 xs i).f1) ∧ w.cell? ⟨(ad.add (i.toNat * 5)).block, (ad.add (i.toNat * 5)).off + 2, none⟩ = some (.int .i64 (rd_T41 xs i).f2.f0) ∧ w.cell? ⟨(ad.add (i.toNat * 5)).block, (ad.add (i.toNat * 5)).off + 3, none⟩ = some (.int .i64 (rd_T41 xs i).f2.f1) ∧ w.cell? ⟨(ad.add (i.toNat * 5)).block, (ad.add (i.toNat * 5)).off + 4, none⟩ = some (.string (rd_T41 xs i).f2.f2) := by
  obtain ⟨ad, c, e, _, hK, hc0⟩ := Kd.C_get h z41 i h0 h1
  have hc : ∀ j u, c[j]? = some u → w.cell? (ad.add (i.toNat * 5 + j)) = some u := hc0
  obtain rfl := k41_open hK
  exact ⟨ad, e, hc 0 _ rfl, by rw [← add_field _ _ 1 (by omega)]; exact hc 1 _ rfl, by rw [← add_field _ _ 2 (by omega)]; exact hc 2 _ rfl, by rw [← add_field _ _ 3 (by omega)]; exact hc 3 _ rfl, by rw [← add_field _ _ 4 (by omega)]; exact hc 4 _ rfl⟩

theorem eqA39 (d : Nat) (w : World) (x0 y0 : Int) (x1 y1 : Int) (x2 y2 : ByteArray) :
    (Op.equalIn (d + 2) 39 (.agg #[.int .i64 x0, .int .i64 x1, .string x2]) (.agg #[.int .i64 y0, .int .i64 y1, .string y2])).run Try.prog w = .ok (x0 == y0 && (x1 == y1 && (x2.toList == y2.toList))) w := by
  refine eqA_of Try.underlying39 (by kernel_rfl) ?_
  refine eqf_cons (by rfl) (by go_simp; rfl) (by go_simp; rfl) (by go_simp) ?_
  refine eqf_cons (by rfl) (by go_simp; rfl) (by go_simp; rfl) (by go_simp) ?_
  exact eqf_last (by rfl) (by go_simp; rfl) (by go_simp; rfl) (by go_simp)
theorem eqA44 (d : Nat) (w : World) (x0 y0 : Int) (x1 y1 : Int) :
    (Op.equalIn (d + 2) 44 (.agg #[.int .i64 x0, .int .i64 x1]) (.agg #[.int .i64 y0, .int .i64 y1])).run Try.prog w = .ok (x0 == y0 && (x1 == y1)) w := by
  refine eqA_of Try.underlying44 (by kernel_rfl) ?_
  refine eqf_cons (by rfl) (by go_simp; rfl) (by go_simp; rfl) (by go_simp) ?_
  exact eqf_last (by rfl) (by go_simp; rfl) (by go_simp; rfl) (by go_simp)
end Go.Proofs.Ytackcingpffidaa.P
namespace Go.Proofs.Ytackcingpffidaa.P
open Go.RowKit Go.Proofs.YtackcingpffidaaW.PrintWords Go.Proofs.YtackcingpffidaaW.PrintLast Go.Proofs.YtackcingpffidaaW.PrintMore
attribute [local go_sem] max2_int min2_int max_two min_two max_three min_three max_four min_four Go.Proofs.YtackcingpffidaaQ.str_gtr Go.Proofs.YtackcingpffidaaQ.str_leq Go.Proofs.YtackcingpffidaaQ.str_geq   -- for this text's walks alone
set_option linter.unusedVariables false
set_option linter.unusedSimpArgs false
/-! ### laminaref16_Valid: function 11 -/
def laminaref16_Valid.f (k : Nat) (a0_0 : Int) (a0_1 : Int) (l0_2 : List Int) (a0_3 : Bool) (l0_4 : List Int) (l0_5 : List (S39)) (l0_6 : List Int) : Option (Bool) := if a0_1 ≥ 0 then (if a0_1 ≤ a0_0 then ((laminaref16_validHashes.f k a0_0 a0_1 l0_2 a0_3 l0_4 l0_5 l0_6).bind fun t116 => (if t116 = true then ((laminaref16_validCounters.f k a0_0 a0_1 l0_2 a0_3 l0_4 l0_5 l0_6).bind fun t117 => (if t117 = true then ((laminaref16_validFences.f a0_0 a0_1 l0_2 a0_3 l0_4 l0_5 l0_6).bind fun t118 => (some t118)) else (some false))) else (some false))) else (some false)) else (some false)
theorem laminaref16_Valid.mono : ∀ a0 a1 a2 a3 a4 a5 a6 k, LeO (laminaref16_Valid.f k a0 a1 a2 a3 a4 a5 a6) (laminaref16_Valid.f (k + 1) a0 a1 a2 a3 a4 a5 a6) := by
 intro a0 a1 a2 a3 a4 a5 a6 k
 unfold laminaref16_Valid.f
 repeat' first
   | (with_reducible exact laminaref16_validCounters.mono _ _ _ _ _ _ _ _)
   | (with_reducible exact laminaref16_validHashes.mono _ _ _ _ _ _ _ _)
   | (with_reducible exact LeO.refl _)
   | (with_reducible exact LeO.none _)
   | (with_reducible refine LeO.ite ?_ ?_)
   | (with_reducible refine LeO.bind ?_ (fun _ => ?_))
   | exact laminaref16_validCounters.mono _ _ _ _ _ _ _ _
   | exact laminaref16_validHashes.mono _ _ _ _ _ _ _ _
   | exact LeO.none _
   | refine LeO.ite ?_ ?_
   | refine LeO.bind ?_ (fun _ => ?_)
set_option maxHeartbeats 8000000 in
set_option maxRecDepth 100000 in
theorem laminaref16_Valid.calls (k : Nat) (a0_0 : Int) (a0_1 : Int) (A0_2 : Option Addr) (c0_2 : Nat) (l0_2 : List Int) (a0_3 : Bool) (A0_4 : Option Addr) (c0_4 : Nat) (l0_4 : List Int) (A0_5 : Option Addr) (c0_5 : Nat) (l0_5 : List (S39)) (A0_6 : Option Addr) (c0_6 : Nat) (l0_6 : List Int) (r : Bool) (w : World) (hr0_2 : Kd.C (Kd.int .u64) w A0_2 l0_2.length l0_2) (hc0_2 : l0_2.length ≤ c0_2) (hr0_4 : Kd.C (Kd.int .i64) w A0_4 l0_4.length l0_4) (hc0_4 : l0_4.length ≤ c0_4) (hr0_5 : Kd.C k39 w A0_5 l0_5.length l0_5) (hc0_5 : l0_5.length ≤ c0_5) (hr0_6 : Kd.C (Kd.int .i64) w A0_6 l0_6.length l0_6) (hc0_6 : l0_6.length ≤ c0_6) (h : laminaref16_Valid.f k a0_0 a0_1 l0_2 a0_3 l0_4 l0_5 l0_6 = some r) :
  Calls Try.prog 11 #[.agg #[.int .i64 a0_0, .int .i64 a0_1, .slice A0_2 l0_2.length c0_2, .bool a0_3, .slice A0_4 l0_4.length c0_4, .slice A0_5 l0_5.length c0_5, .slice A0_6 l0_6.length c0_6]] w fun e w' => e = .returned (.bool r) ∧ Below w.heap.size w w' := by
 have hu26 := Try.underlying26
 have HR0_2 := Aside0.mk hr0_2
 have HC0_2 := Aside0.mk hc0_2
 clear hr0_2 hc0_2
 have HR0_4 := Aside0.mk hr0_4
 have HC0_4 := Aside0.mk hc0_4
 clear hr0_4 hc0_4
 have HR0_5 := Aside0.mk hr0_5
 have HC0_5 := Aside0.mk hc0_5
 clear hr0_5 hc0_5
 have HR0_6 := Aside0.mk hr0_6
 have HC0_6 := Aside0.mk hc0_6
 clear hr0_6 hc0_6
 have HB := Aside0.mk (Below.refl w.heap.size w)
 have H : (if a0_1 ≥ 0 then (if a0_1 ≤ a0_0 then ((laminaref16_validHashes.f k a0_0 a0_1 l0_2 a0_3 l0_4 l0_5 l0_6).bind fun t116 => (if t116 = true then ((laminaref16_validCounters.f k a0_0 a0_1 l0_2 a0_3 l0_4 l0_5 l0_6).bind fun t117 => (if t117 = true then ((laminaref16_validFences.f a0_0 a0_1 l0_2 a0_3 l0_4 l0_5 l0_6).bind fun t118 => (some t118)) else (some false))) else (some false))) else (some false)) else (some false)) = some r := h
 clear h
 by_cases c2 : a0_1 ≥ 0
 ·rw [if_pos c2] at H
  have c2b0 : decide (0 ≤ a0_1) = true := decide_eq_true c2
  clear c2
  by_cases c3 : a0_1 ≤ a0_0
  ·rw [if_pos c3] at H
   have c3b0 : decide (a0_1 ≤ a0_0) = true := decide_eq_true c3
   clear c3
   replace H := Option.bind_eq_some_iff.mp H
   obtain ⟨t116, A40, H⟩ := H
   replace H : (if t116 = true then ((laminaref16_validCounters.f k a0_0 a0_1 l0_2 a0_3 l0_4 l0_5 l0_6).bind fun t117 => (if t117 = true then ((laminaref16_validFences.f a0_0 a0_1 l0_2 a0_3 l0_4 l0_5 l0_6).bind fun t118 => (some t118)) else (some false))) else (some false)) = some r := H
   have A4 := Aside0.mk A40
   clear A40
   by_cases c5 : t116 = true
   ·subst c5
    have H1 : ((laminaref16_validCounters.f k a0_0 a0_1 l0_2 a0_3 l0_4 l0_5 l0_6).bind fun t117 => (if t117 = true then ((laminaref16_validFences.f a0_0 a0_1 l0_2 a0_3 l0_4 l0_5 l0_6).bind fun t118 => (some t118)) else (some false))) = some r := by rw [if_pos rfl] at H; exact H
    clear H
    have H := H1
    clear H1
    replace H := Option.bind_eq_some_iff.mp H
    obtain ⟨t117, A60, H⟩ := H
    replace H : (if t117 = true then ((laminaref16_validFences.f a0_0 a0_1 l0_2 a0_3 l0_4 l0_5 l0_6).bind fun t118 => (some t118)) else (some false)) = some r := H
    have A6 := Aside0.mk A60
    clear A60
    by_cases c7 : t117 = true
    ·subst c7
     have H1 : ((laminaref16_validFences.f a0_0 a0_1 l0_2 a0_3 l0_4 l0_5 l0_6).bind fun t118 => (some t118)) = some r := by rw [if_pos rfl] at H; exact H
     clear H
     have H := H1
     clear H1
     replace H := Option.bind_eq_some_iff.mp H
     obtain ⟨t118, A80, H⟩ := H
     replace H : (some t118) = some r := H
     have A8 := Aside0.mk A80
     clear A80
     obtain rfl := Option.some.inj H
     go_enter Try.func11, Try.ntmps11
     go_wp2_with (first | ((with_reducible refine gate_dst (N := 1) rfl ?_); refine box_ 1 (cs := #[.int .i64 a0_0, .int .i64 a0_1, .slice A0_2 l0_2.length c0_2, .bool a0_3, .slice A0_4 l0_4.length c0_4, .slice A0_5 l0_5.length c0_5, .slice A0_6 l0_6.length c0_6]) (t := 26) ?_; intro gb115 hg w9 hbox hb; have BK115 := Aside0.mk (hbox); have GW115 := Aside0.mk ((by rw [hg]; exact (below_size (hb_ HB.out)) : w.heap.size ≤ gb115)); have GE115 := Aside0.mk ((by rw [hg]; exact (below_size (hb_ HB.out)) : w.heap.size ≤ gb115)); replace HB := Aside0.mk (below_step (hb_ HB.out) hb); clear hb hbox hg; obtain ⟨hcz10_0, hcz10_1, hcz10_2, hcz10_3, hcz10_4, hcz10_5, hcz10_6, hfz10_0, hfz10_1, hfz10_2, hfz10_3, hfz10_4, hfz10_5, hfz10_6⟩ := bf7 BK115.out) | (go_at_call 37; (with_reducible refine (laminaref16_validHashes.calls k a0_0 a0_1 _ _ l0_2 a0_3 _ _ l0_4 _ _ l0_5 _ _ l0_6 true _ ?side1 ?side2 ?side3 ?side4 ?side5 ?side6 ?side7 ?side8 A4.out).mono ?_); (case side1 => exact cb_ HR0_2.out HB.out); (case side2 => exact HC0_2.out); (case side3 => exact cb_ HR0_4.out HB.out); (case side4 => exact HC0_4.out); (case side5 => exact cb_ HR0_5.out HB.out); (case side6 => exact HC0_5.out); (case side7 => exact cb_ HR0_6.out HB.out); (case side8 => exact HC0_6.out); rintro e w11 ⟨rfl, hb⟩; replace BK115 := Aside0.mk (blk_below (bk_ BK115.out) hb); replace HB := Aside0.mk (below_step (hb1_ HB.out GE115.out) hb); (try clear hb); obtain ⟨hcz12_0, hcz12_1, hcz12_2, hcz12_3, hcz12_4, hcz12_5, hcz12_6, hfz12_0, hfz12_1, hfz12_2, hfz12_3, hfz12_4, hfz12_5, hfz12_6⟩ := bf7 BK115.out) | (go_at_call 38; (with_reducible refine (laminaref16_validCounters.calls k a0_0 a0_1 _ _ l0_2 a0_3 _ _ l0_4 _ _ l0_5 _ _ l0_6 true _ ?side1 ?side2 ?side3 ?side4 ?side5 ?side6 ?side7 ?side8 A6.out).mono ?_); (case side1 => exact cb_ HR0_2.out HB.out); (case side2 => exact HC0_2.out); (case side3 => exact cb_ HR0_4.out HB.out); (case side4 => exact HC0_4.out); (case side5 => exact cb_ HR0_5.out HB.out); (case side6 => exact HC0_5.out); (case side7 => exact cb_ HR0_6.out HB.out); (case side8 => exact HC0_6.out); rintro e w13 ⟨rfl, hb⟩; replace BK115 := Aside0.mk (blk_below (bk_ BK115.out) hb); replace HB := Aside0.mk (below_step (hb1_ HB.out GE115.out) hb); (try clear hb); obtain ⟨hcz14_0, hcz14_1, hcz14_2, hcz14_3, hcz14_4, hcz14_5, hcz14_6, hfz14_0, hfz14_1, hfz14_2, hfz14_3, hfz14_4, hfz14_5, hfz14_6⟩ := bf7 BK115.out) | (go_at_call 39; (with_reducible refine (laminaref16_validFences.calls a0_0 a0_1 _ _ l0_2 a0_3 _ _ l0_4 _ _ l0_5 _ _ l0_6 t118 _ ?side1 ?side2 ?side3 ?side4 ?side5 ?side6 ?side7 ?side8 A8.out).mono ?_); (case side1 => exact cb_ HR0_2.out HB.out); (case side2 => exact HC0_2.out); (case side3 => exact cb_ HR0_4.out HB.out); (case side4 => exact HC0_4.out); (case side5 => exact cb_ HR0_5.out HB.out); (case side6 => exact HC0_5.out); (case side7 => exact cb_ HR0_6.out HB.out); (case side8 => exact HC0_6.out); rintro e w15 ⟨rfl, hb⟩; replace BK115 := Aside0.mk (blk_below (bk_ BK115.out) hb); replace HB := Aside0.mk (below_step (hb1_ HB.out GE115.out) hb); (try clear hb)))
     go_ret
     exact er_ ((hb1_ HB.out GE115.out))
    ·replace c7 := Bool.eq_false_iff.mpr c7
     subst c7
     have H1 : (some false) = some r := by rw [if_neg (show ¬ (false = true) by decide)] at H; exact H
     clear H
     have H := H1
     clear H1
     obtain rfl := Option.some.inj H
     go_enter Try.func11, Try.ntmps11
     go_wp2_with (first | ((with_reducible refine gate_dst (N := 1) rfl ?_); refine box_ 1 (cs := #[.int .i64 a0_0, .int .i64 a0_1, .slice A0_2 l0_2.length c0_2, .bool a0_3, .slice A0_4 l0_4.length c0_4, .slice A0_5 l0_5.length c0_5, .slice A0_6 l0_6.length c0_6]) (t := 26) ?_; intro gb115 hg w16 hbox hb; have BK115 := Aside0.mk (hbox); have GW115 := Aside0.mk ((by rw [hg]; exact (below_size (hb_ HB.out)) : w.heap.size ≤ gb115)); have GE115 := Aside0.mk ((by rw [hg]; exact (below_size (hb_ HB.out)) : w.heap.size ≤ gb115)); replace HB := Aside0.mk (below_step (hb_ HB.out) hb); clear hb hbox hg; obtain ⟨hcz17_0, hcz17_1, hcz17_2, hcz17_3, hcz17_4, hcz17_5, hcz17_6, hfz17_0, hfz17_1, hfz17_2, hfz17_3, hfz17_4, hfz17_5, hfz17_6⟩ := bf7 BK115.out) | (go_at_call 37; (with_reducible refine (laminaref16_validHashes.calls k a0_0 a0_1 _ _ l0_2 a0_3 _ _ l0_4 _ _ l0_5 _ _ l0_6 true _ ?side1 ?side2 ?side3 ?side4 ?side5 ?side6 ?side7 ?side8 A4.out).mono ?_); (case side1 => exact cb_ HR0_2.out HB.out); (case side2 => exact HC0_2.out); (case side3 => exact cb_ HR0_4.out HB.out); (case side4 => exact HC0_4.out); (case side5 => exact cb_ HR0_5.out HB.out); (case side6 => exact HC0_5.out); (case side7 => exact cb_ HR0_6.out HB.out); (case side8 => exact HC0_6.out); rintro e w18 ⟨rfl, hb⟩; replace BK115 := Aside0.mk (blk_below (bk_ BK115.out) hb); replace HB := Aside0.mk (below_step (hb1_ HB.out GE115.out) hb); (try clear hb); obtain ⟨hcz19_0, hcz19_1, hcz19_2, hcz19_3, hcz19_4, hcz19_5, hcz19_6, hfz19_0, hfz19_1, hfz19_2, hfz19_3, hfz19_4, hfz19_5, hfz19_6⟩ := bf7 BK115.out) | (go_at_call 38; (with_reducible refine (laminaref16_validCounters.calls k a0_0 a0_1 _ _ l0_2 a0_3 _ _ l0_4 _ _ l0_5 _ _ l0_6 false _ ?side1 ?side2 ?side3 ?side4 ?side5 ?side6 ?side7 ?side8 A6.out).mono ?_); (case side1 => exact cb_ HR0_2.out HB.out); (case side2 => exact HC0_2.out); (case side3 => exact cb_ HR0_4.out HB.out); (case side4 => exact HC0_4.out); (case side5 => exact cb_ HR0_5.out HB.out); (case side6 => exact HC0_5.out); (case side7 => exact cb_ HR0_6.out HB.out); (case side8 => exact HC0_6.out); rintro e w20 ⟨rfl, hb⟩; replace BK115 := Aside0.mk (blk_below (bk_ BK115.out) hb); replace HB := Aside0.mk (below_step (hb1_ HB.out GE115.out) hb); (try clear hb)))
     go_ret
     exact er_ ((hb1_ HB.out GE115.out))
   ·replace c5 := Bool.eq_false_iff.mpr c5
    subst c5
    have H1 : (some false) = some r := by rw [if_neg (show ¬ (false = true) by decide)] at H; exact H
    clear H
    have H := H1
    clear H1
    obtain rfl := Option.some.inj H
    go_enter Try.func11, Try.ntmps11
    go_wp2_with (first | ((with_reducible refine gate_dst (N := 1) rfl ?_); refine box_ 1 (cs := #[.int .i64 a0_0, .int .i64 a0_1, .slice A0_2 l0_2.length c0_2, .bool a0_3, .slice A0_4 l0_4.length c0_4, .slice A0_5 l0_5.length c0_5, .slice A0_6 l0_6.length c0_6]) (t := 26) ?_; intro gb115 hg w21 hbox hb; have BK115 := Aside0.mk (hbox); have GW115 := Aside0.mk ((by rw [hg]; exact (below_size (hb_ HB.out)) : w.heap.size ≤ gb115)); have GE115 := Aside0.mk ((by rw [hg]; exact (below_size (hb_ HB.out)) : w.heap.size ≤ gb115)); replace HB := Aside0.mk (below_step (hb_ HB.out) hb); clear hb hbox hg; obtain ⟨hcz22_0, hcz22_1, hcz22_2, hcz22_3, hcz22_4, hcz22_5, hcz22_6, hfz22_0, hfz22_1, hfz22_2, hfz22_3, hfz22_4, hfz22_5, hfz22_6⟩ := bf7 BK115.out) | (go_at_call 37; (with_reducible refine (laminaref16_validHashes.calls k a0_0 a0_1 _ _ l0_2 a0_3 _ _ l0_4 _ _ l0_5 _ _ l0_6 false _ ?side1 ?side2 ?side3 ?side4 ?side5 ?side6 ?side7 ?side8 A4.out).mono ?_); (case side1 => exact cb_ HR0_2.out HB.out); (case side2 => exact HC0_2.out); (case side3 => exact cb_ HR0_4.out HB.out); (case side4 => exact HC0_4.out); (case side5 => exact cb_ HR0_5.out HB.out); (case side6 => exact HC0_5.out); (case side7 => exact cb_ HR0_6.out HB.out); (case side8 => exact HC0_6.out); rintro e w23 ⟨rfl, hb⟩; replace BK115 := Aside0.mk (blk_below (bk_ BK115.out) hb); replace HB := Aside0.mk (below_step (hb1_ HB.out GE115.out) hb); (try clear hb)))
    go_ret
    exact er_ ((hb1_ HB.out GE115.out))
  ·rw [if_neg c3] at H
   have c3b0 : decide (a0_1 ≤ a0_0) = false := decide_eq_false c3
   clear c3
   obtain rfl := Option.some.inj H
   go_enter Try.func11, Try.ntmps11
   go_wp2_with (first | ((with_reducible refine gate_dst (N := 1) rfl ?_); refine box_ 1 (cs := #[.int .i64 a0_0, .int .i64 a0_1, .slice A0_2 l0_2.length c0_2, .bool a0_3, .slice A0_4 l0_4.length c0_4, .slice A0_5 l0_5.length c0_5, .slice A0_6 l0_6.length c0_6]) (t := 26) ?_; intro gb115 hg w24 hbox hb; have BK115 := Aside0.mk (hbox); have GW115 := Aside0.mk ((by rw [hg]; exact (below_size (hb_ HB.out)) : w.heap.size ≤ gb115)); have GE115 := Aside0.mk ((by rw [hg]; exact (below_size (hb_ HB.out)) : w.heap.size ≤ gb115)); replace HB := Aside0.mk (below_step (hb_ HB.out) hb); clear hb hbox hg; obtain ⟨hcz25_0, hcz25_1, hcz25_2, hcz25_3, hcz25_4, hcz25_5, hcz25_6, hfz25_0, hfz25_1, hfz25_2, hfz25_3, hfz25_4, hfz25_5, hfz25_6⟩ := bf7 BK115.out))
   go_ret
   exact er_ ((hb1_ HB.out GE115.out))
 ·rw [if_neg c2] at H
  have c2b0 : decide (0 ≤ a0_1) = false := decide_eq_false c2
  clear c2
  obtain rfl := Option.some.inj H
  go_enter Try.func11, Try.ntmps11
  go_wp2_with (first | ((with_reducible refine gate_dst (N := 1) rfl ?_); refine box_ 1 (cs := #[.int .i64 a0_0, .int .i64 a0_1, .slice A0_2 l0_2.length c0_2, .bool a0_3, .slice A0_4 l0_4.length c0_4, .slice A0_5 l0_5.length c0_5, .slice A0_6 l0_6.length c0_6]) (t := 26) ?_; intro gb115 hg w26 hbox hb; have BK115 := Aside0.mk (hbox); have GW115 := Aside0.mk ((by rw [hg]; exact (below_size (hb_ HB.out)) : w.heap.size ≤ gb115)); have GE115 := Aside0.mk ((by rw [hg]; exact (below_size (hb_ HB.out)) : w.heap.size ≤ gb115)); replace HB := Aside0.mk (below_step (hb_ HB.out) hb); clear hb hbox hg; obtain ⟨hcz27_0, hcz27_1, hcz27_2, hcz27_3, hcz27_4, hcz27_5, hcz27_6, hfz27_0, hfz27_1, hfz27_2, hfz27_3, hfz27_4, hfz27_5, hfz27_6⟩ := bf7 BK115.out))
  go_ret
  exact er_ ((hb1_ HB.out GE115.out))

-- NOT PRINTED: function 112 (api_Value_112)

-- NOT PRINTED: function 128 (api_Value_128)

-- NOT PRINTED: function 113 (api_Value_113)
end Go.Proofs.Ytackcingpffidaa.P
namespace Go.Proofs.Ytackcingpffidaa.P
set_option linter.unusedVariables false
open Go.RowKit Go.Proofs.YtackcingpffidaaW.PrintWords Go.Proofs.YtackcingpffidaaW.PrintLast Go.Proofs.YtackcingpffidaaW.PrintMore
/-- The last fence's number above the first one's. -/
def gapS (F : List S39) : Int := IntKind.u64.wrap (IntKind.u64.wrap (rd_T39 F ((F.length : Int) - 1)).f1 - IntKind.u64.wrap (rd_T39 F 0).f1)
def lowD (M : List Int) (c : Bool) : Int := if c then (M.length : Int) else wrap64 ((M.length : Int) + 1)
def gapB (F : List S39) (n : Int) : Bool := decide (0 < F.length) && (rd_T39 F 0).f0 != 3 && decide (gapS F < IntKind.u64.wrap n)
def sketch_CountDistinct.f (k : Nat) (a0_0 : Int) (a0_1 : Int) (l0_2 : List Int) (a0_3 : Bool) (l0_4 : List Int) (l0_5 : List (S39)) (l0_6 : List Int) : Option (Int × Int) :=
  some (lowD l0_2 a0_3, if gapB l0_5 (wrap64 (a0_0 - a0_1)) then mn (wrap64 (a0_0 - a0_1)) (wrap64 (wrap64 (gapS l0_5) + 1)) else wrap64 (a0_0 - a0_1))
def laminaref16_CountDistinct.f (k : Nat) (a0_0 : Int) (a0_1 : Int) (l0_2 : List Int) (a0_3 : Bool) (l0_4 : List Int) (l0_5 : List (S39)) (l0_6 : List Int) : Option (Int × Int) :=
  some (lowD l0_2 a0_3, if gapB l0_5 (wrap64 (a0_0 - a0_1)) then wrap64 (wrap64 (gapS l0_5) + 1) else wrap64 (a0_0 - a0_1))
theorem sketch_CountDistinct.mono : ∀ a0 a1 a2 a3 a4 a5 a6 k, LeO (sketch_CountDistinct.f k a0 a1 a2 a3 a4 a5 a6) (sketch_CountDistinct.f (k + 1) a0 a1 a2 a3 a4 a5 a6) := fun _ _ _ _ _ _ _ _ => LeO.refl _
theorem laminaref16_CountDistinct.mono : ∀ a0 a1 a2 a3 a4 a5 a6 k, LeO (laminaref16_CountDistinct.f k a0 a1 a2 a3 a4 a5 a6) (laminaref16_CountDistinct.f (k + 1) a0 a1 a2 a3 a4 a5 a6) := fun _ _ _ _ _ _ _ _ => LeO.refl _
end Go.Proofs.Ytackcingpffidaa.P
namespace Go.Proofs.Ytackcingpffidaa.P
open Go.RowKit Go.Proofs.YtackcingpffidaaW.PrintWords Go.Proofs.YtackcingpffidaaW.PrintLast Go.Proofs.YtackcingpffidaaW.PrintMore
attribute [local go_sem] max2_int min2_int max_two min_two
set_option linter.unusedVariables false
set_option linter.unusedSimpArgs false
def f28_T1 : Bool × List (List Nat × List Nat) := (true, [([], []), ([0], [0]), ([1], [1]), ([], []), ([3], [3]), ([2, 4, 4], [2, 4]), ([], []), ([6, 5, 5, 0, 1, 2, 3, 4, 5, 6], [5, 6])])
def f28_B1 : List Nat := [0, 1, 3, 0, 8, 31, 0, 127]
set_option maxRecDepth 100000 in
theorem f28_tab1 : rtab .any (opsOf Try.f28 1) = f28_T1 := by kernel_rfl
theorem f28_bits1 : waitsOk f28_T1.2 f28_B1 = true := by kernel_rfl
def f28_T6 : Bool × List (List Nat × List Nat) := (true, [([], []), ([0], [0]), ([], []), ([2], [2]), ([1, 3], [1, 3]), ([4], [4]), ([5], [5]), ([6], [6]), ([], []), ([8], [8]), ([9], [9]), ([10], [10]), ([11], [11]), ([12], [12]), ([7, 13], [7, 13]), ([14, 0, 1, 2, 3, 4, 5, 6, 7, 8, 9, 10, 11, 12, 13, 14], [14])])
def f28_B6 : List Nat := [0, 1, 0, 4, 15, 31, 63, 127, 0, 256, 768, 1792, 3840, 7936, 16383, 32767]
set_option maxRecDepth 100000 in
theorem f28_tab6 : rtab .any (opsOf Try.f28 6) = f28_T6 := by kernel_rfl
theorem f28_bits6 : waitsOk f28_T6.2 f28_B6 = true := by kernel_rfl
set_option maxHeartbeats 8000000 in
set_option maxRecDepth 100000 in
theorem sketch_CountDistinct.calls0 (k : Nat) (a0 a1 : Int) (A2 : Option Addr) (c2 : Nat) (l2 : List Int) (b3 : Bool) (A4 : Option Addr) (c4 : Nat) (l4 : List Int) (A5 : Option Addr) (c5 : Nat) (l5 : List S39) (A6 : Option Addr) (c6 : Nat) (l6 : List Int) (lo hi : Int) (w : World) (hr2 : Kd.C (Kd.int .u64) w A2 l2.length l2) (hc2 : l2.length ≤ c2) (hr4 : Kd.C (Kd.int .i64) w A4 l4.length l4) (hc4 : l4.length ≤ c4) (hr5 : Kd.C k39 w A5 l5.length l5) (hc5 : l5.length ≤ c5) (hr6 : Kd.C (Kd.int .i64) w A6 l6.length l6) (hc6 : l6.length ≤ c6) (h : sketch_CountDistinct.f k a0 a1 l2 b3 l4 l5 l6 = some (lo, hi)) :
    Calls Try.prog 28 #[.agg #[.int .i64 a0, .int .i64 a1, .slice A2 l2.length c2, .bool b3, .slice A4 l4.length c4, .slice A5 l5.length c5, .slice A6 l6.length c6]] w fun e w' => e = .returned (.agg #[.int .i64 lo, .int .i64 hi]) ∧ Below w.heap.size w w' := by
  have HKw : SK w A2 c2 l2 A4 c4 l4 A5 c5 l5 A6 c6 l6 := ⟨hr2, hc2, hr4, hc4, hr5, hc5, hr6, hc6⟩
  have HR5 := Aside0.mk hr5
  have hl2 : l2.length ≤ 9223372036854775807 := hr2.2.1
  have hl5 : l5.length ≤ 9223372036854775807 := hr5.2.1
  replace HKw := Aside0.mk HKw
  unfold sketch_CountDistinct.f at h
  obtain ⟨n, hn⟩ : ∃ n, wrap64 (a0 - a1) = n := ⟨_, rfl⟩
  rw [hn] at h
  obtain ⟨hlo, hhi⟩ := Prod.mk.inj (Option.some.inj h)
  have HLO := Aside0.mk hlo
  have HHI := Aside0.mk hhi
  have HN : Aside0 (sketch_count.f a0 a1 l2 b3 l4 l5 l6 = some n) := ⟨by unfold sketch_count.f; rw [hn]⟩
  clear hr2 hr4 hr5 hr6 h hn hlo hhi
  go_enter Try.func28, Try.ntmps28
  go_upto_region 1 with (refine box_ 1 (cs := #[.int .i64 a0, .int .i64 a1, .slice A2 l2.length c2, .bool b3, .slice A4 l4.length c4, .slice A5 l5.length c5, .slice A6 l6.length c6]) (t := 26) (fun g2 hg_ w1 BK2 HB => ?_); clear hg_; replace BK2 := Aside0.mk BK2; replace HB := Aside0.mk HB)
  replace BK2 := Aside0.mk (blk_alloc BK2.out (.cells #[.int .i64 0, .int .i64 0] 44))
  have BK4 := Aside0.mk (heap_alloc_new w1 (.cells #[.int .i64 0, .int .i64 0] 44))
  have HBV := Aside0.mk (below_alloc HB.out (.cells #[.int .i64 0, .int .i64 0] 44))
  have hg4 : w.heap.size ≤ w1.heap.size := below_size HB.out
  obtain ⟨V, hV⟩ : ∃ V, w1.alloc (.cells #[.int .i64 0, .int .i64 0] 44) = V := ⟨_, rfl⟩
  rw [hV] at BK2 BK4 HBV ⊢
  clear hV HB
  generalize w1.heap.size = g4 at *
  clear w1
  have HS : Aside0 (∀ W, Below V.heap.size V W → sk7 g2 a0 a1 A2 c2 l2 b3 A4 c4 l4 A5 c5 l5 A6 c6 l6 W (True)) := ⟨fun W hb => sk7_of (blk_below BK2.out hb) trivial⟩
  have HK : Aside0 (∀ W, Below V.heap.size V W → SK W A2 c2 l2 A4 c4 l4 A5 c5 l5 A6 c6 l6) := ⟨fun W hb => HKw.out.below (HBV.out.trans (hb.mono (below_size HBV.out)))⟩
  clear BK2 HKw
  have HY := Aside0.mk (below_drew1 (Below.refl V.heap.size V))
  refine start_ (n := 8) (S := fun W => sk7 g2 a0 a1 A2 c2 l2 b3 A4 c4 l4 A5 c5 l5 A6 c6 l6 W (True)) (ds := []) #[false, false, false, false, false, false, false, false] (by kernel_rfl) rfl rfl (HS.out _ HY.out) (fun hHeld => ?_)
  refine with_tabW f28_tab1 f28_bits1 (fun HT_ HW_ => ?_)
  generalize V.drew = wd at HY hHeld ⊢
  refine pu_ HT_ 0 (some 6) ?_
  refine tk_ HT_ HW_ 1 (some 7) hHeld ?_
  refine pu_ HT_ 2 (some 8) ?_
  refine tk_ HT_ HW_ 3 (some 9) hHeld ?_
  refine join_ (σ := Nat) 1 #[true, true, true, true, true, true, true, false] (fun s_ => [(10, .int .i64 n), (11, .agg #[.int .i64 (l2.length : Int), .int .i64 n]), (3, .pointer (some ⟨s_, 0, none⟩))]) (fun s_ W => sk7 g2 a0 a1 A2 c2 l2 b3 A4 c4 l4 A5 c5 l5 A6 c6 l6 W (True) ∧ W.heap[s_]? = some (.cells #[.int .i64 0, .int .i64 0] 44 (0, 0)) ∧ V.heap.size ≤ s_ ∧ Below V.heap.size V W) ?_ ?_
  rotate_left
  · intro hCont
    refine tw_ HT_ 4 6 (some 10) (some 3) (fun K hK => ?_) (fun K hK => ?_)
    · refine ck_ hK Try.func66 (un8 (sketch_count.calls a0 a1 _ _ _ _ _ _ _ _ _ _ _ _ _ n _) (HK.out _ HY.out) HN.out) HY HS (fun w9 HY hb hHeld => ?_)
      clear hb
      refine tw_ HT_ 5 6 (some 11) (some 3) (fun K hK => ?_) (fun K hK => ?_)
      · refine ck_ hK Try.func73 (sketch_span.calls (l2.length : Int) n (l2.length : Int) n _ rfl) HY HS (fun w9 HY hb hHeld => ?_)
        clear hb
        refine al_ HT_ 6 3 #[.int .i64 0, .int .i64 0] 44 HY HS (fun g8 w9 hgx hg8 BG HY hb hHeld => ?_)
        clear hgx hb
        exact pl_ (hCont g8 _ ⟨hHeld, BG.out, hg8.out, HY.out⟩)
      · refine ak_ hK 3 #[.int .i64 0, .int .i64 0] 44 HY HS (fun g8 w9 hgx hg8 BG HY hb hHeld => ?_)
        clear hgx hb
        refine on_ HT_ 5 (some 11) (fun K hK => ?_)
        refine ck_ hK Try.func73 (sketch_span.calls (l2.length : Int) n (l2.length : Int) n _ rfl) HY HS (fun w9 HY hb hHeld => ?_)
        replace BG := Aside0.mk (blk_below BG.out hb)
        clear hb
        exact pl_ (hCont g8 _ ⟨hHeld, BG.out, hg8.out, HY.out⟩)
    · refine ak_ hK 3 #[.int .i64 0, .int .i64 0] 44 HY HS (fun g8 w9 hgx hg8 BG HY hb hHeld => ?_)
      clear hgx hb
      refine on_ HT_ 4 (some 10) (fun K hK => ?_)
      refine ck_ hK Try.func66 (un8 (sketch_count.calls a0 a1 _ _ _ _ _ _ _ _ _ _ _ _ _ n _) (HK.out _ HY.out) HN.out) HY HS (fun w9 HY hb hHeld => ?_)
      replace BG := Aside0.mk (blk_below BG.out hb)
      clear hb
      refine on_ HT_ 5 (some 11) (fun K hK => ?_)
      refine ck_ hK Try.func73 (sketch_span.calls (l2.length : Int) n (l2.length : Int) n _ rfl) HY HS (fun w9 HY hb hHeld => ?_)
      replace BG := Aside0.mk (blk_below BG.out hb)
      clear hb
      exact pl_ (hCont g8 _ ⟨hHeld, BG.out, hg8.out, HY.out⟩)
  rintro g8 w3 ⟨hHeld, BG, hg8, hy⟩
  clear HY
  replace BG := Aside0.mk BG
  have HY := Aside0.mk hy
  clear hy
  refine pr_ ?_
  obtain ⟨e0, e1, z0, z1⟩ := bf2 BG.out
  replace BG := Aside0.mk (put2_blk BG.out (.int .i64 (l2.length : Int)) (.int .i64 n))
  replace HY := Aside0.mk (put2_below HY.out hg8 (.int .i64 (l2.length : Int)) (.int .i64 n))
  refine st_ HT_ 7 (put2 w3 g8 (.int .i64 (l2.length : Int)) (.int .i64 n)) ?_ (HS.out _ HY.out) (fun hHeld => ?_)
  · unfold put2
    go_simp
  clear e0 e1 z0 z1
  generalize put2 w3 g8 (.int .i64 (l2.length : Int)) (.int .i64 n) = U at BG HY hHeld ⊢
  refine done_ (done_of HT_.out (by kernel_rfl)) ?_
  clear HT_ HW_ hHeld
  replace HLO : Aside0 ((if b3 then (l2.length : Int) else wrap64 ((l2.length : Int) + 1)) = lo) := HLO
  generalize (l2.length : Int) = L at HLO BG ⊢
  clear hl2
  obtain ⟨t0, t1, t2, t3, t4, t5, t6, _⟩ := HS.out U HY.out
  go_upto_if 14 with (fail)
  clear t0 t1 t2 t3 t4 t5 t6
  go_cut [3] (fun v3 W => v3 = .pointer (some ⟨g8, 0, none⟩) ∧ Aside0 (W.heap[g8]? = some (.cells #[.int .i64 lo, .int .i64 n] 44 (0, 0))) ∧ Aside0 (Below V.heap.size V W))
  case first =>
    obtain ⟨t0, t1, t2, t3, t4, t5, t6, _⟩ := HS.out U HY.out
    obtain ⟨e0, e1, z0, z1⟩ := bf2 BG.out
    cases b3 with
    | true =>
      obtain rfl : L = lo := HLO.out
      go_wp2
      go_meet
      case rel => exact ⟨rfl, BG, HY⟩
    | false =>
      have HL2 : Aside0 (wrap64 (L + 1) = lo) := ⟨by have h_ := HLO.out; rwa [if_neg (by decide)] at h_⟩
      go_wp2
      go_meet
      case rel => exact ⟨rfl, ⟨blk_put (cs' := #[.int .i64 lo, .int .i64 n]) BG.out 0 _ (by rw [HL2.out]; rfl)⟩, ⟨HY.out.setCell (p := ⟨g8, 0, none⟩) hg8 _⟩⟩
  case rest =>
  clear BG HY HLO
  obtain ⟨rfl, BG, HY⟩ := hcut
  obtain ⟨e0, e1, z0, z1⟩ := bf2 BG.out
  obtain ⟨t0, t1, t2, t3, t4, t5, t6, _⟩ := HS.out wc HY.out
  by_cases h0 : l5.length = 0
  · have hd0 : decide ((0 : Int) < l5.length) = false := decide_eq_false (by omega)
    obtain rfl : n = hi := by have h_ := HHI.out; unfold gapB at h_; rwa [show decide (0 < l5.length) = false from decide_eq_false (by omega), Bool.false_and, Bool.false_and, if_neg (by decide)] at h_
    obtain ⟨f0, f1⟩ := bc2 BG.out
    have B4 := blk_below BK4.out HY.out
    obtain ⟨q0, q1, y0, y1⟩ := bf2 B4
    go_wp2
    refine ret2_ (p := fun W => bodyPost _ _ _ _ _ W) B4 (HBV.out.trans (HY.out.mono (below_size HBV.out))) hg4 (.int .i64 lo) (.int .i64 n) (fun W d0 d1 rB => ?_)
    exact bodyPost_ret (v := .agg #[.int .i64 lo, .int .i64 n]) (by simp [results, Try.results28, go_sem, d0, d1]) rfl ⟨rfl, rB⟩
  have hd0 : decide ((0 : Int) < l5.length) = true := decide_eq_true (by omega)
  have hd1 : decide ((l5.length : Int) ≤ 0) = false := decide_eq_false (by omega)
  have hd2 : decide (0 < l5.length) = true := decide_eq_true (by omega)
  have hln : 0 < l5.length := by omega
  obtain ⟨ad, rfl, hx0, hx1, _⟩ := at_T39 HR5.out 0 (by omega) (by omega)
  obtain ⟨ad1, e1, _, hy1, _⟩ := at_T39 HR5.out ((l5.length - 1 : Nat) : Int) (by omega) (by omega)
  obtain rfl := Option.some.inj e1
  clear e1
  rw [Int.toNat_natCast] at hy1
  obtain ⟨x, hxx⟩ : ∃ x, rd_T39 l5 0 = x := ⟨_, rfl⟩
  obtain ⟨y, hyy⟩ : ∃ x, rd_T39 l5 ((l5.length - 1 : Nat) : Int) = x := ⟨_, rfl⟩
  rw [hxx] at hx0 hx1
  rw [hyy] at hy1
  obtain ⟨d, hd⟩ : ∃ d, IntKind.u64.wrap (IntKind.u64.wrap y.f1 - IntKind.u64.wrap x.f1) = d := ⟨_, rfl⟩
  have hgap : gapS l5 = d := by unfold gapS; rw [show (l5.length : Int) - 1 = ((l5.length - 1 : Nat) : Int) from by omega, hyy, hxx, hd]
  have hgb : gapB l5 n = (x.f0 != 3 && decide (d < IntKind.u64.wrap n)) := by unfold gapB; rw [hgap, hxx, hd2, Bool.true_and]
  have hh := HHI.out
  rw [hgb, hgap] at hh
  have HH2 := Aside0.mk hh
  have HDD := Aside0.mk hd
  have hwn : IntKind.i64.wrap ((l5.length : Int) - 1) = ((l5.length - 1 : Nat) : Int) := by rw [i64_w]; unfold wrap64; omega
  have hfn : decide (((l5.length - 1 : Nat) : Int) < l5.length) = true := decide_eq_true (by omega)
  have hfn2 : decide ((l5.length : Int) ≤ ((l5.length - 1 : Nat) : Int)) = false := decide_eq_false (by omega)
  have hfn3 : l5.length - 1 < l5.length := by omega
  have HSX : Aside0 (∀ W, Below V.heap.size V W → sk7 g2 a0 a1 A2 c2 l2 b3 A4 c4 l4 (some ad) c5 l5 A6 c6 l6 W (W.cell? ⟨ad.block, ad.off + 1, none⟩ = some (.int .i64 x.f1) ∧ W.cell? ⟨(ad.add ((l5.length - 1) * 3)).block, (ad.add ((l5.length - 1) * 3)).off + 1, none⟩ = some (.int .i64 y.f1))) := ⟨fun W hb => by
    obtain ⟨t0, t1, t2, t3, t4, t5, t6, _⟩ := HS.out W hb
    have hbw := HBV.out.trans (hb.mono (below_size HBV.out))
    exact ⟨t0, t1, t2, t3, t4, t5, t6, by simpa [Addr.add] using up_ hbw hx1, up_ hbw hy1⟩⟩
  replace hx0 := up_ (HBV.out.trans (HY.out.mono (below_size HBV.out))) hx0
  have hx0' : wc.cell? ad = some (.int .i64 x.f0) := by simpa [Addr.add] using hx0
  clear hxx hyy hgap hgb hh hx0 hx1 hy1 hd2 h0 hd
  obtain ⟨b3_, hb3⟩ : ∃ b, (x.f0 != 3) = b := ⟨_, rfl⟩
  cases b3_ with
  | false =>
    obtain rfl : n = hi := by have h_ := HH2.out; rwa [hb3, Bool.false_and, if_neg (by decide)] at h_
    obtain ⟨f0, f1⟩ := bc2 BG.out
    have B4 := blk_below BK4.out HY.out
    obtain ⟨q0, q1, y0, y1⟩ := bf2 B4
    go_wp2
    refine ret2_ (p := fun W => bodyPost _ _ _ _ _ W) B4 (HBV.out.trans (HY.out.mono (below_size HBV.out))) hg4 (.int .i64 lo) (.int .i64 n) (fun W d0 d1 rB => ?_)
    exact bodyPost_ret (v := .agg #[.int .i64 lo, .int .i64 n]) (by simp [results, Try.results28, go_sem, d0, d1]) rfl ⟨rfl, rB⟩
  | true =>
  go_upto_region 6 with (fail)
  clear t0 t1 t2 t3 t4 t5 t6 hx0'
  replace HY := Aside0.mk (below_drew1 HY.out)
  replace BG := Aside0.mk (blk_drew BG.out)
  clear e0 e1 z0 z1
  refine start_ (n := 16) (S := fun W => sk7 g2 a0 a1 A2 c2 l2 b3 A4 c4 l4 (some ad) c5 l5 A6 c6 l6 W (W.cell? ⟨ad.block, ad.off + 1, none⟩ = some (.int .i64 x.f1) ∧ W.cell? ⟨(ad.add ((l5.length - 1) * 3)).block, (ad.add ((l5.length - 1) * 3)).off + 1, none⟩ = some (.int .i64 y.f1))) (ds := []) #[false, false, false, false, false, false, false, false, false, false, false, false, false, false, false, false] (by kernel_rfl) rfl rfl (HSX.out _ HY.out) (fun hHeld => ?_)
  refine with_tabW f28_tab6 f28_bits6 (fun HT_ HW_ => ?_)
  generalize wc.drew = wg at BG HY hHeld ⊢
  refine pu_ HT_ 0 (some 32) ?_
  refine tk_ HT_ HW_ 1 (some 33) hHeld ?_
  refine pu_ HT_ 2 (some 34) ?_
  refine pu_ HT_ 3 (some 35) ?_
  refine tk_ HT_ HW_ 4 (some 36) hHeld ?_
  refine pu_ HT_ 5 (some 37) ?_
  refine tk_ HT_ HW_ 6 (some 38) hHeld ?_
  refine pu_ HT_ 7 (some 39) ?_
  refine pu_ HT_ 8 (some 40) ?_
  refine tk_ HT_ HW_ 9 (some 41) hHeld ?_
  refine tk_ HT_ HW_ 10 (some 42) hHeld ?_
  refine pu_ HT_ 11 (some 43) ?_
  refine tk_ HT_ HW_ 12 (some 44) hHeld ?_
  refine pu_ HT_ 13 (some 45) ?_
  refine pu_ HT_ 14 (some 46) ?_
  refine pu_ HT_ 15 (some 5) ?_
  refine done_ (done_of HT_.out (by kernel_rfl)) ?_
  clear HT_ HW_ hHeld
  rw [HDD.out]
  clear hd0 hd1 hwn hfn hfn2 hfn3
  by_cases hlt : d < IntKind.u64.wrap n
  · have hdl : decide (d < IntKind.u64.wrap n) = true := decide_eq_true hlt
    have hh := HH2.out
    rw [hb3, hdl, if_pos (by decide)] at hh
    have HH3 : Aside0 (mn n (wrap64 (wrap64 d + 1)) = hi) := ⟨hh⟩
    clear hlt hh
    obtain ⟨t0, t1, t2, t3, t4, t5, t6, _⟩ := HS.out wg HY.out
    obtain ⟨e0, e1, z0, z1⟩ := bf2 BG.out
    by_cases hm : (wrap64 (wrap64 d + 1)) < n
    · have hmb : decide ((wrap64 (wrap64 d + 1)) < n) = true := decide_eq_true hm
      obtain rfl : (wrap64 (wrap64 d + 1)) = hi := by rw [← HH3.out]; unfold mn; rw [if_pos hm]
      go_upto_region 9 with (fail)
      replace BG := Aside0.mk (blk_put (cs' := #[.int .i64 lo, .int .i64 (wrap64 (wrap64 d + 1))]) BG.out 1 (.int .i64 (wrap64 (wrap64 d + 1))) rfl)
      replace HY := Aside0.mk (HY.out.setCell (p := ⟨g8, 1, none⟩) hg8 (.int .i64 (wrap64 (wrap64 d + 1))))
      clear e0 e1 z0 z1 t0 t1 t2 t3 t4 t5 t6
      generalize wg.setCell ⟨g8, 1, none⟩ (.int .i64 (wrap64 (wrap64 d + 1))) = Y at BG HY ⊢
      obtain ⟨f0, f1⟩ := bc2 BG.out
      have B4 := blk_below BK4.out HY.out
      obtain ⟨q0, q1, y0, y1⟩ := bf2 B4
      go_wp2
      refine ret2_ (p := fun W => bodyPost _ _ _ _ _ W) B4 (HBV.out.trans (HY.out.mono (below_size HBV.out))) hg4 (.int .i64 lo) (.int .i64 (wrap64 (wrap64 d + 1))) (fun W d0 d1 rB => ?_)
      exact bodyPost_ret (v := .agg #[.int .i64 lo, .int .i64 (wrap64 (wrap64 d + 1))]) (by simp [results, Try.results28, go_sem, d0, d1]) rfl ⟨rfl, rB⟩
    · have hmb : decide ((wrap64 (wrap64 d + 1)) < n) = false := decide_eq_false hm
      obtain rfl : n = hi := by rw [← HH3.out]; unfold mn; rw [if_neg hm]
      go_upto_region 9 with (fail)
      replace BG := Aside0.mk (blk_put (cs' := #[.int .i64 lo, .int .i64 n]) BG.out 1 (.int .i64 n) rfl)
      replace HY := Aside0.mk (HY.out.setCell (p := ⟨g8, 1, none⟩) hg8 (.int .i64 n))
      clear e0 e1 z0 z1 t0 t1 t2 t3 t4 t5 t6
      generalize wg.setCell ⟨g8, 1, none⟩ (.int .i64 n) = Y at BG HY ⊢
      obtain ⟨f0, f1⟩ := bc2 BG.out
      have B4 := blk_below BK4.out HY.out
      obtain ⟨q0, q1, y0, y1⟩ := bf2 B4
      go_wp2
      refine ret2_ (p := fun W => bodyPost _ _ _ _ _ W) B4 (HBV.out.trans (HY.out.mono (below_size HBV.out))) hg4 (.int .i64 lo) (.int .i64 n) (fun W d0 d1 rB => ?_)
      exact bodyPost_ret (v := .agg #[.int .i64 lo, .int .i64 n]) (by simp [results, Try.results28, go_sem, d0, d1]) rfl ⟨rfl, rB⟩
  · have hdl : decide (d < IntKind.u64.wrap n) = false := decide_eq_false hlt
    have hh := HH2.out
    rw [hb3, hdl, if_neg (by decide)] at hh
    obtain rfl : n = hi := hh
    clear hlt
    obtain ⟨t0, t1, t2, t3, t4, t5, t6, _⟩ := HS.out wg HY.out
    obtain ⟨f0, f1⟩ := bc2 BG.out
    have B4 := blk_below BK4.out HY.out
    obtain ⟨q0, q1, y0, y1⟩ := bf2 B4
    go_wp2
    refine ret2_ (p := fun W => bodyPost _ _ _ _ _ W) B4 (HBV.out.trans (HY.out.mono (below_size HBV.out))) hg4 (.int .i64 lo) (.int .i64 n) (fun W d0 d1 rB => ?_)
    exact bodyPost_ret (v := .agg #[.int .i64 lo, .int .i64 n]) (by simp [results, Try.results28, go_sem, d0, d1]) rfl ⟨rfl, rB⟩
theorem sketch_CountDistinct.calls (k : Nat) (a0_0 : Int) (a0_1 : Int) (A0_2 : Option Addr) (c0_2 : Nat) (l0_2 : List Int) (a0_3 : Bool) (A0_4 : Option Addr) (c0_4 : Nat) (l0_4 : List Int) (A0_5 : Option Addr) (c0_5 : Nat) (l0_5 : List (S39)) (A0_6 : Option Addr) (c0_6 : Nat) (l0_6 : List Int) (r1 : Int) (r2 : Int) (w : World) (hr0_2 : Kd.C (Kd.int .u64) w A0_2 l0_2.length l0_2) (hc0_2 : l0_2.length ≤ c0_2) (hr0_4 : Kd.C (Kd.int .i64) w A0_4 l0_4.length l0_4) (hc0_4 : l0_4.length ≤ c0_4) (hr0_5 : Kd.C k39 w A0_5 l0_5.length l0_5) (hc0_5 : l0_5.length ≤ c0_5) (hr0_6 : Kd.C (Kd.int .i64) w A0_6 l0_6.length l0_6) (hc0_6 : l0_6.length ≤ c0_6) (h : sketch_CountDistinct.f k a0_0 a0_1 l0_2 a0_3 l0_4 l0_5 l0_6 = some (r1, r2)) :
    Calls Try.prog 28 #[.agg #[.int .i64 a0_0, .int .i64 a0_1, .slice A0_2 l0_2.length c0_2, .bool a0_3, .slice A0_4 l0_4.length c0_4, .slice A0_5 l0_5.length c0_5, .slice A0_6 l0_6.length c0_6]] w fun e w' => e = .returned (.agg #[.int .i64 r1, .int .i64 r2]) ∧ Below w.heap.size w w' :=
  sketch_CountDistinct.calls0 k a0_0 a0_1 A0_2 c0_2 l0_2 a0_3 A0_4 c0_4 l0_4 A0_5 c0_5 l0_5 A0_6 c0_6 l0_6 r1 r2 w hr0_2 hc0_2 hr0_4 hc0_4 hr0_5 hc0_5 hr0_6 hc0_6 h
def f29_T1 : Bool × List (List Nat × List Nat) := (true, [([], []), ([0], [0]), ([1], [1]), ([], []), ([3], [3]), ([2, 4, 0, 1, 2], [2]), ([4, 5, 0, 1, 2, 3, 4, 5], [4])])
def f29_B1 : List Nat := [0, 1, 3, 0, 8, 31, 63]
set_option maxRecDepth 100000 in
theorem f29_tab1 : rtab .any (opsOf Try.f29 1) = f29_T1 := by kernel_rfl
theorem f29_bits1 : waitsOk f29_T1.2 f29_B1 = true := by kernel_rfl
def f29_T5 : Bool × List (List Nat × List Nat) := (true, [([], []), ([0], [0]), ([], []), ([2], [2]), ([3], [3]), ([4], [4]), ([1, 5], [1, 5]), ([6], [6]), ([7], [7]), ([8], [8]), ([], []), ([10], [10]), ([11], [11]), ([12], [12]), ([13], [13]), ([14], [14]), ([9, 15], [9, 15]), ([16, 0, 1, 2, 3, 4, 5, 6, 7, 8, 9, 10, 11, 12, 13, 14, 15, 16], [16])])
def f29_B5 : List Nat := [0, 1, 0, 4, 12, 28, 63, 127, 255, 511, 0, 1024, 3072, 7168, 15360, 31744, 65535, 131071]
set_option maxRecDepth 100000 in
theorem f29_tab5 : rtab .any (opsOf Try.f29 5) = f29_T5 := by kernel_rfl
theorem f29_bits5 : waitsOk f29_T5.2 f29_B5 = true := by kernel_rfl
set_option maxHeartbeats 8000000 in
set_option maxRecDepth 100000 in
theorem laminaref16_CountDistinct.calls0 (k : Nat) (a0 a1 : Int) (A2 : Option Addr) (c2 : Nat) (l2 : List Int) (b3 : Bool) (A4 : Option Addr) (c4 : Nat) (l4 : List Int) (A5 : Option Addr) (c5 : Nat) (l5 : List S39) (A6 : Option Addr) (c6 : Nat) (l6 : List Int) (lo hi : Int) (w : World) (hr2 : Kd.C (Kd.int .u64) w A2 l2.length l2) (hc2 : l2.length ≤ c2) (hr4 : Kd.C (Kd.int .i64) w A4 l4.length l4) (hc4 : l4.length ≤ c4) (hr5 : Kd.C k39 w A5 l5.length l5) (hc5 : l5.length ≤ c5) (hr6 : Kd.C (Kd.int .i64) w A6 l6.length l6) (hc6 : l6.length ≤ c6) (h : laminaref16_CountDistinct.f k a0 a1 l2 b3 l4 l5 l6 = some (lo, hi)) :
    Calls Try.prog 29 #[.agg #[.int .i64 a0, .int .i64 a1, .slice A2 l2.length c2, .bool b3, .slice A4 l4.length c4, .slice A5 l5.length c5, .slice A6 l6.length c6]] w fun e w' => e = .returned (.agg #[.int .i64 lo, .int .i64 hi]) ∧ Below w.heap.size w w' := by
  have HKw : SK w A2 c2 l2 A4 c4 l4 A5 c5 l5 A6 c6 l6 := ⟨hr2, hc2, hr4, hc4, hr5, hc5, hr6, hc6⟩
  have HR5 := Aside0.mk hr5
  have hl2 : l2.length ≤ 9223372036854775807 := hr2.2.1
  have hl5 : l5.length ≤ 9223372036854775807 := hr5.2.1
  replace HKw := Aside0.mk HKw
  unfold laminaref16_CountDistinct.f at h
  obtain ⟨n, hn⟩ : ∃ n, wrap64 (a0 - a1) = n := ⟨_, rfl⟩
  rw [hn] at h
  obtain ⟨hlo, hhi⟩ := Prod.mk.inj (Option.some.inj h)
  have HLO := Aside0.mk hlo
  have HHI := Aside0.mk hhi
  have HN : Aside0 (laminaref16_values.f a0 a1 l2 b3 l4 l5 l6 = some n) := ⟨by unfold laminaref16_values.f; rw [hn]⟩
  clear hr2 hr4 hr5 hr6 h hn hlo hhi
  go_enter Try.func29, Try.ntmps29
  go_upto_region 1 with (refine box_ 1 (cs := #[.int .i64 a0, .int .i64 a1, .slice A2 l2.length c2, .bool b3, .slice A4 l4.length c4, .slice A5 l5.length c5, .slice A6 l6.length c6]) (t := 26) (fun g2 hg_ w1 BK2 HB => ?_); clear hg_; replace BK2 := Aside0.mk BK2; replace HB := Aside0.mk HB)
  replace BK2 := Aside0.mk (blk_alloc BK2.out (.cells #[.int .i64 0, .int .i64 0] 44))
  have BK4 := Aside0.mk (heap_alloc_new w1 (.cells #[.int .i64 0, .int .i64 0] 44))
  have HBV := Aside0.mk (below_alloc HB.out (.cells #[.int .i64 0, .int .i64 0] 44))
  have hg4 : w.heap.size ≤ w1.heap.size := below_size HB.out
  obtain ⟨V, hV⟩ : ∃ V, w1.alloc (.cells #[.int .i64 0, .int .i64 0] 44) = V := ⟨_, rfl⟩
  rw [hV] at BK2 BK4 HBV ⊢
  clear hV HB
  generalize w1.heap.size = g4 at *
  clear w1
  have HS : Aside0 (∀ W, Below V.heap.size V W → sk7 g2 a0 a1 A2 c2 l2 b3 A4 c4 l4 A5 c5 l5 A6 c6 l6 W (True)) := ⟨fun W hb => sk7_of (blk_below BK2.out hb) trivial⟩
  have HK : Aside0 (∀ W, Below V.heap.size V W → SK W A2 c2 l2 A4 c4 l4 A5 c5 l5 A6 c6 l6) := ⟨fun W hb => HKw.out.below (HBV.out.trans (hb.mono (below_size HBV.out)))⟩
  clear BK2 HKw
  have HY := Aside0.mk (below_drew1 (Below.refl V.heap.size V))
  refine start_ (n := 7) (S := fun W => sk7 g2 a0 a1 A2 c2 l2 b3 A4 c4 l4 A5 c5 l5 A6 c6 l6 W (True)) (ds := []) #[false, false, false, false, false, false, false] (by kernel_rfl) rfl rfl (HS.out _ HY.out) (fun hHeld => ?_)
  refine with_tabW f29_tab1 f29_bits1 (fun HT_ HW_ => ?_)
  generalize V.drew = wd at HY hHeld ⊢
  refine pu_ HT_ 0 (some 6) ?_
  refine tk_ HT_ HW_ 1 (some 7) hHeld ?_
  refine pu_ HT_ 2 (some 8) ?_
  refine tk_ HT_ HW_ 3 (some 9) hHeld ?_
  refine cl_ HT_ 4 (some 10) Try.func80 (un8 (laminaref16_values.calls a0 a1 _ _ _ _ _ _ _ _ _ _ _ _ _ n _) (HK.out _ HY.out) HN.out) HY HS (fun w9 HY hHeld => ?_)
  refine pu_ HT_ 5 (some 3) ?_
  refine pu_ HT_ 6 (some 4) ?_
  refine done_ (done_of HT_.out (by kernel_rfl)) ?_
  clear HT_ HW_ hHeld
  obtain ⟨t0, t1, t2, t3, t4, t5, t6, _⟩ := HS.out w9 HY.out
  go_upto_if 13 with (fail)
  clear t0 t1 t2 t3 t4 t5 t6
  replace HLO : Aside0 ((if b3 then (l2.length : Int) else wrap64 ((l2.length : Int) + 1)) = lo) := HLO
  generalize (l2.length : Int) = L at HLO ⊢
  clear hl2
  go_cut [3] (fun v3 W => v3 = .int .i64 lo ∧ Aside0 (Below V.heap.size V W))
  case first =>
    obtain ⟨t0, t1, t2, t3, t4, t5, t6, _⟩ := HS.out w9 HY.out
    cases b3 with
    | true =>
      obtain rfl : L = lo := HLO.out
      go_wp2
      go_meet
      case rel => exact ⟨rfl, HY⟩
    | false =>
      have HL2 : Aside0 (wrap64 (L + 1) = lo) := ⟨by have h_ := HLO.out; rwa [if_neg (by decide)] at h_⟩
      go_wp2
      go_meet
      case rel => exact ⟨int_eq HL2.out, HY⟩
  case rest =>
  clear HLO HY
  obtain ⟨rfl, HY⟩ := hcut
  obtain ⟨t0, t1, t2, t3, t4, t5, t6, _⟩ := HS.out wc HY.out
  by_cases h0 : l5.length = 0
  · have hd0 : decide ((0 : Int) < l5.length) = false := decide_eq_false (by omega)
    obtain rfl : n = hi := by have h_ := HHI.out; unfold gapB at h_; rwa [show decide (0 < l5.length) = false from decide_eq_false (by omega), Bool.false_and, Bool.false_and, if_neg (by decide)] at h_
    go_wp2_with (go_at_call 76; refine (laminaref16_span.calls lo n lo n _ rfl).mono ?_; rintro e w9 ⟨rfl, hb⟩; replace HY := Aside0.mk (HY.out.trans (hb.mono HY.out.size)); clear hb; have B4 := blk_below BK4.out HY.out; obtain ⟨e0, e1, z0, z1⟩ := bf2 B4)
    refine ret2_ (p := fun W => bodyPost _ _ _ _ _ W) B4 (HBV.out.trans (HY.out.mono (below_size HBV.out))) hg4 (.int .i64 lo) (.int .i64 n) (fun W d0 d1 rB => ?_)
    exact bodyPost_ret (v := .agg #[.int .i64 lo, .int .i64 n]) (by simp [results, Try.results29, go_sem, d0, d1]) rfl ⟨rfl, rB⟩
  have hd0 : decide ((0 : Int) < l5.length) = true := decide_eq_true (by omega)
  have hd1 : decide ((l5.length : Int) ≤ 0) = false := decide_eq_false (by omega)
  have hd2 : decide (0 < l5.length) = true := decide_eq_true (by omega)
  have hln : 0 < l5.length := by omega
  obtain ⟨ad, rfl, hx0, hx1, _⟩ := at_T39 HR5.out 0 (by omega) (by omega)
  obtain ⟨ad1, e1, _, hy1, _⟩ := at_T39 HR5.out ((l5.length - 1 : Nat) : Int) (by omega) (by omega)
  obtain rfl := Option.some.inj e1
  clear e1
  rw [Int.toNat_natCast] at hy1
  obtain ⟨x, hxx⟩ : ∃ x, rd_T39 l5 0 = x := ⟨_, rfl⟩
  obtain ⟨y, hyy⟩ : ∃ x, rd_T39 l5 ((l5.length - 1 : Nat) : Int) = x := ⟨_, rfl⟩
  rw [hxx] at hx0 hx1
  rw [hyy] at hy1
  obtain ⟨d, hd⟩ : ∃ d, IntKind.u64.wrap (IntKind.u64.wrap y.f1 - IntKind.u64.wrap x.f1) = d := ⟨_, rfl⟩
  have hgap : gapS l5 = d := by unfold gapS; rw [show (l5.length : Int) - 1 = ((l5.length - 1 : Nat) : Int) from by omega, hyy, hxx, hd]
  have hgb : gapB l5 n = (x.f0 != 3 && decide (d < IntKind.u64.wrap n)) := by unfold gapB; rw [hgap, hxx, hd2, Bool.true_and]
  have hh := HHI.out
  rw [hgb, hgap] at hh
  have HH2 := Aside0.mk hh
  have HDD := Aside0.mk hd
  have hwn : IntKind.i64.wrap ((l5.length : Int) - 1) = ((l5.length - 1 : Nat) : Int) := by rw [i64_w]; unfold wrap64; omega
  have hfn : decide (((l5.length - 1 : Nat) : Int) < l5.length) = true := decide_eq_true (by omega)
  have hfn2 : decide ((l5.length : Int) ≤ ((l5.length - 1 : Nat) : Int)) = false := decide_eq_false (by omega)
  have hfn3 : l5.length - 1 < l5.length := by omega
  have HSX : Aside0 (∀ W, Below V.heap.size V W → sk7 g2 a0 a1 A2 c2 l2 b3 A4 c4 l4 (some ad) c5 l5 A6 c6 l6 W (W.cell? ⟨ad.block, ad.off + 1, none⟩ = some (.int .i64 x.f1) ∧ W.cell? ⟨(ad.add ((l5.length - 1) * 3)).block, (ad.add ((l5.length - 1) * 3)).off + 1, none⟩ = some (.int .i64 y.f1))) := ⟨fun W hb => by
    obtain ⟨t0, t1, t2, t3, t4, t5, t6, _⟩ := HS.out W hb
    have hbw := HBV.out.trans (hb.mono (below_size HBV.out))
    exact ⟨t0, t1, t2, t3, t4, t5, t6, by simpa [Addr.add] using up_ hbw hx1, up_ hbw hy1⟩⟩
  replace hx0 := up_ (HBV.out.trans (HY.out.mono (below_size HBV.out))) hx0
  have hx0' : wc.cell? ad = some (.int .i64 x.f0) := by simpa [Addr.add] using hx0
  clear hxx hyy hgap hgb hh hx0 hx1 hy1 hd2 h0 hd
  obtain ⟨b3_, hb3⟩ : ∃ b, (x.f0 != 3) = b := ⟨_, rfl⟩
  cases b3_ with
  | false =>
    obtain rfl : n = hi := by have h_ := HH2.out; rwa [hb3, Bool.false_and, if_neg (by decide)] at h_
    go_wp2_with (go_at_call 76; refine (laminaref16_span.calls lo n lo n _ rfl).mono ?_; rintro e w9 ⟨rfl, hb⟩; replace HY := Aside0.mk (HY.out.trans (hb.mono HY.out.size)); clear hb; have B4 := blk_below BK4.out HY.out; obtain ⟨e0, e1, z0, z1⟩ := bf2 B4)
    refine ret2_ (p := fun W => bodyPost _ _ _ _ _ W) B4 (HBV.out.trans (HY.out.mono (below_size HBV.out))) hg4 (.int .i64 lo) (.int .i64 n) (fun W d0 d1 rB => ?_)
    exact bodyPost_ret (v := .agg #[.int .i64 lo, .int .i64 n]) (by simp [results, Try.results29, go_sem, d0, d1]) rfl ⟨rfl, rB⟩
  | true =>
  go_upto_region 5 with (fail)
  clear t0 t1 t2 t3 t4 t5 t6 hx0'
  replace HY := Aside0.mk (below_drew1 HY.out)
  refine start_ (n := 18) (S := fun W => sk7 g2 a0 a1 A2 c2 l2 b3 A4 c4 l4 (some ad) c5 l5 A6 c6 l6 W (W.cell? ⟨ad.block, ad.off + 1, none⟩ = some (.int .i64 x.f1) ∧ W.cell? ⟨(ad.add ((l5.length - 1) * 3)).block, (ad.add ((l5.length - 1) * 3)).off + 1, none⟩ = some (.int .i64 y.f1))) (ds := []) #[false, false, false, false, false, false, false, false, false, false, false, false, false, false, false, false, false, false] (by kernel_rfl) rfl rfl (HSX.out _ HY.out) (fun hHeld => ?_)
  refine with_tabW f29_tab5 f29_bits5 (fun HT_ HW_ => ?_)
  generalize wc.drew = wg at HY hHeld ⊢
  refine pu_ HT_ 0 (some 28) ?_
  refine tk_ HT_ HW_ 1 (some 29) hHeld ?_
  refine pu_ HT_ 2 (some 30) ?_
  refine tk_ HT_ HW_ 3 (some 31) hHeld ?_
  refine pu_ HT_ 4 (some 32) ?_
  refine pu_ HT_ 5 (some 33) ?_
  refine tk_ HT_ HW_ 6 (some 34) hHeld ?_
  refine pu_ HT_ 7 (some 35) ?_
  refine tk_ HT_ HW_ 8 (some 36) hHeld ?_
  refine pu_ HT_ 9 (some 37) ?_
  refine pu_ HT_ 10 (some 38) ?_
  refine tk_ HT_ HW_ 11 (some 39) hHeld ?_
  refine tk_ HT_ HW_ 12 (some 40) hHeld ?_
  refine pu_ HT_ 13 (some 41) ?_
  refine tk_ HT_ HW_ 14 (some 42) hHeld ?_
  refine pu_ HT_ 15 (some 43) ?_
  refine pu_ HT_ 16 (some 44) ?_
  refine pu_ HT_ 17 (some 5) ?_
  refine done_ (done_of HT_.out (by kernel_rfl)) ?_
  clear HT_ HW_ hHeld
  rw [HDD.out]
  clear hd0 hd1 hwn hfn hfn2 hfn3
  by_cases hlt : d < IntKind.u64.wrap n
  · have hdl : decide (d < IntKind.u64.wrap n) = true := decide_eq_true hlt
    have hh := HH2.out
    rw [hb3, hdl, if_pos (by decide)] at hh
    have HH3 : Aside0 (wrap64 (wrap64 d + 1) = hi) := ⟨hh⟩
    clear hlt hh
    obtain rfl : (wrap64 (wrap64 d + 1)) = hi := HH3.out
    go_wp2_with (go_at_call 76; refine (laminaref16_span.calls lo (wrap64 (wrap64 d + 1)) lo (wrap64 (wrap64 d + 1)) _ rfl).mono ?_; rintro e w9 ⟨rfl, hb⟩; replace HY := Aside0.mk (HY.out.trans (hb.mono HY.out.size)); clear hb; have B4 := blk_below BK4.out HY.out; obtain ⟨e0, e1, z0, z1⟩ := bf2 B4)
    refine ret2_ (p := fun W => bodyPost _ _ _ _ _ W) B4 (HBV.out.trans (HY.out.mono (below_size HBV.out))) hg4 (.int .i64 lo) (.int .i64 (wrap64 (wrap64 d + 1))) (fun W d0 d1 rB => ?_)
    exact bodyPost_ret (v := .agg #[.int .i64 lo, .int .i64 (wrap64 (wrap64 d + 1))]) (by simp [results, Try.results29, go_sem, d0, d1]) rfl ⟨rfl, rB⟩
  · have hdl : decide (d < IntKind.u64.wrap n) = false := decide_eq_false hlt
    have hh := HH2.out
    rw [hb3, hdl, if_neg (by decide)] at hh
    obtain rfl : n = hi := hh
    clear hlt
    go_wp2_with (go_at_call 76; refine (laminaref16_span.calls lo n lo n _ rfl).mono ?_; rintro e w9 ⟨rfl, hb⟩; replace HY := Aside0.mk (HY.out.trans (hb.mono HY.out.size)); clear hb; have B4 := blk_below BK4.out HY.out; obtain ⟨e0, e1, z0, z1⟩ := bf2 B4)
    refine ret2_ (p := fun W => bodyPost _ _ _ _ _ W) B4 (HBV.out.trans (HY.out.mono (below_size HBV.out))) hg4 (.int .i64 lo) (.int .i64 n) (fun W d0 d1 rB => ?_)
    exact bodyPost_ret (v := .agg #[.int .i64 lo, .int .i64 n]) (by simp [results, Try.results29, go_sem, d0, d1]) rfl ⟨rfl, rB⟩
theorem laminaref16_CountDistinct.calls (k : Nat) (a0_0 : Int) (a0_1 : Int) (A0_2 : Option Addr) (c0_2 : Nat) (l0_2 : List Int) (a0_3 : Bool) (A0_4 : Option Addr) (c0_4 : Nat) (l0_4 : List Int) (A0_5 : Option Addr) (c0_5 : Nat) (l0_5 : List (S39)) (A0_6 : Option Addr) (c0_6 : Nat) (l0_6 : List Int) (r1 : Int) (r2 : Int) (w : World) (hr0_2 : Kd.C (Kd.int .u64) w A0_2 l0_2.length l0_2) (hc0_2 : l0_2.length ≤ c0_2) (hr0_4 : Kd.C (Kd.int .i64) w A0_4 l0_4.length l0_4) (hc0_4 : l0_4.length ≤ c0_4) (hr0_5 : Kd.C k39 w A0_5 l0_5.length l0_5) (hc0_5 : l0_5.length ≤ c0_5) (hr0_6 : Kd.C (Kd.int .i64) w A0_6 l0_6.length l0_6) (hc0_6 : l0_6.length ≤ c0_6) (h : laminaref16_CountDistinct.f k a0_0 a0_1 l0_2 a0_3 l0_4 l0_5 l0_6 = some (r1, r2)) :
    Calls Try.prog 29 #[.agg #[.int .i64 a0_0, .int .i64 a0_1, .slice A0_2 l0_2.length c0_2, .bool a0_3, .slice A0_4 l0_4.length c0_4, .slice A0_5 l0_5.length c0_5, .slice A0_6 l0_6.length c0_6]] w fun e w' => e = .returned (.agg #[.int .i64 r1, .int .i64 r2]) ∧ Below w.heap.size w w' :=
  laminaref16_CountDistinct.calls0 k a0_0 a0_1 A0_2 c0_2 l0_2 a0_3 A0_4 c0_4 l0_4 A0_5 c0_5 l0_5 A0_6 c0_6 l0_6 r1 r2 w hr0_2 hc0_2 hr0_4 hc0_4 hr0_5 hc0_5 hr0_6 hc0_6 h
end Go.Proofs.Ytackcingpffidaa.P
