/- What Go functions of the given program return, told as Lean functions, and the walks that show it, with plain facts on them: B18, Px50, sketch_Valid, HE0, H15, H16. Conditions: the hypotheses that stand at each theorem. -/
import Derived.Test.YtackcingpffidaaZe0
import Derived.Test.YtackcingpffidaaZe1
import Derived.Test.YtackcingpffidaaZe2
import Derived.Test.YtackcingpffidaaZe3
import Derived.Test.YtackcingpffidaaZe4
import Derived.Test.YtackcingpffidaaZe5
import Derived.Test.YtackcingpffidaaZe6
import Derived.Test.YtackcingpffidaaZe7
namespace Go.Proofs.Ytackcingpffidaa.P
open Go.RowKit Go.Proofs.YtackcingpffidaaW.PrintWords Go.Proofs.YtackcingpffidaaW.PrintLast Go.Proofs.YtackcingpffidaaW.PrintMore
set_option linter.unusedVariables false
theorem sort12_len_l : ∀ k, (∀ x0 x1 x2 x6 r, slices_insertionSortOrdered_uint64.l0 k x0 x1 x2 x6 = some r → r.length = x0.length) ∧ (∀ x0 x1 x2 x6 x7 r, slices_insertionSortOrdered_uint64.l1 k x0 x1 x2 x6 x7 = some r → r.length = x0.length)
 | 0 => ⟨fun _ _ _ _ r h => by simp [slices_insertionSortOrdered_uint64.l0] at h, fun _ _ _ _ _ r h => by simp [slices_insertionSortOrdered_uint64.l1] at h⟩
 | k + 1 => by
  obtain ⟨i0, i1⟩ := sort12_len_l k
  constructor
  ·intro x0 x1 x2 x6 r h
   unfold slices_insertionSortOrdered_uint64.l0 at h
   split at h
   ·exact i1 _ _ _ _ _ _ h
   ·obtain rfl := Option.some.inj h; rfl
  ·intro x0 x1 x2 x6 x7 r h
   unfold slices_insertionSortOrdered_uint64.l1 at h
   split at h
   ·split at h
    ·split at h
     ·split at h
      ·split at h
       ·obtain ⟨t, h1, h2⟩ := Option.bind_eq_some_iff.mp h
        split at h2
        ·have := i1 _ _ _ _ _ _ h2
         simpa using this
        ·exact i0 _ _ _ _ _ h2
       ·exact absurd h (by simp)
      ·exact absurd h (by simp)
     ·exact absurd h (by simp)
    ·exact absurd h (by simp)
   ·exact i0 _ _ _ _ _ h
theorem sort12_len (k : Nat) (l r : List Int) (h : sort12 k l = some r) : r.length = l.length := by
 unfold sort12 at h
 split at h
 ·exact (sort12_len_l k).1 _ _ _ _ _ h
 ·exact absurd h (by simp)
def rangeB (n : Nat) (sp : List Int) : Bool := decide (sp.length ≤ 1000) && sp.all (fun x => decide (0 ≤ x) && decide (x < n))
/-- What sketch.Build makes of a list, by a sort rs of its hashes. -/
def buildF (rs : List Int → Option (List Int)) (k : Nat) (l0 : List S39) : Option (Int × Int × List Int × Bool × List Int × (List (S39)) × List Int) :=
 (hashS k (sortV (someS l0))).bind fun hs => (counts k (sortV (someS l0)) (List.replicate 256 0)).bind fun cs => (smallS rs hs).bind fun rb => (sketch_spread.f k ((sortV (someS l0)).length : Int)).bind fun sp =>
  if decide (l0.length ≤ 100000) && rangeB (sortV (someS l0)).length sp then some ((l0.length : Int), (l0.length : Int) - ((sortV (someS l0)).length : Int), rb.1, rb.2, cs, (fenceS (sortV (someS l0)) sp [] []).1, (fenceS (sortV (someS l0)) sp [] []).2) else none
theorem buildF_calls (rs : List Int → Option (List Int)) (hS : Sorts rs) (hlen : ∀ l r, rs l = some r → r.length = l.length) (k : Nat) (A0 : Option Addr) (c0 : Nat) (l0 : List (S39)) (r1 : Int) (r2 : Int) (r3 : List Int) (r4 : Bool) (r5 : List Int) (r6 : List (S39)) (r7 : List Int) (w : World) (hr0 : Kd.C k39 w A0 l0.length l0) (hc0 : l0.length ≤ c0) (h : buildF rs k l0 = some (r1, r2, r3, r4, r5, r6, r7)) :
  Calls Try.prog 18 #[.slice A0 l0.length c0] w fun e w' => ∃ v2_ v4_ v5_ v6_ : Value, e = .returned (.agg #[.int .i64 r1, .int .i64 r2, v2_, .bool r4, v4_, v5_, v6_]) ∧ Kd.R (Kd.int .u64) 53 w' w.heap.size (fun _ => True) v2_ r3 ∧ Kd.R (Kd.int .i64) 3 w' w.heap.size (fun k_ => some k_ ≠ (v6_ : Value).ownBlock) v4_ r5 ∧ Kd.R k39 39 w' w.heap.size (fun _ => True) v5_ r6 ∧ Kd.R (Kd.int .i64) 3 w' w.heap.size (fun k_ => some k_ ≠ (v4_ : Value).ownBlock) v6_ r7 ∧ Below w.heap.size w w' := by
 obtain ⟨hs, h1, h⟩ := Option.bind_eq_some_iff.mp h
 obtain ⟨cs, h2, h⟩ := Option.bind_eq_some_iff.mp h
 obtain ⟨⟨rr, bb⟩, h3, h⟩ := Option.bind_eq_some_iff.mp h
 obtain ⟨sp, h4, h⟩ := Option.bind_eq_some_iff.mp h
 split at h
 ·rename_i hg
  rw [Bool.and_eq_true] at hg
  obtain ⟨hg1, hg2⟩ := hg
  unfold rangeB at hg2
  rw [Bool.and_eq_true, List.all_eq_true] at hg2
  injection h with h
  injection h with e1 h
  injection h with e2 h
  injection h with e3 h
  injection h with e4 h
  injection h with e5 h
  injection h with e6 e7
  subst e1 e2 e3 e4 e5 e6 e7
  refine f18_calls rs hS hlen k A0 c0 l0 w hr0 hc0 (of_decide_eq_true hg1) _ hs _ _ sp _ _ _ rfl h1 h2 h3 h4 rfl (of_decide_eq_true hg2.1) (fun j hj => ?_)
  have := hg2.2 (rd sp j) (by unfold rd; rw [Int.toNat_natCast, List.getD_eq_getElem?_getD, List.getElem?_eq_getElem hj]; exact List.getElem_mem hj)
  rw [Bool.and_eq_true] at this
  exact ⟨of_decide_eq_true this.1, of_decide_eq_true this.2⟩
 ·exact absurd h (by simp)
def sketch_Build.f (k : Nat) (l0 : List (S39)) : Option (Int × Int × List Int × Bool × List Int × (List (S39)) × List Int) := buildF (sort12 k) k l0
theorem sketch_Build.calls (k : Nat) (A0 : Option Addr) (c0 : Nat) (l0 : List (S39)) (r1 : Int) (r2 : Int) (r3 : List Int) (r4 : Bool) (r5 : List Int) (r6 : List (S39)) (r7 : List Int) (w : World) (hr0 : Kd.C k39 w A0 l0.length l0) (hc0 : l0.length ≤ c0) (h : sketch_Build.f k l0 = some (r1, r2, r3, r4, r5, r6, r7)) :
  Calls Try.prog 18 #[.slice A0 l0.length c0] w fun e w' => ∃ v2_ v4_ v5_ v6_ : Value, e = .returned (.agg #[.int .i64 r1, .int .i64 r2, v2_, .bool r4, v4_, v5_, v6_]) ∧ Kd.R (Kd.int .u64) 53 w' w.heap.size (fun _ => True) v2_ r3 ∧ Kd.R (Kd.int .i64) 3 w' w.heap.size (fun k_ => some k_ ≠ (v6_ : Value).ownBlock) v4_ r5 ∧ Kd.R k39 39 w' w.heap.size (fun _ => True) v5_ r6 ∧ Kd.R (Kd.int .i64) 3 w' w.heap.size (fun k_ => some k_ ≠ (v4_ : Value).ownBlock) v6_ r7 ∧ Below w.heap.size w w' :=
 buildF_calls (sort12 k) (sorts12 k) (sort12_len k) k A0 c0 l0 r1 r2 r3 r4 r5 r6 r7 w hr0 hc0 h
def sketch_validCounters.f (l0 : List Int) (a1 : Int) : Option (Bool) := some (cntB l0 a1)
theorem sketch_validCounters.calls (A0 : Option Addr) (c0 : Nat) (l0 : List Int) (a1 : Int) (r : Bool) (w : World) (hr0 : Kd.C (Kd.int .i64) w A0 l0.length l0) (hc0 : l0.length ≤ c0) (h : sketch_validCounters.f l0 a1 = some r) :
  Calls Try.prog 67 #[.slice A0 l0.length c0, .int .i64 a1] w fun e w' => e = .returned (.bool r) ∧ Below w.heap.size w w' := by
 obtain rfl := Option.some.inj h
 refine (f67_calls A0 c0 l0 a1 w hr0 hc0).mono ?_
 rintro e w' ⟨he, n, rfl⟩
 exact ⟨he, pw_below_drewN (Below.refl _ _) _⟩
def sketch_validFences.f (a0_0 : Int) (a0_1 : Int) (l0_2 : List Int) (a0_3 : Bool) (l0_4 : List Int) (l0_5 : List (S39)) (l0_6 : List Int) (a1 : Int) : Option (Bool) := some (fencesB l0_5 l0_6 a1)
theorem sketch_validFences.calls (a0_0 : Int) (a0_1 : Int) (A0_2 : Option Addr) (c0_2 : Nat) (l0_2 : List Int) (a0_3 : Bool) (A0_4 : Option Addr) (c0_4 : Nat) (l0_4 : List Int) (A0_5 : Option Addr) (c0_5 : Nat) (l0_5 : List (S39)) (A0_6 : Option Addr) (c0_6 : Nat) (l0_6 : List Int) (a1 : Int) (r : Bool) (w : World) (hr0_2 : Kd.C (Kd.int .u64) w A0_2 l0_2.length l0_2) (hc0_2 : l0_2.length ≤ c0_2) (hr0_4 : Kd.C (Kd.int .i64) w A0_4 l0_4.length l0_4) (hc0_4 : l0_4.length ≤ c0_4) (hr0_5 : Kd.C k39 w A0_5 l0_5.length l0_5) (hc0_5 : l0_5.length ≤ c0_5) (hr0_6 : Kd.C (Kd.int .i64) w A0_6 l0_6.length l0_6) (hc0_6 : l0_6.length ≤ c0_6) (h : sketch_validFences.f a0_0 a0_1 l0_2 a0_3 l0_4 l0_5 l0_6 a1 = some r) :
  Calls Try.prog 68 #[.agg #[.int .i64 a0_0, .int .i64 a0_1, .slice A0_2 l0_2.length c0_2, .bool a0_3, .slice A0_4 l0_4.length c0_4, .slice A0_5 l0_5.length c0_5, .slice A0_6 l0_6.length c0_6], .int .i64 a1] w fun e w' => e = .returned (.bool r) ∧ Below w.heap.size w w' := by
 obtain rfl := Option.some.inj h
 exact f68_calls a0_0 a0_1 A0_2 c0_2 l0_2 a0_3 A0_4 c0_4 l0_4 A0_5 c0_5 l0_5 A0_6 c0_6 l0_6 a1 w hr0_5 hr0_6
def laminaref16_validFences.f (a0_0 : Int) (a0_1 : Int) (l0_2 : List Int) (a0_3 : Bool) (l0_4 : List Int) (l0_5 : List (S39)) (l0_6 : List Int) : Option (Bool) := some (rfencesB l0_5 l0_6 (wrap64 (a0_0 - a0_1)))
theorem laminaref16_validFences.calls (a0_0 : Int) (a0_1 : Int) (A0_2 : Option Addr) (c0_2 : Nat) (l0_2 : List Int) (a0_3 : Bool) (A0_4 : Option Addr) (c0_4 : Nat) (l0_4 : List Int) (A0_5 : Option Addr) (c0_5 : Nat) (l0_5 : List (S39)) (A0_6 : Option Addr) (c0_6 : Nat) (l0_6 : List Int) (r : Bool) (w : World) (hr0_2 : Kd.C (Kd.int .u64) w A0_2 l0_2.length l0_2) (hc0_2 : l0_2.length ≤ c0_2) (hr0_4 : Kd.C (Kd.int .i64) w A0_4 l0_4.length l0_4) (hc0_4 : l0_4.length ≤ c0_4) (hr0_5 : Kd.C k39 w A0_5 l0_5.length l0_5) (hc0_5 : l0_5.length ≤ c0_5) (hr0_6 : Kd.C (Kd.int .i64) w A0_6 l0_6.length l0_6) (hc0_6 : l0_6.length ≤ c0_6) (h : laminaref16_validFences.f a0_0 a0_1 l0_2 a0_3 l0_4 l0_5 l0_6 = some r) :
  Calls Try.prog 39 #[.agg #[.int .i64 a0_0, .int .i64 a0_1, .slice A0_2 l0_2.length c0_2, .bool a0_3, .slice A0_4 l0_4.length c0_4, .slice A0_5 l0_5.length c0_5, .slice A0_6 l0_6.length c0_6]] w fun e w' => e = .returned (.bool r) ∧ Below w.heap.size w w' := by
 obtain rfl := Option.some.inj h
 exact f39_calls a0_0 a0_1 A0_2 c0_2 l0_2 a0_3 A0_4 c0_4 l0_4 A0_5 c0_5 l0_5 A0_6 c0_6 l0_6 _ rfl w hr0_5 hr0_6
end Go.Proofs.Ytackcingpffidaa.P
namespace Go.Proofs.Ytackcingpffidaa.P
open Go.RowKit Go.Proofs.YtackcingpffidaaW.PrintWords Go.Proofs.YtackcingpffidaaW.PrintLast Go.Proofs.YtackcingpffidaaW.PrintMore
set_option linter.unusedVariables false
set_option linter.unusedSimpArgs false
def rd_L4 (xs : List (List Int)) (i : Int) : (List Int) := xs.getD i.toNat ([] : List Int)
def rd_L6 (xs : List (List S39)) (i : Int) : (List S39) := xs.getD i.toNat ([] : List S39)
structure S26 where
  f0 : Int
  f1 : Int
  f2 : (List Int)
  f3 : Bool
  f4 : (List Int)
  f5 : (List S39)
  f6 : (List Int)
def z26 : S26 := ⟨(0 : Int), (0 : Int), ([] : List Int), false, ([] : List Int), ([] : List S39), ([] : List Int)⟩
def k26 : Kd S26 := Kd.iso (Kd.pair (Kd.int .i64) (Kd.pair (Kd.int .i64) (Kd.pair (Kd.slice 53 (Kd.int .u64)) (Kd.pair Kd.bool (Kd.pair (Kd.slice 3 (Kd.int .i64)) (Kd.pair (Kd.slice 39 k39) (Kd.slice 3 (Kd.int .i64)))))))) (fun x : S26 => (x.f0, x.f1, x.f2, x.f3, x.f4, x.f5, x.f6))
theorem k26_open {w : World} {x : S26} {cs : List Value} (h : k26.K w x cs) : ∃ A2 c2 A4 c4 A5 c5 A6 c6, cs = [.int .i64 x.f0, .int .i64 x.f1, .slice A2 x.f2.length c2, .bool x.f3, .slice A4 x.f4.length c4, .slice A5 x.f5.length c5, .slice A6 x.f6.length c6] ∧ x.f2.length ≤ c2 ∧ (Kd.int .u64).C w A2 x.f2.length x.f2 ∧ x.f4.length ≤ c4 ∧ (Kd.int .i64).C w A4 x.f4.length x.f4 ∧ x.f5.length ≤ c5 ∧ k39.C w A5 x.f5.length x.f5 ∧ x.f6.length ≤ c6 ∧ (Kd.int .i64).C w A6 x.f6.length x.f6 := by
 obtain ⟨_, _, rfl, rfl, ⟨_, _, rfl, rfl, ⟨_, _, rfl, ⟨A2, c2, rfl, l2, g2⟩, ⟨_, _, rfl, rfl, ⟨_, _, rfl, ⟨A4, c4, rfl, l4, g4⟩, ⟨_, _, rfl, ⟨A5, c5, rfl, l5, g5⟩, ⟨A6, c6, rfl, l6, g6⟩⟩⟩⟩⟩⟩⟩ := h
 exact ⟨A2, c2, A4, c4, A5, c5, A6, c6, rfl, l2, g2, l4, g4, l5, g5, l6, g6⟩
def rd_T26 (xs : List S26) (i : Int) : S26 := xs.getD i.toNat z26
def rd_L10 (xs : List (List Int)) (i : Int) : (List Int) := xs.getD i.toNat ([] : List Int)
structure S44 where
  f0 : Int
  f1 : Int
def z44 : S44 := ⟨(0 : Int), (0 : Int)⟩
def k44 : Kd S44 := Kd.iso (Kd.pair (Kd.int .i64) (Kd.int .i64)) (fun x : S44 => (x.f0, x.f1))
def rd_T44 (xs : List S44) (i : Int) : S44 := xs.getD i.toNat z44
structure S41 where
  f0 : Int
  f1 : Int
  f2 : S39
def z41 : S41 := ⟨(0 : Int), (0 : Int), z39⟩
def k41 : Kd S41 := Kd.iso (Kd.pair (Kd.int .i64) (Kd.pair (Kd.int .i64) k39)) (fun x : S41 => (x.f0, x.f1, x.f2))
def rd_T41 (xs : List S41) (i : Int) : S41 := xs.getD i.toNat z41
theorem eqA39 (d : Nat) (w : World) (x0 y0 : Int) (x1 y1 : Int) (x2 y2 : ByteArray) :
  (Op.equalIn (d + 2) 39 (.agg #[.int .i64 x0, .int .i64 x1, .string x2]) (.agg #[.int .i64 y0, .int .i64 y1, .string y2])).run Try.prog w = .ok (x0 == y0 && (x1 == y1 && (x2.toList == y2.toList))) w := by
 refine eqA_of Try.underlying39 (by kernel_rfl) ?_
 refine eqf_cons (by rfl) (by go_simp; rfl) (by go_simp; rfl) (by go_simp) ?_
 refine eqf_cons (by rfl) (by go_simp; rfl) (by go_simp; rfl) (by go_simp) ?_
 exact eqf_last (by rfl) (by go_simp; rfl) (by go_simp; rfl) (by go_simp)
theorem eqA44 (d : Nat) (w : World) (x0 y0 : Int) (x1 y1 : Int) :
  (Op.equalIn (d + 2) 44 (.agg #[.int .i64 x0, .int .i64 x1]) (.agg #[.int .i64 y0, .int .i64 y1])).run Try.prog w = .ok (x0 == y0 && (x1 == y1)) w := by
 refine eqA_of Try.underlying44 (by kernel_rfl) ?_
 refine eqf_cons (by rfl) (by go_simp; rfl) (by go_simp; rfl) (by go_simp) ?_
 exact eqf_last (by rfl) (by go_simp; rfl) (by go_simp; rfl) (by go_simp)
end Go.Proofs.Ytackcingpffidaa.P
namespace Go.Proofs.Ytackcingpffidaa.P
open Go.RowKit Go.Proofs.YtackcingpffidaaW.PrintWords Go.Proofs.YtackcingpffidaaW.PrintLast Go.Proofs.YtackcingpffidaaW.PrintMore
attribute [local go_sem] max2_int min2_int max_two min_two max_three min_three max_four min_four Go.Proofs.YtackcingpffidaaQ.str_gtr Go.Proofs.YtackcingpffidaaQ.str_leq Go.Proofs.YtackcingpffidaaQ.str_geq   -- for this text's walks alone
set_option linter.unusedVariables false
set_option linter.unusedSimpArgs false
/-! ### sketch_Valid: function 20 -/
mutual
def sketch_Valid.j0 : Nat → Int → Bool → Int → Int → List Int → Bool → List Int → List (S39) → List Int → Option (Bool)
 | 0, _, _, _, _, _, _, _, _, _ => none
 | k + 1, x3, x45, x285000, x285001, x285002, x285003, x285004, x285005, x285006 => if x45 = true then (some false) else (sketch_Valid.l0 k x3 1 x285000 x285001 x285002 x285003 x285004 x285005 x285006)
def sketch_Valid.l0 : Nat → Int → Int → Int → Int → List Int → Bool → List Int → List (S39) → List Int → Option (Bool)
 | 0, _, _, _, _, _, _, _, _, _ => none
 | k + 1, x3, x4, x285000, x285001, x285002, x285003, x285004, x285005, x285006 => if x4 < (x285002.length : Int) then (if 0 ≤ x4 then (if 0 ≤ (wrap64 (x4 - 1)) then (if (wrap64 (x4 - 1)) < (x285002.length : Int) then (if (rd x285002 x4) ≤ (rd x285002 (wrap64 (x4 - 1))) then (some false) else (sketch_Valid.l0 k x3 (wrap64 (x4 + 1)) x285000 x285001 x285002 x285003 x285004 x285005 x285006)) else (none)) else (none)) else (none)) else ((sketch_validCounters.f x285004 x3).bind fun t288 => (if t288 = true then ((sketch_validFences.f x285000 x285001 x285002 x285003 x285004 x285005 x285006 x3).bind fun t289 => (some t289)) else (some false)))
end
def sketch_Valid.f (k : Nat) (a0_0 : Int) (a0_1 : Int) (l0_2 : List Int) (a0_3 : Bool) (l0_4 : List Int) (l0_5 : List (S39)) (l0_6 : List Int) : Option (Bool) := (sketch_count.f a0_0 a0_1 l0_2 a0_3 l0_4 l0_5 l0_6).bind fun t285 => (if a0_1 < 0 then (sketch_Valid.j0 k t285 true a0_0 a0_1 l0_2 a0_3 l0_4 l0_5 l0_6) else (if a0_1 > a0_0 then (sketch_Valid.j0 k t285 true a0_0 a0_1 l0_2 a0_3 l0_4 l0_5 l0_6) else (if (l0_2.length : Int) > (mn t285 32) then (sketch_Valid.j0 k t285 true a0_0 a0_1 l0_2 a0_3 l0_4 l0_5 l0_6) else (if t285 > 0 then (if (l0_2.length : Int) = 0 then (sketch_Valid.j0 k t285 true a0_0 a0_1 l0_2 a0_3 l0_4 l0_5 l0_6) else (if a0_3 = true then (sketch_Valid.j0 k t285 false a0_0 a0_1 l0_2 a0_3 l0_4 l0_5 l0_6) else (sketch_Valid.j0 k t285 (decide ((l0_2.length : Int) < 32)) a0_0 a0_1 l0_2 a0_3 l0_4 l0_5 l0_6))) else (if a0_3 = true then (sketch_Valid.j0 k t285 false a0_0 a0_1 l0_2 a0_3 l0_4 l0_5 l0_6) else (sketch_Valid.j0 k t285 (decide ((l0_2.length : Int) < 32)) a0_0 a0_1 l0_2 a0_3 l0_4 l0_5 l0_6))))))
set_option maxHeartbeats 8000000 in
set_option maxRecDepth 100000 in
theorem sketch_Valid.calls (k : Nat) (a0_0 : Int) (a0_1 : Int) (A0_2 : Option Addr) (c0_2 : Nat) (l0_2 : List Int) (a0_3 : Bool) (A0_4 : Option Addr) (c0_4 : Nat) (l0_4 : List Int) (A0_5 : Option Addr) (c0_5 : Nat) (l0_5 : List (S39)) (A0_6 : Option Addr) (c0_6 : Nat) (l0_6 : List Int) (r : Bool) (w : World) (hr0_2 : Kd.C (Kd.int .u64) w A0_2 l0_2.length l0_2) (hc0_2 : l0_2.length ≤ c0_2) (hr0_4 : Kd.C (Kd.int .i64) w A0_4 l0_4.length l0_4) (hc0_4 : l0_4.length ≤ c0_4) (hr0_5 : Kd.C k39 w A0_5 l0_5.length l0_5) (hc0_5 : l0_5.length ≤ c0_5) (hr0_6 : Kd.C (Kd.int .i64) w A0_6 l0_6.length l0_6) (hc0_6 : l0_6.length ≤ c0_6) (h : sketch_Valid.f k a0_0 a0_1 l0_2 a0_3 l0_4 l0_5 l0_6 = some r) :
  Calls Try.prog 20 #[.agg #[.int .i64 a0_0, .int .i64 a0_1, .slice A0_2 l0_2.length c0_2, .bool a0_3, .slice A0_4 l0_4.length c0_4, .slice A0_5 l0_5.length c0_5, .slice A0_6 l0_6.length c0_6]] w fun e w' => e = .returned (.bool r) ∧ Below w.heap.size w w' := by
 have hu26 := Try.underlying26
 have HR0_2 := Aside0.mk hr0_2
 have HC0_2 := Aside0.mk hc0_2
 clear hr0_2 hc0_2
 have HR0_4 := Aside0.mk hr0_4
 have HC0_4 := Aside0.mk hc0_4
 clear hr0_4 hc0_4
 have HR0_5 := Aside0.mk hr0_5
 have HC0_5 := Aside0.mk hc0_5
 clear hr0_5 hc0_5
 have HR0_6 := Aside0.mk hr0_6
 have HC0_6 := Aside0.mk hc0_6
 clear hr0_6 hc0_6
 have HB := Aside0.mk (Below.refl w.heap.size w)
 have H : ((sketch_count.f a0_0 a0_1 l0_2 a0_3 l0_4 l0_5 l0_6).bind fun t285 => (if a0_1 < 0 then (sketch_Valid.j0 k t285 true a0_0 a0_1 l0_2 a0_3 l0_4 l0_5 l0_6) else (if a0_1 > a0_0 then (sketch_Valid.j0 k t285 true a0_0 a0_1 l0_2 a0_3 l0_4 l0_5 l0_6) else (if (l0_2.length : Int) > (mn t285 32) then (sketch_Valid.j0 k t285 true a0_0 a0_1 l0_2 a0_3 l0_4 l0_5 l0_6) else (if t285 > 0 then (if (l0_2.length : Int) = 0 then (sketch_Valid.j0 k t285 true a0_0 a0_1 l0_2 a0_3 l0_4 l0_5 l0_6) else (if a0_3 = true then (sketch_Valid.j0 k t285 false a0_0 a0_1 l0_2 a0_3 l0_4 l0_5 l0_6) else (sketch_Valid.j0 k t285 (decide ((l0_2.length : Int) < 32)) a0_0 a0_1 l0_2 a0_3 l0_4 l0_5 l0_6))) else (if a0_3 = true then (sketch_Valid.j0 k t285 false a0_0 a0_1 l0_2 a0_3 l0_4 l0_5 l0_6) else (sketch_Valid.j0 k t285 (decide ((l0_2.length : Int) < 32)) a0_0 a0_1 l0_2 a0_3 l0_4 l0_5 l0_6))))))) = some r := h
 clear h
 replace H := Option.bind_eq_some_iff.mp H
 obtain ⟨t285, A20, H⟩ := H
 replace H : (if a0_1 < 0 then (sketch_Valid.j0 k t285 true a0_0 a0_1 l0_2 a0_3 l0_4 l0_5 l0_6) else (if a0_1 > a0_0 then (sketch_Valid.j0 k t285 true a0_0 a0_1 l0_2 a0_3 l0_4 l0_5 l0_6) else (if (l0_2.length : Int) > (mn t285 32) then (sketch_Valid.j0 k t285 true a0_0 a0_1 l0_2 a0_3 l0_4 l0_5 l0_6) else (if t285 > 0 then (if (l0_2.length : Int) = 0 then (sketch_Valid.j0 k t285 true a0_0 a0_1 l0_2 a0_3 l0_4 l0_5 l0_6) else (if a0_3 = true then (sketch_Valid.j0 k t285 false a0_0 a0_1 l0_2 a0_3 l0_4 l0_5 l0_6) else (sketch_Valid.j0 k t285 (decide ((l0_2.length : Int) < 32)) a0_0 a0_1 l0_2 a0_3 l0_4 l0_5 l0_6))) else (if a0_3 = true then (sketch_Valid.j0 k t285 false a0_0 a0_1 l0_2 a0_3 l0_4 l0_5 l0_6) else (sketch_Valid.j0 k t285 (decide ((l0_2.length : Int) < 32)) a0_0 a0_1 l0_2 a0_3 l0_4 l0_5 l0_6)))))) = some r := H
 have A2 := Aside0.mk A20
 clear A20
 have HC3 := Aside0.mk H
 clear H
 go_enter Try.func20, Try.ntmps20
 go_upto_region 2 with (first | ((with_reducible refine gate_dst (N := 1) rfl ?_); (try (refine gate_guard (by rfl) ?_; dsimp only)); refine box_ 1 (cs := #[.int .i64 a0_0, .int .i64 a0_1, .slice A0_2 l0_2.length c0_2, .bool a0_3, .slice A0_4 l0_4.length c0_4, .slice A0_5 l0_5.length c0_5, .slice A0_6 l0_6.length c0_6]) (t := 26) ?_; intro gb284 hg w4 hbox hb; have BK284 := Aside0.mk (hbox); have GW284 := Aside0.mk ((by rw [hg]; exact (below_size (hb_ HB.out)) : w.heap.size ≤ gb284)); have GE284 := Aside0.mk ((by rw [hg]; exact (below_size (hb_ HB.out)) : w.heap.size ≤ gb284)); replace HB := Aside0.mk (below_step (hb_ HB.out) hb); clear hb hbox hg; obtain ⟨hcz5_0, hcz5_1, hcz5_2, hcz5_3, hcz5_4, hcz5_5, hcz5_6, hfz5_0, hfz5_1, hfz5_2, hfz5_3, hfz5_4, hfz5_5, hfz5_6⟩ := bf7 BK284.out) | (go_at_call 66; (with_reducible refine (sketch_count.calls a0_0 a0_1 _ _ l0_2 a0_3 _ _ l0_4 _ _ l0_5 _ _ l0_6 t285 _ ?side1 ?side2 ?side3 ?side4 ?side5 ?side6 ?side7 ?side8 A2.out).mono ?_); (case side1 => exact cb_ HR0_2.out HB.out); (case side2 => exact HC0_2.out); (case side3 => exact cb_ HR0_4.out HB.out); (case side4 => exact HC0_4.out); (case side5 => exact cb_ HR0_5.out HB.out); (case side6 => exact HC0_5.out); (case side7 => exact cb_ HR0_6.out HB.out); (case side8 => exact HC0_6.out); rintro e w6 ⟨rfl, hb⟩; replace BK284 := Aside0.mk (blk_below (bk_ BK284.out) hb); replace HB := Aside0.mk (below_step (hb1_ HB.out GE284.out) hb); (try clear hb)))
 repeat (go_quiet (first | ((with_reducible refine gate_dst (N := 1) rfl ?_); (try (refine gate_guard (by rfl) ?_; dsimp only)); refine box_ 1 (cs := #[.int .i64 a0_0, .int .i64 a0_1, .slice A0_2 l0_2.length c0_2, .bool a0_3, .slice A0_4 l0_4.length c0_4, .slice A0_5 l0_5.length c0_5, .slice A0_6 l0_6.length c0_6]) (t := 26) ?_; intro gb284 hg w4 hbox hb; have BK284 := Aside0.mk (hbox); have GW284 := Aside0.mk ((by rw [hg]; exact (below_size (hb_ HB.out)) : w.heap.size ≤ gb284)); have GE284 := Aside0.mk ((by rw [hg]; exact (below_size (hb_ HB.out)) : w.heap.size ≤ gb284)); replace HB := Aside0.mk (below_step (hb_ HB.out) hb); clear hb hbox hg; obtain ⟨hcz5_0, hcz5_1, hcz5_2, hcz5_3, hcz5_4, hcz5_5, hcz5_6, hfz5_0, hfz5_1, hfz5_2, hfz5_3, hfz5_4, hfz5_5, hfz5_6⟩ := bf7 BK284.out) | (go_at_call 66; (with_reducible refine (sketch_count.calls a0_0 a0_1 _ _ l0_2 a0_3 _ _ l0_4 _ _ l0_5 _ _ l0_6 t285 _ ?side1 ?side2 ?side3 ?side4 ?side5 ?side6 ?side7 ?side8 A2.out).mono ?_); (case side1 => exact cb_ HR0_2.out HB.out); (case side2 => exact HC0_2.out); (case side3 => exact cb_ HR0_4.out HB.out); (case side4 => exact HC0_4.out); (case side5 => exact cb_ HR0_5.out HB.out); (case side6 => exact HC0_5.out); (case side7 => exact cb_ HR0_6.out HB.out); (case side8 => exact HC0_6.out); rintro e w6 ⟨rfl, hb⟩; replace BK284 := Aside0.mk (blk_below (bk_ BK284.out) hb); replace HB := Aside0.mk (below_step (hb1_ HB.out GE284.out) hb); (try clear hb))); go_upto_region 2 with (first | ((with_reducible refine gate_dst (N := 1) rfl ?_); (try (refine gate_guard (by rfl) ?_; dsimp only)); refine box_ 1 (cs := #[.int .i64 a0_0, .int .i64 a0_1, .slice A0_2 l0_2.length c0_2, .bool a0_3, .slice A0_4 l0_4.length c0_4, .slice A0_5 l0_5.length c0_5, .slice A0_6 l0_6.length c0_6]) (t := 26) ?_; intro gb284 hg w4 hbox hb; have BK284 := Aside0.mk (hbox); have GW284 := Aside0.mk ((by rw [hg]; exact (below_size (hb_ HB.out)) : w.heap.size ≤ gb284)); have GE284 := Aside0.mk ((by rw [hg]; exact (below_size (hb_ HB.out)) : w.heap.size ≤ gb284)); replace HB := Aside0.mk (below_step (hb_ HB.out) hb); clear hb hbox hg; obtain ⟨hcz5_0, hcz5_1, hcz5_2, hcz5_3, hcz5_4, hcz5_5, hcz5_6, hfz5_0, hfz5_1, hfz5_2, hfz5_3, hfz5_4, hfz5_5, hfz5_6⟩ := bf7 BK284.out) | (go_at_call 66; (with_reducible refine (sketch_count.calls a0_0 a0_1 _ _ l0_2 a0_3 _ _ l0_4 _ _ l0_5 _ _ l0_6 t285 _ ?side1 ?side2 ?side3 ?side4 ?side5 ?side6 ?side7 ?side8 A2.out).mono ?_); (case side1 => exact cb_ HR0_2.out HB.out); (case side2 => exact HC0_2.out); (case side3 => exact cb_ HR0_4.out HB.out); (case side4 => exact HC0_4.out); (case side5 => exact cb_ HR0_5.out HB.out); (case side6 => exact HC0_5.out); (case side7 => exact cb_ HR0_6.out HB.out); (case side8 => exact HC0_6.out); rintro e w6 ⟨rfl, hb⟩; replace BK284 := Aside0.mk (blk_below (bk_ BK284.out) hb); replace HB := Aside0.mk (below_step (hb1_ HB.out GE284.out) hb); (try clear hb))))
 (try simp only [Act.put, List.setIfInBounds_toArray, List.set_cons_zero, List.set_cons_succ])
 go_cut [45] (fun v45 wc => ∃ (kq : Nat) (x45_2 : Bool), v45 = .bool x45_2 ∧ Aside0 (sketch_Valid.j0 kq t285 x45_2 a0_0 a0_1 l0_2 a0_3 l0_4 l0_5 l0_6 = some r) ∧ Aside0 (kq ≤ k) ∧ Aside0 (wc.heap[gb284]? = some (.cells #[.int .i64 a0_0, .int .i64 a0_1, (.slice A0_2 l0_2.length c0_2), .bool a0_3, (.slice A0_4 l0_4.length c0_4), (.slice A0_5 l0_5.length c0_5), (.slice A0_6 l0_6.length c0_6)] 26 (0, 0))) ∧ Aside0 (Below w.heap.size w wc))
 case first =>
  have H := HC3.out
  clear HC3
  by_cases c7 : a0_1 < 0
  ·rw [if_pos c7] at H
   have c7b0 : decide (a0_1 < 0) = true := decide_eq_true c7
   clear c7
   (first | rw [c7b0] | (simp only [i64_w, i32_w]; rw [c7b0]) | skip)
   have H' := Aside0.mk H
   clear H
   obtain ⟨hcz8_0, hcz8_1, hcz8_2, hcz8_3, hcz8_4, hcz8_5, hcz8_6, hfz8_0, hfz8_1, hfz8_2, hfz8_3, hfz8_4, hfz8_5, hfz8_6⟩ := bf7 BK284.out
   go_wp2
   repeat (go_quiet (fail); try go_wp2)
   go_meet
   case rel => exact ⟨_, (true), (by first | rfl | (simp; done) | (simp [*]; done)), H', ⟨by first | omega | exact Nat.le_refl _⟩, ⟨by (with_reducible repeat (first | refine blk_drewN ?_ _ | refine blk_drew ?_ | refine blk_alloc ?_ _)); exact BK284.out⟩, ⟨(hb1_ HB.out GE284.out)⟩⟩
  ·rw [if_neg c7] at H
   have c7b0 : decide (a0_1 < 0) = false := decide_eq_false c7
   clear c7
   (first | rw [c7b0] | (simp only [i64_w, i32_w]; rw [c7b0]) | skip)
   by_cases c9 : a0_1 > a0_0
   ·rw [if_pos c9] at H
    have c9b0 : decide (a0_0 < a0_1) = true := decide_eq_true c9
    clear c9
    have H' := Aside0.mk H
    clear H
    obtain ⟨hcz10_0, hcz10_1, hcz10_2, hcz10_3, hcz10_4, hcz10_5, hcz10_6, hfz10_0, hfz10_1, hfz10_2, hfz10_3, hfz10_4, hfz10_5, hfz10_6⟩ := bf7 BK284.out
    go_wp2
    repeat (go_quiet (fail); try go_wp2)
    go_meet
    case rel => exact ⟨_, (true), (by first | rfl | (simp; done) | (simp [*]; done)), H', ⟨by first | omega | exact Nat.le_refl _⟩, ⟨by (with_reducible repeat (first | refine blk_drewN ?_ _ | refine blk_drew ?_ | refine blk_alloc ?_ _)); exact BK284.out⟩, ⟨(hb1_ HB.out GE284.out)⟩⟩
   ·rw [if_neg c9] at H
    have c9b0 : decide (a0_0 < a0_1) = false := decide_eq_false c9
    clear c9
    obtain ⟨ji11, hji11⟩ : ∃ j_ : Int, (mn t285 32) = j_ := ⟨_, rfl⟩
    replace H : (if (l0_2.length : Int) > (ji11) then (sketch_Valid.j0 k t285 true a0_0 a0_1 l0_2 a0_3 l0_4 l0_5 l0_6) else (if t285 > 0 then (if (l0_2.length : Int) = 0 then (sketch_Valid.j0 k t285 true a0_0 a0_1 l0_2 a0_3 l0_4 l0_5 l0_6) else (if a0_3 = true then (sketch_Valid.j0 k t285 false a0_0 a0_1 l0_2 a0_3 l0_4 l0_5 l0_6) else (sketch_Valid.j0 k t285 (decide ((l0_2.length : Int) < 32)) a0_0 a0_1 l0_2 a0_3 l0_4 l0_5 l0_6))) else (if a0_3 = true then (sketch_Valid.j0 k t285 false a0_0 a0_1 l0_2 a0_3 l0_4 l0_5 l0_6) else (sketch_Valid.j0 k t285 (decide ((l0_2.length : Int) < 32)) a0_0 a0_1 l0_2 a0_3 l0_4 l0_5 l0_6)))) = some r := by first | (rw [hji11] at H; exact H) | (simp only [hji11] at H ⊢; exact H)
    (try (have hji11h : ji11 ≤ 32 := by (rw [← hji11]; unfold mn; (repeat' split) <;> omega)))
    (try (have hji11g : ji11 ≤ 64 := by omega))
    have hji11_ : (if 32 < t285 then 32 else t285) = ji11 := hji11
    by_cases c12 : (l0_2.length : Int) > (ji11)
    ·rw [if_pos c12] at H
     have c12b0 : decide ((ji11) < (l0_2.length : Int)) = true := decide_eq_true c12
     clear c12
     have H' := Aside0.mk H
     clear H
     obtain ⟨hcz13_0, hcz13_1, hcz13_2, hcz13_3, hcz13_4, hcz13_5, hcz13_6, hfz13_0, hfz13_1, hfz13_2, hfz13_3, hfz13_4, hfz13_5, hfz13_6⟩ := bf7 BK284.out
     go_wp2
     repeat (go_quiet (fail); try go_wp2)
     go_meet
     case rel => exact ⟨_, (true), (by first | rfl | (simp; done) | (simp [*]; done)), H', ⟨by first | omega | exact Nat.le_refl _⟩, ⟨by (with_reducible repeat (first | refine blk_drewN ?_ _ | refine blk_drew ?_ | refine blk_alloc ?_ _)); exact BK284.out⟩, ⟨(hb1_ HB.out GE284.out)⟩⟩
    ·rw [if_neg c12] at H
     have c12b0 : decide ((ji11) < (l0_2.length : Int)) = false := decide_eq_false c12
     clear c12
     by_cases c14 : t285 > 0
     ·rw [if_pos c14] at H
      have c14b0 : decide (0 < t285) = true := decide_eq_true c14
      clear c14
      by_cases c15 : (l0_2.length : Int) = 0
      ·rw [if_pos c15] at H
       have c15b0 : ((l0_2.length : Int) == 0) = true := beq_iff_eq.mpr c15
       have c15b1 : ((l0_2.length : Int) != 0) = false := bne_eq_false_iff_eq.mpr c15
       clear c15
       have H' := Aside0.mk H
       clear H
       obtain ⟨hcz16_0, hcz16_1, hcz16_2, hcz16_3, hcz16_4, hcz16_5, hcz16_6, hfz16_0, hfz16_1, hfz16_2, hfz16_3, hfz16_4, hfz16_5, hfz16_6⟩ := bf7 BK284.out
       go_wp2
       repeat (go_quiet (fail); try go_wp2)
       go_meet
       case rel => exact ⟨_, (true), (by first | rfl | (simp; done) | (simp [*]; done)), H', ⟨by first | omega | exact Nat.le_refl _⟩, ⟨by (with_reducible repeat (first | refine blk_drewN ?_ _ | refine blk_drew ?_ | refine blk_alloc ?_ _)); exact BK284.out⟩, ⟨(hb1_ HB.out GE284.out)⟩⟩
      ·rw [if_neg c15] at H
       have c15b0 : ((l0_2.length : Int) == 0) = false := beq_eq_false_iff_ne.mpr c15
       have c15b1 : ((l0_2.length : Int) != 0) = true := bne_iff_ne.mpr c15
       have c15b2 : ¬ (l0_2 = []) := fun h_ => c15 (by rw [h_]; rfl)
       by_cases c17 : a0_3 = true
       ·subst c17
        have H1 : (sketch_Valid.j0 k t285 false a0_0 a0_1 l0_2 true l0_4 l0_5 l0_6) = some r := by rw [if_pos rfl] at H; exact H
        clear H
        have H := H1
        clear H1
        have H' := Aside0.mk H
        clear H
        obtain ⟨hcz18_0, hcz18_1, hcz18_2, hcz18_3, hcz18_4, hcz18_5, hcz18_6, hfz18_0, hfz18_1, hfz18_2, hfz18_3, hfz18_4, hfz18_5, hfz18_6⟩ := bf7 BK284.out
        go_wp2
        repeat (go_quiet (fail); try go_wp2)
        go_meet
        case rel => exact ⟨_, (false), (by first | rfl | (simp; done) | (simp [*]; done)), H', ⟨by first | omega | exact Nat.le_refl _⟩, ⟨by (with_reducible repeat (first | refine blk_drewN ?_ _ | refine blk_drew ?_ | refine blk_alloc ?_ _)); exact BK284.out⟩, ⟨(hb1_ HB.out GE284.out)⟩⟩
       ·replace c17 := Bool.eq_false_iff.mpr c17
        subst c17
        have H1 : (sketch_Valid.j0 k t285 (decide ((l0_2.length : Int) < 32)) a0_0 a0_1 l0_2 false l0_4 l0_5 l0_6) = some r := by rw [if_neg (show ¬ (false = true) by decide)] at H; exact H
        clear H
        have H := H1
        clear H1
        have H' := Aside0.mk H
        clear H
        obtain ⟨hcz19_0, hcz19_1, hcz19_2, hcz19_3, hcz19_4, hcz19_5, hcz19_6, hfz19_0, hfz19_1, hfz19_2, hfz19_3, hfz19_4, hfz19_5, hfz19_6⟩ := bf7 BK284.out
        go_wp2
        repeat (go_quiet (fail); try go_wp2)
        go_meet
        case rel => exact ⟨_, (decide ((l0_2.length : Int) < 32)), (by first | rfl | (simp; done) | (simp [*]; done)), H', ⟨by first | omega | exact Nat.le_refl _⟩, ⟨by (with_reducible repeat (first | refine blk_drewN ?_ _ | refine blk_drew ?_ | refine blk_alloc ?_ _)); exact BK284.out⟩, ⟨(hb1_ HB.out GE284.out)⟩⟩
     ·rw [if_neg c14] at H
      have c14b0 : decide (0 < t285) = false := decide_eq_false c14
      clear c14
      by_cases c20 : a0_3 = true
      ·subst c20
       have H1 : (sketch_Valid.j0 k t285 false a0_0 a0_1 l0_2 true l0_4 l0_5 l0_6) = some r := by rw [if_pos rfl] at H; exact H
       clear H
       have H := H1
       clear H1
       have H' := Aside0.mk H
       clear H
       obtain ⟨hcz21_0, hcz21_1, hcz21_2, hcz21_3, hcz21_4, hcz21_5, hcz21_6, hfz21_0, hfz21_1, hfz21_2, hfz21_3, hfz21_4, hfz21_5, hfz21_6⟩ := bf7 BK284.out
       go_wp2
       repeat (go_quiet (fail); try go_wp2)
       go_meet
       case rel => exact ⟨_, (false), (by first | rfl | (simp; done) | (simp [*]; done)), H', ⟨by first | omega | exact Nat.le_refl _⟩, ⟨by (with_reducible repeat (first | refine blk_drewN ?_ _ | refine blk_drew ?_ | refine blk_alloc ?_ _)); exact BK284.out⟩, ⟨(hb1_ HB.out GE284.out)⟩⟩
      ·replace c20 := Bool.eq_false_iff.mpr c20
       subst c20
       have H1 : (sketch_Valid.j0 k t285 (decide ((l0_2.length : Int) < 32)) a0_0 a0_1 l0_2 false l0_4 l0_5 l0_6) = some r := by rw [if_neg (show ¬ (false = true) by decide)] at H; exact H
       clear H
       have H := H1
       clear H1
       have H' := Aside0.mk H
       clear H
       obtain ⟨hcz22_0, hcz22_1, hcz22_2, hcz22_3, hcz22_4, hcz22_5, hcz22_6, hfz22_0, hfz22_1, hfz22_2, hfz22_3, hfz22_4, hfz22_5, hfz22_6⟩ := bf7 BK284.out
       go_wp2
       repeat (go_quiet (fail); try go_wp2)
       go_meet
       case rel => exact ⟨_, (decide ((l0_2.length : Int) < 32)), (by first | rfl | (simp; done) | (simp [*]; done)), H', ⟨by first | omega | exact Nat.le_refl _⟩, ⟨by (with_reducible repeat (first | refine blk_drewN ?_ _ | refine blk_drew ?_ | refine blk_alloc ?_ _)); exact BK284.out⟩, ⟨(hb1_ HB.out GE284.out)⟩⟩
 case rest =>
  clear HC3
  try clear c1
  try clear c2
  try clear p2
  try clear c7
  try clear c7b0
  try clear c9
  try clear c9b0
  try clear c12
  try clear c12b0
  try clear c14
  try clear c14b0
  try clear c15
  try clear c15b0
  try clear c15b1
  try clear c15b2
  try clear c17
  try clear c20
  try clear hcz10_0 hcz10_1 hcz10_2 hcz10_3 hcz10_4 hcz10_5 hcz10_6 hfz10_0 hfz10_1 hfz10_2 hfz10_3 hfz10_4 hfz10_5 hfz10_6
  try clear hcz13_0 hcz13_1 hcz13_2 hcz13_3 hcz13_4 hcz13_5 hcz13_6 hfz13_0 hfz13_1 hfz13_2 hfz13_3 hfz13_4 hfz13_5 hfz13_6
  try clear hcz16_0 hcz16_1 hcz16_2 hcz16_3 hcz16_4 hcz16_5 hcz16_6 hfz16_0 hfz16_1 hfz16_2 hfz16_3 hfz16_4 hfz16_5 hfz16_6
  try clear hcz18_0 hcz18_1 hcz18_2 hcz18_3 hcz18_4 hcz18_5 hcz18_6 hfz18_0 hfz18_1 hfz18_2 hfz18_3 hfz18_4 hfz18_5 hfz18_6
  try clear hcz19_0 hcz19_1 hcz19_2 hcz19_3 hcz19_4 hcz19_5 hcz19_6 hfz19_0 hfz19_1 hfz19_2 hfz19_3 hfz19_4 hfz19_5 hfz19_6
  try clear hcz21_0 hcz21_1 hcz21_2 hcz21_3 hcz21_4 hcz21_5 hcz21_6 hfz21_0 hfz21_1 hfz21_2 hfz21_3 hfz21_4 hfz21_5 hfz21_6
  try clear hcz22_0 hcz22_1 hcz22_2 hcz22_3 hcz22_4 hcz22_5 hcz22_6 hfz22_0 hfz22_1 hfz22_2 hfz22_3 hfz22_4 hfz22_5 hfz22_6
  try clear hcz5_0 hcz5_1 hcz5_2 hcz5_3 hcz5_4 hcz5_5 hcz5_6 hfz5_0 hfz5_1 hfz5_2 hfz5_3 hfz5_4 hfz5_5 hfz5_6
  try clear hcz8_0 hcz8_1 hcz8_2 hcz8_3 hcz8_4 hcz8_5 hcz8_6 hfz8_0 hfz8_1 hfz8_2 hfz8_3 hfz8_4 hfz8_5 hfz8_6
  obtain ⟨kq, x45_2, rfl, HA, HJ2, BK284, HB⟩ := hcut
  cases kq with
  | zero => exact absurd HA.out (by simp [sketch_Valid.j0])
  | succ kj2 =>
   have H := HA.out
   clear HA
   simp only [sketch_Valid.j0] at H
   by_cases c23 : x45_2 = true
   ·subst c23
    have H1 : (some false) = some r := by rw [if_pos rfl] at H; exact H
    clear H
    have H := H1
    clear H1
    obtain rfl := Option.some.inj H
    go_wp2
    repeat (go_quiet (fail); try go_wp2)
    go_ret
    exact er_ ((hb1_ HB.out GE284.out))
   ·replace c23 := Bool.eq_false_iff.mpr c23
    subst c23
    have H1 : (sketch_Valid.l0 kj2 t285 1 a0_0 a0_1 l0_2 a0_3 l0_4 l0_5 l0_6) = some r := by rw [if_neg (show ¬ (false = true) by decide)] at H; exact H
    clear H
    have H := H1
    clear H1
    have H' := Aside0.mk H
    clear H
    go_wp2
    repeat (go_quiet (fail); try go_wp2)
    go_loopg [4] kj2 (fun kq v4 w' => ∃ (x4_2 : Int), v4 = .int .i64 x4_2 ∧ Aside0 (sketch_Valid.l0 kq t285 x4_2 a0_0 a0_1 l0_2 a0_3 l0_4 l0_5 l0_6 = some r) ∧ Aside0 (kq ≤ kj2) ∧ Aside0 (w'.heap[gb284]? = some (.cells #[.int .i64 a0_0, .int .i64 a0_1, (.slice A0_2 l0_2.length c0_2), .bool a0_3, (.slice A0_4 l0_4.length c0_4), (.slice A0_5 l0_5.length c0_5), (.slice A0_6 l0_6.length c0_6)] 26 (0, 0))) ∧ Aside0 (Below w.heap.size w w'))
    case atStart => exact ⟨(1), (by first | rfl | (simp; done) | (simp [*]; done)), H', ⟨Nat.le_refl _⟩, ⟨by (with_reducible repeat (first | refine blk_drewN ?_ _ | refine blk_drew ?_ | refine blk_alloc ?_ _)); exact BK284.out⟩, ⟨(hb1_ HB.out GE284.out)⟩⟩
    case round =>
     clear H'
     try clear c1
     try clear c2
     try clear p2
     try clear c7
     try clear c7b0
     try clear c9
     try clear c9b0
     try clear c12
     try clear c12b0
     try clear c14
     try clear c14b0
     try clear c15
     try clear c15b0
     try clear c15b1
     try clear c15b2
     try clear c17
     try clear c20
     try clear c23
     try clear hcz10_0 hcz10_1 hcz10_2 hcz10_3 hcz10_4 hcz10_5 hcz10_6 hfz10_0 hfz10_1 hfz10_2 hfz10_3 hfz10_4 hfz10_5 hfz10_6
     try clear hcz13_0 hcz13_1 hcz13_2 hcz13_3 hcz13_4 hcz13_5 hcz13_6 hfz13_0 hfz13_1 hfz13_2 hfz13_3 hfz13_4 hfz13_5 hfz13_6
     try clear hcz16_0 hcz16_1 hcz16_2 hcz16_3 hcz16_4 hcz16_5 hcz16_6 hfz16_0 hfz16_1 hfz16_2 hfz16_3 hfz16_4 hfz16_5 hfz16_6
     try clear hcz18_0 hcz18_1 hcz18_2 hcz18_3 hcz18_4 hcz18_5 hcz18_6 hfz18_0 hfz18_1 hfz18_2 hfz18_3 hfz18_4 hfz18_5 hfz18_6
     try clear hcz19_0 hcz19_1 hcz19_2 hcz19_3 hcz19_4 hcz19_5 hcz19_6 hfz19_0 hfz19_1 hfz19_2 hfz19_3 hfz19_4 hfz19_5 hfz19_6
     try clear hcz21_0 hcz21_1 hcz21_2 hcz21_3 hcz21_4 hcz21_5 hcz21_6 hfz21_0 hfz21_1 hfz21_2 hfz21_3 hfz21_4 hfz21_5 hfz21_6
     try clear hcz22_0 hcz22_1 hcz22_2 hcz22_3 hcz22_4 hcz22_5 hcz22_6 hfz22_0 hfz22_1 hfz22_2 hfz22_3 hfz22_4 hfz22_5 hfz22_6
     try clear hcz5_0 hcz5_1 hcz5_2 hcz5_3 hcz5_4 hcz5_5 hcz5_6 hfz5_0 hfz5_1 hfz5_2 hfz5_3 hfz5_4 hfz5_5 hfz5_6
     try clear hcz8_0 hcz8_1 hcz8_2 hcz8_3 hcz8_4 hcz8_5 hcz8_6 hfz8_0 hfz8_1 hfz8_2 hfz8_3 hfz8_4 hfz8_5 hfz8_6
     try clear p2
     obtain ⟨x4_2, rfl, HA, HK2, BK284, HB⟩ := hrel
     cases gk with
     | zero => exact absurd HA.out (by simp [sketch_Valid.l0])
     | succ k2 =>
      have H := HA.out
      clear HA
      simp only [sketch_Valid.l0] at H
      by_cases c24 : x4_2 < (l0_2.length : Int)
      ·rw [if_pos c24] at H
       have c24b0 : decide (x4_2 < (l0_2.length : Int)) = true := decide_eq_true c24
       clear c24
       by_cases c25 : 0 ≤ x4_2
       ·rw [if_pos c25] at H
        have c25b0 : decide (0 ≤ x4_2) = true := decide_eq_true c25
        clear c25
        obtain ⟨ji26, hji26⟩ : ∃ j_ : Int, (wrap64 (x4_2 - 1)) = j_ := ⟨_, rfl⟩
        replace H : (if 0 ≤ (ji26) then (if (ji26) < (l0_2.length : Int) then (if (rd l0_2 x4_2) ≤ (rd l0_2 (ji26)) then (some false) else (sketch_Valid.l0 k2 t285 (wrap64 (x4_2 + 1)) a0_0 a0_1 l0_2 a0_3 l0_4 l0_5 l0_6)) else (none)) else (none)) = some r := by first | (rw [hji26] at H; exact H) | (simp only [hji26] at H ⊢; exact H)
        have hji26w : (IntKind.i64.wrap (x4_2 - 1)) = ji26 := (i64_w _).trans hji26
        by_cases c27 : 0 ≤ (ji26)
        ·rw [if_pos c27] at H
         have c27b0 : decide (0 ≤ (ji26)) = true := decide_eq_true c27
         clear c27
         by_cases c28 : (ji26) < (l0_2.length : Int)
         ·rw [if_pos c28] at H
          have c28b0 : decide ((ji26) < (l0_2.length : Int)) = true := decide_eq_true c28
          clear c28
          by_cases c29 : (rd l0_2 x4_2) ≤ (rd l0_2 (ji26))
          ·rw [if_pos c29] at H
           have c29b0 : decide ((rd l0_2 x4_2) ≤ (rd l0_2 (ji26))) = true := decide_eq_true c29
           clear c29
           obtain rfl := Option.some.inj H
           obtain ⟨hcz30_0, hcz30_1, hcz30_2, hcz30_3, hcz30_4, hcz30_5, hcz30_6, hfz30_0, hfz30_1, hfz30_2, hfz30_3, hfz30_4, hfz30_5, hfz30_6⟩ := bf7 BK284.out
           have p286 : 0 ≤ (x4_2 : Int) := of_decide_eq_true (by first | (with_reducible assumption) | assumption)
           have q286 : x4_2 < (l0_2.length : Int) := of_decide_eq_true (by first | (with_reducible assumption) | assumption)
           obtain ⟨ad286, e286, hx286_0⟩ := Kd.at_int HR0_2.out x4_2 p286 q286
           cases e286
           replace hx286_0 := up_ HB.out hx286_0
           replace p286 := eq_true p286
           replace q286 := eq_true q286
           have p287 : 0 ≤ ((ji26) : Int) := of_decide_eq_true (by first | (with_reducible assumption) | assumption)
           have q287 : (ji26) < (l0_2.length : Int) := of_decide_eq_true (by first | (with_reducible assumption) | assumption)
           obtain ⟨ad287, e287, hx287_0⟩ := Kd.at_int HR0_2.out (ji26) p287 q287
           obtain rfl : ad286 = ad287 := (by injection e287)
           replace hx287_0 := up_ HB.out hx287_0
           replace p287 := eq_true p287
           replace q287 := eq_true q287
           go_wp2
           repeat (go_quiet (fail); try go_wp2)
           go_ret
           exact ⟨by first | rfl | (simp [errW_none, errW_some] <;> rfl) | (simp only [← hji26]; first | rfl | (simp [errW_none, errW_some] <;> rfl)) | (simp [*, errW_none, errW_some] <;> rfl), (hb1_ HB.out GE284.out)⟩
          ·rw [if_neg c29] at H
           have c29b0 : decide ((rd l0_2 x4_2) ≤ (rd l0_2 (ji26))) = false := decide_eq_false c29
           clear c29
           have H' := Aside0.mk H
           clear H
           obtain ⟨hcz31_0, hcz31_1, hcz31_2, hcz31_3, hcz31_4, hcz31_5, hcz31_6, hfz31_0, hfz31_1, hfz31_2, hfz31_3, hfz31_4, hfz31_5, hfz31_6⟩ := bf7 BK284.out
           have p286 : 0 ≤ (x4_2 : Int) := of_decide_eq_true (by first | (with_reducible assumption) | assumption)
           have q286 : x4_2 < (l0_2.length : Int) := of_decide_eq_true (by first | (with_reducible assumption) | assumption)
           obtain ⟨ad286, e286, hx286_0⟩ := Kd.at_int HR0_2.out x4_2 p286 q286
           cases e286
           replace hx286_0 := up_ HB.out hx286_0
           replace p286 := eq_true p286
           replace q286 := eq_true q286
           have p287 : 0 ≤ ((ji26) : Int) := of_decide_eq_true (by first | (with_reducible assumption) | assumption)
           have q287 : (ji26) < (l0_2.length : Int) := of_decide_eq_true (by first | (with_reducible assumption) | assumption)
           obtain ⟨ad287, e287, hx287_0⟩ := Kd.at_int HR0_2.out (ji26) p287 q287
           obtain rfl : ad286 = ad287 := (by injection e287)
           replace hx287_0 := up_ HB.out hx287_0
           replace p287 := eq_true p287
           replace q287 := eq_true q287
           go_wp2
           repeat (go_quiet (fail); try go_wp2)
           go_roundg k2
           case measure => have := HJ2.out; have := HK2.out; omega
           case rel => exact ⟨(wrap64 (x4_2 + 1)), (by first | rfl | (simp; done) | (simp [*]; done)), H', ⟨by have := HJ2.out; have := HK2.out; omega⟩, ⟨by (with_reducible repeat (first | refine blk_drewN ?_ _ | refine blk_drew ?_ | refine blk_alloc ?_ _)); exact BK284.out⟩, ⟨(hb1_ HB.out GE284.out)⟩⟩
         ·rw [if_neg c28] at H
          exact absurd H (by simp)
        ·rw [if_neg c27] at H
         exact absurd H (by simp)
       ·rw [if_neg c25] at H
        exact absurd H (by simp)
      ·rw [if_neg c24] at H
       have c24b0 : decide (x4_2 < (l0_2.length : Int)) = false := decide_eq_false c24
       clear c24
       replace H := Option.bind_eq_some_iff.mp H
       obtain ⟨t288, A320, H⟩ := H
       replace H : (if t288 = true then ((sketch_validFences.f a0_0 a0_1 l0_2 a0_3 l0_4 l0_5 l0_6 t285).bind fun t289 => (some t289)) else (some false)) = some r := H
       have A32 := Aside0.mk A320
       clear A320
       by_cases c33 : t288 = true
       ·subst c33
        have H1 : ((sketch_validFences.f a0_0 a0_1 l0_2 a0_3 l0_4 l0_5 l0_6 t285).bind fun t289 => (some t289)) = some r := by rw [if_pos rfl] at H; exact H
        clear H
        have H := H1
        clear H1
        replace H := Option.bind_eq_some_iff.mp H
        obtain ⟨t289, A340, H⟩ := H
        replace H : (some t289) = some r := H
        have A34 := Aside0.mk A340
        clear A340
        obtain rfl := Option.some.inj H
        obtain ⟨hcz35_0, hcz35_1, hcz35_2, hcz35_3, hcz35_4, hcz35_5, hcz35_6, hfz35_0, hfz35_1, hfz35_2, hfz35_3, hfz35_4, hfz35_5, hfz35_6⟩ := bf7 BK284.out
        go_wp2_with (first | (go_at_call 67; (with_reducible refine (sketch_validCounters.calls _ _ l0_4 t285 true _ ?side1 ?side2 A32.out).mono ?_); (case side1 => exact cb_ HR0_4.out HB.out); (case side2 => exact HC0_4.out); rintro e w36 ⟨rfl, hb⟩; replace BK284 := Aside0.mk (blk_below (bk_ BK284.out) hb); replace HB := Aside0.mk (below_step (hb1_ HB.out GE284.out) hb); (try clear hb); obtain ⟨hcz37_0, hcz37_1, hcz37_2, hcz37_3, hcz37_4, hcz37_5, hcz37_6, hfz37_0, hfz37_1, hfz37_2, hfz37_3, hfz37_4, hfz37_5, hfz37_6⟩ := bf7 BK284.out) | (go_at_call 68; (with_reducible refine (sketch_validFences.calls a0_0 a0_1 _ _ l0_2 a0_3 _ _ l0_4 _ _ l0_5 _ _ l0_6 t285 t289 _ ?side1 ?side2 ?side3 ?side4 ?side5 ?side6 ?side7 ?side8 A34.out).mono ?_); (case side1 => exact cb_ HR0_2.out HB.out); (case side2 => exact HC0_2.out); (case side3 => exact cb_ HR0_4.out HB.out); (case side4 => exact HC0_4.out); (case side5 => exact cb_ HR0_5.out HB.out); (case side6 => exact HC0_5.out); (case side7 => exact cb_ HR0_6.out HB.out); (case side8 => exact HC0_6.out); rintro e w38 ⟨rfl, hb⟩; replace BK284 := Aside0.mk (blk_below (bk_ BK284.out) hb); replace HB := Aside0.mk (below_step (hb1_ HB.out GE284.out) hb); (try clear hb)))
        repeat (go_quiet (first | (go_at_call 67; (with_reducible refine (sketch_validCounters.calls _ _ l0_4 t285 true _ ?side1 ?side2 A32.out).mono ?_); (case side1 => exact cb_ HR0_4.out HB.out); (case side2 => exact HC0_4.out); rintro e w36 ⟨rfl, hb⟩; replace BK284 := Aside0.mk (blk_below (bk_ BK284.out) hb); replace HB := Aside0.mk (below_step (hb1_ HB.out GE284.out) hb); (try clear hb); obtain ⟨hcz37_0, hcz37_1, hcz37_2, hcz37_3, hcz37_4, hcz37_5, hcz37_6, hfz37_0, hfz37_1, hfz37_2, hfz37_3, hfz37_4, hfz37_5, hfz37_6⟩ := bf7 BK284.out) | (go_at_call 68; (with_reducible refine (sketch_validFences.calls a0_0 a0_1 _ _ l0_2 a0_3 _ _ l0_4 _ _ l0_5 _ _ l0_6 t285 t289 _ ?side1 ?side2 ?side3 ?side4 ?side5 ?side6 ?side7 ?side8 A34.out).mono ?_); (case side1 => exact cb_ HR0_2.out HB.out); (case side2 => exact HC0_2.out); (case side3 => exact cb_ HR0_4.out HB.out); (case side4 => exact HC0_4.out); (case side5 => exact cb_ HR0_5.out HB.out); (case side6 => exact HC0_5.out); (case side7 => exact cb_ HR0_6.out HB.out); (case side8 => exact HC0_6.out); rintro e w38 ⟨rfl, hb⟩; replace BK284 := Aside0.mk (blk_below (bk_ BK284.out) hb); replace HB := Aside0.mk (below_step (hb1_ HB.out GE284.out) hb); (try clear hb))); try go_wp2_with (first | (go_at_call 67; (with_reducible refine (sketch_validCounters.calls _ _ l0_4 t285 true _ ?side1 ?side2 A32.out).mono ?_); (case side1 => exact cb_ HR0_4.out HB.out); (case side2 => exact HC0_4.out); rintro e w36 ⟨rfl, hb⟩; replace BK284 := Aside0.mk (blk_below (bk_ BK284.out) hb); replace HB := Aside0.mk (below_step (hb1_ HB.out GE284.out) hb); (try clear hb); obtain ⟨hcz37_0, hcz37_1, hcz37_2, hcz37_3, hcz37_4, hcz37_5, hcz37_6, hfz37_0, hfz37_1, hfz37_2, hfz37_3, hfz37_4, hfz37_5, hfz37_6⟩ := bf7 BK284.out) | (go_at_call 68; (with_reducible refine (sketch_validFences.calls a0_0 a0_1 _ _ l0_2 a0_3 _ _ l0_4 _ _ l0_5 _ _ l0_6 t285 t289 _ ?side1 ?side2 ?side3 ?side4 ?side5 ?side6 ?side7 ?side8 A34.out).mono ?_); (case side1 => exact cb_ HR0_2.out HB.out); (case side2 => exact HC0_2.out); (case side3 => exact cb_ HR0_4.out HB.out); (case side4 => exact HC0_4.out); (case side5 => exact cb_ HR0_5.out HB.out); (case side6 => exact HC0_5.out); (case side7 => exact cb_ HR0_6.out HB.out); (case side8 => exact HC0_6.out); rintro e w38 ⟨rfl, hb⟩; replace BK284 := Aside0.mk (blk_below (bk_ BK284.out) hb); replace HB := Aside0.mk (below_step (hb1_ HB.out GE284.out) hb); (try clear hb))))
        go_ret
        exact er_ ((hb1_ HB.out GE284.out))
       ·replace c33 := Bool.eq_false_iff.mpr c33
        subst c33
        have H1 : (some false) = some r := by rw [if_neg (show ¬ (false = true) by decide)] at H; exact H
        clear H
        have H := H1
        clear H1
        obtain rfl := Option.some.inj H
        obtain ⟨hcz39_0, hcz39_1, hcz39_2, hcz39_3, hcz39_4, hcz39_5, hcz39_6, hfz39_0, hfz39_1, hfz39_2, hfz39_3, hfz39_4, hfz39_5, hfz39_6⟩ := bf7 BK284.out
        go_wp2_with (first | (go_at_call 67; (with_reducible refine (sketch_validCounters.calls _ _ l0_4 t285 false _ ?side1 ?side2 A32.out).mono ?_); (case side1 => exact cb_ HR0_4.out HB.out); (case side2 => exact HC0_4.out); rintro e w40 ⟨rfl, hb⟩; replace BK284 := Aside0.mk (blk_below (bk_ BK284.out) hb); replace HB := Aside0.mk (below_step (hb1_ HB.out GE284.out) hb); (try clear hb)))
        repeat (go_quiet (first | (go_at_call 67; (with_reducible refine (sketch_validCounters.calls _ _ l0_4 t285 false _ ?side1 ?side2 A32.out).mono ?_); (case side1 => exact cb_ HR0_4.out HB.out); (case side2 => exact HC0_4.out); rintro e w40 ⟨rfl, hb⟩; replace BK284 := Aside0.mk (blk_below (bk_ BK284.out) hb); replace HB := Aside0.mk (below_step (hb1_ HB.out GE284.out) hb); (try clear hb))); try go_wp2_with (first | (go_at_call 67; (with_reducible refine (sketch_validCounters.calls _ _ l0_4 t285 false _ ?side1 ?side2 A32.out).mono ?_); (case side1 => exact cb_ HR0_4.out HB.out); (case side2 => exact HC0_4.out); rintro e w40 ⟨rfl, hb⟩; replace BK284 := Aside0.mk (blk_below (bk_ BK284.out) hb); replace HB := Aside0.mk (below_step (hb1_ HB.out GE284.out) hb); (try clear hb))))
        go_ret
        exact er_ ((hb1_ HB.out GE284.out))
end Go.Proofs.Ytackcingpffidaa.P
namespace Go.Proofs.Ytackcingpffidaa.P
open Go.RowKit Go.Proofs.YtackcingpffidaaW.PrintWords Go.Proofs.YtackcingpffidaaW.PrintLast Go.Proofs.YtackcingpffidaaW.PrintMore
set_option linter.unusedVariables false
set_option linter.unusedSimpArgs false
/-- Hashes that are read: each is the last one and a number more. -/
def dM (k : Nat) (l : List Int) : Nat → Int → Int → Int → Option (List Int × Int × Int)
 | 0, _, t, e => some ([], t, e)
 | m + 1, last, t, e => (vintS k l t e).bind fun x => (dM k l m (IntKind.u64.wrap (last + x.1)) x.2.1 x.2.2).bind fun y => some (IntKind.u64.wrap (last + x.1) :: y.1, y.2)
def dC (k : Nat) (l : List Int) : Nat → Int → Int → Option (List Int × Int × Int)
 | 0, t, e => some ([], t, e)
 | m + 1, t, e => (numS k l t e).bind fun x => (dC k l m x.2.1 x.2.2).bind fun y => some (x.1 :: y.1, y.2)
/-- Fences and ranks that are read, up to the first error. -/
def dF (k : Nat) (l : List Int) : Nat → Int → Int → Option (List S39 × List Int × Int × Int)
 | 0, t, e => some ([], [], t, e)
 | m + 1, t, e => if e = 0 then (value_Decode.f k l t).bind fun v => (numS k l v.2.2.2.1 v.2.2.2.2).bind fun x => (numS k l x.2.1 x.2.2).bind fun y => (dF k l m y.2.1 y.2.2).bind fun z => some (⟨v.1, v.2.1, v.2.2.1⟩ :: z.1, x.1 :: y.1 :: z.2.1, z.2.2) else some ([], [], t, e)
def sketch_Decode.f (k : Nat) (l : List Int) (off : Int) : Option (Int × Int × List Int × Bool × List Int × List S39 × List Int × Int × Int) :=
 if off < 0 ∨ (l.length : Int) < off then some (0, 0, [], false, [], [], [], 0, 1) else
 (numS k l off 0).bind fun x1 => (numS k l x1.2.1 x1.2.2).bind fun x2 => (limS k 32 l x2.2.1 x2.2.2).bind fun x3 => (dM k l x3.1.toNat 0 x3.2.1 x3.2.2).bind fun y3 => (flagS l y3.2.1 y3.2.2).bind fun x4 => (dC k l 256 x4.2.1 x4.2.2).bind fun y4 =>
 (limS k 17 l y4.2.1 y4.2.2).bind fun x5 => (dF k l x5.1.toNat x5.2.1 x5.2.2).bind fun y5 => if y5.2.2.2 = 0 then
  (sketch_Valid.f k x1.1 x2.1 y3.1 x4.1 y4.1 y5.1 y5.2.1).bind fun ok => if ok = true then some (x1.1, x2.1, y3.1, x4.1, y4.1, y5.1, y5.2.1, y5.2.2.1, 0) else some (0, 0, [], false, [], [], [], 0, 4)
 else some (0, 0, [], false, [], [], [], 0, y5.2.2.2)
theorem dM_succ {k : Nat} {l S : List Int} {m : Nat} {last t e t' e' : Int} (h : dM k l (m + 1) last t e = some (S, t', e')) : ∃ n ta ea S2, vintS k l t e = some (n, ta, ea) ∧ dM k l m (IntKind.u64.wrap (last + n)) ta ea = some (S2, t', e') ∧ S = IntKind.u64.wrap (last + n) :: S2 := by
 unfold dM at h
 obtain ⟨⟨n, ta, ea⟩, hn, h⟩ := Option.bind_eq_some_iff.mp h
 obtain ⟨⟨S2, tb, eb⟩, hs, h⟩ := Option.bind_eq_some_iff.mp h
 obtain ⟨rfl, h2⟩ := Prod.mk.inj (Option.some.inj h)
 obtain ⟨rfl, rfl⟩ := Prod.mk.inj h2
 exact ⟨n, ta, ea, S2, hn, hs, rfl⟩
theorem dC_succ {k : Nat} {l S : List Int} {m : Nat} {t e t' e' : Int} (h : dC k l (m + 1) t e = some (S, t', e')) : ∃ n ta ea S2, numS k l t e = some (n, ta, ea) ∧ dC k l m ta ea = some (S2, t', e') ∧ S = n :: S2 := by
 unfold dC at h
 obtain ⟨⟨n, ta, ea⟩, hn, h⟩ := Option.bind_eq_some_iff.mp h
 obtain ⟨⟨S2, tb, eb⟩, hs, h⟩ := Option.bind_eq_some_iff.mp h
 obtain ⟨rfl, h2⟩ := Prod.mk.inj (Option.some.inj h)
 obtain ⟨rfl, rfl⟩ := Prod.mk.inj h2
 exact ⟨n, ta, ea, S2, hn, hs, rfl⟩
theorem dF_succ {k : Nat} {l : List Int} {S : List S39} {T : List Int} {m : Nat} {t t' e' : Int} (h : dF k l (m + 1) t 0 = some (S, T, t', e')) : ∃ (f : S39) (ta ea n tb eb n2 tc ec : Int) (S2 : List S39) (T2 : List Int), value_Decode.f k l t = some (f.f0, f.f1, f.f2, ta, ea) ∧ numS k l ta ea = some (n, tb, eb) ∧ numS k l tb eb = some (n2, tc, ec) ∧ dF k l m tc ec = some (S2, T2, t', e') ∧ S = f :: S2 ∧ T = n :: n2 :: T2 := by
 unfold dF at h
 rw [if_pos rfl] at h
 obtain ⟨⟨f0, f1, f2, ta, ea⟩, hv, h⟩ := Option.bind_eq_some_iff.mp h
 obtain ⟨⟨n, tb, eb⟩, hn, h⟩ := Option.bind_eq_some_iff.mp h
 obtain ⟨⟨n2, tc, ec⟩, hn2, h⟩ := Option.bind_eq_some_iff.mp h
 obtain ⟨⟨S2, T2, td, ed⟩, hs, h⟩ := Option.bind_eq_some_iff.mp h
 obtain ⟨rfl, h2⟩ := Prod.mk.inj (Option.some.inj h)
 obtain ⟨rfl, h3⟩ := Prod.mk.inj h2
 obtain ⟨rfl, rfl⟩ := Prod.mk.inj h3
 exact ⟨⟨f0, f1, f2⟩, ta, ea, n, tb, eb, n2, tc, ec, S2, T2, hv, hn, hn2, hs, rfl, rfl⟩
theorem dF_err {k : Nat} {l : List Int} {S : List S39} {T : List Int} {m : Nat} {t e t' e' : Int} (he : e ≠ 0) (h : dF k l m t e = some (S, T, t', e')) : S = [] ∧ T = [] ∧ t = t' ∧ e = e' := by
 cases m with
 | zero => unfold dF at h; simpa [eq_comm] using h
 | succ m => unfold dF at h; rw [if_neg he] at h; simpa [eq_comm] using h
theorem limS_le {k : Nat} {m : Int} {l : List Int} {t e n t' e' : Int} (hm : 0 ≤ m) (h : limS k m l t e = some (n, t', e')) : n ≤ m := by
 unfold limS at h
 obtain ⟨⟨a, b, c⟩, _, h⟩ := Option.bind_eq_some_iff.mp h
 split at h
 ·split at h
  ·obtain ⟨rfl, _⟩ := Prod.mk.inj (Option.some.inj h); exact hm
  ·rename_i hh
   obtain ⟨rfl, _⟩ := Prod.mk.inj (Option.some.inj h); exact Int.not_lt.mp hh
 ·obtain ⟨rfl, _⟩ := Prod.mk.inj (Option.some.inj h); exact hm
theorem dec_parts {k : Nat} {l : List Int} {off : Int} {r : Int × Int × List Int × Bool × List Int × List S39 × List Int × Int × Int} (ho : ¬(off < 0 ∨ (l.length : Int) < off)) (h : sketch_Decode.f k l off = some r) :
  ∃ m1 t1 e1 m2 t2 e2 m3 t3 e3 M t4 e4 b t5 e5 C t6 e6 m7 t7 e7 F R t8 e8, numS k l off 0 = some (m1, t1, e1) ∧ numS k l t1 e1 = some (m2, t2, e2) ∧ limS k 32 l t2 e2 = some (m3, t3, e3) ∧ dM k l m3.toNat 0 t3 e3 = some (M, t4, e4) ∧ flagS l t4 e4 = some (b, t5, e5) ∧ dC k l 256 t5 e5 = some (C, t6, e6) ∧ limS k 17 l t6 e6 = some (m7, t7, e7) ∧ dF k l m7.toNat t7 e7 = some (F, R, t8, e8) ∧
  (if e8 = 0 then (sketch_Valid.f k m1 m2 M b C F R).bind fun ok => if ok = true then some (m1, m2, M, b, C, F, R, t8, 0) else some (0, 0, [], false, [], [], [], 0, 4) else some (0, 0, [], false, [], [], [], 0, e8)) = some r := by
 unfold sketch_Decode.f at h
 rw [if_neg ho] at h
 obtain ⟨⟨m1, t1, e1⟩, h1, h⟩ := Option.bind_eq_some_iff.mp h
 obtain ⟨⟨m2, t2, e2⟩, h2, h⟩ := Option.bind_eq_some_iff.mp h
 obtain ⟨⟨m3, t3, e3⟩, h3, h⟩ := Option.bind_eq_some_iff.mp h
 obtain ⟨⟨M, t4, e4⟩, h4, h⟩ := Option.bind_eq_some_iff.mp h
 obtain ⟨⟨b, t5, e5⟩, h5, h⟩ := Option.bind_eq_some_iff.mp h
 obtain ⟨⟨C, t6, e6⟩, h6, h⟩ := Option.bind_eq_some_iff.mp h
 obtain ⟨⟨m7, t7, e7⟩, h7, h⟩ := Option.bind_eq_some_iff.mp h
 obtain ⟨⟨F, R, t8, e8⟩, h8, h⟩ := Option.bind_eq_some_iff.mp h
 exact ⟨m1, t1, e1, m2, t2, e2, m3, t3, e3, M, t4, e4, b, t5, e5, C, t6, e6, m7, t7, e7, F, R, t8, e8, h1, h2, h3, h4, h5, h6, h7, h8, h⟩
theorem R_keepT {α : Type} {d : Kd α} {e base : Nat} {ok : Nat → Prop} {w w1 : World} {v : Value} {xs : List α} {g t : Nat} {cells : Array Value} (h : d.R e w base ok v xs) (hb : w.heap[g]? = some (.cells cells t (0, 0))) (ht : ∀ q, q ∈ e :: d.E → q ≠ t) (hk : KeepBut w w1 g none) : d.R e w1 base ok v xs :=
 Kd.R_mono (Kd.R_keep (Kd.R_types h hb ht) hk (fun _ hk => hk.2)) (fun _ hk => hk.1)
def zero26 : Array Value := #[.int .i64 0, .int .i64 0, .slice none 0 0, .bool false, .slice none 0 0, .slice none 0 0, .slice none 0 0]
/-- The result's box g4, the reader's g7, the sketch's g8, and the rows that grow. -/
structure DS (y : TypeId) (w W : World) (g4 g7 g8 : Nat) (A : Option Addr) (c : Nat) (l : List Int) (t e a0 a1 : Int) (v2 : Value) (M : List Int) (b : Bool) (v4 : Value) (C : List Int) (v5 : Value) (F : List S39) (v6 : Value) (R : List Int) : Prop where
  G4 : W.heap[g4]? = some (.cells zero26 26 (0, 0))
  G7 : W.heap[g7]? = some (RDo y A l c t e)
  G8 : W.heap[g8]? = some (.cells #[.int .i64 a0, .int .i64 a1, v2, .bool b, v4, v5, v6] 26 (0, 0))
  O2 : Kd.R (Kd.int .u64) 53 W w.heap.size (fun _ => True) v2 M
  O4 : Kd.R (Kd.int .i64) 3 W w.heap.size (fun _ => True) v4 C
  O5 : Kd.R k39 39 W w.heap.size (fun _ => True) v5 F
  O6 : Kd.R (Kd.int .i64) 3 W w.heap.size (fun k => True ∧ some k ≠ v4.ownBlock) v6 R
  B : Below w.heap.size w W
  h7 : w.heap.size ≤ g7
  h8 : w.heap.size ≤ g8
  h4 : w.heap.size ≤ g4
  n4 : g4 ≠ g7
  n8 : g8 ≠ g7
  n48 : g4 ≠ g8
section
variable {y : TypeId} {w W W2 : World} {g4 g7 g8 : Nat} {A : Option Addr} {c : Nat} {l : List Int} {t e a0 a1 : Int} {v2 : Value} {M : List Int} {b : Bool} {v4 : Value} {C : List Int} {v5 : Value} {F : List S39} {v6 : Value} {R : List Int}
theorem DS.below (h : DS y w W g4 g7 g8 A c l t e a0 a1 v2 M b v4 C v5 F v6 R) (hb : Below W.heap.size W W2) : DS y w W2 g4 g7 g8 A c l t e a0 a1 v2 M b v4 C v5 F v6 R :=
 ⟨blk_below h.G4 hb, blk_below h.G7 hb, blk_below h.G8 hb, Kd.R_below h.O2 hb, Kd.R_below h.O4 hb, Kd.R_below h.O5 hb, Kd.R_below h.O6 hb, h.B.trans (hb.mono h.B.size), h.h7, h.h8, h.h4, h.n4, h.n8, h.n48⟩
/-- The sketch's box is filled for the first time. -/
theorem DS.start (B4 : W.heap[g4]? = some (.cells zero26 26 (0, 0))) (B7 : W.heap[g7]? = some (RDo y A l c t e)) {x0 x1 x2 x3 x4 x5 x6 : Value} (B8 : W.heap[g8]? = some (.cells #[x0, x1, x2, x3, x4, x5, x6] 26 (0, 0))) (HB : Below w.heap.size w W) (h7 : w.heap.size ≤ g7) (h8 : w.heap.size ≤ g8) (h4 : w.heap.size ≤ g4) (n4 : g4 ≠ g7) (n8 : g8 ≠ g7) (n48 : g4 ≠ g8) :
  DS y w (put7 W g8 (.int .i64 a0) (.int .i64 a1) (.slice none 0 0) (.bool false) (.slice none 0 0) (.slice none 0 0) (.slice none 0 0)) g4 g7 g8 A c l t e a0 a1 (.slice none 0 0) [] false (.slice none 0 0) [] (.slice none 0 0) [] (.slice none 0 0) [] := by
 have far : ∀ {i : Nat} {cs : Array Value} {t : TypeId}, W.heap[i]? = some (.cells cs t (0, 0)) → i ≠ g8 → (put7 W g8 (.int .i64 a0) (.int .i64 a1) (.slice none 0 0) (.bool false) (.slice none 0 0) (.slice none 0 0) (.slice none 0 0)).heap[i]? = some (.cells cs t (0, 0)) := fun h n => by
  unfold put7
  exact blk_far (p := ⟨g8, 6, none⟩) (blk_far (p := ⟨g8, 5, none⟩) (blk_far (p := ⟨g8, 4, none⟩) (blk_far (p := ⟨g8, 3, none⟩) (blk_far (p := ⟨g8, 2, none⟩) (blk_far (p := ⟨g8, 1, none⟩) (blk_far (p := ⟨g8, 0, none⟩) h n _) n _) n _) n _) n _) n _) n _
 exact ⟨far B4 n48, far B7 (Ne.symm n8), put7_blk B8 _ _ _ _ _ _ _, Kd.R_nil _ _ _ _ _, Kd.R_nil _ _ _ _ _, Kd.R_nil _ _ _ _ _, Kd.R_nil _ _ _ _ _, put7_below HB h8 _ _ _ _ _ _ _, h7, h8, h4, n4, n8, n48⟩
/-- A reader's call. -/
theorem DS.read (hy : y = 69 ∨ y = 106) (h : DS y w W g4 g7 g8 A c l t e a0 a1 v2 M b v4 C v5 F v6 R) {t' e' : Int} (hp : RDp y w W g7 A l c t' e' W2) : DS y w W2 g4 g7 g8 A c l t' e' a0 a1 v2 M b v4 C v5 F v6 R :=
 ⟨hp.2.2.blk h.G4 h.n4 (by simp), hp.1, hp.2.2.blk h.G8 h.n8 (by simp), R_keepT h.O2 h.G7 (by rcases hy with rfl | rfl <;> decide) hp.2.2, R_keepT h.O4 h.G7 (by rcases hy with rfl | rfl <;> decide) hp.2.2, R_keepT h.O5 h.G7 (by rcases hy with rfl | rfl <;> decide) hp.2.2, R_keepT h.O6 h.G7 (by rcases hy with rfl | rfl <;> decide) hp.2.2, hp.2.1, h.h7, h.h8, h.h4, h.n4, h.n8, h.n48⟩
theorem DS.flag (h : DS y w W g4 g7 g8 A c l t e a0 a1 v2 M b v4 C v5 F v6 R) (b' : Bool) : DS y w (W.setCell ⟨g8, 3, none⟩ (.bool b')) g4 g7 g8 A c l t e a0 a1 v2 M b' v4 C v5 F v6 R :=
 ⟨blk_far h.G4 (p := ⟨g8, 3, none⟩) h.n48 _, blk_far h.G7 (p := ⟨g8, 3, none⟩) (Ne.symm h.n8) _, blk_put (cs' := #[.int .i64 a0, .int .i64 a1, v2, .bool b', v4, v5, v6]) h.G8 3 _ rfl, R_setE ⟨_, h.G8⟩ h.O2 (by decide) 3 _, R_setE ⟨_, h.G8⟩ h.O4 (by decide) 3 _, R_setE ⟨_, h.G8⟩ h.O5 (by decide) 3 _, R_setE ⟨_, h.G8⟩ h.O6 (by decide) 3 _, h.B.setCell (p := ⟨g8, 3, none⟩) h.h8 _, h.h7, h.h8, h.h4, h.n4, h.n8, h.n48⟩
/-- The row of hashes has grown and is stored. -/
theorem DS.grow2 (hy : y = 69 ∨ y = 106) (h : DS y w W g4 g7 g8 A c l t e a0 a1 v2 M b v4 C v5 F v6 R) {u : Value} {N : List Int} (ho : Kd.R (Kd.int .u64) 53 W2 w.heap.size (fun _ => True) u N) (hb : Below w.heap.size w W2) (hg : W.grownBy W2 v2.ownBlock) :
  W2.heap[g8]? = some (.cells #[.int .i64 a0, .int .i64 a1, v2, .bool b, v4, v5, v6] 26 (0, 0)) ∧ DS y w (W2.setCell ⟨g8, 2, none⟩ u) g4 g7 g8 A c l t e a0 a1 u N b v4 C v5 F v6 R := by
 have b8 := blk_grown h.G8 hg (Kd.R_ne h.O2 h.G8 (by decide))
 have b4 := blk_grown h.G4 hg (Kd.R_ne h.O2 h.G4 (by decide))
 have b7 := blk_grown h.G7 hg (Kd.R_ne h.O2 h.G7 (by rcases hy with rfl | rfl <;> decide))
 exact ⟨b8, blk_far b4 (p := ⟨g8, 2, none⟩) h.n48 u, blk_far b7 (p := ⟨g8, 2, none⟩) (Ne.symm h.n8) u, blk_put (cs' := #[.int .i64 a0, .int .i64 a1, u, .bool b, v4, v5, v6]) b8 2 u rfl, R_setE ⟨_, b8⟩ ho (by decide) 2 u, R_setE ⟨_, b8⟩ (Kd.R_over h.O4 h.O2 (by decide) hg) (by decide) 2 u, R_setE ⟨_, b8⟩ (Kd.R_over h.O5 h.O2 (by decide) hg) (by decide) 2 u, R_setE ⟨_, b8⟩ (Kd.R_over h.O6 h.O2 (by decide) hg) (by decide) 2 u, hb.setCell (p := ⟨g8, 2, none⟩) h.h8 u, h.h7, h.h8, h.h4, h.n4, h.n8, h.n48⟩
/-- The row of counters has grown and is stored; there are no ranks yet. -/
theorem DS.grow4 (hy : y = 69 ∨ y = 106) (h : DS y w W g4 g7 g8 A c l t e a0 a1 v2 M b v4 C v5 F (.slice none 0 0) []) {u : Value} {N : List Int} (ho : Kd.R (Kd.int .i64) 3 W2 w.heap.size (fun _ => True) u N) (hb : Below w.heap.size w W2) (hg : W.grownBy W2 v4.ownBlock) :
  W2.heap[g8]? = some (.cells #[.int .i64 a0, .int .i64 a1, v2, .bool b, v4, v5, .slice none 0 0] 26 (0, 0)) ∧ DS y w (W2.setCell ⟨g8, 4, none⟩ u) g4 g7 g8 A c l t e a0 a1 v2 M b u N v5 F (.slice none 0 0) [] := by
 have b8 := blk_grown h.G8 hg (Kd.R_ne h.O4 h.G8 (by decide))
 have b4 := blk_grown h.G4 hg (Kd.R_ne h.O4 h.G4 (by decide))
 have b7 := blk_grown h.G7 hg (Kd.R_ne h.O4 h.G7 (by rcases hy with rfl | rfl <;> decide))
 exact ⟨b8, blk_far b4 (p := ⟨g8, 4, none⟩) h.n48 u, blk_far b7 (p := ⟨g8, 4, none⟩) (Ne.symm h.n8) u, blk_put (cs' := #[.int .i64 a0, .int .i64 a1, v2, .bool b, u, v5, .slice none 0 0]) b8 4 u rfl, R_setE ⟨_, b8⟩ (Kd.R_over h.O2 h.O4 (by decide) hg) (by decide) 4 u, R_setE ⟨_, b8⟩ ho (by decide) 4 u, R_setE ⟨_, b8⟩ (Kd.R_over h.O5 h.O4 (by decide) hg) (by decide) 4 u, Kd.R_nil _ _ _ _ _, hb.setCell (p := ⟨g8, 4, none⟩) h.h8 u, h.h7, h.h8, h.h4, h.n4, h.n8, h.n48⟩
/-- The row of fences has grown and is stored. -/
theorem DS.grow5 (hy : y = 69 ∨ y = 106) (h : DS y w W g4 g7 g8 A c l t e a0 a1 v2 M b v4 C v5 F v6 R) {u : Value} {N : List S39} (ho : Kd.R k39 39 W2 w.heap.size (fun _ => True) u N) (hb : Below w.heap.size w W2) (hg : W.grownBy W2 v5.ownBlock) :
  W2.heap[g8]? = some (.cells #[.int .i64 a0, .int .i64 a1, v2, .bool b, v4, v5, v6] 26 (0, 0)) ∧ DS y w (W2.setCell ⟨g8, 5, none⟩ u) g4 g7 g8 A c l t e a0 a1 v2 M b v4 C u N v6 R := by
 have b8 := blk_grown h.G8 hg (Kd.R_ne h.O5 h.G8 (by decide))
 have b4 := blk_grown h.G4 hg (Kd.R_ne h.O5 h.G4 (by decide))
 have b7 := blk_grown h.G7 hg (Kd.R_ne h.O5 h.G7 (by rcases hy with rfl | rfl <;> decide))
 exact ⟨b8, blk_far b4 (p := ⟨g8, 5, none⟩) h.n48 u, blk_far b7 (p := ⟨g8, 5, none⟩) (Ne.symm h.n8) u, blk_put (cs' := #[.int .i64 a0, .int .i64 a1, v2, .bool b, v4, u, v6]) b8 5 u rfl, R_setE ⟨_, b8⟩ (Kd.R_over h.O2 h.O5 (by decide) hg) (by decide) 5 u, R_setE ⟨_, b8⟩ (Kd.R_over h.O4 h.O5 (by decide) hg) (by decide) 5 u, R_setE ⟨_, b8⟩ ho (by decide) 5 u, R_setE ⟨_, b8⟩ (Kd.R_over h.O6 h.O5 (by decide) hg) (by decide) 5 u, hb.setCell (p := ⟨g8, 5, none⟩) h.h8 u, h.h7, h.h8, h.h4, h.n4, h.n8, h.n48⟩
/-- The row of ranks has grown and is stored. -/
theorem DS.grow6 (hy : y = 69 ∨ y = 106) (h : DS y w W g4 g7 g8 A c l t e a0 a1 v2 M b v4 C v5 F v6 R) {u : Value} {N : List Int} (ho : Kd.R (Kd.int .i64) 3 W2 w.heap.size (fun k => True ∧ some k ≠ v4.ownBlock) u N) (hb : Below w.heap.size w W2) (hg : W.grownBy W2 v6.ownBlock) :
  W2.heap[g8]? = some (.cells #[.int .i64 a0, .int .i64 a1, v2, .bool b, v4, v5, v6] 26 (0, 0)) ∧ DS y w (W2.setCell ⟨g8, 6, none⟩ u) g4 g7 g8 A c l t e a0 a1 v2 M b v4 C v5 F u N := by
 have b8 := blk_grown h.G8 hg (Kd.R_ne h.O6 h.G8 (by decide))
 have b4 := blk_grown h.G4 hg (Kd.R_ne h.O6 h.G4 (by decide))
 have b7 := blk_grown h.G7 hg (Kd.R_ne h.O6 h.G7 (by rcases hy with rfl | rfl <;> decide))
 have o4 : Kd.R (Kd.int .i64) 3 W2 w.heap.size (fun _ => True) v4 C := Kd.R_mono (Kd.R_step (Kd.R_tight rfl h.O4) (fun k hk hlt => hg.block k hlt (fun he => by have h2 := h.O6.1 k he.symm; exact h2.2 hk))) (fun _ _ => trivial)
 exact ⟨b8, blk_far b4 (p := ⟨g8, 6, none⟩) h.n48 u, blk_far b7 (p := ⟨g8, 6, none⟩) (Ne.symm h.n8) u, blk_put (cs' := #[.int .i64 a0, .int .i64 a1, v2, .bool b, v4, v5, u]) b8 6 u rfl, R_setE ⟨_, b8⟩ (Kd.R_over h.O2 h.O6 (by decide) hg) (by decide) 6 u, R_setE ⟨_, b8⟩ o4 (by decide) 6 u, R_setE ⟨_, b8⟩ (Kd.R_over h.O5 h.O6 (by decide) hg) (by decide) 6 u, R_setE ⟨_, b8⟩ ho (by decide) 6 u, hb.setCell (p := ⟨g8, 6, none⟩) h.h8 u, h.h7, h.h8, h.h4, h.n4, h.n8, h.n48⟩
theorem DS.fresh6 (h : DS y w W g4 g7 g8 A c l t e a0 a1 v2 M b v4 C v5 F v6 R) : ∀ k, W.heap.size ≤ k → True ∧ some k ≠ v4.ownBlock := fun k hk => ⟨trivial, fun e => by have := Kd.R_lt h.O4 k e.symm; omega⟩
/-- What the sketch's slices are to a reader. -/
theorem DS.sk {A2 A4 A5 A6 : Option Addr} {c2 c4 c5 c6 : Nat} (h : DS y w W g4 g7 g8 A c l t e a0 a1 (.slice A2 M.length c2) M b (.slice A4 C.length c4) C (.slice A5 F.length c5) F (.slice A6 R.length c6) R) : SK W A2 c2 M A4 c4 C A5 c5 F A6 c6 R :=
 ⟨(Kd.R_reads' h.O2).2.2, (Kd.R_reads' h.O2).2.1, (Kd.R_reads' h.O4).2.2, (Kd.R_reads' h.O4).2.1, (Kd.R_reads' h.O5).2.2, (Kd.R_reads' h.O5).2.1, (Kd.R_reads' h.O6).2.2, (Kd.R_reads' h.O6).2.1⟩
/-- The results are stored: the whole box g4. -/
theorem DS.result (h : DS y w W g4 g7 g8 A c l t e a0 a1 v2 M b v4 C v5 F v6 R) (u0 u1 u2 u3 u4 u5 u6 : Value) : (put7 W g4 u0 u1 u2 u3 u4 u5 u6).heap[g4]? = some (.cells #[u0, u1, u2, u3, u4, u5, u6] 26 (0, 0)) ∧ Below w.heap.size w (put7 W g4 u0 u1 u2 u3 u4 u5 u6) :=
 ⟨put7_blk h.G4 u0 u1 u2 u3 u4 u5 u6, put7_below h.B h.h4 u0 u1 u2 u3 u4 u5 u6⟩
theorem SK_nil (w : World) : SK w none 0 [] none 0 [] none 0 [] none 0 [] :=
 ⟨(Kd.R_reads' (Kd.R_nil (Kd.int .u64) 53 w 0 (fun _ => True))).2.2, Nat.le_refl _, (Kd.R_reads' (Kd.R_nil (Kd.int .i64) 3 w 0 (fun _ => True))).2.2, Nat.le_refl _, (Kd.R_reads' (Kd.R_nil k39 39 w 0 (fun _ => True))).2.2, Nat.le_refl _, (Kd.R_reads' (Kd.R_nil (Kd.int .i64) 3 w 0 (fun _ => True))).2.2, Nat.le_refl _⟩
/-- What the sketch's slices are behind the store of the results. -/
theorem DS.done {A2 A4 A5 A6 : Option Addr} {c2 c4 c5 c6 : Nat} (h : DS y w W g4 g7 g8 A c l t e a0 a1 (.slice A2 M.length c2) M b (.slice A4 C.length c4) C (.slice A5 F.length c5) F (.slice A6 R.length c6) R) (u0 u1 u2 u3 u4 u5 u6 : Value) : SK (put7 W g4 u0 u1 u2 u3 u4 u5 u6) A2 c2 M A4 c4 C A5 c5 F A6 c6 R :=
 ⟨(Kd.R_reads' (put7_R h.G4 u0 u1 u2 u3 u4 u5 u6 h.O2 (by decide))).2.2, (Kd.R_reads' h.O2).2.1, (Kd.R_reads' (put7_R h.G4 u0 u1 u2 u3 u4 u5 u6 h.O4 (by decide))).2.2, (Kd.R_reads' h.O4).2.1, (Kd.R_reads' (put7_R h.G4 u0 u1 u2 u3 u4 u5 u6 h.O5 (by decide))).2.2, (Kd.R_reads' h.O5).2.1, (Kd.R_reads' (put7_R h.G4 u0 u1 u2 u3 u4 u5 u6 h.O6 (by decide))).2.2, (Kd.R_reads' h.O6).2.1⟩
theorem put7_far {W : World} {g i : Nat} {cs : Array Value} {t : TypeId} (h : W.heap[i]? = some (.cells cs t (0, 0))) (n : i ≠ g) (u0 u1 u2 u3 u4 u5 u6 : Value) : (put7 W g u0 u1 u2 u3 u4 u5 u6).heap[i]? = some (.cells cs t (0, 0)) := by
 unfold put7
 exact blk_far (p := ⟨g, 6, none⟩) (blk_far (p := ⟨g, 5, none⟩) (blk_far (p := ⟨g, 4, none⟩) (blk_far (p := ⟨g, 3, none⟩) (blk_far (p := ⟨g, 2, none⟩) (blk_far (p := ⟨g, 1, none⟩) (blk_far (p := ⟨g, 0, none⟩) h n _) n _) n _) n _) n _) n _) n _
theorem DS.res7 (h : DS y w W g4 g7 g8 A c l t e a0 a1 v2 M b v4 C v5 F v6 R) (u0 u1 u2 u3 u4 u5 u6 : Value) : (put7 W g4 u0 u1 u2 u3 u4 u5 u6).heap[g7]? = some (RDo y A l c t e) := put7_far h.G7 (Ne.symm h.n4) _ _ _ _ _ _ _
theorem DS.res8 (h : DS y w W g4 g7 g8 A c l t e a0 a1 v2 M b v4 C v5 F v6 R) (u0 u1 u2 u3 u4 u5 u6 : Value) : (put7 W g4 u0 u1 u2 u3 u4 u5 u6).heap[g8]? = some (.cells #[.int .i64 a0, .int .i64 a1, v2, .bool b, v4, v5, v6] 26 (0, 0)) := put7_far h.G8 (Ne.symm h.n48) _ _ _ _ _ _ _
/-- A call's last: a sketch is stored as the result. -/
theorem ret7_ {b_ : Nat} {w0 w : World} {g : Nat} {t : TypeId} {x0 x1 x2 x3 x4 x5 x6 : Value} (hb : w.heap[g]? = some (.cells #[x0, x1, x2, x3, x4, x5, x6] t (0, 0))) (HB : Below b_ w0 w) (hg : b_ ≤ g) (u0 u1 u2 u3 u4 u5 u6 : Value) {p : World → Prop}
  (h : ∀ W, W = put7 w g u0 u1 u2 u3 u4 u5 u6 → W.cell? ⟨g, 0, none⟩ = some u0 → W.cell? ⟨g, 1, none⟩ = some u1 → W.cell? ⟨g, 2, none⟩ = some u2 → W.cell? ⟨g, 3, none⟩ = some u3 → W.cell? ⟨g, 4, none⟩ = some u4 → W.cell? ⟨g, 5, none⟩ = some u5 → W.cell? ⟨g, 6, none⟩ = some u6 → Below b_ w0 W → p W) : p (((((((w.setCell ⟨g, 0, none⟩ u0).setCell ⟨g, 1, none⟩ u1).setCell ⟨g, 2, none⟩ u2).setCell ⟨g, 3, none⟩ u3).setCell ⟨g, 4, none⟩ u4).setCell ⟨g, 5, none⟩ u5).setCell ⟨g, 6, none⟩ u6) := by
 have P2 := put7_blk hb u0 u1 u2 u3 u4 u5 u6
 exact h _ rfl ((blk_cell P2 0).trans rfl) ((blk_cell P2 1).trans rfl) ((blk_cell P2 2).trans rfl) ((blk_cell P2 3).trans rfl) ((blk_cell P2 4).trans rfl) ((blk_cell P2 5).trans rfl) ((blk_cell P2 6).trans rfl) (put7_below HB hg u0 u1 u2 u3 u4 u5 u6)
/-- Two numbers in a block are a row. -/
theorem C_two {w : World} {g : Nat} {x y : Int} (h : w.heap[g]? = some (.cells #[.int .i64 x, .int .i64 y] 3 (0, 0))) : Kd.C (Kd.int .i64) w (some ⟨g, 0, none⟩) 2 [x, y] := by
 refine ⟨rfl, by decide, fun _ => ⟨_, rfl, fun j p hj => ?_⟩⟩
 cases j with
 | zero =>
  obtain rfl : x = p := by simpa using hj
  refine ⟨[.int .i64 x], rfl, rfl, fun i u hu => ?_⟩
  cases i with
  | zero =>
   have h0 := blk_cell h 0
   simp only [Nat.zero_mul, Nat.zero_add, List.getElem?_cons_zero] at hu ⊢
   exact h0.trans hu
  | succ i => simp at hu
 | succ j =>
  cases j with
  | zero =>
   obtain rfl : y = p := by simpa using hj
   refine ⟨[.int .i64 y], rfl, rfl, fun i u hu => ?_⟩
   cases i with
   | zero =>
    have h0 := blk_cell h 1
    simp only [List.getElem?_cons_zero] at hu
    exact h0.trans hu
   | succ i => simp at hu
  | succ j => simp at hj
end
def f15_T14 : Bool × List (List Nat × List Nat) := (true, [([], []), ([0], [0]), ([], []), ([2], [2]), ([3], [3]), ([1, 4, 3], [1, 4]), ([0, 1, 2, 3, 4, 5], []), ([6, 5, 5, 0, 1, 2, 3, 4, 5], [5, 6])])
def f15_B14 : List Nat := [0, 1, 0, 4, 12, 31, 63, 127]
set_option maxRecDepth 100000 in
theorem f15_tab14 : rtab .any (opsOf Try.f15 14) = f15_T14 := by kernel_rfl
theorem f15_bits14 : waitsOk f15_T14.2 f15_B14 = true := by kernel_rfl
def f15_T22 : Bool × List (List Nat × List Nat) := (true, [([], []), ([0], [0]), ([], []), ([2], [2]), ([], []), ([4, 3], [4]), ([3, 5], [3, 5]), ([1, 6, 5], [1, 6]), ([0, 1, 2, 3, 4, 5, 6, 7], []), ([8, 7, 7, 0, 1, 2, 3, 4, 5, 6, 7], [7, 8])])
def f15_B22 : List Nat := [0, 1, 0, 4, 0, 28, 60, 127, 255, 511]
set_option maxRecDepth 100000 in
theorem f15_tab22 : rtab .any (opsOf Try.f15 22) = f15_T22 := by kernel_rfl
theorem f15_bits22 : waitsOk f15_T22.2 f15_B22 = true := by kernel_rfl
def f15_T25 : Bool × List (List Nat × List Nat) := (true, [([], []), ([], []), ([1], [1]), ([2], [2]), ([3], [3]), ([0, 0], [0]), ([5, 0, 5], []), ([4, 6, 0, 1, 2, 3, 4, 5, 6], [4])])
def f15_B25 : List Nat := [0, 0, 2, 6, 14, 1, 33, 127]
set_option maxRecDepth 100000 in
theorem f15_tab25 : rtab .any (opsOf Try.f15 25) = f15_T25 := by kernel_rfl
theorem f15_bits25 : waitsOk f15_T25.2 f15_B25 = true := by kernel_rfl
def f15_T28 : Bool × List (List Nat × List Nat) := (true, [([], []), ([], []), ([1], [1]), ([2], [2]), ([3], [3]), ([0, 0], [0]), ([4, 5, 0, 1, 2, 3, 4, 5], [4]), ([6, 0, 1, 2, 3, 4, 5, 6], [])])
def f15_B28 : List Nat := [0, 0, 2, 6, 14, 1, 63, 127]
set_option maxRecDepth 100000 in
theorem f15_tab28 : rtab .any (opsOf Try.f15 28) = f15_T28 := by kernel_rfl
theorem f15_bits28 : waitsOk f15_T28.2 f15_B28 = true := by kernel_rfl
set_option maxHeartbeats 8000000 in
set_option maxRecDepth 100000 in
theorem sketch_Decode.calls0 (k : Nat) (A : Option Addr) (c : Nat) (l : List Int) (off : Int) (a0 a1 : Int) (M : List Int) (b : Bool) (C : List Int) (F : List S39) (R : List Int) (t e : Int) (w : World) (hA : Kd.C (Kd.int .u8) w A l.length l) (hc : l.length ≤ c) (h : sketch_Decode.f k l off = some (a0, a1, M, b, C, F, R, t, e)) :
  Calls Try.prog 15 #[.slice A l.length c, .int .i64 off] w fun x w' => ∃ A2 c2 A4 c4 A5 c5 A6 c6, x = .returned (.tuple #[.agg #[.int .i64 a0, .int .i64 a1, .slice A2 M.length c2, .bool b, .slice A4 C.length c4, .slice A5 F.length c5, .slice A6 R.length c6], .int .i64 t, .int .i64 e]) ∧ SK w' A2 c2 M A4 c4 C A5 c5 F A6 c6 R ∧ Below w.heap.size w w' := by
 have HA := Aside0.mk hA
 have hl : l.length ≤ 9223372036854775807 := hA.2.1
 clear hA
 have HH := Aside0.mk h
 clear h
 go_enter Try.func15, Try.ntmps15
 go_upto_region 1 with (refine box_ 4 (cs := #[.int .i64 0, .int .i64 0, .slice none 0 0, .bool false, .slice none 0 0, .slice none 0 0, .slice none 0 0]) (t := 26) (fun g4 hg_ V BB hb => ?_); have hg4 : w.heap.size ≤ g4 := (by omega); have B4 := Aside0.mk BB; have HB := Aside0.mk hb; clear hb hg_ BB)
 have hg4l : g4 < V.heap.size := blk_lt B4.out
 by_cases ho : off < 0 ∨ (l.length : Int) < off
 ·have hh := HH.out
  unfold sketch_Decode.f at hh
  rw [if_pos ho] at hh
  clear HH
  simp only [Option.some.injEq, Prod.mk.injEq] at hh
  obtain ⟨rfl, rfl, rfl, rfl, rfl, rfl, rfl, rfl, rfl⟩ := hh
  obtain ⟨f0, f1, f2, f3, f4, f5, f6, z0, z1, z2, z3, z4, z5, z6⟩ := bf7 B4.out
  by_cases h1 : off < 0
  ·have d1 := decide_eq_true h1
   clear h1 ho
   go_wp2
   refine ret7_ (p := fun W => bodyPost _ _ _ _ _ W) B4.out HB.out hg4 (.int .i64 0) (.int .i64 0) (.slice none 0 0) (.bool false) (.slice none 0 0) (.slice none 0 0) (.slice none 0 0) (fun W hW d0 d1 d2 d3 d4 d5 d6 rB => ?_)
   exact bodyPost_ret (v := .tuple #[.agg #[.int .i64 0, .int .i64 0, .slice none 0 0, .bool false, .slice none 0 0, .slice none 0 0, .slice none 0 0], .int .i64 0, .int .i64 1]) (by simp [results, Try.results15, go_sem, d0, d1, d2, d3, d4, d5, d6]) rfl ⟨none, 0, none, 0, none, 0, none, 0, rfl, SK_nil _, rB⟩
  ·have d1 := decide_eq_false h1
   have d2 : decide ((l.length : Int) < off) = true := decide_eq_true (by omega)
   clear h1 ho
   go_wp2
   refine ret7_ (p := fun W => bodyPost _ _ _ _ _ W) B4.out HB.out hg4 (.int .i64 0) (.int .i64 0) (.slice none 0 0) (.bool false) (.slice none 0 0) (.slice none 0 0) (.slice none 0 0) (fun W hW d0 d1 d2 d3 d4 d5 d6 rB => ?_)
   exact bodyPost_ret (v := .tuple #[.agg #[.int .i64 0, .int .i64 0, .slice none 0 0, .bool false, .slice none 0 0, .slice none 0 0, .slice none 0 0], .int .i64 0, .int .i64 1]) (by simp [results, Try.results15, go_sem, d0, d1, d2, d3, d4, d5, d6]) rfl ⟨none, 0, none, 0, none, 0, none, 0, rfl, SK_nil _, rB⟩
 obtain ⟨m1, t1, e1, m2, t2, e2, m3, t3, e3, M', t4, e4, b', t5, e5, C', t6, e6, m7, t7, e7, F', R', t8, e8, h1, h2, h3, h4, h5, h6, h7, h8, hh⟩ := dec_parts ho HH.out
 have hm3 : m3 ≤ 32 := limS_le (by decide) h3
 have hm7 : m7 ≤ 17 := limS_le (by decide) h7
 have H1 := Aside0.mk h1
 have H2 := Aside0.mk h2
 have H3 := Aside0.mk h3
 have H4 := Aside0.mk h4
 have H5 := Aside0.mk h5
 have H6 := Aside0.mk h6
 have H7 := Aside0.mk h7
 have H8 := Aside0.mk h8
 have H9 := Aside0.mk hh
 clear HH hh h1 h2 h3 h4 h5 h6 h7 h8
 have ho1 : decide (off < 0) = false := decide_eq_false (by omega)
 have ho2 : decide ((l.length : Int) < off) = false := decide_eq_false (by omega)
 clear ho
 go_upto_region 4 with (refine box_ 23 (cs := #[.slice A l.length c, .int .i64 off, .int .i64 0]) (t := 69) (fun g7 hg_ W BB hb => ?_); have hg7 : w.heap.size ≤ g7 := (by rw [hg_]; exact below_size HB.out); have hn4 : g4 ≠ g7 := (by omega); replace B4 := Aside0.mk (blk_below B4.out hb); replace HB := Aside0.mk (HB.out.trans (hb.mono (below_size HB.out))); have B7 := Aside0.mk BB; clear hb hg_ BB)
 have hg7l : g7 < W.heap.size := blk_lt B7.out
 have hg4W : g4 < W.heap.size := blk_lt B4.out
 clear ho1 ho2
 go_upto_region 5 with (first | (go_at_call 47; refine (f47_calls k w _ g7 A c l off 0 m1 t1 e1 HA.out hc HB.out hg7 B7.out H1.out).mono ?_; rintro x w1 ⟨rfl, hp⟩; replace B4 := Aside0.mk (hp.2.2.blk B4.out hn4 (by simp)); replace B7 := Aside0.mk hp.1; replace HB := Aside0.mk hp.2.1; have hgs := hp.2.2.1; clear hp) | (go_at_call 47; refine (f47_calls k w _ g7 A c l t1 e1 m2 t2 e2 HA.out hc HB.out hg7 B7.out H2.out).mono ?_; rintro x w2 ⟨rfl, hp⟩; replace B4 := Aside0.mk (hp.2.2.blk B4.out hn4 (by simp)); replace B7 := Aside0.mk hp.1; replace HB := Aside0.mk hp.2.1; have hgs := hp.2.2.1; clear hp) | (refine box_ 8 (cs := #[.int .i64 0, .int .i64 0, .slice none 0 0, .bool false, .slice none 0 0, .slice none 0 0, .slice none 0 0]) (t := 26) (fun g8 hg_ W8 BB hb => ?_); have hg8 : w.heap.size ≤ g8 := (by rw [hg_]; exact below_size HB.out); have hn8 : g8 ≠ g7 := (by have := HB.out.size; omega); have hn48 : g4 ≠ g8 := (by omega); replace B4 := Aside0.mk (blk_below B4.out hb); replace B7 := Aside0.mk (blk_below B7.out hb); replace HB := Aside0.mk (HB.out.trans (hb.mono (below_size HB.out))); have B8 := Aside0.mk BB; clear hb hg_ BB; obtain ⟨f0, f1, f2, f3, f4, f5, f6, z0, z1, z2, z3, z4, z5, z6⟩ := bf7 B8.out))
 have HS : Aside0 (DS 69 w (put7 W8 g8 (.int .i64 m1) (.int .i64 m2) (.slice none 0 0) (.bool false) (.slice none 0 0) (.slice none 0 0) (.slice none 0 0)) g4 g7 g8 A c l t2 e2 m1 m2 (.slice none 0 0) [] false (.slice none 0 0) [] (.slice none 0 0) [] (.slice none 0 0) []) := ⟨DS.start B4.out B7.out B8.out HB.out hg7 hg8 hg4 hn4 hn8 hn48⟩
 clear f0 f1 f2 f3 f4 f5 f6 z0 z1 z2 z3 z4 z5 z6 B4 B7 B8 HB H1 H2
 unfold put7 at HS
 generalize ((((((W8.setCell ⟨g8, 0, none⟩ (.int .i64 m1)).setCell ⟨g8, 1, none⟩ (.int .i64 m2)).setCell ⟨g8, 2, none⟩ (.slice none 0 0)).setCell ⟨g8, 3, none⟩ (.bool false)).setCell ⟨g8, 4, none⟩ (.slice none 0 0)).setCell ⟨g8, 5, none⟩ (.slice none 0 0)).setCell ⟨g8, 6, none⟩ (.slice none 0 0) = U at HS ⊢
 go_upto_block 0 with (go_at_call 48; refine (f48_calls k 32 w _ g7 A c l t2 e2 m3 t3 e3 HA.out hc HS.out.B hg7 HS.out.G7 H3.out).mono ?_; rintro x w9 ⟨rfl, hp⟩; replace HS := Aside0.mk (HS.out.read (.inl rfl) hp); clear hp)
 go_cut [9] (fun v9 W => ∃ A2 c2, Aside0 (DS 69 w W g4 g7 g8 A c l t4 e4 m1 m2 (.slice A2 M'.length c2) M' false (.slice none 0 0) [] (.slice none 0 0) [] (.slice none 0 0) []))
 case first =>
  go_wp2
  go_loopg [9, 31] m3.toNat (fun kq v9 v31 W => ∃ (i : Nat) (last t e : Int) (A2 : Option Addr) (c2 : Nat) (P S : List Int), v31 = .int .i64 i ∧ v9 = .int .u64 last ∧ i ≤ m3.toNat ∧ Aside0 (kq + i = m3.toNat) ∧ Aside0 (DS 69 w W g4 g7 g8 A c l t e m1 m2 (.slice A2 P.length c2) P false (.slice none 0 0) [] (.slice none 0 0) [] (.slice none 0 0) []) ∧ Aside0 (dM k l kq last t e = some (S, t4, e4)) ∧ Aside0 (P ++ S = M') ∧ Aside0 (P.length = i))
  case atStart => exact ⟨0, 0, t3, e3, none, 0, [], M', rfl, rfl, Nat.zero_le _, ⟨rfl⟩, HS, H4, ⟨rfl⟩, ⟨rfl⟩⟩
  case round =>
   clear HS H4
   obtain ⟨i, last, t_, e_, A2, c2, P, S, rfl, rfl, hi, HK2, HS, HM, HQ, HL⟩ := hrel
   by_cases hr : i < m3.toNat
   ·cases gk with
    | zero => exact absurd HK2.out (by omega)
    | succ k2 =>
     obtain ⟨n, ta, ea, S2, hn, hs, rfl⟩ := dM_succ HM.out
     obtain ⟨q, hq⟩ : ∃ q, IntKind.u64.wrap (last + n) = q := ⟨_, rfl⟩
     rw [hq] at hs HQ
     have HN := Aside0.mk hn
     replace HM := Aside0.mk hs
     have hid : decide ((i : Int) < m3) = true := decide_eq_true (by omega)
     have hwi : IntKind.i64.wrap ((i : Int) + 1) = ((i + 1 : Nat) : Int) := by rw [i64_w]; unfold wrap64; omega
     clear hn hs
     go_upto_region 9 with (go_at_call 49; refine (f49_calls k w _ g7 A c l t_ e_ n ta ea HA.out hc HS.out.B hg7 HS.out.G7 HN.out).mono ?_; rintro x w9 ⟨rfl, hp⟩; replace HS := Aside0.mk (HS.out.read (.inl rfl) hp); clear hp)
     have q2 : w9.cell? ⟨g8, 2, none⟩ = some (.slice A2 P.length c2) := (blk_cell HS.out.G8 2).trans rfl
     go_wp2_with ((with_reducible refine gate_builtin (b := .append) (xs := #[.tmp 38, .tmp 40]) rfl ?_); at_builtin; refine Kd.R_append (Kd.int .u64) (w0 := w) w.heap.size rfl (.tmp 38) (.tmp 40) 22 53 (.int .u64 0) 8 rfl Try.underlying22 info53 rfl (by decide) (by decide) (.slice A2 P.length c2) P q [.int .u64 q] (fun _ => True) (fun _ => False) rfl rfl ?aP1 (fun _ hk => hk.elim) ?aF1 ?aO1 ?aB1 ?aS1 ?aL1 ?_; (case aP1 => exact rfl); (case aF1 => exact fun _ _ => trivial); (case aO1 => exact HS.out.O2); (case aB1 => exact HS.out.B); (case aS1 => exact below_size HS.out.B); (case aL1 => (have := HL.out; omega)); intro v8 w7 ho hb hg hat; have HG := HS.out.grow2 (.inl rfl) ho hb hg; obtain ⟨P2, hP2⟩ : ∃ x, P ++ [q] = x := ⟨_, rfl⟩; rw [hP2] at ho HG; obtain ⟨A8, c8, rfl⟩ := Kd.R_slice ho; have p2 := (blk_cell HG.1 2).trans rfl; have z2 := blk_frozen HG.1 2; replace HG := Aside0.mk HG.2; have HQ7 : Aside0 (P2 ++ S2 = M') := ⟨by rw [← hP2, List.append_assoc]; exact HQ.out⟩; have HL7 : Aside0 (P2.length = i + 1) := ⟨by rw [← hP2, List.length_append, HL.out]; rfl⟩; clear ho hb hg hat hP2)
     go_roundg k2
     case measure => omega
     case rel => exact ⟨i + 1, q, ta, ea, _, _, P2, S2, int_eq (by omega), rfl, by omega, ⟨by have := HK2.out; omega⟩, HG, HM, HQ7, HL7⟩
   ·have hid : decide ((i : Int) < m3) = false := decide_eq_false (by omega)
    obtain rfl : gk = 0 := by have := HK2.out; omega
    have hS := HM.out
    unfold dM at hS
    obtain ⟨rfl, hS2⟩ := Prod.mk.inj (Option.some.inj hS)
    obtain ⟨rfl, rfl⟩ := Prod.mk.inj hS2
    have hq := HQ.out
    rw [List.append_nil] at hq
    subst hq
    clear hS hS2
    go_wp2
    go_meet
    case rel => exact ⟨_, _, HS⟩
 case rest =>
 clear HS H4
 obtain ⟨A2, c2, HS⟩ := hcut
 go_upto_region 12 with (first | (go_at_call 50; refine (f50_calls w _ g7 A c l t4 e4 b' t5 e5 HA.out HS.out.B hg7 HS.out.G7 H5.out).mono ?_; rintro x w9 ⟨rfl, hp⟩; replace HS := Aside0.mk (HS.out.read (.inl rfl) hp); clear hp; have q3 : w9.cell? ⟨g8, 3, none⟩ = some (.bool false) := (blk_cell HS.out.G8 3).trans rfl; have z3 := blk_frozen HS.out.G8 3) | fail)
 clear q3 z3
 replace HS := Aside0.mk (HS.out.flag b')
 generalize w9.setCell ⟨g8, 3, none⟩ (.bool b') = U at HS ⊢
 go_upto_block 2 with (fail)
 go_cut [] (fun W => ∃ A4 c4, Aside0 (DS 69 w W g4 g7 g8 A c l t6 e6 m1 m2 (.slice A2 M'.length c2) M' b' (.slice A4 C'.length c4) C' (.slice none 0 0) [] (.slice none 0 0) []))
 case first =>
  go_wp2
  go_loopg [47] 256 (fun kq v47 W => ∃ (i : Nat) (t e : Int) (A4 : Option Addr) (c4 : Nat) (P S : List Int), v47 = .int .i64 i ∧ Aside0 (kq + i = 256) ∧ Aside0 (DS 69 w W g4 g7 g8 A c l t e m1 m2 (.slice A2 M'.length c2) M' b' (.slice A4 P.length c4) P (.slice none 0 0) [] (.slice none 0 0) []) ∧ Aside0 (dC k l kq t e = some (S, t6, e6)) ∧ Aside0 (P ++ S = C') ∧ Aside0 (P.length = i))
  case atStart => exact ⟨0, t5, e5, none, 0, [], C', rfl, ⟨rfl⟩, HS, H6, ⟨rfl⟩, ⟨rfl⟩⟩
  case round =>
   clear HS H6
   obtain ⟨i, t_, e_, A4, c4, P, S, rfl, HK2, HS, HM, HQ, HL⟩ := hrel
   by_cases hr : i < 256
   ·cases gk with
    | zero => exact absurd HK2.out (by omega)
    | succ k2 =>
     obtain ⟨n, ta, ea, S2, hn, hs, rfl⟩ := dC_succ HM.out
     have HN := Aside0.mk hn
     replace HM := Aside0.mk hs
     have hid : decide ((i : Int) < 256) = true := decide_eq_true (by omega)
     have hwi : IntKind.i64.wrap ((i : Int) + 1) = ((i + 1 : Nat) : Int) := by rw [i64_w]; unfold wrap64; omega
     clear hn hs
     go_upto_region 14 with (fail)
     replace HS := Aside0.mk (HS.out.below (below_drew1 (Below.refl _ _)))
     refine start_ (n := 8) (S := fun W => W.cell? ⟨g8, 4, none⟩ = some (.slice A4 P.length c4)) (ds := [7]) #[false, false, false, false, false, false, false, false] (by kernel_rfl) rfl rfl ((blk_cell HS.out.G8 4).trans rfl) (fun hHeld => ?_)
     refine with_tabW f15_tab14 f15_bits14 (fun HT_ HW_ => ?_)
     generalize World.drew _ = wd at HS hHeld ⊢
     refine pu_ HT_ 0 (some 49) ?_
     refine tk_ HT_ HW_ 1 (some 50) hHeld ?_
     refine pu_ HT_ 2 (some 51) ?_
     refine on_ HT_ 3 (some 52) (fun K hK => ?_)
     refine goes_ Try.func47 (by kernel_rfl) rfl #[.pointer (some ⟨g7, 0, none⟩)] (by rfl) rfl rfl (by first | done | rfl | (simp only [List.map_toArray, List.map_cons, List.map_nil]; rfl)) ?_
     refine (f47_calls k w _ g7 A c l t_ e_ n ta ea HA.out hc HS.out.B hg7 HS.out.G7 HN.out).mono ?_
     rintro x w20 ⟨rfl, hp⟩
     refine ⟨_, rfl, ?_⟩
     replace HS := Aside0.mk (HS.out.read (.inl rfl) hp)
     clear hp
     refine hK.out _ _ ((blk_cell HS.out.G8 4).trans rfl) (fun hHeld => ?_)
     clear hK K
     refine nm_ (some 52) ?_
     refine on_ HT_ 4 (some 53) (fun K hK => ?_)
     refine value_ (w1 := w20.alloc (.cells #[.int .i64 n] 3)) (v := .slice (some ⟨w20.heap.size, 0, none⟩) 1 1) (by rfl) rfl ?_ ?_
     ·go_simp
     refine hK.out _ _ ((blk_cell (blk_alloc HS.out.G8 _) 4).trans rfl) (fun hHeld => ?_)
     clear hK K
     refine nm_ (some 53) ?_
     refine on_ HT_ 5 (some 54) (fun K hK => ?_)
     refine Kd.R_append_step (Kd.int .i64) (w0 := w) (W := w20) w.heap.size (by rfl) (.tmp 50) (.tmp 53) 23 3 (.int .i64 0) 8 rfl Try.underlying23 info3 rfl (by decide) (by decide) (.slice A4 P.length c4) P n [.int .i64 n] (fun _ => True) (fun _ => False) rfl rfl ?aP (fun _ hk => hk.elim) ?aF ?aO ?aB ?aS ?aL ?_
     (case aP => exact rfl)
     (case aF => exact fun _ _ => trivial)
     (case aO => exact HS.out.O4)
     (case aB => exact HS.out.B)
     (case aS => exact below_size HS.out.B)
     (case aL => (have := HL.out; omega))
     intro v8 w7 ho hb hg hat
     have HG := HS.out.grow4 (.inl rfl) ho hb hg
     obtain ⟨P2, hP2⟩ : ∃ x, P ++ [n] = x := ⟨_, rfl⟩
     rw [hP2] at ho HG
     obtain ⟨A8, c8, rfl⟩ := Kd.R_slice ho
     have p4 := (blk_cell HG.1 4).trans rfl
     have z4 := blk_frozen HG.1 4
     replace HG := Aside0.mk HG.2
     have HQ7 : Aside0 (P2 ++ S2 = C') := ⟨by rw [← hP2, List.append_assoc]; exact HQ.out⟩
     have HL7 : Aside0 (P2.length = i + 1) := ⟨by rw [← hP2, List.length_append, HL.out]; rfl⟩
     clear ho hb hg hat hP2
     refine hK.out _ _ p4 (fun hHeld => ?_)
     clear hK K
     refine nm_ (some 54) ?_
     refine pu_ HT_ 6 (some 55) ?_
     refine last_ (i := 7) (N := none) #[true, true, true, true, true, true, true, true] rfl rfl (one_of HT_.out (by kernel_rfl)) (by decide) (fun K hK => ?_)
     refine skip_ (w1 := w7.setCell ⟨g8, 4, none⟩ (.slice A8 P2.length c8)) (by rfl) rfl ?_ ?_
     ·go_simp
     refine hK.out _ _ ?_
     clear hK K p4 z4 hHeld
     refine done_ (done_of HT_.out (by kernel_rfl)) ?_
     clear HT_ HW_ HS
     have HS := HG
     clear HG
     generalize w7.setCell ⟨g8, 4, none⟩ (.slice A8 P2.length c8) = U at HS ⊢
     go_wp2
     go_roundg k2
     case measure => omega
     case rel => exact ⟨i + 1, ta, ea, _, _, P2, S2, int_eq (by omega), ⟨by have := HK2.out; omega⟩, HS, HM, HQ7, HL7⟩
   ·have hid : decide ((i : Int) < 256) = false := decide_eq_false (by omega)
    obtain rfl : gk = 0 := by have := HK2.out; omega
    have hS := HM.out
    unfold dC at hS
    obtain ⟨rfl, hS2⟩ := Prod.mk.inj (Option.some.inj hS)
    obtain ⟨rfl, rfl⟩ := Prod.mk.inj hS2
    have hq := HQ.out
    rw [List.append_nil] at hq
    subst hq
    clear hS hS2
    go_wp2
    go_meet
    case rel => exact ⟨_, _, HS⟩
 case rest =>
 clear HS H6 H5
 obtain ⟨A4, c4, HS⟩ := hcut
 go_upto_block 4 with (go_at_call 48; refine (f48_calls k 17 w _ g7 A c l t6 e6 m7 t7 e7 HA.out hc HS.out.B hg7 HS.out.G7 H7.out).mono ?_; rintro x w9 ⟨rfl, hp⟩; replace HS := Aside0.mk (HS.out.read (.inl rfl) hp); clear hp)
 go_cut [10] (fun v10 W => ∃ A5 c5 A6 c6, Aside0 (DS 69 w W g4 g7 g8 A c l t8 e8 m1 m2 (.slice A2 M'.length c2) M' b' (.slice A4 C'.length c4) C' (.slice A5 F'.length c5) F' (.slice A6 R'.length c6) R'))
 case first =>
  go_wp2
  go_loopg [59] m7.toNat (fun kq v59 W => ∃ (i : Nat) (t e : Int) (A5 : Option Addr) (c5 : Nat) (A6 : Option Addr) (c6 : Nat) (P : List S39) (Q : List Int) (S : List S39) (T : List Int), v59 = .int .i64 i ∧ i ≤ m7.toNat ∧ Aside0 (kq + i = m7.toNat) ∧ Aside0 (DS 69 w W g4 g7 g8 A c l t e m1 m2 (.slice A2 M'.length c2) M' b' (.slice A4 C'.length c4) C' (.slice A5 P.length c5) P (.slice A6 Q.length c6) Q) ∧ Aside0 (dF k l kq t e = some (S, T, t8, e8)) ∧ Aside0 (P ++ S = F') ∧ Aside0 (Q ++ T = R') ∧ Aside0 (P.length = i) ∧ Aside0 (Q.length = 2 * i))
  case atStart => exact ⟨0, t7, e7, none, 0, none, 0, [], [], F', R', rfl, Nat.zero_le _, ⟨rfl⟩, HS, H8, ⟨rfl⟩, ⟨rfl⟩, ⟨rfl⟩, ⟨rfl⟩⟩
  case round =>
   clear HS H8
   obtain ⟨i, t_, e_, A5, c5, A6, c6, P, Q, S, T, rfl, hi, HK2, HS, HM, HQ, HR, HL, HLR⟩ := hrel
   by_cases hr : i < m7.toNat
   ·cases gk with
    | zero => exact absurd HK2.out (by omega)
    | succ k2 =>
     have hid : decide ((i : Int) < m7) = true := decide_eq_true (by omega)
     obtain ⟨q0, q1, q2⟩ := bc3 HS.out.G7
     by_cases he : e_ = 0
     ·subst he
      obtain ⟨f, ta, ea, n, tb, eb, n2, tc, ec, S2, T2, hv, hn, hn2, hs, rfl, rfl⟩ := dF_succ HM.out
      have HV := Aside0.mk hv
      have HN := Aside0.mk hn
      have HN2 := Aside0.mk hn2
      replace HM := Aside0.mk hs
      have hwi : IntKind.i64.wrap ((i : Int) + 1) = ((i + 1 : Nat) : Int) := by rw [i64_w]; unfold wrap64; omega
      clear hn hn2 hs hv
      go_upto_region 20 with (refine box_ 10 (cs := #[.int .i64 0, .int .i64 0, .string ⟨#[]⟩]) (t := 39) (fun g10 hg_ w10 BB hb => ?_); have hn7 : g7 ≠ g10 := (by rw [hg_]; exact Nat.ne_of_lt (blk_lt HS.out.G7)); have hn10 : g10 ≠ g7 := Ne.symm hn7; have hg10 := Nat.le_of_eq hg_.symm; have BX := Aside0.mk BB; have HB := Aside0.mk hb; clear hg_ BB hb q0 q1 q2; obtain ⟨q0, q1, q2⟩ := bc3 (blk_below HS.out.G7 HB.out))
      go_upto_region 21 with (go_at_call 51; refine (value_Decode.calls k A c l t_ f.f0 f.f1 f.f2 ta ea _ (Kd.C_below HA.out (HS.out.B.trans (HB.out.mono HS.out.B.size))) hc HV.out).mono ?_; rintro x w11 ⟨rfl, hb⟩; replace BX := Aside0.mk (blk_below BX.out hb); replace HB := Aside0.mk (HB.out.trans (hb.mono HB.out.size)); clear hb q0 q1 q2; obtain ⟨q0, q1, q2⟩ := bc3 (blk_below HS.out.G7 HB.out); have y1 := blk_frozen (blk_below HS.out.G7 HB.out) 1; have y2 := blk_frozen (blk_below HS.out.G7 HB.out) 2; obtain ⟨x0, x1, x2, z0, z1, z2⟩ := bf3 BX.out)
      have HS2 := HS.out.below (put3_below HB.out hg10 (.int .i64 f.f0) (.int .i64 f.f1) (.string f.f2))
      have BV := put3_blk BX.out (.int .i64 f.f0) (.int .i64 f.f1) (.string f.f2)
      have HS3 := HS2.read (.inl rfl) (((RDp.of HS2.B HS2.G7 (Below.refl _ _)).set1 hg7 ta).set2 hg7 ea)
      replace BV := blk_far (p := ⟨g7, 2, none⟩) (blk_far (p := ⟨g7, 1, none⟩) BV hn10 (.int .i64 ta)) hn10 (.int .i64 ea)
      unfold put3 at HS3 BV
      clear HS2 q0 q1 q2 y1 y2 x0 x1 x2 z0 z1 z2 BX HB HS
      generalize ((((w11.setCell ⟨g10, 0, none⟩ (.int .i64 f.f0)).setCell ⟨g10, 1, none⟩ (.int .i64 f.f1)).setCell ⟨g10, 2, none⟩ (.string f.f2)).setCell ⟨g7, 1, none⟩ (.int .i64 ta)).setCell ⟨g7, 2, none⟩ (.int .i64 ea) = U at HS3 BV ⊢
      have HS := Aside0.mk HS3
      clear HS3
      obtain ⟨x0, x1, x2⟩ := bc3 BV
      have q5 : U.cell? ⟨g8, 5, none⟩ = some (.slice A5 P.length c5) := (blk_cell HS.out.G8 5).trans rfl
      go_upto_region 22 with ((with_reducible refine gate_builtin (b := .append) (xs := #[.tmp 83, .tmp 85]) rfl ?_); at_builtin; refine Kd.R_append k39 (w0 := w) w.heap.size rfl (.tmp 83) (.tmp 85) 24 39 (.agg #[(.int .i64 0), (.int .i64 0), (.string ⟨#[]⟩)]) 32 rfl Try.underlying24 info39 rfl (by decide) (by decide) (.slice A5 P.length c5) P f [.int .i64 f.f0, .int .i64 f.f1, .string f.f2] (fun _ => True) (fun _ => False) rfl rfl ?aP1 (fun _ hk => hk.elim) ?aF1 ?aO1 ?aB1 ?aS1 ?aL1 ?_; (case aP1 => exact k39_mkM _ _ _ f); (case aF1 => exact fun _ _ => trivial); (case aO1 => exact HS.out.O5); (case aB1 => exact HS.out.B); (case aS1 => exact below_size HS.out.B); (case aL1 => (have := HL.out; omega)); intro v8 w7 ho hb hg hat; have HG := HS.out.grow5 (.inl rfl) ho hb hg; obtain ⟨P2, hP2⟩ : ∃ x, P ++ [f] = x := ⟨_, rfl⟩; rw [hP2] at ho HG; obtain ⟨A8, c8, rfl⟩ := Kd.R_slice ho; have p5 := (blk_cell HG.1 5).trans rfl; have z5 := blk_frozen HG.1 5; replace HG := Aside0.mk HG.2; have HQ7 : Aside0 (P2 ++ S2 = F') := ⟨by rw [← hP2, List.append_assoc]; exact HQ.out⟩; have HL7 : Aside0 (P2.length = i + 1) := ⟨by rw [← hP2, List.length_append, HL.out]; rfl⟩; clear ho hb hg hat hP2)
      clear x0 x1 x2 q5 p5 z5 BV HS
      have HS := HG
      clear HG
      generalize w7.setCell ⟨g8, 5, none⟩ (.slice A8 P2.length c8) = U2 at HS ⊢
      replace HS := Aside0.mk (HS.out.below (below_drew1 (Below.refl _ _)))
      refine start_ (n := 10) (S := fun W => W.cell? ⟨g8, 6, none⟩ = some (.slice A6 Q.length c6)) (ds := [9]) #[false, false, false, false, false, false, false, false, false, false] (by kernel_rfl) rfl rfl ((blk_cell HS.out.G8 6).trans rfl) (fun hHeld => ?_)
      refine with_tabW f15_tab22 f15_bits22 (fun HT_ HW_ => ?_)
      generalize World.drew _ = wd at HS hHeld ⊢
      refine pu_ HT_ 0 (some 88) ?_
      refine tk_ HT_ HW_ 1 (some 89) hHeld ?_
      refine pu_ HT_ 2 (some 90) ?_
      refine pu_ HT_ 4 (some 92) ?_
      refine on_ HT_ 3 (some 91) (fun K hK => ?_)
      refine goes_ Try.func47 (by kernel_rfl) rfl #[.pointer (some ⟨g7, 0, none⟩)] (by rfl) rfl rfl (by first | done | rfl | (simp only [List.map_toArray, List.map_cons, List.map_nil]; rfl)) ?_
      refine (f47_calls k w _ g7 A c l ta ea n tb eb HA.out hc HS.out.B hg7 HS.out.G7 HN.out).mono ?_
      rintro x w20 ⟨rfl, hp⟩
      refine ⟨_, rfl, ?_⟩
      replace HS := Aside0.mk (HS.out.read (.inl rfl) hp)
      clear hp
      refine hK.out _ _ ((blk_cell HS.out.G8 6).trans rfl) (fun hHeld => ?_)
      clear hK K
      refine nm_ (some 91) ?_
      refine on_ HT_ 5 (some 93) (fun K hK => ?_)
      refine goes_ Try.func47 (by kernel_rfl) rfl #[.pointer (some ⟨g7, 0, none⟩)] (by rfl) rfl rfl (by first | done | rfl | (simp only [List.map_toArray, List.map_cons, List.map_nil]; rfl)) ?_
      refine (f47_calls k w _ g7 A c l tb eb n2 tc ec HA.out hc HS.out.B hg7 HS.out.G7 HN2.out).mono ?_
      rintro x w21 ⟨rfl, hp⟩
      refine ⟨_, rfl, ?_⟩
      replace HS := Aside0.mk (HS.out.read (.inl rfl) hp)
      clear hp
      refine hK.out _ _ ((blk_cell HS.out.G8 6).trans rfl) (fun hHeld => ?_)
      clear hK K
      refine nm_ (some 93) ?_
      refine on_ HT_ 6 (some 94) (fun K hK => ?_)
      refine value_ (w1 := w21.alloc (.cells #[.int .i64 n, .int .i64 n2] 3)) (v := .slice (some ⟨w21.heap.size, 0, none⟩) 2 2) (by rfl) rfl ?_ ?_
      ·go_simp
      refine hK.out _ _ ((blk_cell (blk_alloc HS.out.G8 _) 6).trans rfl) (fun hHeld => ?_)
      clear hK K
      refine nm_ (some 94) ?_
      refine on_ HT_ 7 (some 95) (fun K hK => ?_)
      have CT := Aside0.mk (C_two (heap_alloc_new w21 (.cells #[.int .i64 n, .int .i64 n2] 3)))
      replace HS := Aside0.mk (HS.out.below (below_alloc (Below.refl _ _) (.cells #[.int .i64 n, .int .i64 n2] 3)))
      refine Kd.R_append_rows_step (Kd.int .i64) (Rr := (Kd.int .i64).K (w21.alloc (.cells #[.int .i64 n, .int .i64 n2] 3))) (w0 := w) w.heap.size (by rfl) (.tmp 89) (.tmp 94) 23 3 (.int .i64 0) 8 rfl Try.underlying23 info3 rfl (by decide) (by decide) (.slice A6 Q.length c6) Q [n, n2] (some ⟨w21.heap.size, 0, none⟩) 2 2 (fun k_ => True ∧ some k_ ≠ (Value.slice A4 C'.length c4).ownBlock) (fun _ => False) rfl rfl HS.out.O6 CT.out (fun _ _ h_ => h_) (fun _ h_ => h_.elim) ?aF HS.out.B (below_size HS.out.B) ?aL ?_
      (case aF => exact HS.out.fresh6)
      (case aL => (have := HLR.out; omega))
      clear CT
      intro v8 w7 ho hb hg hat
      have HG := HS.out.grow6 (.inl rfl) ho hb hg
      obtain ⟨P2, hP2⟩ : ∃ x, Q ++ [n, n2] = x := ⟨_, rfl⟩
      rw [hP2] at ho HG
      obtain ⟨A8, c8, rfl⟩ := Kd.R_slice ho
      have p6 := (blk_cell HG.1 6).trans rfl
      have z6 := blk_frozen HG.1 6
      replace HG := Aside0.mk HG.2
      have HR7 : Aside0 (P2 ++ T2 = R') := ⟨by rw [← hP2, List.append_assoc]; exact HR.out⟩
      have HLR7 : Aside0 (P2.length = 2 * (i + 1)) := ⟨by rw [← hP2, List.length_append, HLR.out]; show 2 * i + 2 = 2 * (i + 1); omega⟩
      clear ho hb hg hat hP2
      refine hK.out _ _ p6 (fun hHeld => ?_)
      clear hK K
      refine nm_ (some 95) ?_
      refine pu_ HT_ 8 (some 96) ?_
      refine last_ (i := 9) (N := none) #[true, true, true, true, true, true, true, true, true, true] rfl rfl (one_of HT_.out (by kernel_rfl)) (by decide) (fun K hK => ?_)
      refine skip_ (w1 := w7.setCell ⟨g8, 6, none⟩ (.slice A8 P2.length c8)) (by rfl) rfl ?_ ?_
      ·go_simp
      refine hK.out _ _ ?_
      clear hK K p6 z6 hHeld
      refine done_ (done_of HT_.out (by kernel_rfl)) ?_
      clear HT_ HW_ HS
      have HS := HG
      clear HG
      generalize w7.setCell ⟨g8, 6, none⟩ (.slice A8 P2.length c8) = U at HS ⊢
      go_wp2
      go_roundg k2
      case measure => omega
      case rel => exact ⟨i + 1, tc, ec, _, _, _, _, _, _, S2, T2, int_eq (by omega), by omega, ⟨by have := HK2.out; omega⟩, HS, HM, HQ7, HR7, HL7, HLR7⟩
     ·obtain ⟨rfl, rfl, rfl, rfl⟩ := dF_err he HM.out
      have hb : (e_ != 0) = true := by simp [he]
      have hq := HQ.out
      have hq2 := HR.out
      rw [List.append_nil] at hq hq2
      subst hq
      subst hq2
      go_wp2
      go_meet
      case rel => exact ⟨_, _, _, _, HS⟩
   ·have hid : decide ((i : Int) < m7) = false := decide_eq_false (by omega)
    obtain rfl : gk = 0 := by have := HK2.out; omega
    have hS := HM.out
    unfold dF at hS
    simp only [Option.some.injEq, Prod.mk.injEq] at hS
    obtain ⟨rfl, rfl, rfl, rfl⟩ := hS
    have hq := HQ.out
    have hq2 := HR.out
    rw [List.append_nil] at hq hq2
    subst hq
    subst hq2
    go_wp2
    go_meet
    case rel => exact ⟨_, _, _, _, HS⟩
 case rest =>
 clear HS H7 H8
 obtain ⟨A5, c5, A6, c6, HS⟩ := hcut
 obtain ⟨q0, q1, q2⟩ := bc3 HS.out.G7
 by_cases he : e8 = 0
 ·subst he
  have hh := H9.out
  rw [if_pos rfl] at hh
  obtain ⟨ok, hok, hh⟩ := Option.bind_eq_some_iff.mp hh
  have HV := Aside0.mk hok
  obtain ⟨p0, p1, p2, p3, p4, p5, p6⟩ := bc7 HS.out.G8
  clear hok H9
  cases ok with
  | false =>
   rw [if_neg (by decide)] at hh
   simp only [Option.some.injEq, Prod.mk.injEq] at hh
   obtain ⟨rfl, rfl, rfl, rfl, rfl, rfl, rfl, rfl, rfl⟩ := hh
   go_upto_region 27 with (go_at_call 20; refine (un8 (sketch_Valid.calls k m1 m2 _ _ _ _ _ _ _ _ _ _ _ _ _ false _) HS.out.sk HV.out).mono ?_; rintro x w9 ⟨rfl, hb⟩; replace HS := Aside0.mk (HS.out.below hb); clear hb p0 p1 p2 p3 p4 p5 p6 q0 q1 q2)
   obtain ⟨f0, f1, f2, f3, f4, f5, f6, z0, z1, z2, z3, z4, z5, z6⟩ := bf7 HS.out.G4
   go_wp2
   refine ret7_ (p := fun W => bodyPost _ _ _ _ _ W) HS.out.G4 HS.out.B hg4 (.int .i64 0) (.int .i64 0) (.slice none 0 0) (.bool false) (.slice none 0 0) (.slice none 0 0) (.slice none 0 0) (fun W hW d0 d1 d2 d3 d4 d5 d6 rB => ?_)
   exact bodyPost_ret (v := .tuple #[.agg #[.int .i64 0, .int .i64 0, .slice none 0 0, .bool false, .slice none 0 0, .slice none 0 0, .slice none 0 0], .int .i64 0, .int .i64 4]) (by simp [results, Try.results15, go_sem, d0, d1, d2, d3, d4, d5, d6]) rfl ⟨none, 0, none, 0, none, 0, none, 0, rfl, SK_nil _, rB⟩
  | true =>
   rw [if_pos rfl] at hh
   simp only [Option.some.injEq, Prod.mk.injEq] at hh
   obtain ⟨rfl, rfl, rfl, rfl, rfl, rfl, rfl, rfl, rfl⟩ := hh
   go_upto_region 28 with (go_at_call 20; refine (un8 (sketch_Valid.calls k m1 m2 _ _ _ _ _ _ _ _ _ _ _ _ _ true _) HS.out.sk HV.out).mono ?_; rintro x w9 ⟨rfl, hb⟩; replace HS := Aside0.mk (HS.out.below hb); clear hb p0 p1 p2 p3 p4 p5 p6 q0 q1 q2)
   replace HS := Aside0.mk (HS.out.below (below_drew1 (Below.refl _ _)))
   refine start_ (n := 8) (S := fun W => sk7 g8 m1 m2 A2 c2 M' b' A4 c4 C' A5 c5 F' A6 c6 R' W (W.cell? ⟨g7, 1, none⟩ = some (.int .i64 t8) ∧ True)) (ds := []) #[false, false, false, false, false, false, false, false] (by kernel_rfl) rfl rfl (sk7_of HS.out.G8 ⟨(blk_cell HS.out.G7 1).trans rfl, trivial⟩) (fun hHeld => ?_)
   refine with_tabW f15_tab28 f15_bits28 (fun HT_ HW_ => ?_)
   generalize World.drew _ = wd at HS hHeld ⊢
   refine tk_ HT_ HW_ 0 (some 112) hHeld ?_
   refine pu_ HT_ 1 (some 113) ?_
   refine pu_ HT_ 2 (some 114) ?_
   refine pu_ HT_ 3 (some 115) ?_
   refine tk_ HT_ HW_ 4 (some 116) hHeld ?_
   obtain ⟨f0, f1, f2, f3, f4, f5, f6, z0, z1, z2, z3, z4, z5, z6⟩ := bf7 HS.out.G4
   refine st_ HT_ 5 (put7 wd g4 (.int .i64 m1) (.int .i64 m2) (.slice A2 M'.length c2) (.bool b') (.slice A4 C'.length c4) (.slice A5 F'.length c5) (.slice A6 R'.length c6)) ?_ (sk7_of (HS.out.res8 (.int .i64 m1) (.int .i64 m2) (.slice A2 M'.length c2) (.bool b') (.slice A4 C'.length c4) (.slice A5 F'.length c5) (.slice A6 R'.length c6)) ⟨(blk_cell (HS.out.res7 _ _ _ _ _ _ _) 1).trans rfl, trivial⟩) (fun hHeld => ?_)
   ·unfold put7
    go_simp
   clear f0 f1 f2 f3 f4 f5 f6 z0 z1 z2 z3 z4 z5 z6
   refine pu_ HT_ 6 (some 5) ?_
   refine pu_ HT_ 7 (some 6) ?_
   refine done_ (done_of HT_.out (by kernel_rfl)) ?_
   clear HT_ HW_ hHeld
   unfold put7
   go_wp2
   refine ret7_ (p := fun W => bodyPost _ _ _ _ _ W) HS.out.G4 HS.out.B hg4 (.int .i64 m1) (.int .i64 m2) (.slice A2 M'.length c2) (.bool b') (.slice A4 C'.length c4) (.slice A5 F'.length c5) (.slice A6 R'.length c6) (fun W hW d0 d1 d2 d3 d4 d5 d6 rB => ?_)
   exact bodyPost_ret (v := .tuple #[.agg #[.int .i64 m1, .int .i64 m2, .slice A2 M'.length c2, .bool b', .slice A4 C'.length c4, .slice A5 F'.length c5, .slice A6 R'.length c6], .int .i64 t8, .int .i64 0]) (by simp [results, Try.results15, go_sem, d0, d1, d2, d3, d4, d5, d6]) rfl ⟨A2, c2, A4, c4, A5, c5, A6, c6, rfl, by rw [hW]; exact HS.out.done _ _ _ _ _ _ _, rB⟩
 ·have hh := H9.out
  rw [if_neg he] at hh
  simp only [Option.some.injEq, Prod.mk.injEq] at hh
  obtain ⟨rfl, rfl, rfl, rfl, rfl, rfl, rfl, rfl, rfl⟩ := hh
  have hb : (e8 != 0) = true := by simp [he]
  go_upto_region 25 with (fail)
  replace HS := Aside0.mk (HS.out.below (below_drew1 (Below.refl _ _)))
  refine start_ (n := 8) (S := fun W => W.cell? ⟨g7, 2, none⟩ = some (.int .i64 e8)) (ds := []) #[false, false, false, false, false, false, false, false] (by kernel_rfl) rfl rfl ((blk_cell HS.out.G7 2).trans rfl) (fun hHeld => ?_)
  refine with_tabW f15_tab25 f15_bits25 (fun HT_ HW_ => ?_)
  generalize World.drew _ = wd at HS hHeld ⊢
  refine pu_ HT_ 0 (some 103) ?_
  refine pu_ HT_ 1 (some 104) ?_
  refine pu_ HT_ 2 (some 105) ?_
  refine pu_ HT_ 3 (some 106) ?_
  refine tk_ HT_ HW_ 4 (some 107) hHeld ?_
  obtain ⟨f0, f1, f2, f3, f4, f5, f6, z0, z1, z2, z3, z4, z5, z6⟩ := bf7 HS.out.G4
  refine st_ HT_ 5 (put7 wd g4 (.int .i64 0) (.int .i64 0) (.slice none 0 0) (.bool false) (.slice none 0 0) (.slice none 0 0) (.slice none 0 0)) ?_ ((blk_cell (HS.out.res7 (.int .i64 0) (.int .i64 0) (.slice none 0 0) (.bool false) (.slice none 0 0) (.slice none 0 0) (.slice none 0 0)) 2).trans rfl) (fun hHeld => ?_)
  ·unfold put7
   go_simp
  clear f0 f1 f2 f3 f4 f5 f6 z0 z1 z2 z3 z4 z5 z6
  refine pu_ HT_ 6 (some 5) ?_
  refine pu_ HT_ 7 (some 6) ?_
  refine done_ (done_of HT_.out (by kernel_rfl)) ?_
  clear HT_ HW_ hHeld
  unfold put7
  go_wp2
  refine ret7_ (p := fun W => bodyPost _ _ _ _ _ W) HS.out.G4 HS.out.B hg4 (.int .i64 0) (.int .i64 0) (.slice none 0 0) (.bool false) (.slice none 0 0) (.slice none 0 0) (.slice none 0 0) (fun W hW d0 d1 d2 d3 d4 d5 d6 rB => ?_)
  exact bodyPost_ret (v := .tuple #[.agg #[.int .i64 0, .int .i64 0, .slice none 0 0, .bool false, .slice none 0 0, .slice none 0 0, .slice none 0 0], .int .i64 0, .int .i64 e8]) (by simp [results, Try.results15, go_sem, d0, d1, d2, d3, d4, d5, d6]) rfl ⟨none, 0, none, 0, none, 0, none, 0, rfl, SK_nil _, rB⟩
end Go.Proofs.Ytackcingpffidaa.P
namespace Go.Proofs.Ytackcingpffidaa.P
open Go.RowKit Go.Proofs.YtackcingpffidaaW.PrintWords Go.Proofs.YtackcingpffidaaW.PrintLast Go.Proofs.YtackcingpffidaaW.PrintMore
attribute [local go_sem high] eqA39
set_option linter.unusedVariables false
set_option linter.unusedSimpArgs false
def f16_T6 : Bool × List (List Nat × List Nat) := (true, [([], []), ([0], [0]), ([], []), ([1, 2], [1, 2]), ([3], [3]), ([], []), ([5], [5]), ([], []), ([6, 7], [6, 7]), ([8], [8]), ([4, 9], [4, 9])])
def f16_B6 : List Nat := [0, 1, 0, 7, 15, 0, 32, 0, 224, 480, 1023]
set_option maxRecDepth 100000 in
theorem f16_tab6 : rtab .any (opsOf Try.f16 6) = f16_T6 := by kernel_rfl
theorem f16_bits6 : waitsOk f16_T6.2 f16_B6 = true := by kernel_rfl
def f16_T11 : Bool × List (List Nat × List Nat) := (true, [([], []), ([0], [0]), ([], []), ([1, 2], [1, 2]), ([3], [3]), ([], []), ([5], [5]), ([], []), ([6, 7], [6, 7]), ([8], [8]), ([4, 9], [4, 9])])
def f16_B11 : List Nat := [0, 1, 0, 7, 15, 0, 32, 0, 224, 480, 1023]
set_option maxRecDepth 100000 in
theorem f16_tab11 : rtab .any (opsOf Try.f16 11) = f16_T11 := by kernel_rfl
theorem f16_bits11 : waitsOk f16_T11.2 f16_B11 = true := by kernel_rfl
def f16_T16 : Bool × List (List Nat × List Nat) := (true, [([], []), ([0], [0]), ([], []), ([1, 2], [1, 2]), ([3], [3]), ([], []), ([5], [5]), ([], []), ([6, 7], [6, 7]), ([8], [8]), ([4, 9], [4, 9])])
def f16_B16 : List Nat := [0, 1, 0, 7, 15, 0, 32, 0, 224, 480, 1023]
set_option maxRecDepth 100000 in
theorem f16_tab16 : rtab .any (opsOf Try.f16 16) = f16_T16 := by kernel_rfl
theorem f16_bits16 : waitsOk f16_T16.2 f16_B16 = true := by kernel_rfl
def f16_T21 : Bool × List (List Nat × List Nat) := (true, [([], []), ([0], [0]), ([], []), ([1, 2], [1, 2]), ([3], [3]), ([], []), ([5], [5]), ([], []), ([6, 7], [6, 7]), ([8], [8]), ([4, 9], [4, 9])])
def f16_B21 : List Nat := [0, 1, 0, 7, 15, 0, 32, 0, 224, 480, 1023]
set_option maxRecDepth 100000 in
theorem f16_tab21 : rtab .any (opsOf Try.f16 21) = f16_T21 := by kernel_rfl
theorem f16_bits21 : waitsOk f16_T21.2 f16_B21 = true := by kernel_rfl
set_option maxHeartbeats 8000000 in
set_option maxRecDepth 100000 in
theorem eqSK_calls (a0 a1 : Int) (b3 : Bool) (A2 : Option Addr) (c2 : Nat) (l2 : List Int) (A4 : Option Addr) (c4 : Nat) (l4 : List Int) (A5 : Option Addr) (c5 : Nat) (l5 : List S39) (A6 : Option Addr) (c6 : Nat) (l6 : List Int) (B2 : Option Addr) (d2 : Nat) (B4 : Option Addr) (d4 : Nat) (B5 : Option Addr) (d5 : Nat) (B6 : Option Addr) (d6 : Nat) (w : World) (ha : SK w A2 c2 l2 A4 c4 l4 A5 c5 l5 A6 c6 l6) (hb : SK w B2 d2 l2 B4 d4 l4 B5 d5 l5 B6 d6 l6) :
  Calls Try.prog 16 #[.agg #[.int .i64 a0, .int .i64 a1, .slice A2 l2.length c2, .bool b3, .slice A4 l4.length c4, .slice A5 l5.length c5, .slice A6 l6.length c6], .agg #[.int .i64 a0, .int .i64 a1, .slice B2 l2.length d2, .bool b3, .slice B4 l4.length d4, .slice B5 l5.length d5, .slice B6 l6.length d6]] w fun e w' => e = .returned (.bool true) ∧ Below w.heap.size w w' := by
 have HA := Aside0.mk ha
 have HB := Aside0.mk hb
 clear ha hb
 go_enter Try.func16, Try.ntmps16
 go_upto_region 1 with (first | (refine box_ 2 (cs := #[.int .i64 a0, .int .i64 a1, .slice A2 l2.length c2, .bool b3, .slice A4 l4.length c4, .slice A5 l5.length c5, .slice A6 l6.length c6]) (t := 26) (fun g2 hg_ w1 BK2 HB1 => ?_); clear hg_; replace BK2 := Aside0.mk BK2; replace HB1 := Aside0.mk HB1) | (refine box_ 3 (cs := #[.int .i64 a0, .int .i64 a1, .slice B2 l2.length d2, .bool b3, .slice B4 l4.length d4, .slice B5 l5.length d5, .slice B6 l6.length d6]) (t := 26) (fun g3 hg_ V BK3 hb => ?_); clear hg_; replace BK2 := Aside0.mk (blk_below BK2.out hb); replace BK3 := Aside0.mk BK3; replace HB1 := Aside0.mk (HB1.out.trans (hb.mono (below_size HB1.out))); clear hb))
 have HS : Aside0 (∀ W, Below V.heap.size V W → sk7 g2 a0 a1 A2 c2 l2 b3 A4 c4 l4 A5 c5 l5 A6 c6 l6 W (sk7 g3 a0 a1 B2 d2 l2 b3 B4 d4 l4 B5 d5 l5 B6 d6 l6 W (True))) := ⟨fun W hb => sk7_of (blk_below BK2.out hb) (sk7_of (blk_below BK3.out hb) trivial)⟩
 have HBV := HB1
 clear BK2 BK3 HB1
 have HY := Aside0.mk (Below.refl V.heap.size V)
 obtain ⟨t0, t1, t2, t3, t4, t5, t6, u0, u1, u2, u3, u4, u5, u6, _⟩ := HS.out V HY.out
 have q0 : (a0 != a0) = false := by simp
 have q1 : (a1 != a1) = false := by simp
 have q2 : (b3 != b3) = false := by simp
 have q3 : ((l2.length : Int) != (l2.length : Int)) = false := by simp
 have q4 : ((l4.length : Int) != (l4.length : Int)) = false := by simp
 have q5 : ((l5.length : Int) != (l5.length : Int)) = false := by simp
 have q6 : ((l6.length : Int) != (l6.length : Int)) = false := by simp
 go_upto_region 3 with (fail)
 clear q0 q1 q2 q3 q4 q5 q6 t0 t1 t2 t3 t4 t5 t6 u0 u1 u2 u3 u4 u5 u6
 obtain ⟨t0, t1, t2, t3, t4, t5, t6, u0, u1, u2, u3, u4, u5, u6, _⟩ := HS.out _ HY.out
 go_upto_block 0 with (fail)
 clear t0 t1 t2 t3 t4 t5 t6 u0 u1 u2 u3 u4 u5 u6
 go_cut [5] (fun v5 W => Aside0 (Below V.heap.size V W))
 case first =>
  go_wp2
  go_loopg [5] l2.length (fun kq v5 W => ∃ i : Nat, v5 = .int .i64 i ∧ i ≤ l2.length ∧ Aside0 (kq + i = l2.length) ∧ Aside0 (Below V.heap.size V W))
  case atStart => exact ⟨0, rfl, Nat.zero_le _, ⟨rfl⟩, HY⟩
  case round =>
   clear HY
   obtain ⟨i, rfl, hi, HK2, HY⟩ := hrel
   have hL : l2.length ≤ 9223372036854775807 := HA.out.r2.2.1
   by_cases hr : i < l2.length
   ·cases gk with
    | zero => exact absurd HK2.out (by omega)
    | succ k2 =>
     obtain ⟨ad, rfl, hx0⟩ := Kd.at_int HA.out.r2 (i : Int) (by omega) (by omega)
     obtain ⟨bd, rfl, hy0⟩ := Kd.at_int HB.out.r2 (i : Int) (by omega) (by omega)
     rw [Int.toNat_natCast] at hx0 hy0
     obtain ⟨x, hx⟩ : ∃ x, rd l2 (i : Int) = x := ⟨_, rfl⟩
     rw [hx] at hx0 hy0
     have q0 : (x != x) = false := by simp
     have HSX : Aside0 (∀ W, Below V.heap.size V W → sk7 g2 a0 a1 (some ad) c2 l2 b3 A4 c4 l4 A5 c5 l5 A6 c6 l6 W (sk7 g3 a0 a1 (some bd) d2 l2 b3 B4 d4 l4 B5 d5 l5 B6 d6 l6 W (W.cell? (ad.add i) = some (.int .u64 x) ∧ W.cell? (bd.add i) = some (.int .u64 x)))) := ⟨fun W hb => by
      obtain ⟨t0, t1, t2, t3, t4, t5, t6, u0, u1, u2, u3, u4, u5, u6, _⟩ := HS.out W hb
      have hbw := HBV.out.trans (hb.mono (below_size HBV.out))
      exact ⟨t0, t1, t2, t3, t4, t5, t6, u0, u1, u2, u3, u4, u5, u6, up_ hbw hx0, up_ hbw hy0⟩⟩
     have hid : decide ((i : Int) < l2.length) = true := decide_eq_true (by omega)
     have hid2 : decide ((l2.length : Int) ≤ i) = false := decide_eq_false (by omega)
     have hwi : IntKind.i64.wrap ((i : Int) + 1) = ((i + 1 : Nat) : Int) := by rw [i64_w]; unfold wrap64; omega
     clear hx hx0 hy0
     obtain ⟨t0, t1, t2, t3, t4, t5, t6, u0, u1, u2, u3, u4, u5, u6, _⟩ := HS.out _ HY.out
     go_upto_region 6 with (fail)
     clear t0 t1 t2 t3 t4 t5 t6 u0 u1 u2 u3 u4 u5 u6
     replace HY := Aside0.mk (below_drew1 HY.out)
     refine start_ (n := 11) (S := fun W => sk7 g2 a0 a1 (some ad) c2 l2 b3 A4 c4 l4 A5 c5 l5 A6 c6 l6 W (sk7 g3 a0 a1 (some bd) d2 l2 b3 B4 d4 l4 B5 d5 l5 B6 d6 l6 W (W.cell? (ad.add i) = some (.int .u64 x) ∧ W.cell? (bd.add i) = some (.int .u64 x)))) (ds := []) #[false, false, false, false, false, false, false, false, false, false, false] (by kernel_rfl) rfl rfl (HSX.out _ HY.out) (fun hHeld => ?_)
     refine with_tabW f16_tab6 f16_bits6 (fun HT_ HW_ => ?_)
     generalize wr.drew = wd at HY hHeld ⊢
     refine pu_ HT_ 0 (some 71) ?_
     refine tk_ HT_ HW_ 1 (some 72) hHeld ?_
     refine pu_ HT_ 2 (some 73) ?_
     refine tk_ HT_ HW_ 3 (some 74) hHeld ?_
     refine tk_ HT_ HW_ 4 (some 75) hHeld ?_
     refine pu_ HT_ 5 (some 76) ?_
     refine tk_ HT_ HW_ 6 (some 77) hHeld ?_
     refine pu_ HT_ 7 (some 78) ?_
     refine tk_ HT_ HW_ 8 (some 79) hHeld ?_
     refine tk_ HT_ HW_ 9 (some 80) hHeld ?_
     refine pu_ HT_ 10 (some 81) ?_
     refine done_ (done_of HT_.out (by kernel_rfl)) ?_
     clear HT_ HW_ hHeld
     go_wp2
     go_roundg k2
     case measure => omega
     case rel => exact ⟨i + 1, int_eq (by omega), by omega, ⟨by have := HK2.out; omega⟩, HY⟩
   ·obtain rfl : i = l2.length := by omega
    have hid : decide ((l2.length : Int) < l2.length) = false := decide_eq_false (by omega)
    obtain ⟨t0, t1, t2, t3, t4, t5, t6, u0, u1, u2, u3, u4, u5, u6, _⟩ := HS.out _ HY.out
    go_wp2
    go_meet
    case rel => exact HY
 case rest =>
 clear HY
 have HY := hcut
 clear hcut
 obtain ⟨t0, t1, t2, t3, t4, t5, t6, u0, u1, u2, u3, u4, u5, u6, _⟩ := HS.out _ HY.out
 go_upto_block 2 with (fail)
 clear t0 t1 t2 t3 t4 t5 t6 u0 u1 u2 u3 u4 u5 u6
 go_cut [6] (fun v6 W => Aside0 (Below V.heap.size V W))
 case first =>
  go_wp2
  go_loopg [6] l4.length (fun kq v6 W => ∃ i : Nat, v6 = .int .i64 i ∧ i ≤ l4.length ∧ Aside0 (kq + i = l4.length) ∧ Aside0 (Below V.heap.size V W))
  case atStart => exact ⟨0, rfl, Nat.zero_le _, ⟨rfl⟩, HY⟩
  case round =>
   clear HY
   obtain ⟨i, rfl, hi, HK2, HY⟩ := hrel
   have hL : l4.length ≤ 9223372036854775807 := HA.out.r4.2.1
   by_cases hr : i < l4.length
   ·cases gk with
    | zero => exact absurd HK2.out (by omega)
    | succ k2 =>
     obtain ⟨ad, rfl, hx0⟩ := Kd.at_int HA.out.r4 (i : Int) (by omega) (by omega)
     obtain ⟨bd, rfl, hy0⟩ := Kd.at_int HB.out.r4 (i : Int) (by omega) (by omega)
     rw [Int.toNat_natCast] at hx0 hy0
     obtain ⟨x, hx⟩ : ∃ x, rd l4 (i : Int) = x := ⟨_, rfl⟩
     rw [hx] at hx0 hy0
     have q0 : (x != x) = false := by simp
     have HSX : Aside0 (∀ W, Below V.heap.size V W → sk7 g2 a0 a1 A2 c2 l2 b3 (some ad) c4 l4 A5 c5 l5 A6 c6 l6 W (sk7 g3 a0 a1 B2 d2 l2 b3 (some bd) d4 l4 B5 d5 l5 B6 d6 l6 W (W.cell? (ad.add i) = some (.int .i64 x) ∧ W.cell? (bd.add i) = some (.int .i64 x)))) := ⟨fun W hb => by
      obtain ⟨t0, t1, t2, t3, t4, t5, t6, u0, u1, u2, u3, u4, u5, u6, _⟩ := HS.out W hb
      have hbw := HBV.out.trans (hb.mono (below_size HBV.out))
      exact ⟨t0, t1, t2, t3, t4, t5, t6, u0, u1, u2, u3, u4, u5, u6, up_ hbw hx0, up_ hbw hy0⟩⟩
     have hid : decide ((i : Int) < l4.length) = true := decide_eq_true (by omega)
     have hid2 : decide ((l4.length : Int) ≤ i) = false := decide_eq_false (by omega)
     have hwi : IntKind.i64.wrap ((i : Int) + 1) = ((i + 1 : Nat) : Int) := by rw [i64_w]; unfold wrap64; omega
     clear hx hx0 hy0
     obtain ⟨t0, t1, t2, t3, t4, t5, t6, u0, u1, u2, u3, u4, u5, u6, _⟩ := HS.out _ HY.out
     go_upto_region 11 with (fail)
     clear t0 t1 t2 t3 t4 t5 t6 u0 u1 u2 u3 u4 u5 u6
     replace HY := Aside0.mk (below_drew1 HY.out)
     refine start_ (n := 11) (S := fun W => sk7 g2 a0 a1 A2 c2 l2 b3 (some ad) c4 l4 A5 c5 l5 A6 c6 l6 W (sk7 g3 a0 a1 B2 d2 l2 b3 (some bd) d4 l4 B5 d5 l5 B6 d6 l6 W (W.cell? (ad.add i) = some (.int .i64 x) ∧ W.cell? (bd.add i) = some (.int .i64 x)))) (ds := []) #[false, false, false, false, false, false, false, false, false, false, false] (by kernel_rfl) rfl rfl (HSX.out _ HY.out) (fun hHeld => ?_)
     refine with_tabW f16_tab11 f16_bits11 (fun HT_ HW_ => ?_)
     generalize wr.drew = wd at HY hHeld ⊢
     refine pu_ HT_ 0 (some 89) ?_
     refine tk_ HT_ HW_ 1 (some 90) hHeld ?_
     refine pu_ HT_ 2 (some 91) ?_
     refine tk_ HT_ HW_ 3 (some 92) hHeld ?_
     refine tk_ HT_ HW_ 4 (some 93) hHeld ?_
     refine pu_ HT_ 5 (some 94) ?_
     refine tk_ HT_ HW_ 6 (some 95) hHeld ?_
     refine pu_ HT_ 7 (some 96) ?_
     refine tk_ HT_ HW_ 8 (some 97) hHeld ?_
     refine tk_ HT_ HW_ 9 (some 98) hHeld ?_
     refine pu_ HT_ 10 (some 99) ?_
     refine done_ (done_of HT_.out (by kernel_rfl)) ?_
     clear HT_ HW_ hHeld
     go_wp2
     go_roundg k2
     case measure => omega
     case rel => exact ⟨i + 1, int_eq (by omega), by omega, ⟨by have := HK2.out; omega⟩, HY⟩
   ·obtain rfl : i = l4.length := by omega
    have hid : decide ((l4.length : Int) < l4.length) = false := decide_eq_false (by omega)
    obtain ⟨t0, t1, t2, t3, t4, t5, t6, u0, u1, u2, u3, u4, u5, u6, _⟩ := HS.out _ HY.out
    go_wp2
    go_meet
    case rel => exact HY
 case rest =>
 clear HY
 have HY := hcut
 clear hcut
 obtain ⟨t0, t1, t2, t3, t4, t5, t6, u0, u1, u2, u3, u4, u5, u6, _⟩ := HS.out _ HY.out
 go_upto_block 4 with (fail)
 clear t0 t1 t2 t3 t4 t5 t6 u0 u1 u2 u3 u4 u5 u6
 go_cut [7] (fun v7 W => Aside0 (Below V.heap.size V W))
 case first =>
  go_wp2
  go_loopg [7] l5.length (fun kq v7 W => ∃ i : Nat, v7 = .int .i64 i ∧ i ≤ l5.length ∧ Aside0 (kq + i = l5.length) ∧ Aside0 (Below V.heap.size V W))
  case atStart => exact ⟨0, rfl, Nat.zero_le _, ⟨rfl⟩, HY⟩
  case round =>
   clear HY
   obtain ⟨i, rfl, hi, HK2, HY⟩ := hrel
   have hL : l5.length ≤ 9223372036854775807 := HA.out.r5.2.1
   by_cases hr : i < l5.length
   ·cases gk with
    | zero => exact absurd HK2.out (by omega)
    | succ k2 =>
     obtain ⟨ad, rfl, hx0, hx1, hx2⟩ := at_T39 HA.out.r5 (i : Int) (by omega) (by omega)
     obtain ⟨bd, rfl, hy0, hy1, hy2⟩ := at_T39 HB.out.r5 (i : Int) (by omega) (by omega)
     rw [Int.toNat_natCast] at hx0 hx1 hx2 hy0 hy1 hy2
     obtain ⟨x, hx⟩ : ∃ x, rd_T39 l5 (i : Int) = x := ⟨_, rfl⟩
     rw [hx] at hx0 hx1 hx2 hy0 hy1 hy2
     have q0 : (x.f0 == x.f0) = true := by simp
     have q1 : (x.f1 == x.f1) = true := by simp
     have q2 : (x.f2.toList == x.f2.toList) = true := by simp
     have HSX : Aside0 (∀ W, Below V.heap.size V W → sk7 g2 a0 a1 A2 c2 l2 b3 A4 c4 l4 (some ad) c5 l5 A6 c6 l6 W (sk7 g3 a0 a1 B2 d2 l2 b3 B4 d4 l4 (some bd) d5 l5 B6 d6 l6 W (W.cell? (ad.add (i * 3)) = some (.int .i64 x.f0) ∧ W.cell? ⟨(ad.add (i * 3)).block, (ad.add (i * 3)).off + 1, none⟩ = some (.int .i64 x.f1) ∧ W.cell? ⟨(ad.add (i * 3)).block, (ad.add (i * 3)).off + 2, none⟩ = some (.string x.f2) ∧ W.cell? (bd.add (i * 3)) = some (.int .i64 x.f0) ∧ W.cell? ⟨(bd.add (i * 3)).block, (bd.add (i * 3)).off + 1, none⟩ = some (.int .i64 x.f1) ∧ W.cell? ⟨(bd.add (i * 3)).block, (bd.add (i * 3)).off + 2, none⟩ = some (.string x.f2)))) := ⟨fun W hb => by
      obtain ⟨t0, t1, t2, t3, t4, t5, t6, u0, u1, u2, u3, u4, u5, u6, _⟩ := HS.out W hb
      have hbw := HBV.out.trans (hb.mono (below_size HBV.out))
      exact ⟨t0, t1, t2, t3, t4, t5, t6, u0, u1, u2, u3, u4, u5, u6, up_ hbw hx0, up_ hbw hx1, up_ hbw hx2, up_ hbw hy0, up_ hbw hy1, up_ hbw hy2⟩⟩
     have hid : decide ((i : Int) < l5.length) = true := decide_eq_true (by omega)
     have hid2 : decide ((l5.length : Int) ≤ i) = false := decide_eq_false (by omega)
     have hwi : IntKind.i64.wrap ((i : Int) + 1) = ((i + 1 : Nat) : Int) := by rw [i64_w]; unfold wrap64; omega
     clear hx hx0 hx1 hx2 hy0 hy1 hy2
     obtain ⟨t0, t1, t2, t3, t4, t5, t6, u0, u1, u2, u3, u4, u5, u6, _⟩ := HS.out _ HY.out
     go_upto_region 16 with (fail)
     clear t0 t1 t2 t3 t4 t5 t6 u0 u1 u2 u3 u4 u5 u6
     replace HY := Aside0.mk (below_drew1 HY.out)
     refine start_ (n := 11) (S := fun W => sk7 g2 a0 a1 A2 c2 l2 b3 A4 c4 l4 (some ad) c5 l5 A6 c6 l6 W (sk7 g3 a0 a1 B2 d2 l2 b3 B4 d4 l4 (some bd) d5 l5 B6 d6 l6 W (W.cell? (ad.add (i * 3)) = some (.int .i64 x.f0) ∧ W.cell? ⟨(ad.add (i * 3)).block, (ad.add (i * 3)).off + 1, none⟩ = some (.int .i64 x.f1) ∧ W.cell? ⟨(ad.add (i * 3)).block, (ad.add (i * 3)).off + 2, none⟩ = some (.string x.f2) ∧ W.cell? (bd.add (i * 3)) = some (.int .i64 x.f0) ∧ W.cell? ⟨(bd.add (i * 3)).block, (bd.add (i * 3)).off + 1, none⟩ = some (.int .i64 x.f1) ∧ W.cell? ⟨(bd.add (i * 3)).block, (bd.add (i * 3)).off + 2, none⟩ = some (.string x.f2)))) (ds := []) #[false, false, false, false, false, false, false, false, false, false, false] (by kernel_rfl) rfl rfl (HSX.out _ HY.out) (fun hHeld => ?_)
     refine with_tabW f16_tab16 f16_bits16 (fun HT_ HW_ => ?_)
     generalize wr.drew = wd at HY hHeld ⊢
     refine pu_ HT_ 0 (some 107) ?_
     refine tk_ HT_ HW_ 1 (some 108) hHeld ?_
     refine pu_ HT_ 2 (some 109) ?_
     refine tk_ HT_ HW_ 3 (some 110) hHeld ?_
     refine tk_ HT_ HW_ 4 (some 111) hHeld ?_
     refine pu_ HT_ 5 (some 112) ?_
     refine tk_ HT_ HW_ 6 (some 113) hHeld ?_
     refine pu_ HT_ 7 (some 114) ?_
     refine tk_ HT_ HW_ 8 (some 115) hHeld ?_
     refine tk_ HT_ HW_ 9 (some 116) hHeld ?_
     refine pu_ HT_ 10 (some 117) ?_
     refine done_ (done_of HT_.out (by kernel_rfl)) ?_
     clear HT_ HW_ hHeld
     go_wp2
     go_roundg k2
     case measure => omega
     case rel => exact ⟨i + 1, int_eq (by omega), by omega, ⟨by have := HK2.out; omega⟩, HY⟩
   ·obtain rfl : i = l5.length := by omega
    have hid : decide ((l5.length : Int) < l5.length) = false := decide_eq_false (by omega)
    obtain ⟨t0, t1, t2, t3, t4, t5, t6, u0, u1, u2, u3, u4, u5, u6, _⟩ := HS.out _ HY.out
    go_wp2
    go_meet
    case rel => exact HY
 case rest =>
 clear HY
 have HY := hcut
 clear hcut
 obtain ⟨t0, t1, t2, t3, t4, t5, t6, u0, u1, u2, u3, u4, u5, u6, _⟩ := HS.out _ HY.out
 go_upto_block 6 with (fail)
 clear t0 t1 t2 t3 t4 t5 t6 u0 u1 u2 u3 u4 u5 u6
 go_cut [8] (fun v8 W => Aside0 (Below V.heap.size V W))
 case first =>
  go_wp2
  go_loopg [8] l6.length (fun kq v8 W => ∃ i : Nat, v8 = .int .i64 i ∧ i ≤ l6.length ∧ Aside0 (kq + i = l6.length) ∧ Aside0 (Below V.heap.size V W))
  case atStart => exact ⟨0, rfl, Nat.zero_le _, ⟨rfl⟩, HY⟩
  case round =>
   clear HY
   obtain ⟨i, rfl, hi, HK2, HY⟩ := hrel
   have hL : l6.length ≤ 9223372036854775807 := HA.out.r6.2.1
   by_cases hr : i < l6.length
   ·cases gk with
    | zero => exact absurd HK2.out (by omega)
    | succ k2 =>
     obtain ⟨ad, rfl, hx0⟩ := Kd.at_int HA.out.r6 (i : Int) (by omega) (by omega)
     obtain ⟨bd, rfl, hy0⟩ := Kd.at_int HB.out.r6 (i : Int) (by omega) (by omega)
     rw [Int.toNat_natCast] at hx0 hy0
     obtain ⟨x, hx⟩ : ∃ x, rd l6 (i : Int) = x := ⟨_, rfl⟩
     rw [hx] at hx0 hy0
     have q0 : (x != x) = false := by simp
     have HSX : Aside0 (∀ W, Below V.heap.size V W → sk7 g2 a0 a1 A2 c2 l2 b3 A4 c4 l4 A5 c5 l5 (some ad) c6 l6 W (sk7 g3 a0 a1 B2 d2 l2 b3 B4 d4 l4 B5 d5 l5 (some bd) d6 l6 W (W.cell? (ad.add i) = some (.int .i64 x) ∧ W.cell? (bd.add i) = some (.int .i64 x)))) := ⟨fun W hb => by
      obtain ⟨t0, t1, t2, t3, t4, t5, t6, u0, u1, u2, u3, u4, u5, u6, _⟩ := HS.out W hb
      have hbw := HBV.out.trans (hb.mono (below_size HBV.out))
      exact ⟨t0, t1, t2, t3, t4, t5, t6, u0, u1, u2, u3, u4, u5, u6, up_ hbw hx0, up_ hbw hy0⟩⟩
     have hid : decide ((i : Int) < l6.length) = true := decide_eq_true (by omega)
     have hid2 : decide ((l6.length : Int) ≤ i) = false := decide_eq_false (by omega)
     have hwi : IntKind.i64.wrap ((i : Int) + 1) = ((i + 1 : Nat) : Int) := by rw [i64_w]; unfold wrap64; omega
     clear hx hx0 hy0
     obtain ⟨t0, t1, t2, t3, t4, t5, t6, u0, u1, u2, u3, u4, u5, u6, _⟩ := HS.out _ HY.out
     go_upto_region 21 with (fail)
     clear t0 t1 t2 t3 t4 t5 t6 u0 u1 u2 u3 u4 u5 u6
     replace HY := Aside0.mk (below_drew1 HY.out)
     refine start_ (n := 11) (S := fun W => sk7 g2 a0 a1 A2 c2 l2 b3 A4 c4 l4 A5 c5 l5 (some ad) c6 l6 W (sk7 g3 a0 a1 B2 d2 l2 b3 B4 d4 l4 B5 d5 l5 (some bd) d6 l6 W (W.cell? (ad.add i) = some (.int .i64 x) ∧ W.cell? (bd.add i) = some (.int .i64 x)))) (ds := []) #[false, false, false, false, false, false, false, false, false, false, false] (by kernel_rfl) rfl rfl (HSX.out _ HY.out) (fun hHeld => ?_)
     refine with_tabW f16_tab21 f16_bits21 (fun HT_ HW_ => ?_)
     generalize wr.drew = wd at HY hHeld ⊢
     refine pu_ HT_ 0 (some 125) ?_
     refine tk_ HT_ HW_ 1 (some 126) hHeld ?_
     refine pu_ HT_ 2 (some 127) ?_
     refine tk_ HT_ HW_ 3 (some 128) hHeld ?_
     refine tk_ HT_ HW_ 4 (some 129) hHeld ?_
     refine pu_ HT_ 5 (some 130) ?_
     refine tk_ HT_ HW_ 6 (some 131) hHeld ?_
     refine pu_ HT_ 7 (some 132) ?_
     refine tk_ HT_ HW_ 8 (some 133) hHeld ?_
     refine tk_ HT_ HW_ 9 (some 134) hHeld ?_
     refine pu_ HT_ 10 (some 135) ?_
     refine done_ (done_of HT_.out (by kernel_rfl)) ?_
     clear HT_ HW_ hHeld
     go_wp2
     go_roundg k2
     case measure => omega
     case rel => exact ⟨i + 1, int_eq (by omega), by omega, ⟨by have := HK2.out; omega⟩, HY⟩
   ·obtain rfl : i = l6.length := by omega
    have hid : decide ((l6.length : Int) < l6.length) = false := decide_eq_false (by omega)
    obtain ⟨t0, t1, t2, t3, t4, t5, t6, u0, u1, u2, u3, u4, u5, u6, _⟩ := HS.out _ HY.out
    go_wp2
    go_meet
    case rel => exact HY
 case rest =>
 clear HY
 have HY := hcut
 clear hcut
 go_wp2
 go_ret
 exact ⟨rfl, HBV.out.trans (HY.out.mono (below_size HBV.out))⟩
end Go.Proofs.Ytackcingpffidaa.P
