/- The law HistoryResolves returns true for every list of entries, branch and as-of clause that are read: for the row. Conditions: the hypotheses that stand at each theorem. -/
import Derived.Test.YtjeoabjccbinhaaB3a
import Derived.Test.YtjeoabjccbinhaaPx24
import Derived.Test.YtjeoabjccbinhaaReads
namespace Go.Proofs.Ytjeoabjccbinhaa.P
open Go.RowKit Go.Proofs.YtjeoabjccbinhaaW.PrintWords Go.Proofs.YtjeoabjccbinhaaW.PrintLast Go.Proofs.YtjeoabjccbinhaaW.PrintMore
set_option linter.unusedVariables false
set_option linter.unusedSimpArgs false
/-- What a name refers to, or the error of a name that is not there. -/
def refE (l : List S86) (s : ByteArray) : Int × Int := if hasS l s = true then (valS l s, 0) else (0, 8)
/-- The first of a chain that is old enough. -/
def timeE (l : List S41) (t : Int) : List Int → Int × Int
  | [] => (0, 15)
  | x :: xs => if (nodeI l x).f3 ≤ t then (x, 0) else timeE l t xs
/-- What an as-of clause selects; xs is the chain of the branch's head. -/
def resS (h : S27) (xs : List Int) (br : ByteArray) (k i : Int) (s : ByteArray) : Int × Int :=
  if k = 0 then refE h.f1 br else if k = 3 then refE h.f1 s else if k = 4 then refE h.f2 s
  else if k = 1 then (if hasI h.f0 i = true then (i, 0) else (0, 15))
  else if k = 2 then (if hasS h.f1 br = true then timeE h.f0 i xs else (0, 8)) else (0, 1)
theorem timeE_drop (l : List S41) (t : Int) (xs : List Int) (n : Nat) (hn : n < xs.length) : timeE l t (xs.drop n) = if (nodeI l (rd xs (n : Int))).f3 ≤ t then (rd xs (n : Int), 0) else timeE l t (xs.drop (n + 1)) := by
  rw [List.drop_eq_getElem_cons hn, timeE]
  have : rd xs (n : Int) = xs[n] := by
    unfold rd
    rw [Int.toNat_natCast, List.getD_eq_getElem?_getD, List.getElem?_eq_getElem hn]; rfl
  rw [this]
theorem rd_memB {xs : List Int} (n : Nat) (h1 : n < xs.length) : rd xs (n : Int) ∈ xs := by
  unfold rd
  rw [Int.toNat_natCast, List.getD_eq_getElem?_getD, List.getElem?_eq_getElem h1]
  exact List.getElem_mem h1
/-- A chain's IDs are those of commits. -/
theorem chain_node {l : List S41} (ho : okI l) : ∀ {id : Int} {xs : List Int}, Chain l id xs → ∀ x ∈ xs, hasI l x = true ∧ (nodeI l x).f0 = x := by
  intro id xs hc
  induction hc with
  | stop _ => intro x hx; cases hx
  | @step id xs hh hc ih =>
    intro x hx
    obtain ⟨p1, p2, p3⟩ := has_pos hh
    have hid : (nodeI l id).f0 = id := by rw [p3, p2]
    rcases List.mem_cons.1 hx with rfl | hx
    · rw [hid]; exact ⟨hh, hid⟩
    · exact ih x hx
section
variable (l0 : List S41) (l1 l2 : List S86) (r : Int) (br s : ByteArray)
theorem BranchE_is (ho : okS l1) (hn : l1.length ≤ 1000) (s : ByteArray) (k : Nat) (hk : 1000 < k) : laminaref25_Branch.f k l0 l1 l2 r s = some (valS l1 s, hasS l1 s) := by
  unfold laminaref25_Branch.f
  rw [ref_is ho hn s k hk]; rfl
theorem TagE_is (ho : okS l2) (hn : l2.length ≤ 1000) (s : ByteArray) (k : Nat) (hk : 1000 < k) : laminaref25_Tag.f k l0 l1 l2 r s = some (valS l2 s, hasS l2 s) := by
  unfold laminaref25_Tag.f
  rw [ref_is ho hn s k hk]; rfl
theorem Res_l0 (xs : List Int) (i k0 : Int) (hx : ∀ x ∈ xs, (nodeI l0 x).f0 = x) (ho : okI l0) (hn : l0.length ≤ 1000) (hl : xs.length ≤ 2000) : ∀ (d n m : Nat), n + d = xs.length → d + 1002 < m → laminaref25_Resolve.l0 m xs (n : Int) l0 l1 l2 r k0 i s = some (timeE l0 i (xs.drop n)) := by
  intro d
  induction d with
  | zero =>
    intro n m h1 h2
    obtain ⟨m, rfl⟩ : ∃ q, m = q + 1 := ⟨m - 1, by omega⟩
    simp only [laminaref25_Resolve.l0]
    rw [if_neg (by omega), List.drop_eq_nil_of_le (by omega)]; rfl
  | succ d ih =>
    intro n m h1 h2
    obtain ⟨m, rfl⟩ : ∃ q, m = q + 1 := ⟨m - 1, by omega⟩
    simp only [laminaref25_Resolve.l0]
    rw [if_pos (by omega), if_pos (by omega), Find_is ho hn _ _ (by omega), Option.bind_some, timeE_drop l0 i xs n (by omega)]
    simp only
    rw [hx _ (rd_memB n (by omega))]
    by_cases ht : (nodeI l0 (rd xs (n : Int))).f3 ≤ i
    · rw [if_pos ht, if_pos ht]
    · rw [if_neg ht, if_neg ht, wrap_succ n (by omega)]
      exact ih (n + 1) m (by omega) (by omega)
theorem Resolve_is (h : S27) (xs : List Int) (k0 i : Int) (hc : Chain h.f0 (valS h.f1 br) xs) (hlen : xs.length ≤ h.f0.length + 1) (o0 : okI h.f0) (o1 : okS h.f1) (o2 : okS h.f2) (n0 : h.f0.length ≤ 999) (n1 : h.f1.length ≤ 1000) (n2 : h.f2.length ≤ 1000) (k : Nat) (hk : 20000 < k) :
    laminaref25_Resolve.f k h.f0 h.f1 h.f2 h.f3 br k0 i s = some (resS h xs br k0 i s) := by
  obtain ⟨k, rfl⟩ : ∃ q, k = q + 2 := ⟨k - 2, by omega⟩
  unfold laminaref25_Resolve.f resS refE
  have hB := fun s => BranchE_is h.f0 h.f1 h.f2 h.f3 o1 n1 s (k + 1) (by omega)
  have hT := fun s => TagE_is h.f0 h.f1 h.f2 h.f3 o2 n2 s k (by omega)
  by_cases q0 : k0 = 0
  · subst q0
    simp only [laminaref25_Resolve.j0, laminaref25_Resolve.j1, hB, hT, Option.bind_some]
    cases hasS h.f1 br <;> simp
  rw [if_neg q0, if_neg q0]
  by_cases q3 : k0 = 3
  · subst q3
    simp only [laminaref25_Resolve.j0, laminaref25_Resolve.j1, hB, hT, Option.bind_some]
    cases hasS h.f1 s <;> simp
  rw [if_neg q3, if_neg q3]
  by_cases q4 : k0 = 4
  · subst q4
    simp only [laminaref25_Resolve.j0, laminaref25_Resolve.j1, hB, hT, Option.bind_some]
    cases hasS h.f2 s <;> simp
  have e4 : (k0 == 4) = false := by simpa using q4
  rw [if_neg q4, e4]
  simp only [laminaref25_Resolve.j0]
  rw [if_neg (by decide)]
  by_cases q1 : k0 = 1
  · subst q1
    rw [if_pos rfl, there_is o0 (by omega) _ _ (by omega), Option.bind_some, if_pos rfl]
    cases hasI h.f0 i <;> simp
  rw [if_neg q1, if_neg q1]
  by_cases q2 : k0 = 2
  · subst q2
    rw [if_pos rfl, if_pos rfl, hB, Option.bind_some]
    simp only
    cases hh : hasS h.f1 br with
    | false => simp
    | true =>
      rw [if_pos rfl, if_pos rfl, FirstParents_is h.f0 h.f1 h.f2 h.f3 _ o0 (by omega) hc hlen _ (by omega), Option.bind_some]
      have := Res_l0 h.f0 h.f1 h.f2 h.f3 s xs i 2 (fun x hx => (chain_node o0 hc x hx).2) o0 (by omega) (by omega) xs.length 0 (k + 1) (by omega) (by omega)
      exact this
  · rw [if_neg q2, if_neg q2]
end
end Go.Proofs.Ytjeoabjccbinhaa.P

namespace Go.Proofs.Ytjeoabjccbinhaa.P
open Go.RowKit Go.Proofs.YtjeoabjccbinhaaW.PrintWords Go.Proofs.YtjeoabjccbinhaaW.PrintLast Go.Proofs.YtjeoabjccbinhaaW.PrintMore
set_option linter.unusedVariables false
set_option linter.unusedSimpArgs false
theorem blk3 {W : World} {g : Nat} {a b c : Value} {t : TypeId} (h : W.heap[g]? = some (.cells #[a, b, c] t (0, 0))) : W.cell? ⟨g, 0, none⟩ = some a ∧ W.cell? ⟨g, 1, none⟩ = some b ∧ W.cell? ⟨g, 2, none⟩ = some c :=
  ⟨(blk_cell h 0).trans rfl, (blk_cell h 1).trans rfl, (blk_cell h 2).trans rfl⟩
theorem f50_t (id : Int) (w : World) : Calls Try.prog 50 #[.int .i64 id, .bool true] w fun e w' => e = .returned (.tuple #[.int .i64 id, .int .i64 0]) ∧ w = w' := by
  go_enter Try.func50, Try.ntmps50
  go_wp2
  go_ret2
  exact ⟨rfl, rfl⟩
theorem f50_f (id : Int) (w : World) : Calls Try.prog 50 #[.int .i64 id, .bool false] w fun e w' => e = .returned (.tuple #[.int .i64 0, .int .i64 8]) ∧ w = w' := by
  go_enter Try.func50, Try.ntmps50
  go_wp2
  go_ret2
  exact ⟨rfl, rfl⟩
theorem f51_E (A0 : Option Addr) (c0 : Nat) (A1 : Option Addr) (c1 : Nat) (A2 : Option Addr) (c2 : Nat) (h : S27) (s : Int) (b : Bool) (hb : hasI h.f0 s = b) (w : World) (hr : HV w A0 c0 h.f0 A1 c1 h.f1 A2 c2 h.f2) (ho : okI h.f0) (hn : h.f0.length ≤ 1000) :
    Calls Try.prog 51 #[.agg #[.slice A0 h.f0.length c0, .slice A1 h.f1.length c1, .slice A2 h.f2.length c2, .int .i64 h.f3], .int .i64 s] w fun e w' => e = .returned (.bool b) ∧ Below w.heap.size w w' := by
  subst hb
  exact f51_calls A0 c0 h.f0 A1 c1 h.f1 A2 c2 h.f2 h.f3 s w hr ho hn
set_option maxHeartbeats 8000000 in
set_option maxRecDepth 100000 in
theorem f29_calls (A0 : Option Addr) (c0 : Nat) (A1 : Option Addr) (c1 : Nat) (A2 : Option Addr) (c2 : Nat) (h : S27) (br s : ByteArray) (k i : Int) (xs : List Int) (x er : Int) (he : resS h xs br k i s = (x, er)) (hc : Chain h.f0 (valS h.f1 br) xs) (hlen : xs.length ≤ h.f0.length + 1) (w : World) (hr : HV w A0 c0 h.f0 A1 c1 h.f1 A2 c2 h.f2) (o0 : okI h.f0) (o1 : okS h.f1) (o2 : okS h.f2) (n0 : h.f0.length ≤ 999) (n1 : h.f1.length ≤ 1000) (n2 : h.f2.length ≤ 1000) :
    Calls Try.prog 29 #[.agg #[.slice A0 h.f0.length c0, .slice A1 h.f1.length c1, .slice A2 h.f2.length c2, .int .i64 h.f3], .string br, .agg #[.int .i64 k, .int .i64 i, .string s]] w fun e w' => e = .returned (.tuple #[.int .i64 x, .int .i64 er]) ∧ Below w.heap.size w w' := by
  have HR := Aside0.mk hr
  have O0 := Aside0.mk o0
  have O1 := Aside0.mk o1
  have O2 := Aside0.mk o2
  have HCH := Aside0.mk hc
  have HCN := Aside0.mk (chain_node o0 hc)
  unfold resS refE at he
  clear hr o0 o1 o2 hc
  by_cases q0 : k = 0
  · subst q0
    rw [if_pos rfl] at he
    cases hb : hasS h.f1 br with
    | true =>
      rw [hb, if_pos rfl] at he
      injection he with e1 e2
      subst e1; subst e2
      have HB := Aside0.mk hb
      clear hb
      obtain ⟨x1, hx1⟩ : ∃ z, valS h.f1 br = z := ⟨_, rfl⟩
      rw [hx1]
      have HX := Aside0.mk hx1
      clear hx1 HCH HCN
      go_enter Try.func29, Try.ntmps29
      go_wp2_with (first
        | (go_at_call 25; refine (f25_E A0 c0 A1 c1 A2 c2 h br x1 true HX.out HB.out _ (HR.out.below (by repeat (first | exact Below.refl _ _ | apply below_alloc | apply below_drew1 | apply pw_below_drewN))) O1.out n1).mono ?_; rintro e w1 ⟨rfl, hb⟩; have HBz : Aside0 (Below w.heap.size w w1) := ⟨Below.trans (by repeat (first | exact Below.refl _ _ | apply below_alloc | apply below_drew1 | apply pw_below_drewN)) (hb.mono (by simp; omega))⟩; clear hb)
        | (go_at_call 50; refine (f50_t _ _).mono ?_; rintro e w2 ⟨rfl, rfl⟩))
      go_ret2
      exact ⟨rfl, HBz.out⟩
    | false =>
      rw [hb, if_neg (by decide)] at he
      injection he with e1 e2
      subst e1; subst e2
      have HB := Aside0.mk hb
      clear hb
      obtain ⟨x1, hx1⟩ : ∃ z, valS h.f1 br = z := ⟨_, rfl⟩
      have HX := Aside0.mk hx1
      clear hx1 HCH HCN
      go_enter Try.func29, Try.ntmps29
      go_wp2_with (first
        | (go_at_call 25; refine (f25_E A0 c0 A1 c1 A2 c2 h br x1 false HX.out HB.out _ (HR.out.below (by repeat (first | exact Below.refl _ _ | apply below_alloc | apply below_drew1 | apply pw_below_drewN))) O1.out n1).mono ?_; rintro e w1 ⟨rfl, hb⟩; have HBz : Aside0 (Below w.heap.size w w1) := ⟨Below.trans (by repeat (first | exact Below.refl _ _ | apply below_alloc | apply below_drew1 | apply pw_below_drewN)) (hb.mono (by simp; omega))⟩; clear hb)
        | (go_at_call 50; refine (f50_f _ _).mono ?_; rintro e w2 ⟨rfl, rfl⟩))
      go_ret2
      exact ⟨rfl, HBz.out⟩
  rw [if_neg q0] at he
  have d0 : (k == 0) = false := by simpa using q0
  clear q0
  by_cases q3 : k = 3
  · subst q3
    clear d0
    rw [if_pos rfl] at he
    cases hb : hasS h.f1 s with
    | true =>
      rw [hb, if_pos rfl] at he
      injection he with e1 e2
      subst e1; subst e2
      have HB := Aside0.mk hb
      clear hb
      obtain ⟨x1, hx1⟩ : ∃ z, valS h.f1 s = z := ⟨_, rfl⟩
      rw [hx1]
      have HX := Aside0.mk hx1
      clear hx1 HCH HCN
      go_enter Try.func29, Try.ntmps29
      go_wp2_with (first
        | (go_at_call 25; refine (f25_E A0 c0 A1 c1 A2 c2 h s x1 true HX.out HB.out _ (HR.out.below (by repeat (first | exact Below.refl _ _ | apply below_alloc | apply below_drew1 | apply pw_below_drewN))) O1.out n1).mono ?_; rintro e w1 ⟨rfl, hb⟩; have HBz : Aside0 (Below w.heap.size w w1) := ⟨Below.trans (by repeat (first | exact Below.refl _ _ | apply below_alloc | apply below_drew1 | apply pw_below_drewN)) (hb.mono (by simp; omega))⟩; clear hb)
        | (go_at_call 50; refine (f50_t _ _).mono ?_; rintro e w2 ⟨rfl, rfl⟩))
      go_ret2
      exact ⟨rfl, HBz.out⟩
    | false =>
      rw [hb, if_neg (by decide)] at he
      injection he with e1 e2
      subst e1; subst e2
      have HB := Aside0.mk hb
      clear hb
      obtain ⟨x1, hx1⟩ : ∃ z, valS h.f1 s = z := ⟨_, rfl⟩
      have HX := Aside0.mk hx1
      clear hx1 HCH HCN
      go_enter Try.func29, Try.ntmps29
      go_wp2_with (first
        | (go_at_call 25; refine (f25_E A0 c0 A1 c1 A2 c2 h s x1 false HX.out HB.out _ (HR.out.below (by repeat (first | exact Below.refl _ _ | apply below_alloc | apply below_drew1 | apply pw_below_drewN))) O1.out n1).mono ?_; rintro e w1 ⟨rfl, hb⟩; have HBz : Aside0 (Below w.heap.size w w1) := ⟨Below.trans (by repeat (first | exact Below.refl _ _ | apply below_alloc | apply below_drew1 | apply pw_below_drewN)) (hb.mono (by simp; omega))⟩; clear hb)
        | (go_at_call 50; refine (f50_f _ _).mono ?_; rintro e w2 ⟨rfl, rfl⟩))
      go_ret2
      exact ⟨rfl, HBz.out⟩
  rw [if_neg q3] at he
  have d3 : (k == 3) = false := by simpa using q3
  clear q3
  by_cases q4 : k = 4
  · subst q4
    clear d0 d3
    rw [if_pos rfl] at he
    cases hb : hasS h.f2 s with
    | true =>
      rw [hb, if_pos rfl] at he
      injection he with e1 e2
      subst e1; subst e2
      have HB := Aside0.mk hb
      clear hb
      obtain ⟨x1, hx1⟩ : ∃ z, valS h.f2 s = z := ⟨_, rfl⟩
      rw [hx1]
      have HX := Aside0.mk hx1
      clear hx1 HCH HCN
      go_enter Try.func29, Try.ntmps29
      go_wp2_with (first
        | (go_at_call 27; refine (f27_E A0 c0 A1 c1 A2 c2 h s x1 true HX.out HB.out _ (HR.out.below (by repeat (first | exact Below.refl _ _ | apply below_alloc | apply below_drew1 | apply pw_below_drewN))) O2.out n2).mono ?_; rintro e w1 ⟨rfl, hb⟩; have HBz : Aside0 (Below w.heap.size w w1) := ⟨Below.trans (by repeat (first | exact Below.refl _ _ | apply below_alloc | apply below_drew1 | apply pw_below_drewN)) (hb.mono (by simp; omega))⟩; clear hb)
        | (go_at_call 50; refine (f50_t _ _).mono ?_; rintro e w2 ⟨rfl, rfl⟩))
      go_ret2
      exact ⟨rfl, HBz.out⟩
    | false =>
      rw [hb, if_neg (by decide)] at he
      injection he with e1 e2
      subst e1; subst e2
      have HB := Aside0.mk hb
      clear hb
      obtain ⟨x1, hx1⟩ : ∃ z, valS h.f2 s = z := ⟨_, rfl⟩
      have HX := Aside0.mk hx1
      clear hx1 HCH HCN
      go_enter Try.func29, Try.ntmps29
      go_wp2_with (first
        | (go_at_call 27; refine (f27_E A0 c0 A1 c1 A2 c2 h s x1 false HX.out HB.out _ (HR.out.below (by repeat (first | exact Below.refl _ _ | apply below_alloc | apply below_drew1 | apply pw_below_drewN))) O2.out n2).mono ?_; rintro e w1 ⟨rfl, hb⟩; have HBz : Aside0 (Below w.heap.size w w1) := ⟨Below.trans (by repeat (first | exact Below.refl _ _ | apply below_alloc | apply below_drew1 | apply pw_below_drewN)) (hb.mono (by simp; omega))⟩; clear hb)
        | (go_at_call 50; refine (f50_f _ _).mono ?_; rintro e w2 ⟨rfl, rfl⟩))
      go_ret2
      exact ⟨rfl, HBz.out⟩
  rw [if_neg q4] at he
  have d4 : (k == 4) = false := by simpa using q4
  clear q4
  by_cases q1 : k = 1
  · subst q1
    clear d0 d3 d4
    rw [if_pos rfl] at he
    cases hb : hasI h.f0 i with
    | true =>
      rw [hb, if_pos rfl] at he
      injection he with e1 e2
      subst e1; subst e2
      have HB := Aside0.mk hb
      clear hb HCH HCN
      go_enter Try.func29, Try.ntmps29
      go_wp2_with (go_at_call 51; refine (f51_E A0 c0 A1 c1 A2 c2 h i true HB.out _ (HR.out.below (by repeat (first | exact Below.refl _ _ | apply below_alloc | apply below_drew1 | apply pw_below_drewN))) O0.out (by omega)).mono ?_; rintro e w1 ⟨rfl, hb⟩; have HBz : Aside0 (Below w.heap.size w w1) := ⟨Below.trans (by repeat (first | exact Below.refl _ _ | apply below_alloc | apply below_drew1 | apply pw_below_drewN)) (hb.mono (by simp; omega))⟩; have hx1 : w1.cell? ⟨w.heap.size + 1, 1, none⟩ = some (.int .i64 i) := (hb.cell (p := ⟨w.heap.size + 1, 1, none⟩) (by simp)).trans (by go_simp); clear hb)
      go_ret2
      exact ⟨rfl, HBz.out⟩
    | false =>
      rw [hb, if_neg (by decide)] at he
      injection he with e1 e2
      subst e1; subst e2
      have HB := Aside0.mk hb
      clear hb HCH HCN
      go_enter Try.func29, Try.ntmps29
      go_wp2_with (go_at_call 51; refine (f51_E A0 c0 A1 c1 A2 c2 h i false HB.out _ (HR.out.below (by repeat (first | exact Below.refl _ _ | apply below_alloc | apply below_drew1 | apply pw_below_drewN))) O0.out (by omega)).mono ?_; rintro e w1 ⟨rfl, hb⟩; have HBz : Aside0 (Below w.heap.size w w1) := ⟨Below.trans (by repeat (first | exact Below.refl _ _ | apply below_alloc | apply below_drew1 | apply pw_below_drewN)) (hb.mono (by simp; omega))⟩; clear hb)
      go_ret2
      exact ⟨rfl, HBz.out⟩
  rw [if_neg q1] at he
  have d1 : (k == 1) = false := by simpa using q1
  clear q1
  by_cases q2 : k = 2
  · subst q2
    clear d0 d3 d4 d1
    rw [if_pos rfl] at he
    obtain ⟨x1, hx1⟩ : ∃ z, valS h.f1 br = z := ⟨_, rfl⟩
    rw [hx1] at HCH
    have HX := Aside0.mk hx1
    clear hx1
    cases hb : hasS h.f1 br with
    | false =>
      rw [hb, if_neg (by decide)] at he
      injection he with e1 e2
      subst e1; subst e2
      have HB := Aside0.mk hb
      clear hb HCH HCN
      go_enter Try.func29, Try.ntmps29
      go_wp2_with (go_at_call 25; refine (f25_E A0 c0 A1 c1 A2 c2 h br x1 false HX.out HB.out _ (HR.out.below (by repeat (first | exact Below.refl _ _ | apply below_alloc | apply below_drew1 | apply pw_below_drewN))) O1.out n1).mono ?_; rintro e w1 ⟨rfl, hb⟩; have HBz : Aside0 (Below w.heap.size w w1) := ⟨Below.trans (by repeat (first | exact Below.refl _ _ | apply below_alloc | apply below_drew1 | apply pw_below_drewN)) (hb.mono (by simp; omega))⟩; clear hb)
      go_ret2
      exact ⟨rfl, HBz.out⟩
    | true =>
      rw [hb, if_pos rfl] at he
      have HB := Aside0.mk hb
      have HE := Aside0.mk he
      clear hb he
      have hlx : xs.length ≤ 1000 := by omega
      have hnn : h.f0.length ≤ 1000 := by omega
      have hal := alloc2 w (.cells #[.slice A0 h.f0.length c0, .slice A1 h.f1.length c1, .slice A2 h.f2.length c2, .int .i64 h.f3] 27) (.cells #[.int .i64 2, .int .i64 i, .string s] 55)
      have HAL := Aside0.mk hal
      clear hal
      go_enter Try.func29, Try.ntmps29
      go_wp2_with (first
        | (go_at_call 25; refine (f25_E A0 c0 A1 c1 A2 c2 h br x1 true HX.out HB.out _ (HR.out.below (by repeat (first | exact Below.refl _ _ | apply below_alloc | apply below_drew1 | apply pw_below_drewN))) O1.out n1).mono ?_; rintro e w1 ⟨rfl, hb⟩; have HB1 : Aside0 (Below (w.heap.size + 1 + 1) ((w.alloc (.cells #[.slice A0 h.f0.length c0, .slice A1 h.f1.length c1, .slice A2 h.f2.length c2, .int .i64 h.f3] 27)).alloc (.cells #[.int .i64 2, .int .i64 i, .string s] 55)) w1) := ⟨hb.mono (by simp)⟩; have hz1 := HB1.out.size; simp only [World.size_alloc] at hz1; obtain ⟨⟨a0, a1, a2, a3⟩, p0, p1, p2, p3⟩ := blk4 ((HB1.out.block _ (by omega)).trans HAL.out.1); clear hb)
        | (go_at_call 17; refine (f17_E A0 c0 A1 c1 A2 c2 h x1 xs HCH.out hlen _ (HR.out.below (by exact Below.trans (by repeat (first | exact Below.refl _ _ | apply below_alloc | apply below_drew1 | apply pw_below_drewN)) (HB1.out.mono (by omega)))) O0.out n0).mono ?_; clear a0 a1 a2 a3 p0 p1 p2 p3; rintro e w3 ⟨v, rfl, hR, hb⟩; obtain ⟨Ac, cc, rfl, hcl, hC⟩ := Kd.R_reads hR; have HC3 := Aside0.mk hC; have HB3 : Aside0 (Below (w.heap.size + 1 + 1) ((w.alloc (.cells #[.slice A0 h.f0.length c0, .slice A1 h.f1.length c1, .slice A2 h.f2.length c2, .int .i64 h.f3] 27)).alloc (.cells #[.int .i64 2, .int .i64 i, .string s] 55)) w3) := ⟨HB1.out.trans (hb.mono (by omega))⟩; have hz3 := HB3.out.size; simp only [World.size_alloc] at hz3; clear hR hC hb))
      have HV3 : Aside0 (HV w3 A0 c0 h.f0 A1 c1 h.f1 A2 c2 h.f2) := ⟨HR.out.below (Below.trans (by repeat (first | exact Below.refl _ _ | apply below_alloc | apply below_drew1 | apply pw_below_drewN)) (HB3.out.mono (by omega)))⟩
      have BK3 := Aside0.mk ((HB3.out.block _ (by omega)).trans HAL.out.1)
      have BA3 := Aside0.mk ((HB3.out.block _ (by omega)).trans HAL.out.2)
      have HBW3 : Aside0 (Below w.heap.size w w3) := ⟨Below.trans (by repeat (first | exact Below.refl _ _ | apply below_alloc | apply below_drew1 | apply pw_below_drewN)) (HB3.out.mono (by omega))⟩
      go_loopg [75] xs.length (fun kq v75 w' => ∃ n : Nat, v75 = .int .i64 n ∧ n ≤ xs.length ∧ Aside0 (timeE h.f0 i (xs.drop n) = (x, er)) ∧ Aside0 (kq + n = xs.length) ∧ Aside0 (Below w3.heap.size w3 w'))
      case atStart => exact ⟨0, rfl, Nat.zero_le _, ⟨by rw [List.drop_zero]; exact HE.out⟩, ⟨by omega⟩, ⟨Below.refl _ _⟩⟩
      case round =>
        obtain ⟨n, rfl, hn, HT, HK, HBr⟩ := hrel
        have hzr := HBr.out.size
        obtain ⟨⟨a0, a1, a2, a3⟩, p0, p1, p2, p3⟩ := blk4 ((HBr.out.block _ (by omega)).trans BK3.out)
        by_cases hl : n < xs.length
        · cases gk with
          | zero => exact absurd HK.out (by omega)
          | succ k1 =>
            obtain ⟨ad4, e4, hE⟩ := Kd.at_int (Kd.C_below HC3.out HBr.out) (n : Int) (by omega) (by omega)
            cases e4
            rw [Int.toNat_natCast] at hE
            have HD := Aside0.mk (HT.out.symm.trans (timeE_drop h.f0 i xs n hl))
            obtain ⟨z, hz_⟩ : ∃ z, rd xs (n : Int) = z := ⟨_, rfl⟩
            rw [hz_] at HD hE
            obtain ⟨nd, hnd⟩ : ∃ z', nodeI h.f0 z = z' := ⟨_, rfl⟩
            obtain ⟨qd, hqd⟩ : ∃ z', hasI h.f0 z = z' := ⟨_, rfl⟩
            rw [hnd] at HD
            have HN1 := Aside0.mk hnd
            have HN2 := Aside0.mk hqd
            clear hnd hqd hz_
            by_cases ht : nd.f3 ≤ i
            · have hdt : decide (nd.f3 ≤ i) = true := decide_eq_true ht
              have hd2 := HD.out
              rw [if_pos ht] at hd2
              injection hd2 with e1 e2
              subst e1; subst e2
              clear ht HD
              go_wp2_with (go_at_call 16; refine (f16_E A0 c0 A1 c1 A2 c2 h x nd qd HN1.out HN2.out _ (HV3.out.below (HBr.out)) O0.out hnn).mono ?_; clear hE a0 a1 a2 a3 p0 p1 p2 p3; rintro e w4 ⟨rfl, hb⟩; have HB4 : Aside0 (Below w3.heap.size w3 w4) := ⟨HBr.out.trans (hb.mono (by omega))⟩; have hz4 := HB4.out.size; obtain ⟨b0, b1, b2⟩ := blk3 ((HB4.out.block _ (by omega)).trans BA3.out); have hy4 : w.heap.size + 1 < w4.heap.size := (by omega); clear hb)
              go_ret2
              exact ⟨rfl, (HBW3.out.trans (HB4.out.mono (by omega))).alloc (by omega) _⟩
            · have hdt : decide (nd.f3 ≤ i) = false := decide_eq_false ht
              have hd2 := HD.out
              rw [if_neg ht] at hd2
              have HD2 := Aside0.mk hd2
              clear ht HD hd2
              go_wp2_with (go_at_call 16; refine (f16_E A0 c0 A1 c1 A2 c2 h z nd qd HN1.out HN2.out _ (HV3.out.below (HBr.out)) O0.out hnn).mono ?_; clear hE a0 a1 a2 a3 p0 p1 p2 p3; rintro e w4 ⟨rfl, hb⟩; have HB4 : Aside0 (Below w3.heap.size w3 w4) := ⟨HBr.out.trans (hb.mono (by omega))⟩; have hz4 := HB4.out.size; obtain ⟨b0, b1, b2⟩ := blk3 ((HB4.out.block _ (by omega)).trans BA3.out); have hy4 : w.heap.size + 1 < w4.heap.size := (by omega); clear hb)
              go_roundg k1
              case measure => omega
              case rel => exact ⟨n + 1, int_eq (by omega), by omega, ⟨HD2.out.symm⟩, ⟨by have := HK.out; omega⟩, ⟨HB4.out.alloc (by omega) _⟩⟩
        · obtain rfl : n = xs.length := by omega
          have hd2 := HT.out
          rw [List.drop_eq_nil_of_le (Nat.le_refl _)] at hd2
          injection hd2 with e1 e2
          subst e1; subst e2
          go_wp2
          go_ret2
          exact ⟨rfl, HBW3.out.trans (HBr.out.mono (by omega))⟩
  · rw [if_neg q2] at he
    injection he with e1 e2
    subst e1; subst e2
    have d2 : (k == 2) = false := by simpa using q2
    clear q2
    go_enter Try.func29, Try.ntmps29
    go_wp2
    go_ret2
    exact ⟨rfl, (by repeat (first | exact Below.refl _ _ | apply below_alloc | apply below_drew1 | apply pw_below_drewN))⟩
end Go.Proofs.Ytjeoabjccbinhaa.P

namespace Go.Proofs.Ytjeoabjccbinhaa.P
open Go.RowKit Go.Proofs.YtjeoabjccbinhaaW.PrintWords Go.Proofs.YtjeoabjccbinhaaW.PrintLast Go.Proofs.YtjeoabjccbinhaaW.PrintMore
set_option linter.unusedVariables false
set_option linter.unusedSimpArgs false
theorem f30_E (A0 : Option Addr) (c0 : Nat) (A1 : Option Addr) (c1 : Nat) (A2 : Option Addr) (c2 : Nat) (h : S27) (br s : ByteArray) (k i : Int) (xs : List Int) (x er : Int) (he : resS h xs br k i s = (x, er)) (hc : Chain h.f0 (valS h.f1 br) xs) (hlen : xs.length ≤ h.f0.length + 1) (w : World) (hr : HV w A0 c0 h.f0 A1 c1 h.f1 A2 c2 h.f2) (o0 : okI h.f0) (o1 : okS h.f1) (o2 : okS h.f2) (n0 : h.f0.length ≤ 999) (n1 : h.f1.length ≤ 1000) (n2 : h.f2.length ≤ 1000) :
    Calls Try.prog 30 #[.agg #[.slice A0 h.f0.length c0, .slice A1 h.f1.length c1, .slice A2 h.f2.length c2, .int .i64 h.f3], .string br, .agg #[.int .i64 k, .int .i64 i, .string s]] w fun e w' => e = .returned (.tuple #[.int .i64 x, .int .i64 er]) ∧ Below w.heap.size w w' :=
  laminaref25_Resolve.calls 20001 A0 c0 h.f0 A1 c1 h.f1 A2 c2 h.f2 h.f3 br k i s x er w hr.r0 hr.h0 hr.r1 hr.h1 hr.r2 hr.h2 (he ▸ Resolve_is br s h xs k i hc hlen o0 o1 o2 n0 n1 n2 20001 (by omega))
set_option maxHeartbeats 8000000 in
set_option maxRecDepth 100000 in
theorem f7_calls (A : Option Addr) (c : Nat) (l : List S32) (br : ByteArray) (k i : Int) (s : ByteArray) (w : World) (hr : Kd.C k32 w A l.length l) (hc : l.length ≤ c) (hn : l.length ≤ 9223372036854775807) (hG : ∀ x ∈ l, G32 x) :
    Calls Try.prog 7 #[.slice A l.length c, .string br, .agg #[.int .i64 k, .int .i64 i, .string s]] w fun e w' => e = .returned (.bool true) ∧ Below w.heap.size w w' := by
  have HR := Aside0.mk hr
  have H9 := Aside0.mk f9_calls
  have HB0 : Aside0 (Below w.heap.size w (w.alloc (.cells #[.int .i64 k, .int .i64 i, .string s] 55))) := ⟨below_alloc (Below.refl _ _) _⟩
  have HA0 := Aside0.mk (heap_alloc_new w (.cells #[.int .i64 k, .int .i64 i, .string s] 55))
  clear hr
  by_cases h200 : 200 < l.length
  · have hd : decide (200 < (l.length : Int)) = true := decide_eq_true (by omega)
    go_enter Try.func7, Try.ntmps7
    go_wp2_with (go_at_call 9; refine (H9.out _).mono ?_; rintro e w1 ⟨rfl, hb⟩; have HBz := Aside0.mk (HB0.out.trans (hb.mono (by simp))); clear hb)
    go_ret
    exact ⟨rfl, HBz.out⟩
  have hd : decide (200 < (l.length : Int)) = false := decide_eq_false (by omega)
  have hl2 : l.length ≤ 200 := by omega
  have hok := builtS_okN l l.length (Nat.le_refl _)
  have hgd := good_bltQ l hG l.length (Nat.le_refl _)
  rw [List.take_length] at hok hgd
  have H15 := Aside0.mk (f15_calls A c l _ (Kd.C_below HR.out HB0.out) hc (by omega))
  obtain ⟨h, hh⟩ : ∃ h, builtS l = h := ⟨_, rfl⟩
  rw [hh] at hok hgd H15
  have hh0 : h.f0.length ≤ 200 := Nat.le_trans hok.n0 hl2
  have hn9 : h.f0.length ≤ 999 := by omega
  have HN := Aside0.mk hok
  have HGD := Aside0.mk hgd
  have HO := Aside0.mk (hok.okH (by omega))
  clear h200 hn hok hh hgd hG
  obtain ⟨xs, hch, hlen⟩ := chain_of HN.out.o0 HGD.out (valS h.f1 br)
  have HCH := Aside0.mk hch
  obtain ⟨⟨x, er⟩, he⟩ : ∃ z, resS h xs br k i s = z := ⟨_, rfl⟩
  have HE := Aside0.mk he
  clear hch he
  go_enter Try.func7, Try.ntmps7
  go_wp2_with (first
    | (go_at_call 15; refine H15.out.mono ?_; rintro e w1 ⟨v0, v1, v2, rfl, hw, hb⟩; obtain ⟨A0, c0, A1, c1, A2, c2, rfl, rfl, rfl, hV, hF⟩ := HW.open hw; have HV1 := Aside0.mk hV; have HB1 : Aside0 (Below (w.heap.size + 1) (w.alloc (.cells #[.int .i64 k, .int .i64 i, .string s] 55)) w1) := ⟨hb.mono (by simp)⟩; have hz1 := HB1.out.size; simp only [World.size_alloc] at hz1; obtain ⟨b0, b1, b2⟩ := blk3 ((HB1.out.block _ (by omega)).trans HA0.out); have hy1 : w.heap.size < w1.heap.size := (by omega); clear hb hw hV hF)
    | (go_at_call 29; refine (f29_calls A0 c0 A1 c1 A2 c2 h br s k i xs x er HE.out HCH.out hlen _ (HV1.out.below (by repeat (first | exact Below.refl _ _ | apply below_alloc | apply below_drew1 | apply pw_below_drewN))) HN.out.o0 HN.out.o1 HN.out.o2 hn9 HO.out.n1 HO.out.n2).mono ?_; clear b0 b1 b2; rintro e w2 ⟨rfl, hb⟩; have HB2 : Aside0 (Below w1.heap.size w1 w2) := ⟨Below.trans (by repeat (first | exact Below.refl _ _ | apply below_alloc | apply below_drew1 | apply pw_below_drewN)) (hb.mono (by simp))⟩; have hz2 : w1.heap.size < w2.heap.size := (by have h_ := hb.size; simp only [World.size_alloc] at h_; omega); obtain ⟨⟨a0, a1, a2, a3⟩, p0, p1, p2, p3⟩ := blk4 ((hb.block _ (by simp)).trans (heap_alloc_new w1 (.cells #[.slice A0 h.f0.length c0, .slice A1 h.f1.length c1, .slice A2 h.f2.length c2, .int .i64 h.f3] 27))); obtain ⟨b0, b1, b2⟩ := blk3 ((HB2.out.block _ (by omega)).trans ((HB1.out.block _ (by omega)).trans HA0.out)); have hy2 : w.heap.size < w2.heap.size := (by omega); clear hb)
    | (go_at_call 30; refine (f30_E A0 c0 A1 c1 A2 c2 h br s k i xs x er HE.out HCH.out hlen _ (HV1.out.below (by exact HB2.out)) HN.out.o0 HN.out.o1 HN.out.o2 hn9 HO.out.n1 HO.out.n2).mono ?_; clear a0 a1 a2 a3 p0 p1 p2 p3 b0 b1 b2; rintro e w3 ⟨rfl, hb⟩; have HB3 : Aside0 (Below w1.heap.size w1 w3) := ⟨HB2.out.trans (hb.mono (by omega))⟩; clear hb)
    | (go_at_call 9; refine (H9.out _).mono ?_; rintro e w4 ⟨rfl, hb⟩; have HBz : Aside0 (Below w.heap.size w w4) := ⟨(HB0.out.trans (HB1.out.mono (by omega))).trans ((HB3.out.trans (hb.mono HB3.out.size)).mono (by omega))⟩; clear hb))
  go_ret
  exact ⟨rfl, HBz.out⟩
end Go.Proofs.Ytjeoabjccbinhaa.P

namespace Go.Proofs.Ytjeoabjccbinhaa.P
open Go.RowKit Go.Proofs.YtjeoabjccbinhaaW.PrintWords Go.Proofs.Ytjeoabjccbinhaa.Reads
/-- An as-of clause. -/
structure S55 where
  f0 : Int
  f1 : Int
  f2 : ByteArray
def k55 : Kd S55 := Kd.iso (Kd.pair (Kd.int .i64) (Kd.pair (Kd.int .i64) Kd.string)) (fun x : S55 => (x.f0, x.f1, x.f2))
theorem k55_open {w : World} {x : S55} {cs : List Value} (h : k55.K w x cs) : cs = [.int .i64 x.f0, .int .i64 x.f1, .string x.f2] := by
  obtain ⟨_, _, rfl, rfl, ⟨_, _, rfl, rfl, rfl⟩⟩ := h
  exact rfl
/-- An as-of clause whose numbers fit and whose text is no longer than the reach. -/
def G55 (x : S55) : Prop := (Lit.int .i64 x.f0).wf = true ∧ (Lit.int .i64 x.f1).wf = true ∧ x.f2.size ≤ 140737488351232
set_option maxRecDepth 100000 in
theorem rd55 : Rd k55 Try.prog 55 G55 :=
  (Rd.struct (fun a => (⟨a.1, a.2.1, a.2.2⟩ : S55)) (fun _ => rfl) Try.underlying55 (by kernel_rfl) (RdF.cons (Rd.int Try.underlying3 (by kernel_rfl)) rfl (RdF.cons (Rd.int Try.underlying2 (by kernel_rfl)) rfl (RdF.one (Rd.string Try.underlying9 (by kernel_rfl)) rfl)))).imp fun _ h => h
theorem f7_row (A : Option Addr) (c : Nat) (l : List S32) (br : ByteArray) (k i : Int) (s : ByteArray) (w : World) (hr : Kd.C k32 w A l.length l) (hc : l.length ≤ c) (hg : l.length * 56 ≤ 140737488351232 ∧ ∀ y ∈ l, G32 y) :
    Calls Try.prog 7 #[.slice A l.length c, .string br, .agg #[.int .i64 k, .int .i64 i, .string s]] w fun e w' => e = .returned (.bool true) ∧ Below w.heap.size w w' :=
  f7_calls A c l br k i s w hr hc (by omega) hg.2
end Go.Proofs.Ytjeoabjccbinhaa.P
