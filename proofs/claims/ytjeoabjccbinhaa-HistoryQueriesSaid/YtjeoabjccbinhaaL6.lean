/- The law HistoryQueries returns true for every list of entries, IDs and name that are read: for the row. Conditions: the hypotheses that stand at each theorem. -/
import Derived.Test.YtjeoabjccbinhaaB3a
import Derived.Test.YtjeoabjccbinhaaPx21
namespace Go.Proofs.Ytjeoabjccbinhaa.P
open Go.RowKit Go.Proofs.YtjeoabjccbinhaaW.PrintWords
set_option linter.unusedVariables false
set_option linter.unusedSimpArgs false
/-- Whether the commit at place i is an ancestor. -/
def ancB (l : List S41) (id : Int) (i : Nat) : Bool := (ancS l id).contains (rd_T41 l i).f0
/-- Whether the commit at place j is a child of the one at place i, and an ancestor. -/
def kidB (l : List S41) (id : Int) (i j : Nat) : Bool := ancB l id j && ((rd_T41 l j).f1 == (rd_T41 l i).f0 || (rd_T41 l j).f2 == (rd_T41 l i).f0)
/-- Whether place i is reached by itself or by the places from i + 1 below k. -/
def upB (l : List S41) (id : Int) (i : Nat) : Nat → Bool
  | 0 => (rd_T41 l i).f0 == id
  | k + 1 => upB l id i k || (decide (i < k) && kidB l id i k)
theorem upB_low (l : List S41) (id : Int) (i : Nat) : ∀ k, k ≤ i + 1 → upB l id i k = ((rd_T41 l i).f0 == id)
  | 0, _ => rfl
  | k + 1, h => by
    rw [upB, upB_low l id i k (by omega), decide_eq_false (by omega)]
    simp
theorem upB_step (l : List S41) (id : Int) (i k : Nat) (h : i < k) : upB l id i (k + 1) = (upB l id i k || kidB l id i k) := by
  rw [upB, decide_eq_true h, Bool.true_and]
theorem upB_iff (l : List S41) (id : Int) (i : Nat) : ∀ k, upB l id i k = true ↔ (rd_T41 l i).f0 = id ∨ ∃ j, i < j ∧ j < k ∧ kidB l id i j = true
  | 0 => by simp [upB]
  | k + 1 => by
    rw [upB, Bool.or_eq_true, upB_iff l id i k, Bool.and_eq_true, decide_eq_true_eq]
    constructor
    · rintro ((h | ⟨j, h1, h2, h3⟩) | ⟨h1, h2⟩)
      · exact .inl h
      · exact .inr ⟨j, h1, by omega, h3⟩
      · exact .inr ⟨k, h1, by omega, h2⟩
    · rintro (h | ⟨j, h1, h2, h3⟩)
      · exact .inl (.inl h)
      · rcases Nat.lt_or_ge j k with h4 | h4
        · exact .inl (.inr ⟨j, h1, h4, h3⟩)
        · obtain rfl : j = k := by omega
          exact .inr ⟨h1, h3⟩
theorem anc_mem {l : List S41} (hs : ∀ p q : Nat, p < q → q < l.length → (rd_T41 l p).f0 < (rd_T41 l q).f0) : ∀ (k : Nat) (S : Int → Bool) (i : Nat), k ≤ l.length → i < k →
    ((rd_T41 l i).f0 ∈ ancL l k S ↔ S (rd_T41 l i).f0 = true ∨ ∃ j, i < j ∧ j < k ∧ (rd_T41 l j).f0 ∈ ancL l k S ∧ ((rd_T41 l j).f1 = (rd_T41 l i).f0 ∨ (rd_T41 l j).f2 = (rd_T41 l i).f0))
  | 0, _, i, _, hi => absurd hi (Nat.not_lt_zero _)
  | k + 1, S, i, hk, hi => by
    have hnot : ∀ S', (rd_T41 l k).f0 ∉ ancL l k S' := by
      intro S' h
      obtain ⟨p, hp, e⟩ := anc_ids l k S' _ h
      have := hs p k hp (by omega)
      omega
    rw [ancL]
    rcases Nat.lt_or_ge i k with hlt | hge
    · have hne : (rd_T41 l i).f0 ≠ (rd_T41 l k).f0 := by have := hs i k hlt (by omega); omega
      by_cases hS : S (rd_T41 l k).f0 = true
      · rw [if_pos hS]
        rw [List.mem_cons]
        have ih := anc_mem hs k (fun y => y == (rd_T41 l k).f2 || (y == (rd_T41 l k).f1 || S y)) i (by omega) hlt
        constructor
        · rintro (h | h)
          · exact absurd h hne
          · rcases ih.1 h with h | ⟨j, h1, h2, h3, h4⟩
            · simp only [Bool.or_eq_true, beq_iff_eq] at h
              rcases h with h | h | h
              · exact .inr ⟨k, hlt, by omega, List.mem_cons_self, .inr h.symm⟩
              · exact .inr ⟨k, hlt, by omega, List.mem_cons_self, .inl h.symm⟩
              · exact .inl h
            · exact .inr ⟨j, h1, by omega, List.mem_cons_of_mem _ h3, h4⟩
        · rintro (h | ⟨j, h1, h2, h3, h4⟩)
          · exact .inr (ih.2 (.inl (by simp [h])))
          · rcases Nat.lt_or_ge j k with hjk | hjk
            · rcases List.mem_cons.1 h3 with h3 | h3
              · have := hs j k hjk (by omega); omega
              · exact .inr (ih.2 (.inr ⟨j, h1, hjk, h3, h4⟩))
            · obtain rfl : j = k := by omega
              refine .inr (ih.2 (.inl ?_))
              rcases h4 with h4 | h4 <;> simp [h4]
      · rw [if_neg hS]
        have ih := anc_mem hs k S i (by omega) hlt
        rw [ih]
        constructor
        · rintro (h | ⟨j, h1, h2, h3, h4⟩)
          · exact .inl h
          · exact .inr ⟨j, h1, by omega, h3, h4⟩
        · rintro (h | ⟨j, h1, h2, h3, h4⟩)
          · exact .inl h
          · rcases Nat.lt_or_ge j k with hjk | hjk
            · exact .inr ⟨j, h1, hjk, h3, h4⟩
            · obtain rfl : j = k := by omega
              exact absurd h3 (hnot S)
    · obtain rfl : i = k := by omega
      by_cases hS : S (rd_T41 l i).f0 = true
      · rw [if_pos hS]
        exact ⟨fun _ => .inl hS, fun _ => List.mem_cons_self⟩
      · rw [if_neg hS]
        constructor
        · exact fun h => absurd h (hnot S)
        · rintro (h | ⟨j, h1, h2, _⟩)
          · exact absurd h hS
          · omega
/-- The recurrence: a commit is an ancestor of id if it is id, or a parent of a later commit that is one. -/
theorem anc_rec {l : List S41} (ho : okI l) (id : Int) (i : Nat) (hi : i < l.length) : upB l id i l.length = ancB l id i := by
  rw [Bool.eq_iff_iff, upB_iff]
  have h := anc_mem (sorted_rd ho) l.length (fun y => y == id) i (Nat.le_refl _) hi
  unfold ancB
  rw [List.contains_iff_mem]
  unfold ancS
  rw [h]
  simp only [beq_iff_eq, kidB, ancB, Bool.and_eq_true, Bool.or_eq_true, List.contains_iff_mem]
  rfl
/-- Whether one of the first k commits is the one that is asked for, and an ancestor. -/
def hitB (l : List S41) (a id : Int) (k : Nat) : Bool := (List.range k).any fun j => ancB l id j && (rd_T41 l j).f0 == a
theorem hitB_succ (l : List S41) (a id : Int) (k : Nat) : hitB l a id (k + 1) = (hitB l a id k || (ancB l id k && (rd_T41 l k).f0 == a)) := by
  unfold hitB
  rw [List.range_succ, List.any_append]
  simp
theorem hitB_all (l : List S41) (a id : Int) : hitB l a id l.length = (ancS l id).contains a := by
  rw [Bool.eq_iff_iff, List.contains_iff_mem]
  unfold hitB
  rw [List.any_eq_true]
  constructor
  · rintro ⟨j, hj, h⟩
    simp only [ancB, Bool.and_eq_true, List.contains_iff_mem, beq_iff_eq] at h
    rw [← h.2]; exact h.1
  · intro h
    obtain ⟨p, hp, e⟩ := anc_ids l l.length _ a h
    refine ⟨p, List.mem_range.2 hp, ?_⟩
    simp only [ancB, Bool.and_eq_true, List.contains_iff_mem, beq_iff_eq]
    exact ⟨by rw [e]; exact h, e⟩
theorem hit_found {l : List S41} {a id : Int} {k : Nat} (h1 : ancB l id k = true) (h2 : (rd_T41 l k).f0 = a) : (ancS l id).contains a = true := by
  unfold ancB at h1
  rw [← h2]; exact h1
/-- The merge base by positions. -/
theorem mb_at {l : List S41} (ho : okI l) {a b : Int} {i : Nat} (hi : i < l.length) (ha : ancB l a i = true) (hb : ancB l b i = true) (hn : ∀ j, i < j → j < l.length → (ancB l a j && ancB l b j) = false) : mbS l a b = ((rd_T41 l i).f0, true) := by
  unfold ancB at ha hb
  rw [List.contains_iff_mem] at ha hb
  obtain ⟨⟨x, r⟩, h⟩ : ∃ z, mbS l a b = z := ⟨_, rfl⟩
  cases r with
  | false => exact absurd ha (mb_none h _ hb)
  | true =>
    obtain ⟨h1, h2, h3⟩ := mb_some ho h
    have hle := h3 _ ha hb
    obtain ⟨p, hp, e⟩ := anc_ids l l.length _ x h1
    have hpi : p = i := by
      rcases Nat.lt_trichotomy p i with hlt | heq | hgt
      · have := sorted_rd ho p i hlt hi
        omega
      · exact heq
      · have := hn p hgt hp
        unfold ancB at this
        rw [e, Bool.and_eq_false_iff] at this
        rcases this with h | h
        · rw [← Bool.not_eq_true, List.contains_iff_mem] at h; exact absurd h1 h
        · rw [← Bool.not_eq_true, List.contains_iff_mem] at h; exact absurd h2 h
    rw [h, ← e, hpi]
theorem mb_not {l : List S41} (ho : okI l) {a b : Int} (hn : ∀ j, j < l.length → (ancB l a j && ancB l b j) = false) : mbS l a b = (0, false) := by
  unfold mbS
  rw [List.find?_eq_none.2]
  intro x hx
  obtain ⟨p, hp, e⟩ := anc_ids l l.length _ x hx
  have := hn p hp
  unfold ancB at this
  rw [e, Bool.and_eq_false_iff] at this
  rcases this with h | h
  · simpa using h
  · rw [← Bool.not_eq_true, List.contains_iff_mem] at h; exact absurd hx h
end Go.Proofs.Ytjeoabjccbinhaa.P

namespace Go.Proofs.Ytjeoabjccbinhaa.P
open Go.RowKit Go.Proofs.YtjeoabjccbinhaaW.PrintWords Go.Proofs.YtjeoabjccbinhaaW.PrintLast Go.Proofs.YtjeoabjccbinhaaW.PrintMore
set_option linter.unusedVariables false
set_option linter.unusedSimpArgs false
theorem wrap_pred (i : Nat) (h : i ≤ 1000000) : wrap64 ((i : Int) - 1) = (i : Int) - 1 := by unfold wrap64; omega
/-- The marks when places above i are done, and i has b. -/
def stB (l : List S41) (id : Int) (i : Nat) (b : Bool) : List Bool := (List.range l.length).map fun j => if j = i then b else decide (i < j) && ancB l id j
/-- All marks. -/
def ancR (l : List S41) (id : Int) : List Bool := (List.range l.length).map (ancB l id)
theorem stB_len (l : List S41) (id : Int) (i : Nat) (b : Bool) : (stB l id i b).length = l.length := by simp [stB]
theorem ancR_len (l : List S41) (id : Int) : (ancR l id).length = l.length := by simp [ancR]
theorem ancR_rd (l : List S41) (id : Int) (j : Nat) (h : j < l.length) : rdOf false (ancR l id) (j : Int) = ancB l id j := by
  unfold rdOf ancR
  rw [Int.toNat_natCast, List.getD_eq_getElem?_getD, List.getElem?_map, List.getElem?_range h]; rfl
theorem stB_rd (l : List S41) (id : Int) (i : Nat) (b : Bool) (j : Nat) (h : j < l.length) (hij : i < j) : rdOf false (stB l id i b) (j : Int) = ancB l id j := by
  unfold rdOf stB
  rw [Int.toNat_natCast, List.getD_eq_getElem?_getD, List.getElem?_map, List.getElem?_range h]
  show (if j = i then b else decide (i < j) && ancB l id j) = _
  rw [if_neg (by omega), decide_eq_true hij, Bool.true_and]
theorem stB_set (l : List S41) (id : Int) (i : Nat) (b : Bool) (c : Bool) : (stB l id i b).set i c = stB l id i c := by
  apply List.ext_getElem?
  intro j
  unfold stB
  rw [List.getElem?_set]
  by_cases hj : i = j
  · subst hj
    rw [if_pos rfl]
    by_cases hl : i < l.length
    · rw [if_pos (by simpa using hl), List.getElem?_map, List.getElem?_range hl]; simp
    · rw [if_neg (by simpa using hl), List.getElem?_eq_none (by simpa using Nat.le_of_not_lt hl)]
  · rw [if_neg hj, List.getElem?_map, List.getElem?_map]
    cases heq : (List.range l.length)[j]? with
    | none => rfl
    | some y =>
      simp only [Option.map_some, Option.some.injEq]
      by_cases hy : y = i
      · subst hy
        exfalso
        have := List.getElem?_eq_some_iff.1 heq
        obtain ⟨h1, h2⟩ := this
        rw [List.getElem_range] at h2
        exact hj h2.symm
      · rw [if_neg hy, if_neg hy]
theorem stB_down (l : List S41) (id : Int) (i : Nat) : stB l id (i + 1) (ancB l id (i + 1)) = stB l id i false := by
  unfold stB
  refine List.map_congr_left fun j hj => ?_
  by_cases h1 : j = i + 1
  · subst h1
    rw [if_pos rfl, if_neg (by omega), decide_eq_true (by omega), Bool.true_and]
  · rw [if_neg h1]
    by_cases h2 : j = i
    · subst h2
      rw [if_pos rfl, decide_eq_false (by omega), Bool.false_and]
    · rw [if_neg h2]
      have : decide (i + 1 < j) = decide (i < j) := by rw [Bool.eq_iff_iff]; simp; omega
      rw [this]
theorem stB_end (l : List S41) (id : Int) : stB l id 0 (ancB l id 0) = ancR l id := by
  unfold stB ancR
  refine List.map_congr_left fun j hj => ?_
  by_cases h1 : j = 0
  · subst h1; rw [if_pos rfl]
  · rw [if_neg h1, decide_eq_true (by omega), Bool.true_and]
theorem stB_start (l : List S41) (id : Int) (n : Nat) (h : l.length = n + 1) : List.replicate l.length false = stB l id n false := by
  unfold stB
  rw [h]
  apply List.ext_getElem
  · simp
  intro j h1 h2
  rw [List.getElem_replicate, List.getElem_map, List.getElem_range]
  by_cases hj : j = n
  · rw [if_pos hj]
  · rw [if_neg hj, decide_eq_false (by simp at h1; omega), Bool.false_and]
section
variable (l : List S41) (l1 l2 : List S86) (r id : Int)
theorem anc_l1 (hn : l.length ≤ 1000) (i : Nat) (hi : i < l.length) : ∀ (d k m : Nat), k + d = l.length → i < k →
    laminaref25_ancestors.l1 (d + 1 + m) id (stB l id i (upB l id i k)) i (k : Int) l l1 l2 r = laminaref25_ancestors.l0 m id (stB l id i (upB l id i l.length)) (wrap64 ((i : Int) - 1)) l l1 l2 r := by
  intro d
  induction d with
  | zero =>
    intro k m hk hik
    obtain rfl : k = l.length := by omega
    rw [show 0 + 1 + m = m + 1 by omega]
    simp only [laminaref25_ancestors.l1]
    rw [if_neg (by omega)]
  | succ d ih =>
    intro k m hk hik
    have hu := upB_step l id i k hik
    have ih' := ih (k + 1) m (by omega) (by omega)
    rw [show d + 1 + 1 + m = (d + 1 + m) + 1 by omega]
    simp only [laminaref25_ancestors.l1]
    rw [if_pos (by omega), if_pos (by omega), if_pos (by rw [stB_len]; omega), stB_rd l id i _ k (by omega) hik, wrap_succ k (by omega), Int.toNat_natCast, stB_set]
    unfold kidB at hu
    by_cases h1 : ancB l id k = true
    · rw [if_pos h1, if_pos (by omega), if_pos (by omega)]
      rw [h1, Bool.true_and] at hu
      by_cases h2 : (rd_T41 l (k : Int)).f1 = (rd_T41 l (i : Int)).f0
      · rw [if_pos h2, if_pos (by rw [stB_len]; omega)]
        rw [show upB l id i (k + 1) = true from by rw [hu, beq_iff_eq.2 h2]; simp] at ih'
        exact ih'
      · rw [if_neg h2]
        by_cases h3 : (rd_T41 l (k : Int)).f2 = (rd_T41 l (i : Int)).f0
        · rw [if_pos h3, if_pos (by rw [stB_len]; omega)]
          rw [show upB l id i (k + 1) = true from by rw [hu, beq_iff_eq.2 h3]; simp] at ih'
          exact ih'
        · rw [if_neg h3]
          rw [show upB l id i (k + 1) = upB l id i k from by rw [hu, beq_eq_false_iff_ne.2 h2, beq_eq_false_iff_ne.2 h3]; simp] at ih'
          exact ih'
    · rw [if_neg h1]
      rw [show upB l id i (k + 1) = upB l id i k from by rw [hu]; simp [h1]] at ih'
      exact ih'
theorem anc_l0 (ho : okI l) (hn : l.length ≤ 1000) : ∀ (i m : Nat), i < l.length → (i + 2) * (l.length + 4) ≤ m → laminaref25_ancestors.l0 m id (stB l id i false) (i : Int) l l1 l2 r = some (ancR l id) := by
  intro i
  induction i with
  | zero =>
    intro m hi hm
    obtain ⟨d, hd⟩ : ∃ d, 0 + 1 + d = l.length := ⟨l.length - 1, by omega⟩
    obtain ⟨m', rfl⟩ : ∃ m', m = (((d + 1 + (m' + 1)) + 1) + 1) := ⟨m - (d + 4), by omega⟩
    simp only [laminaref25_ancestors.l0, laminaref25_ancestors.j1]
    have hl := anc_l1 l l1 l2 r id hn 0 hi d (0 + 1) (m' + 1) hd (by omega)
    rw [upB_low l id 0 _ (by omega), anc_rec ho id 0 hi, stB_end, wrap_pred 0 (by omega)] at hl
    have h0 : laminaref25_ancestors.l0 (m' + 1) id (ancR l id) (((0 : Nat) : Int) - 1) l l1 l2 r = some (ancR l id) := by
      simp only [laminaref25_ancestors.l0]
      rw [if_neg (by omega)]
    rw [if_pos (by omega), if_pos (by omega), if_pos (by omega), wrap_succ 0 (by omega)]
    by_cases h1 : (rd_T41 l ((0 : Nat) : Int)).f0 = id
    · rw [if_pos h1, if_pos (by rw [stB_len]; omega), Int.toNat_natCast, stB_set]
      rw [show ((rd_T41 l ((0 : Nat) : Int)).f0 == id) = true from by simpa using h1] at hl
      rw [hl, h0]
    · rw [if_neg h1]
      rw [show ((rd_T41 l ((0 : Nat) : Int)).f0 == id) = false from by simpa using h1] at hl
      rw [hl, h0]
  | succ i ih =>
    intro m hi hm
    obtain ⟨d, hd⟩ : ∃ d, (i + 1) + 1 + d = l.length := ⟨l.length - (i + 2), by omega⟩
    have hmul : (i + 1 + 2) * (l.length + 4) = (i + 2) * (l.length + 4) + (l.length + 4) := by rw [show i + 1 + 2 = (i + 2) + 1 by omega, Nat.succ_mul]
    obtain ⟨m', rfl⟩ : ∃ m', m = (((d + 1 + m') + 1) + 1) := ⟨m - (d + 3), by omega⟩
    have ih' := ih m' (by omega) (by omega)
    simp only [laminaref25_ancestors.l0, laminaref25_ancestors.j1]
    have hl := anc_l1 l l1 l2 r id hn (i + 1) hi d (i + 1 + 1) m' hd (by omega)
    rw [upB_low l id (i + 1) _ (by omega), anc_rec ho id (i + 1) hi, stB_down, wrap_pred (i + 1) (by omega), show (((i + 1 : Nat) : Int) - 1) = (i : Int) by omega, ih'] at hl
    rw [if_pos (by omega), if_pos (by omega), if_pos (by omega), wrap_succ (i + 1) (by omega)]
    by_cases h1 : (rd_T41 l ((i + 1 : Nat) : Int)).f0 = id
    · rw [if_pos h1, if_pos (by rw [stB_len]; omega), Int.toNat_natCast, stB_set]
      rw [show ((rd_T41 l ((i + 1 : Nat) : Int)).f0 == id) = true from by simpa using h1] at hl
      exact hl
    · rw [if_neg h1]
      rw [show ((rd_T41 l ((i + 1 : Nat) : Int)).f0 == id) = false from by simpa using h1] at hl
      exact hl
theorem ancestors_is (ho : okI l) (hn : l.length ≤ 1000) (k : Nat) (hk : 2000000 < k) : laminaref25_ancestors.f k l l1 l2 r id = some (ancR l id) := by
  unfold laminaref25_ancestors.f
  rw [if_pos (by omega), if_pos (by omega), Int.toNat_natCast]
  rcases Nat.eq_zero_or_pos l.length with h0 | h0
  · obtain ⟨k, rfl⟩ : ∃ m, k = m + 1 := ⟨k - 1, by omega⟩
    have hl : l = [] := List.eq_nil_of_length_eq_zero h0
    subst hl
    simp only [laminaref25_ancestors.l0]
    rw [if_neg (by simp [wrap64])]
    rfl
  · obtain ⟨n, hn1⟩ : ∃ n, l.length = n + 1 := ⟨l.length - 1, by omega⟩
    rw [stB_start l id n hn1, hn1, show (((n + 1 : Nat) : Int) - 1) = (n : Int) by omega]
    have hw : wrap64 (n : Int) = (n : Int) := by unfold wrap64; omega
    rw [hw]
    refine anc_l0 l l1 l2 r id ho hn n k (by omega) ?_
    have : (n + 2) * (l.length + 4) ≤ 1002 * 1004 := Nat.mul_le_mul (by omega) (by omega)
    omega
theorem IsAnc_l0 (a : Int) (hn : l.length ≤ 1000) : ∀ (d i m : Nat), i + d = l.length → d < m → hitB l a id i = false → laminaref25_IsAncestor.l0 m a (ancR l id) (i : Int) l l1 l2 r = some (hitB l a id l.length) := by
  intro d
  induction d with
  | zero =>
    intro i m hi hm hh
    obtain ⟨m, rfl⟩ : ∃ q, m = q + 1 := ⟨m - 1, by omega⟩
    obtain rfl : i = l.length := by omega
    simp only [laminaref25_IsAncestor.l0]
    rw [if_neg (by rw [ancR_len]; omega), hh]
  | succ d ih =>
    intro i m hi hm hh
    obtain ⟨m, rfl⟩ : ∃ q, m = q + 1 := ⟨m - 1, by omega⟩
    simp only [laminaref25_IsAncestor.l0]
    have hs := hitB_succ l a id i
    rw [hh, Bool.false_or] at hs
    rw [if_pos (by rw [ancR_len]; omega), if_pos (by omega), ancR_rd l id i (by omega), wrap_succ i (by omega)]
    by_cases h1 : ancB l id i = true
    · rw [if_pos h1, if_pos (by omega)]
      by_cases h2 : (rd_T41 l (i : Int)).f0 = a
      · rw [if_pos h2]
        congr 1
        rw [hitB_all]
        exact (hit_found h1 h2).symm
      · rw [if_neg h2]
        exact ih (i + 1) m (by omega) (by omega) (by rw [hs, beq_eq_false_iff_ne.2 h2]; simp)
    · rw [if_neg h1]
      exact ih (i + 1) m (by omega) (by omega) (by rw [hs]; simp [h1])
theorem IsAncestor_is (a : Int) (ho : okI l) (hn : l.length ≤ 1000) (k : Nat) (hk : 2000000 < k) : laminaref25_IsAncestor.f k l l1 l2 r a id = some ((ancS l id).contains a) := by
  unfold laminaref25_IsAncestor.f
  rw [ancestors_is l l1 l2 r id ho hn k hk, Option.bind_some]
  have := IsAnc_l0 l l1 l2 r id a hn l.length 0 k (by omega) (by omega) rfl
  rw [hitB_all] at this
  exact this
theorem MB_l0 (a b : Int) (ho : okI l) (hn : l.length ≤ 1000) : ∀ (i m : Nat), i ≤ l.length → i < m → (∀ j, i ≤ j → j < l.length → (ancB l a j && ancB l b j) = false) →
    laminaref25_MergeBase.l0 m (ancR l a) (ancR l b) ((i : Int) - 1) l l1 l2 r = some (mbS l a b) := by
  intro i
  induction i with
  | zero =>
    intro m hi hm hh
    obtain ⟨m, rfl⟩ : ∃ q, m = q + 1 := ⟨m - 1, by omega⟩
    simp only [laminaref25_MergeBase.l0]
    rw [if_neg (by omega), mb_not ho (fun j hj => hh j (by omega) hj)]
  | succ i ih =>
    intro m hi hm hh
    obtain ⟨m, rfl⟩ : ∃ q, m = q + 1 := ⟨m - 1, by omega⟩
    rw [show (((i + 1 : Nat) : Int) - 1) = (i : Int) by omega]
    simp only [laminaref25_MergeBase.l0]
    have ih' := fun h => ih m (by omega) (by omega) h
    rw [if_pos (by omega), if_pos (by omega), if_pos (by rw [ancR_len]; omega), ancR_rd l a i (by omega), ancR_rd l b i (by omega), wrap_pred i (by omega)]
    have hstep : (ancB l a i && ancB l b i) = false → ∀ j, i ≤ j → j < l.length → (ancB l a j && ancB l b j) = false := by
      intro h j h1 h2
      rcases Nat.lt_or_ge i j with h3 | h3
      · exact hh j h3 h2
      · obtain rfl : j = i := by omega
        exact h
    by_cases h1 : ancB l a i = true
    · rw [if_pos h1, if_pos (by rw [ancR_len]; omega)]
      by_cases h2 : ancB l b i = true
      · rw [if_pos h2, if_pos (by omega), mb_at ho (by omega) h1 h2 (fun j h3 h4 => hh j h3 h4)]
      · rw [if_neg h2]
        exact ih' (hstep (by simp [h2]))
    · rw [if_neg h1]
      exact ih' (hstep (by simp [h1]))
theorem MergeBase_is (a b : Int) (ho : okI l) (hn : l.length ≤ 1000) (k : Nat) (hk : 2000000 < k) : laminaref25_MergeBase.f k l l1 l2 r a b = some (mbS l a b) := by
  unfold laminaref25_MergeBase.f
  rw [ancestors_is l l1 l2 r a ho hn k hk, Option.bind_some, ancestors_is l l1 l2 r b ho hn k hk, Option.bind_some]
  rw [show wrap64 ((l.length : Int) - 1) = (l.length : Int) - 1 from wrap_pred _ (by omega)]
  exact MB_l0 l l1 l2 r a b ho hn l.length k (Nat.le_refl _) (by omega) (fun j h1 h2 => absurd h2 (by omega))
end
end Go.Proofs.Ytjeoabjccbinhaa.P

namespace Go.Proofs.Ytjeoabjccbinhaa.P
open Go.RowKit Go.Proofs.YtjeoabjccbinhaaW.PrintWords
set_option linter.unusedVariables false
set_option linter.unusedSimpArgs false
theorem f18_E2 (A0 : Option Addr) (c0 : Nat) (A1 : Option Addr) (c1 : Nat) (A2 : Option Addr) (c2 : Nat) (h : S27) (a id : Int) (r : Bool) (he : (ancS h.f0 id).contains a = r) (hid : (Lit.int .i64 id).wf = true) (hwf : WfI h.f0) (hn : h.f0.length ≤ 999) (w : World) (ok : Nat → Prop) (hF0 : Kd.F k41 w ok A0 h.f0.length h.f0) :
    Calls Try.prog 18 #[.agg #[.slice A0 h.f0.length c0, .slice A1 h.f1.length c1, .slice A2 h.f2.length c2, .int .i64 h.f3], .int .i64 a, .int .i64 id] w fun e w' => e = .returned (.bool r) ∧ Below w.heap.size w w' := by
  subst he
  exact f18_calls A0 c0 h.f0 A1 c1 h.f1 A2 c2 h.f2 h.f3 a id hid hwf (by omega) w ok hF0
theorem f23_E (A0 : Option Addr) (c0 : Nat) (A1 : Option Addr) (c1 : Nat) (A2 : Option Addr) (c2 : Nat) (h : S27) (a id : Int) (r : Bool) (he : (ancS h.f0 id).contains a = r) (w : World) (hr : HV w A0 c0 h.f0 A1 c1 h.f1 A2 c2 h.f2) (ho : okI h.f0) (hn : h.f0.length ≤ 999) :
    Calls Try.prog 23 #[.agg #[.slice A0 h.f0.length c0, .slice A1 h.f1.length c1, .slice A2 h.f2.length c2, .int .i64 h.f3], .int .i64 a, .int .i64 id] w fun e w' => e = .returned (.bool r) ∧ Below w.heap.size w w' := by
  subst he
  exact laminaref25_IsAncestor.calls 2000001 A0 c0 h.f0 A1 c1 h.f1 A2 c2 h.f2 h.f3 a id _ w hr.r0 hr.h0 hr.r1 hr.h1 hr.r2 hr.h2 (IsAncestor_is h.f0 h.f1 h.f2 h.f3 id a ho (by omega) 2000001 (by omega))
theorem f19_E2 (A0 : Option Addr) (c0 : Nat) (A1 : Option Addr) (c1 : Nat) (A2 : Option Addr) (c2 : Nat) (h : S27) (a b x : Int) (r : Bool) (he : mbS h.f0 a b = (x, r)) (ha : (Lit.int .i64 a).wf = true) (hb : (Lit.int .i64 b).wf = true) (hwf : WfI h.f0) (hn : h.f0.length ≤ 999) (w : World) (ok : Nat → Prop) (hF0 : Kd.F k41 w ok A0 h.f0.length h.f0) :
    Calls Try.prog 19 #[.agg #[.slice A0 h.f0.length c0, .slice A1 h.f1.length c1, .slice A2 h.f2.length c2, .int .i64 h.f3], .int .i64 a, .int .i64 b] w fun e w' => e = .returned (.tuple #[.int .i64 x, .bool r]) ∧ Below w.heap.size w w' := by
  have := f19_calls A0 c0 h.f0 A1 c1 h.f1 A2 c2 h.f2 h.f3 a b ha hb hwf (by omega) w ok hF0
  rw [he] at this
  exact this
theorem f24_E (A0 : Option Addr) (c0 : Nat) (A1 : Option Addr) (c1 : Nat) (A2 : Option Addr) (c2 : Nat) (h : S27) (a b x : Int) (r : Bool) (he : mbS h.f0 a b = (x, r)) (w : World) (hr : HV w A0 c0 h.f0 A1 c1 h.f1 A2 c2 h.f2) (ho : okI h.f0) (hn : h.f0.length ≤ 999) :
    Calls Try.prog 24 #[.agg #[.slice A0 h.f0.length c0, .slice A1 h.f1.length c1, .slice A2 h.f2.length c2, .int .i64 h.f3], .int .i64 a, .int .i64 b] w fun e w' => e = .returned (.tuple #[.int .i64 x, .bool r]) ∧ Below w.heap.size w w' :=
  laminaref25_MergeBase.calls 2000001 A0 c0 h.f0 A1 c1 h.f1 A2 c2 h.f2 h.f3 a b x r w hr.r0 hr.h0 hr.r1 hr.h1 hr.r2 hr.h2 (he ▸ MergeBase_is h.f0 h.f1 h.f2 h.f3 a b ho (by omega) 2000001 (by omega))
end Go.Proofs.Ytjeoabjccbinhaa.P

namespace Go.Proofs.Ytjeoabjccbinhaa.P
open Go.RowKit Go.Proofs.YtjeoabjccbinhaaW.PrintWords Go.Proofs.YtjeoabjccbinhaaW.PrintLast Go.Proofs.YtjeoabjccbinhaaW.PrintMore
attribute [local go_sem high] eqA41
set_option linter.unusedVariables false
set_option linter.unusedSimpArgs false
def f6_T6 : Bool × List (List Nat × List Nat) := (true, [([], []), ([], []), ([0, 1], [0, 1]), ([2], [2]), ([3], [3]), ([3], [3]), ([4, 5, 3], [3, 4, 5]), ([3, 6], [3, 6]), ([7, 3], [7]), ([8], [8]), ([8], [8]), ([9, 10, 8, 8], [8, 9, 10]), ([8], [8]), ([8], [8]), ([12, 13, 11, 8], [8, 12, 13]), ([11, 14, 14, 8], [8, 11, 14]), ([15, 8], [8, 15]), ([8, 16], [8, 16]), ([17, 15], [17]), ([18], [18]), ([18], [18]), ([18], [18]), ([19, 20, 21, 18, 18], [18, 19, 20, 21]), ([18], [18]), ([18], [18]), ([18], [18]), ([23, 24, 25, 22, 18], [18, 23, 24, 25]), ([22, 26, 18], [18, 22, 26]), ([18, 27], [18, 27])])
def f6_B6 : List Nat := [0, 0, 3, 7, 15, 15, 63, 127, 255, 511, 511, 2047, 511, 511, 16383, 32767, 65535, 131071, 262143, 524287, 524287, 524287, 4194303, 524287, 524287, 524287, 67108863, 134217727, 268435455]
set_option maxRecDepth 100000 in
theorem f6_tab6 : rtab .any (opsOf Try.f6 6) = f6_T6 := by kernel_rfl
theorem f6_bits6 : waitsOk f6_T6.2 f6_B6 = true := by kernel_rfl
set_option maxHeartbeats 8000000 in
set_option maxRecDepth 100000 in
theorem f6_calls (A : Option Addr) (c : Nat) (l : List S32) (a b : Int) (s : ByteArray) (w : World) (hr : Kd.C k32 w A l.length l) (hc : l.length ≤ c) (hn : l.length ≤ 9223372036854775807) (hG : ∀ x ∈ l, G32 x) (ha : (Lit.int .i64 a).wf = true) (hb : (Lit.int .i64 b).wf = true) :
    Calls Try.prog 6 #[.slice A l.length c, .int .i64 a, .int .i64 b, .string s] w fun e w' => e = .returned (.bool true) ∧ Below w.heap.size w w' := by
  have HR := Aside0.mk hr
  have H9 := Aside0.mk f9_calls
  have HWA := Aside0.mk ha
  have HWB := Aside0.mk hb
  clear hr ha hb
  by_cases h200 : 200 < l.length
  · have hd : decide (200 < (l.length : Int)) = true := decide_eq_true (by omega)
    go_enter Try.func6, Try.ntmps6
    go_wp2_with (go_at_call 9; refine (H9.out _).mono ?_; rintro e w1 ⟨rfl, hb⟩)
    go_ret
    exact ⟨rfl, hb⟩
  have hd : decide (200 < (l.length : Int)) = false := decide_eq_false (by omega)
  have hl2 : l.length ≤ 200 := by omega
  have hok := builtS_okN l l.length (Nat.le_refl _)
  have hgd := good_bltQ l hG l.length (Nat.le_refl _)
  rw [List.take_length] at hok hgd
  have H15 := Aside0.mk (f15_calls A c l w HR.out hc (by omega))
  obtain ⟨h, hh⟩ : ∃ h, builtS l = h := ⟨_, rfl⟩
  rw [hh] at hok hgd H15
  have hh0 : h.f0.length ≤ 200 := Nat.le_trans hok.n0 hl2
  have hn9 : h.f0.length ≤ 999 := by omega
  have HN := Aside0.mk hok
  have HGD := Aside0.mk hgd
  have HO := Aside0.mk (hok.okH (by omega))
  have HWF := Aside0.mk (good_wf hgd)
  clear h200 hn hok hh hgd hG
  obtain ⟨xs, hch, hlen⟩ := chain_of HN.out.o0 HGD.out a
  have HCH := Aside0.mk hch
  obtain ⟨n, hn_⟩ : ∃ n, nodeI h.f0 a = n := ⟨_, rfl⟩
  obtain ⟨q, hq_⟩ : ∃ q, hasI h.f0 a = q := ⟨_, rfl⟩
  obtain ⟨r, hr_⟩ : ∃ r, (ancS h.f0 b).contains a = r := ⟨_, rfl⟩
  obtain ⟨⟨x, y⟩, hm_⟩ : ∃ z, mbS h.f0 a b = z := ⟨_, rfl⟩
  obtain ⟨x1, hx1⟩ : ∃ z, valS h.f1 s = z := ⟨_, rfl⟩
  obtain ⟨y1, hy1⟩ : ∃ z, hasS h.f1 s = z := ⟨_, rfl⟩
  obtain ⟨x2, hx2⟩ : ∃ z, valS h.f2 s = z := ⟨_, rfl⟩
  obtain ⟨y2, hy2⟩ : ∃ z, hasS h.f2 s = z := ⟨_, rfl⟩
  have E1 := Aside0.mk hn_
  have E2 := Aside0.mk hq_
  have E3 := Aside0.mk hr_
  have E4 := Aside0.mk hm_
  have E5 := Aside0.mk hx1
  have E6 := Aside0.mk hy1
  have E7 := Aside0.mk hx2
  have E8 := Aside0.mk hy2
  clear hch hn_ hq_ hr_ hm_ hx1 hy1 hx2 hy2
  have hlx : xs.length ≤ 2000 := by omega
  go_enter Try.func6, Try.ntmps6
  go_wp2_with (first
    | (go_at_call 15; refine H15.out.mono ?_; rintro e w1 ⟨v0, v1, v2, rfl, hw, hb⟩; obtain ⟨A0, c0, A1, c1, A2, c2, rfl, rfl, rfl, hV, hF⟩ := HW.open hw; have HV1 := Aside0.mk hV; have HF1 := Aside0.mk hF; have HB1 := Aside0.mk hb; have hz1 := hb.size; clear hb hw hV hF)
    | (go_at_call 16; refine (f16_E A0 c0 A1 c1 A2 c2 h a n q E1.out E2.out _ (HV1.out.below (by repeat (first | exact Below.refl _ _ | apply below_alloc | apply below_drew1 | apply pw_below_drewN))) HN.out.o0 (by omega)).mono ?_; rintro e w2 ⟨rfl, hb⟩; have HB2 : Aside0 (Below w1.heap.size w1 w2) := ⟨Below.trans (below_alloc (Below.refl _ _) (.cells #[.slice A0 h.f0.length c0, .slice A1 h.f1.length c1, .slice A2 h.f2.length c2, .int .i64 h.f3] 27)) (hb.mono (by simp))⟩; have BK2 : Aside0 (w2.heap[w1.heap.size]? = some (.cells #[.slice A0 h.f0.length c0, .slice A1 h.f1.length c1, .slice A2 h.f2.length c2, .int .i64 h.f3] 27 (0, 0))) := ⟨(hb.block _ (by simp)).trans (heap_alloc_new _ _)⟩; have hz2 : w1.heap.size < w2.heap.size := (by have h_ := hb.size; simp only [World.size_alloc] at h_; omega); clear hb; obtain ⟨⟨a0, a1, a2, a3⟩, p0, p1, p2, p3⟩ := blk4 BK2.out)
    | (go_at_call 20; refine (f20_E A0 c0 A1 c1 A2 c2 h a n q E1.out E2.out _ (HV1.out.below (by exact HB2.out.alloc (by omega) _)) HN.out.o0 (by omega)).mono ?_; clear a0 a1 a2 a3 p0 p1 p2 p3; rintro e w3 ⟨rfl, hb⟩; have HB3 : Aside0 (Below w1.heap.size w1 w3) := ⟨(HB2.out.alloc (by omega) _).trans (hb.mono (by simp; omega))⟩; have BK3 : Aside0 (w3.heap[w1.heap.size]? = some (.cells #[.slice A0 h.f0.length c0, .slice A1 h.f1.length c1, .slice A2 h.f2.length c2, .int .i64 h.f3] 27 (0, 0))) := ⟨(hb.block _ (by simp; omega)).trans (blk_alloc BK2.out _)⟩; have BN3 : Aside0 (w3.heap[w2.heap.size]? = some (.cells #[.int .i64 n.f0, .int .i64 n.f1, .int .i64 n.f2, .int .i64 n.f3] 41 (0, 0))) := ⟨(hb.block _ (by simp)).trans (heap_alloc_new _ _)⟩; have hz3 : w2.heap.size < w3.heap.size := (by have h_ := hb.size; simp only [World.size_alloc] at h_; omega); clear hb))
  have BKc := Aside0.mk (blk_alloc BK3.out (.cells #[.int .i64 n.f0, .int .i64 n.f1, .int .i64 n.f2, .int .i64 n.f3] 41))
  have BNc := Aside0.mk (blk_alloc BN3.out (.cells #[.int .i64 n.f0, .int .i64 n.f1, .int .i64 n.f2, .int .i64 n.f3] 41))
  have BMc := Aside0.mk (heap_alloc_new w3 (.cells #[.int .i64 n.f0, .int .i64 n.f1, .int .i64 n.f2, .int .i64 n.f3] 41))
  have HBc := Aside0.mk (HB3.out.alloc (by omega) (.cells #[.int .i64 n.f0, .int .i64 n.f1, .int .i64 n.f2, .int .i64 n.f3] 41))
  have hzc : w3.heap.size < (w3.alloc (.cells #[.int .i64 n.f0, .int .i64 n.f1, .int .i64 n.f2, .int .i64 n.f3] 41)).heap.size := by simp
  obtain ⟨wc, hwc⟩ : ∃ wc, w3.alloc (.cells #[.int .i64 n.f0, .int .i64 n.f1, .int .i64 n.f2, .int .i64 n.f3] 41) = wc := ⟨_, rfl⟩
  rw [hwc] at BKc BNc BMc HBc hzc ⊢
  clear hwc BK3 BN3 HB3
  have HVc := Aside0.mk (HV1.out.below HBc.out)
  have HFc := Aside0.mk (Kd.F_below HF1.out.f0 HBc.out)
  have HBW := Aside0.mk (HB1.out.trans (HBc.out.mono (by omega)))
  have HS : Aside0 (∀ W, Below wc.heap.size wc W → (W.cell? ⟨w1.heap.size, 0, none⟩ = some (.slice A0 h.f0.length c0) ∧ W.cell? ⟨w1.heap.size, 1, none⟩ = some (.slice A1 h.f1.length c1) ∧ W.cell? ⟨w1.heap.size, 2, none⟩ = some (.slice A2 h.f2.length c2) ∧ W.cell? ⟨w1.heap.size, 3, none⟩ = some (.int .i64 h.f3) ∧ W.cell? ⟨w2.heap.size, 0, none⟩ = some (.int .i64 n.f0) ∧ W.cell? ⟨w2.heap.size, 1, none⟩ = some (.int .i64 n.f1) ∧ W.cell? ⟨w2.heap.size, 2, none⟩ = some (.int .i64 n.f2) ∧ W.cell? ⟨w2.heap.size, 3, none⟩ = some (.int .i64 n.f3) ∧ W.cell? ⟨w3.heap.size, 0, none⟩ = some (.int .i64 n.f0) ∧ W.cell? ⟨w3.heap.size, 1, none⟩ = some (.int .i64 n.f1) ∧ W.cell? ⟨w3.heap.size, 2, none⟩ = some (.int .i64 n.f2) ∧ W.cell? ⟨w3.heap.size, 3, none⟩ = some (.int .i64 n.f3))) := ⟨fun W hb => by
    obtain ⟨⟨a0, a1, a2, a3⟩, _⟩ := blk4 ((hb.block _ (by omega)).trans BKc.out)
    obtain ⟨⟨b0, b1, b2, b3⟩, _⟩ := blk4 ((hb.block _ (by omega)).trans BNc.out)
    obtain ⟨⟨d0, d1, d2, d3⟩, _⟩ := blk4 ((hb.block _ (by omega)).trans BMc.out)
    exact ⟨a0, a1, a2, a3, b0, b1, b2, b3, d0, d1, d2, d3⟩⟩
  have HYd := Aside0.mk (below_drew1 (Below.refl wc.heap.size wc))
  refine start_ (n := 29) (S := fun w' => w'.cell? ⟨w1.heap.size, 0, none⟩ = some (.slice A0 h.f0.length c0) ∧ w'.cell? ⟨w1.heap.size, 1, none⟩ = some (.slice A1 h.f1.length c1) ∧ w'.cell? ⟨w1.heap.size, 2, none⟩ = some (.slice A2 h.f2.length c2) ∧ w'.cell? ⟨w1.heap.size, 3, none⟩ = some (.int .i64 h.f3) ∧ w'.cell? ⟨w2.heap.size, 0, none⟩ = some (.int .i64 n.f0) ∧ w'.cell? ⟨w2.heap.size, 1, none⟩ = some (.int .i64 n.f1) ∧ w'.cell? ⟨w2.heap.size, 2, none⟩ = some (.int .i64 n.f2) ∧ w'.cell? ⟨w2.heap.size, 3, none⟩ = some (.int .i64 n.f3) ∧ w'.cell? ⟨w3.heap.size, 0, none⟩ = some (.int .i64 n.f0) ∧ w'.cell? ⟨w3.heap.size, 1, none⟩ = some (.int .i64 n.f1) ∧ w'.cell? ⟨w3.heap.size, 2, none⟩ = some (.int .i64 n.f2) ∧ w'.cell? ⟨w3.heap.size, 3, none⟩ = some (.int .i64 n.f3)) (ds := []) #[false, false, false, false, false, false, false, false, false, false, false, false, false, false, false, false, false, false, false, false, false, false, false, false, false, false, false, false, false] (by kernel_rfl) rfl rfl (HS.out _ HYd.out) (fun hHeld => ?_)
  refine with_tabW f6_tab6 f6_bits6 (fun HT_ HW_ => ?_)
  generalize wc.drew = wd at HYd hHeld ⊢
  refine take_ (i := 0) (N := some 34) (v := ?_) (a' := ?_) #[true, false, false, false, false, false, false, false, false, false, false, false, false, false, false, false, false, false, false, false, false, false, false, false, false, false, false, false, false] rfl rfl (take_ofW HT_.out HW_.out (by kernel_rfl)) (fun _ _ _ h => h) (Or.inl ⟨by rfl, ?_⟩) hHeld ?_ ?_
  rotate_left
  · rintro w' ⟨s0, s1, s2, s3, s4, s5, s6, s7, s8, s9, s10, s11⟩
    go_simp
    with_reducible rfl
  rotate_left
  · simp only [Act.put, List.setIfInBounds_toArray, List.set_cons_zero, List.set_cons_succ, i64_w, i32_w]
    rfl
  refine take_ (i := 1) (N := some 35) (v := ?_) (a' := ?_) #[true, true, false, false, false, false, false, false, false, false, false, false, false, false, false, false, false, false, false, false, false, false, false, false, false, false, false, false, false] rfl rfl (take_ofW HT_.out HW_.out (by kernel_rfl)) (fun _ _ _ h => h) (Or.inl ⟨by rfl, ?_⟩) hHeld ?_ ?_
  rotate_left
  · rintro w' ⟨s0, s1, s2, s3, s4, s5, s6, s7, s8, s9, s10, s11⟩
    go_simp
    with_reducible rfl
  rotate_left
  · simp only [Act.put, List.setIfInBounds_toArray, List.set_cons_zero, List.set_cons_succ, i64_w, i32_w]
    rfl
  refine pure_ (i := 2) (N := some 36) (v := ?_) (a' := ?_) #[true, true, true, false, false, false, false, false, false, false, false, false, false, false, false, false, false, false, false, false, false, false, false, false, false, false, false, false, false] rfl rfl (any_of HT_.out (by kernel_rfl)) (fun _ _ _ h => h) (Or.inl ⟨by rfl, ?_⟩) ?_ ?_
  rotate_left
  · intro w'
    go_simp
    with_reducible rfl
  rotate_left
  · simp only [Act.put, List.setIfInBounds_toArray, List.set_cons_zero, List.set_cons_succ, i64_w, i32_w]
    rfl
  refine pure_ (i := 3) (N := some 37) (v := ?_) (a' := ?_) #[true, true, true, true, false, false, false, false, false, false, false, false, false, false, false, false, false, false, false, false, false, false, false, false, false, false, false, false, false] rfl rfl (any_of HT_.out (by kernel_rfl)) (fun _ _ _ h => h) (Or.inl ⟨by rfl, ?_⟩) ?_ ?_
  rotate_left
  · intro w'
    go_simp
    with_reducible rfl
  rotate_left
  · simp only [Act.put, List.setIfInBounds_toArray, List.set_cons_zero, List.set_cons_succ, i64_w, i32_w]
    rfl
  refine pure_ (i := 4) (N := some 38) (v := ?_) (a' := ?_) #[true, true, true, true, true, false, false, false, false, false, false, false, false, false, false, false, false, false, false, false, false, false, false, false, false, false, false, false, false] rfl rfl (any_of HT_.out (by kernel_rfl)) (fun _ _ _ h => h) (Or.inl ⟨by rfl, ?_⟩) ?_ ?_
  rotate_left
  · intro w'
    go_simp
    with_reducible rfl
  rotate_left
  · simp only [Act.put, List.setIfInBounds_toArray, List.set_cons_zero, List.set_cons_succ, i64_w, i32_w]
    rfl
  refine pure_ (i := 5) (N := some 39) (v := ?_) (a' := ?_) #[true, true, true, true, true, true, false, false, false, false, false, false, false, false, false, false, false, false, false, false, false, false, false, false, false, false, false, false, false] rfl rfl (any_of HT_.out (by kernel_rfl)) (fun _ _ _ h => h) (Or.inl ⟨by rfl, ?_⟩) ?_ ?_
  rotate_left
  · intro w'
    go_simp
    with_reducible rfl
  rotate_left
  · simp only [Act.put, List.setIfInBounds_toArray, List.set_cons_zero, List.set_cons_succ, i64_w, i32_w]
    rfl
  refine pure_ (i := 6) (N := some 40) (v := ?_) (a' := ?_) #[true, true, true, true, true, true, true, false, false, false, false, false, false, false, false, false, false, false, false, false, false, false, false, false, false, false, false, false, false] rfl rfl (any_of HT_.out (by kernel_rfl)) (fun _ _ _ h => h) (Or.inl ⟨by rfl, ?_⟩) ?_ ?_
  rotate_left
  · intro w'
    go_simp
    with_reducible rfl
  rotate_left
  · simp only [Act.put, List.setIfInBounds_toArray, List.set_cons_zero, List.set_cons_succ, i64_w, i32_w]
    rfl
  refine pure_ (i := 7) (N := some 41) (v := ?_) (a' := ?_) #[true, true, true, true, true, true, true, true, false, false, false, false, false, false, false, false, false, false, false, false, false, false, false, false, false, false, false, false, false] rfl rfl (any_of HT_.out (by kernel_rfl)) (fun _ _ _ h => h) (Or.inl ⟨by rfl, ?_⟩) ?_ ?_
  rotate_left
  · intro w'
    go_simp
    with_reducible rfl
  rotate_left
  · simp only [Act.put, List.setIfInBounds_toArray, List.set_cons_zero, List.set_cons_succ, i64_w, i32_w]
    rfl
  refine pure_ (i := 8) (N := some 42) (v := ?_) (a' := ?_) #[true, true, true, true, true, true, true, true, true, false, false, false, false, false, false, false, false, false, false, false, false, false, false, false, false, false, false, false, false] rfl rfl (any_of HT_.out (by kernel_rfl)) (fun _ _ _ h => h) (Or.inl ⟨by rfl, ?_⟩) ?_ ?_
  rotate_left
  · intro w'
    go_simp
    with_reducible rfl
  rotate_left
  · simp only [Act.put, List.setIfInBounds_toArray, List.set_cons_zero, List.set_cons_succ, i64_w, i32_w]
    rfl
  refine take_ (i := 9) (N := some 43) (v := ?_) (a' := ?_) #[true, true, true, true, true, true, true, true, true, true, false, false, false, false, false, false, false, false, false, false, false, false, false, false, false, false, false, false, false] rfl rfl (take_ofW HT_.out HW_.out (by kernel_rfl)) (fun _ _ _ h => h) (Or.inl ⟨by rfl, ?_⟩) hHeld ?_ ?_
  rotate_left
  · rintro w' ⟨s0, s1, s2, s3, s4, s5, s6, s7, s8, s9, s10, s11⟩
    go_simp
    with_reducible rfl
  rotate_left
  · simp only [Act.put, List.setIfInBounds_toArray, List.set_cons_zero, List.set_cons_succ, i64_w, i32_w]
    rfl
  refine pure_ (i := 10) (N := some 44) (v := ?_) (a' := ?_) #[true, true, true, true, true, true, true, true, true, true, true, false, false, false, false, false, false, false, false, false, false, false, false, false, false, false, false, false, false] rfl rfl (any_of HT_.out (by kernel_rfl)) (fun _ _ _ h => h) (Or.inl ⟨by rfl, ?_⟩) ?_ ?_
  rotate_left
  · intro w'
    go_simp
    with_reducible rfl
  rotate_left
  · simp only [Act.put, List.setIfInBounds_toArray, List.set_cons_zero, List.set_cons_succ, i64_w, i32_w]
    rfl
  refine take_ (i := 12) (N := some 46) (v := ?_) (a' := ?_) #[true, true, true, true, true, true, true, true, true, true, true, false, true, false, false, false, false, false, false, false, false, false, false, false, false, false, false, false, false] rfl rfl (take_ofW HT_.out HW_.out (by kernel_rfl)) (fun _ _ _ h => h) (Or.inl ⟨by rfl, ?_⟩) hHeld ?_ ?_
  rotate_left
  · rintro w' ⟨s0, s1, s2, s3, s4, s5, s6, s7, s8, s9, s10, s11⟩
    go_simp
    with_reducible rfl
  rotate_left
  · simp only [Act.put, List.setIfInBounds_toArray, List.set_cons_zero, List.set_cons_succ, i64_w, i32_w]
    rfl
  refine pure_ (i := 13) (N := some 47) (v := ?_) (a' := ?_) #[true, true, true, true, true, true, true, true, true, true, true, false, true, true, false, false, false, false, false, false, false, false, false, false, false, false, false, false, false] rfl rfl (any_of HT_.out (by kernel_rfl)) (fun _ _ _ h => h) (Or.inl ⟨by rfl, ?_⟩) ?_ ?_
  rotate_left
  · intro w'
    go_simp
    with_reducible rfl
  rotate_left
  · simp only [Act.put, List.setIfInBounds_toArray, List.set_cons_zero, List.set_cons_succ, i64_w, i32_w]
    rfl
  refine one_ (i := 11) (N := some 45) #[true, true, true, true, true, true, true, true, true, true, true, true, true, true, false, false, false, false, false, false, false, false, false, false, false, false, false, false, false] rfl rfl (one_of HT_.out (by kernel_rfl)) (by decide) (fun K hK => ?_)
  refine goes_ Try.func17 (by kernel_rfl) rfl #[.agg #[.slice A0 h.f0.length c0, .slice A1 h.f1.length c1, .slice A2 h.f2.length c2, .int .i64 h.f3], .int .i64 a] (by rfl) rfl rfl (by (try simp only [List.map_toArray, List.map_cons, List.map_nil]); first | done | rfl) ?_
  refine (f17_E A0 c0 A1 c1 A2 c2 h a xs HCH.out hlen _ (HVc.out.below HYd.out) HN.out.o0 hn9).mono ?_
  rintro e w4 ⟨v4, rfl, hR, hb⟩
  refine ⟨_, rfl, ?_⟩
  obtain ⟨A4, c4, rfl, hc4, hC⟩ := Kd.R_reads hR
  have HC4 := Aside0.mk hC
  have HY4 := Aside0.mk (HYd.out.trans (hb.mono HYd.out.size))
  clear hR hC hb
  refine hK.out _ _ (HS.out _ HY4.out) (fun hHeld => ?_)
  clear hK K
  refine norm_ (a' := ?_) ?_ ?_
  rotate_left
  · show Act.put _ (some 45) _ = _
    simp only [Act.put, List.setIfInBounds_toArray, List.set_cons_zero, List.set_cons_succ, i64_w, i32_w]
    rfl
  refine one_ (i := 14) (N := some 48) #[true, true, true, true, true, true, true, true, true, true, true, true, true, true, true, false, false, false, false, false, false, false, false, false, false, false, false, false, false] rfl rfl (one_of HT_.out (by kernel_rfl)) (by decide) (fun K hK => ?_)
  refine goes_ Try.func22 (by kernel_rfl) rfl #[.agg #[.slice A0 h.f0.length c0, .slice A1 h.f1.length c1, .slice A2 h.f2.length c2, .int .i64 h.f3], .int .i64 a] (by rfl) rfl rfl (by (try simp only [List.map_toArray, List.map_cons, List.map_nil]); first | done | rfl) ?_
  refine (f22_E A0 c0 A1 c1 A2 c2 h a xs HCH.out hlen _ (HVc.out.below HY4.out) HN.out.o0 hn9).mono ?_
  rintro e w5 ⟨v5, rfl, hR, hb⟩
  refine ⟨_, rfl, ?_⟩
  obtain ⟨A5, c5, rfl, hc5, hC⟩ := Kd.R_reads hR
  have HC5 := Aside0.mk hC
  have HC45 := Aside0.mk (Kd.C_below HC4.out hb)
  have HY5 := Aside0.mk (HY4.out.trans (hb.mono HY4.out.size))
  clear hR hC hb
  refine hK.out _ _ (HS.out _ HY5.out) (fun hHeld => ?_)
  clear hK K
  refine norm_ (a' := ?_) ?_ ?_
  rotate_left
  · show Act.put _ (some 48) _ = _
    simp only [Act.put, List.setIfInBounds_toArray, List.set_cons_zero, List.set_cons_succ, i64_w, i32_w]
    rfl
  refine one_ (i := 15) (N := some 49) #[true, true, true, true, true, true, true, true, true, true, true, true, true, true, true, true, false, false, false, false, false, false, false, false, false, false, false, false, false] rfl rfl (one_of HT_.out (by kernel_rfl)) (by decide) (fun K hK => ?_)
  refine goes_ Try.func21 (by kernel_rfl) rfl #[.slice A4 xs.length c4, .slice A5 xs.length c5] (by rfl) rfl rfl (by (try simp only [List.map_toArray, List.map_cons, List.map_nil]); first | done | rfl) ?_
  refine (f21_E A4 c4 A5 c5 xs _ HC45.out hc4 HC5.out hc5 hlx).mono ?_
  rintro e w6 ⟨rfl, hb⟩
  refine ⟨_, rfl, ?_⟩
  have HY6 := Aside0.mk (HY5.out.trans (hb.mono HY5.out.size))
  clear hb
  refine hK.out _ _ (HS.out _ HY6.out) (fun hHeld => ?_)
  clear hK K
  refine norm_ (a' := ?_) ?_ ?_
  rotate_left
  · show Act.put _ (some 49) _ = _
    simp only [Act.put, List.setIfInBounds_toArray, List.set_cons_zero, List.set_cons_succ, i64_w, i32_w]
    rfl
  refine pure_ (i := 16) (N := some 50) (v := ?_) (a' := ?_) #[true, true, true, true, true, true, true, true, true, true, true, true, true, true, true, true, true, false, false, false, false, false, false, false, false, false, false, false, false] rfl rfl (any_of HT_.out (by kernel_rfl)) (fun _ _ _ h => h) (Or.inl ⟨by rfl, ?_⟩) ?_ ?_
  rotate_left
  · intro w'
    go_simp
    with_reducible rfl
  rotate_left
  · simp only [Act.put, List.setIfInBounds_toArray, List.set_cons_zero, List.set_cons_succ, i64_w, i32_w]
    rfl
  refine pure_ (i := 17) (N := some 51) (v := ?_) (a' := ?_) #[true, true, true, true, true, true, true, true, true, true, true, true, true, true, true, true, true, true, false, false, false, false, false, false, false, false, false, false, false] rfl rfl (any_of HT_.out (by kernel_rfl)) (fun _ _ _ h => h) (Or.inl ⟨by rfl, ?_⟩) ?_ ?_
  rotate_left
  · intro w'
    go_simp
    with_reducible rfl
  rotate_left
  · simp only [Act.put, List.setIfInBounds_toArray, List.set_cons_zero, List.set_cons_succ, i64_w, i32_w]
    rfl
  refine pure_ (i := 18) (N := some 52) (v := ?_) (a' := ?_) #[true, true, true, true, true, true, true, true, true, true, true, true, true, true, true, true, true, true, true, false, false, false, false, false, false, false, false, false, false] rfl rfl (any_of HT_.out (by kernel_rfl)) (fun _ _ _ h => h) (Or.inl ⟨by rfl, ?_⟩) ?_ ?_
  rotate_left
  · intro w'
    go_simp
    with_reducible rfl
  rotate_left
  · simp only [Act.put, List.setIfInBounds_toArray, List.set_cons_zero, List.set_cons_succ, i64_w, i32_w]
    rfl
  refine take_ (i := 19) (N := some 53) (v := ?_) (a' := ?_) #[true, true, true, true, true, true, true, true, true, true, true, true, true, true, true, true, true, true, true, true, false, false, false, false, false, false, false, false, false] rfl rfl (take_ofW HT_.out HW_.out (by kernel_rfl)) (fun _ _ _ h => h) (Or.inl ⟨by rfl, ?_⟩) hHeld ?_ ?_
  rotate_left
  · rintro w' ⟨s0, s1, s2, s3, s4, s5, s6, s7, s8, s9, s10, s11⟩
    go_simp
    with_reducible rfl
  rotate_left
  · simp only [Act.put, List.setIfInBounds_toArray, List.set_cons_zero, List.set_cons_succ, i64_w, i32_w]
    rfl
  refine pure_ (i := 20) (N := some 54) (v := ?_) (a' := ?_) #[true, true, true, true, true, true, true, true, true, true, true, true, true, true, true, true, true, true, true, true, true, false, false, false, false, false, false, false, false] rfl rfl (any_of HT_.out (by kernel_rfl)) (fun _ _ _ h => h) (Or.inl ⟨by rfl, ?_⟩) ?_ ?_
  rotate_left
  · intro w'
    go_simp
    with_reducible rfl
  rotate_left
  · simp only [Act.put, List.setIfInBounds_toArray, List.set_cons_zero, List.set_cons_succ, i64_w, i32_w]
    rfl
  refine pure_ (i := 21) (N := some 55) (v := ?_) (a' := ?_) #[true, true, true, true, true, true, true, true, true, true, true, true, true, true, true, true, true, true, true, true, true, true, false, false, false, false, false, false, false] rfl rfl (any_of HT_.out (by kernel_rfl)) (fun _ _ _ h => h) (Or.inl ⟨by rfl, ?_⟩) ?_ ?_
  rotate_left
  · intro w'
    go_simp
    with_reducible rfl
  rotate_left
  · simp only [Act.put, List.setIfInBounds_toArray, List.set_cons_zero, List.set_cons_succ, i64_w, i32_w]
    rfl
  refine take_ (i := 23) (N := some 57) (v := ?_) (a' := ?_) #[true, true, true, true, true, true, true, true, true, true, true, true, true, true, true, true, true, true, true, true, true, true, false, true, false, false, false, false, false] rfl rfl (take_ofW HT_.out HW_.out (by kernel_rfl)) (fun _ _ _ h => h) (Or.inl ⟨by rfl, ?_⟩) hHeld ?_ ?_
  rotate_left
  · rintro w' ⟨s0, s1, s2, s3, s4, s5, s6, s7, s8, s9, s10, s11⟩
    go_simp
    with_reducible rfl
  rotate_left
  · simp only [Act.put, List.setIfInBounds_toArray, List.set_cons_zero, List.set_cons_succ, i64_w, i32_w]
    rfl
  refine pure_ (i := 24) (N := some 58) (v := ?_) (a' := ?_) #[true, true, true, true, true, true, true, true, true, true, true, true, true, true, true, true, true, true, true, true, true, true, false, true, true, false, false, false, false] rfl rfl (any_of HT_.out (by kernel_rfl)) (fun _ _ _ h => h) (Or.inl ⟨by rfl, ?_⟩) ?_ ?_
  rotate_left
  · intro w'
    go_simp
    with_reducible rfl
  rotate_left
  · simp only [Act.put, List.setIfInBounds_toArray, List.set_cons_zero, List.set_cons_succ, i64_w, i32_w]
    rfl
  refine pure_ (i := 25) (N := some 59) (v := ?_) (a' := ?_) #[true, true, true, true, true, true, true, true, true, true, true, true, true, true, true, true, true, true, true, true, true, true, false, true, true, true, false, false, false] rfl rfl (any_of HT_.out (by kernel_rfl)) (fun _ _ _ h => h) (Or.inl ⟨by rfl, ?_⟩) ?_ ?_
  rotate_left
  · intro w'
    go_simp
    with_reducible rfl
  rotate_left
  · simp only [Act.put, List.setIfInBounds_toArray, List.set_cons_zero, List.set_cons_succ, i64_w, i32_w]
    rfl
  refine one_ (i := 22) (N := some 56) #[true, true, true, true, true, true, true, true, true, true, true, true, true, true, true, true, true, true, true, true, true, true, true, true, true, true, false, false, false] rfl rfl (one_of HT_.out (by kernel_rfl)) (by decide) (fun K hK => ?_)
  refine goes_ Try.func18 (by kernel_rfl) rfl #[.agg #[.slice A0 h.f0.length c0, .slice A1 h.f1.length c1, .slice A2 h.f2.length c2, .int .i64 h.f3], .int .i64 a, .int .i64 b] (by rfl) rfl rfl (by (try simp only [List.map_toArray, List.map_cons, List.map_nil]); first | done | rfl) ?_
  refine (f18_E2 A0 c0 A1 c1 A2 c2 h a b r E3.out HWB.out HWF.out hn9 _ _ (Kd.F_below HFc.out HY6.out)).mono ?_
  rintro e w7 ⟨rfl, hb⟩
  refine ⟨_, rfl, ?_⟩
  have HY7 := Aside0.mk (HY6.out.trans (hb.mono HY6.out.size))
  clear hb
  refine hK.out _ _ (HS.out _ HY7.out) (fun hHeld => ?_)
  clear hK K
  refine norm_ (a' := ?_) ?_ ?_
  rotate_left
  · show Act.put _ (some 56) _ = _
    simp only [Act.put, List.setIfInBounds_toArray, List.set_cons_zero, List.set_cons_succ, i64_w, i32_w]
    rfl
  refine one_ (i := 26) (N := some 60) #[true, true, true, true, true, true, true, true, true, true, true, true, true, true, true, true, true, true, true, true, true, true, true, true, true, true, true, false, false] rfl rfl (one_of HT_.out (by kernel_rfl)) (by decide) (fun K hK => ?_)
  refine goes_ Try.func23 (by kernel_rfl) rfl #[.agg #[.slice A0 h.f0.length c0, .slice A1 h.f1.length c1, .slice A2 h.f2.length c2, .int .i64 h.f3], .int .i64 a, .int .i64 b] (by rfl) rfl rfl (by (try simp only [List.map_toArray, List.map_cons, List.map_nil]); first | done | rfl) ?_
  refine (f23_E A0 c0 A1 c1 A2 c2 h a b r E3.out _ (HVc.out.below HY7.out) HN.out.o0 hn9).mono ?_
  rintro e w8 ⟨rfl, hb⟩
  refine ⟨_, rfl, ?_⟩
  have HY8 := Aside0.mk (HY7.out.trans (hb.mono HY7.out.size))
  clear hb
  refine hK.out _ _ (HS.out _ HY8.out) (fun hHeld => ?_)
  clear hK K
  refine norm_ (a' := ?_) ?_ ?_
  rotate_left
  · show Act.put _ (some 60) _ = _
    simp only [Act.put, List.setIfInBounds_toArray, List.set_cons_zero, List.set_cons_succ, i64_w, i32_w]
    rfl
  refine pure_ (i := 27) (N := some 61) (v := ?_) (a' := ?_) #[true, true, true, true, true, true, true, true, true, true, true, true, true, true, true, true, true, true, true, true, true, true, true, true, true, true, true, true, false] rfl rfl (any_of HT_.out (by kernel_rfl)) (fun _ _ _ h => h) (Or.inl ⟨by rfl, ?_⟩) ?_ ?_
  rotate_left
  · intro w'
    go_simp
    with_reducible rfl
  rotate_left
  · simp only [Act.put, List.setIfInBounds_toArray, List.set_cons_zero, List.set_cons_succ, i64_w, i32_w]
    rfl
  refine pure_ (i := 28) (N := some 62) (v := ?_) (a' := ?_) #[true, true, true, true, true, true, true, true, true, true, true, true, true, true, true, true, true, true, true, true, true, true, true, true, true, true, true, true, true] rfl rfl (any_of HT_.out (by kernel_rfl)) (fun _ _ _ h => h) (Or.inl ⟨by rfl, ?_⟩) ?_ ?_
  rotate_left
  · intro w'
    go_simp
    with_reducible rfl
  rotate_left
  · simp only [Act.put, List.setIfInBounds_toArray, List.set_cons_zero, List.set_cons_succ, i64_w, i32_w]
    rfl
  refine done_ (done_of HT_.out (by kernel_rfl)) ?_
  clear HT_ HW_ hHeld
  obtain ⟨⟨a0, a1, a2, a3⟩, p0, p1, p2, p3⟩ := blk4 ((HY8.out.block _ (by omega)).trans BKc.out)
  have hq8 : w1.heap.size < w8.heap.size := by have h_ := HY8.out.size; omega
  go_wp2_with (first
    | (go_at_call 19; refine (f19_E2 A0 c0 A1 c1 A2 c2 h a b x y E4.out HWA.out HWB.out HWF.out hn9 _ _ (Kd.F_below HFc.out HY8.out)).mono ?_; clear a0 a1 a2 a3 p0 p1 p2 p3; rintro e w9 ⟨rfl, hb⟩; have HY9 : Aside0 (Below wc.heap.size wc w9) := ⟨HY8.out.trans (hb.mono HY8.out.size)⟩; clear hb; obtain ⟨⟨a0, a1, a2, a3⟩, p0, p1, p2, p3⟩ := blk4 ((HY9.out.block _ (by omega)).trans BKc.out); have hq9 : w1.heap.size < w9.heap.size := (by have h_ := HY9.out.size; omega))
    | (go_at_call 24; refine (f24_E A0 c0 A1 c1 A2 c2 h a b x y E4.out _ (HVc.out.below HY9.out) HN.out.o0 hn9).mono ?_; clear a0 a1 a2 a3 p0 p1 p2 p3; rintro e w10 ⟨rfl, hb⟩; have HY10 : Aside0 (Below wc.heap.size wc w10) := ⟨HY9.out.trans (hb.mono HY9.out.size)⟩; clear hb; obtain ⟨⟨a0, a1, a2, a3⟩, p0, p1, p2, p3⟩ := blk4 ((HY10.out.block _ (by omega)).trans BKc.out); have hq10 : w1.heap.size < w10.heap.size := (by have h_ := HY10.out.size; omega))
    | (go_at_call 25; refine (f25_E A0 c0 A1 c1 A2 c2 h s x1 y1 E5.out E6.out _ (HVc.out.below HY10.out) HN.out.o1 HO.out.n1).mono ?_; clear a0 a1 a2 a3 p0 p1 p2 p3; rintro e w11 ⟨rfl, hb⟩; have HY11 : Aside0 (Below wc.heap.size wc w11) := ⟨HY10.out.trans (hb.mono HY10.out.size)⟩; clear hb; obtain ⟨⟨a0, a1, a2, a3⟩, p0, p1, p2, p3⟩ := blk4 ((HY11.out.block _ (by omega)).trans BKc.out); have hq11 : w1.heap.size < w11.heap.size := (by have h_ := HY11.out.size; omega))
    | (go_at_call 26; refine (f26_E A0 c0 A1 c1 A2 c2 h s x1 y1 E5.out E6.out _ (HVc.out.below HY11.out) HN.out.o1 HO.out.n1).mono ?_; clear a0 a1 a2 a3 p0 p1 p2 p3; rintro e w12 ⟨rfl, hb⟩; have HY12 : Aside0 (Below wc.heap.size wc w12) := ⟨HY11.out.trans (hb.mono HY11.out.size)⟩; clear hb; obtain ⟨⟨a0, a1, a2, a3⟩, p0, p1, p2, p3⟩ := blk4 ((HY12.out.block _ (by omega)).trans BKc.out); have hq12 : w1.heap.size < w12.heap.size := (by have h_ := HY12.out.size; omega))
    | (go_at_call 27; refine (f27_E A0 c0 A1 c1 A2 c2 h s x2 y2 E7.out E8.out _ (HVc.out.below HY12.out) HN.out.o2 HO.out.n2).mono ?_; clear a0 a1 a2 a3 p0 p1 p2 p3; rintro e w13 ⟨rfl, hb⟩; have HY13 : Aside0 (Below wc.heap.size wc w13) := ⟨HY12.out.trans (hb.mono HY12.out.size)⟩; clear hb; obtain ⟨⟨a0, a1, a2, a3⟩, p0, p1, p2, p3⟩ := blk4 ((HY13.out.block _ (by omega)).trans BKc.out); have hq13 : w1.heap.size < w13.heap.size := (by have h_ := HY13.out.size; omega))
    | (go_at_call 28; refine (f28_E A0 c0 A1 c1 A2 c2 h s x2 y2 E7.out E8.out _ (HVc.out.below HY13.out) HN.out.o2 HO.out.n2).mono ?_; clear a0 a1 a2 a3 p0 p1 p2 p3; rintro e w14 ⟨rfl, hb⟩; have HY14 : Aside0 (Below wc.heap.size wc w14) := ⟨HY13.out.trans (hb.mono HY13.out.size)⟩; clear hb; obtain ⟨⟨a0, a1, a2, a3⟩, p0, p1, p2, p3⟩ := blk4 ((HY14.out.block _ (by omega)).trans BKc.out); have hq14 : w1.heap.size < w14.heap.size := (by have h_ := HY14.out.size; omega))
    | (go_at_call 9; refine (H9.out _).mono ?_; rintro e w15 ⟨rfl, hb⟩; have HYz := Aside0.mk (HBW.out.trans ((HY14.out.trans (hb.mono HY14.out.size)).mono HBW.out.size)); clear hb))
  go_ret
  exact ⟨rfl, HYz.out⟩
end Go.Proofs.Ytjeoabjccbinhaa.P

namespace Go.Proofs.Ytjeoabjccbinhaa.P
open Go.RowKit Go.Proofs.YtjeoabjccbinhaaW.PrintWords
theorem f6_row (A : Option Addr) (c : Nat) (l : List S32) (a b : Int) (s : ByteArray) (w : World) (hr : Kd.C k32 w A l.length l) (hc : l.length ≤ c) (hg : l.length * 56 ≤ 140737488351232 ∧ ∀ y ∈ l, G32 y) (ha : (Lit.int .i64 a).wf = true) (hb : (Lit.int .i64 b).wf = true) :
    Calls Try.prog 6 #[.slice A l.length c, .int .i64 a, .int .i64 b, .string s] w fun e w' => e = .returned (.bool true) ∧ Below w.heap.size w w' :=
  f6_calls A c l a b s w hr hc (by omega) hg.2 ha hb
end Go.Proofs.Ytjeoabjccbinhaa.P
