/- Parents come before their children; the ancestors of a commit, the chain of first parents and the merge base in plain terms. Conditions: the hypotheses that stand at each theorem. -/
import Derived.Test.YtjeoabjccbinhaaL4
import Derived.Test.YtjeoabjccbinhaaR3
namespace Go.Proofs.Ytjeoabjccbinhaa.P
open Go.RowKit Go.Proofs.YtjeoabjccbinhaaW.PrintWords
set_option linter.unusedVariables false
set_option linter.unusedSimpArgs false
/-- The commits' numbers fit; parents are less than their children. -/
def GoodH (h : S27) : Prop := ∀ c ∈ h.f0, (Lit.int .i64 c.f0).wf = true ∧ (Lit.int .i64 c.f1).wf = true ∧ (Lit.int .i64 c.f2).wf = true ∧ c.f1 < c.f0 ∧ c.f2 < c.f0
theorem commit_new {h : S27} {x : S32} (he : (applyE h x).2 = 0) (h1 : x.f0 = 1) : lateB h.f0 x.f1 = false ∧ goneB h.f0 x.f2 = false ∧ goneB h.f0 x.f3 = false ∧ 1 ≤ x.f1 ∧ (applyE h x).1.f0 = h.f0 ++ [⟨x.f1, x.f2, x.f3, x.f4⟩] := by
  unfold applyE applyS at *
  by_cases c0 : wfB x.f0 x.f1 x.f2 x.f3 x.f4 x.f5 = false
  · rw [if_pos c0] at he; exact absurd he (by decide)
  rw [if_neg c0] at he ⊢
  rw [if_pos h1] at he ⊢
  unfold commitS at he ⊢
  by_cases d1 : lateB h.f0 x.f1 = true
  · rw [if_pos d1] at he; exact absurd he (by decide)
  rw [if_neg d1] at he ⊢
  by_cases d2 : confB h.f1 x.f5 x.f2 = true
  · rw [if_pos d2] at he; exact absurd he (by decide)
  rw [if_neg d2] at he ⊢
  by_cases d3 : nameB h.f1 x.f5 x.f2 = true
  · rw [if_pos d3] at he; exact absurd he (by decide)
  rw [if_neg d3] at he ⊢
  by_cases d4 : fullB h.f1 x.f5 = true
  · rw [if_pos d4] at he; exact absurd he (by decide)
  rw [if_neg d4] at he ⊢
  by_cases d5 : (goneB h.f0 x.f2 || goneB h.f0 x.f3) = true
  · rw [if_pos d5] at he; exact absurd he (by decide)
  rw [if_neg d5] at he ⊢
  by_cases d6 : timeB h.f0 x.f2 x.f4 = true
  · rw [if_pos d6] at he; exact absurd he (by decide)
  rw [if_neg d6]
  simp only [Bool.or_eq_true, not_or, Bool.not_eq_true] at d5
  have hw : wfB x.f0 x.f1 x.f2 x.f3 x.f4 x.f5 = true := by simpa using c0
  rw [h1] at hw
  unfold wfB at hw
  simp only [if_true, Bool.and_eq_true, decide_eq_true_eq] at hw
  exact ⟨by simpa using d1, d5.1, d5.2, hw.1.1.1.1.1, rfl⟩
/-- Only a commit adds one. -/
theorem apply_same {h : S27} {x : S32} (he : (applyE h x).2 = 0) (h1 : x.f0 ≠ 1) : ∀ c, (applyE h x).1.f0 ≠ h.f0 ++ [c] := by
  intro c hc
  have hl : h.f0.length < (applyE h x).1.f0.length := by rw [hc]; simp
  refine absurd hl (Nat.not_lt.2 ?_)
  unfold applyE applyS at *
  by_cases c0 : wfB x.f0 x.f1 x.f2 x.f3 x.f4 x.f5 = false
  · rw [if_pos c0] at he; exact absurd he (by decide)
  rw [if_neg c0, if_neg h1]
  by_cases c7 : x.f0 = 7
  · rw [if_pos c7]
    unfold expireS
    split
    · split
      · exact Nat.zero_le _
      · split
        · exact Nat.zero_le _
        · exact dropI_len _ _
    · exact Nat.zero_le _
  rw [if_neg c7]
  split
  · split
    · exact Nat.le_refl _
    · exact Nat.zero_le _
  · split
    · split
      · exact Nat.le_refl _
      · exact Nat.zero_le _
    · split
      · split
        · exact Nat.le_refl _
        · exact Nat.zero_le _
      · split
        · split
          · exact Nat.le_refl _
          · exact Nat.zero_le _
        · split
          · exact Nat.le_refl _
          · exact Nat.le_refl _
theorem late_lt {l : List S41} (ho : okI l) {s : Int} (h : lateB l s = false) : ∀ c ∈ l, c.f0 < s := by
  intro c hc
  have := List.pairwise_append.1 (okI_snoc (x := ⟨s, 0, 0, 0⟩) ho h)
  exact this.2.2 c hc ⟨s, 0, 0, 0⟩ (List.mem_singleton.2 rfl)
theorem hasI_ex {l : List S41} (ho : okI l) {s : Int} (h : hasI l s = true) : ∃ c ∈ l, c.f0 = s ∧ nodeI l s = c := by
  obtain ⟨a, b, hl, hp, ha, h'⟩ := splitI ho s
  rcases h' with ⟨hh, v, r, rfl, hv0, hv, hr⟩ | ⟨hh, hv, hb⟩
  · exact ⟨v, by rw [hl]; simp, hv0, hv⟩
  · rw [h] at hh; cases hh
theorem gone_lt {l : List S41} (ho : okI l) {s p : Int} (h : lateB l s = false) (h1 : 1 ≤ s) (hg : goneB l p = false) : p < s := by
  unfold goneB at hg
  by_cases hp : p = 0
  · omega
  · have : (p != 0) = true := by simpa using hp
    rw [this, Bool.true_and] at hg
    obtain ⟨c, hc, e, _⟩ := hasI_ex ho (by simpa using hg)
    have := late_lt ho h c hc
    omega
theorem good_apply {n : Nat} {h : S27} (o : OkN n h) (g : GoodH h) {x : S32} (hx : G32 x) : GoodH (applyE h x).1 := by
  by_cases he : (applyE h x).2 = 0
  · by_cases h1 : x.f0 = 1
    · obtain ⟨e1, e2, e3, e4, e5⟩ := commit_new he h1
      intro c hc
      rw [e5] at hc
      rcases List.mem_append.1 hc with h_ | h_
      · exact g c h_
      · rw [List.mem_singleton] at h_; subst h_
        exact ⟨hx.2.1, hx.2.2.1, hx.2.2.2.1, gone_lt o.o0 e1 e4 e2, gone_lt o.o0 e1 e4 e3⟩
    · rcases apply_commits he with ⟨e, _⟩ | ⟨c', e, _⟩ | ⟨_, _, e⟩
      · intro c hc; rw [e] at hc; exact g c hc
      · exact absurd e (apply_same he h1 c')
      · intro c hc
        rw [e] at hc
        refine g c ?_
        unfold dropI at hc
        rcases List.mem_append.1 hc with h_ | h_
        · exact List.mem_of_mem_take h_
        · exact List.mem_of_mem_drop h_
  · rw [apply_err he]
    intro c hc
    exact absurd hc (by simp [eS27])
/-! ### the ancestors, by positions -/
theorem sorted_rd {l : List S41} (ho : okI l) : ∀ p q : Nat, p < q → q < l.length → (rd_T41 l p).f0 < (rd_T41 l q).f0 := by
  intro p q h1 h2
  rw [rd41_get l p (by omega), rd41_get l q h2]
  exact (List.pairwise_iff_getElem.1 ho) p q (by omega) h2 h1
theorem has_pos {l : List S41} {s : Int} (h : hasI l s = true) : posI l s < l.length ∧ (rd_T41 l (posI l s)).f0 = s ∧ nodeI l s = rd_T41 l (posI l s) := by
  have h2 := h
  unfold hasI at h2
  simp only [Bool.and_eq_true, decide_eq_true_eq, beq_iff_eq] at h2
  exact ⟨h2.1, (cmpI_zero _ _).1 h2.2, by unfold nodeI; rw [h, if_pos rfl]⟩
theorem pos_lt {l : List S41} (ho : okI l) {s t : Int} (hs : hasI l s = true) (h : s < t) : posI l s < posI l t := by
  obtain ⟨h1, h2, _⟩ := has_pos hs
  rw [posI_lt ho t _ h1, cmpI_neg, h2]
  exact h
theorem anc_self (l : List S41) : ∀ (k : Nat) (S : Int → Bool) (p : Nat), p < k → S (rd_T41 l p).f0 = true → (rd_T41 l p).f0 ∈ ancL l k S
  | 0, _, p, hp, _ => absurd hp (Nat.not_lt_zero _)
  | k + 1, S, p, hp, h => by
    rw [ancL]
    rcases Nat.lt_or_ge p k with hk | hk
    · split
      · exact List.mem_cons_of_mem _ (anc_self l k _ p hk (by simp [h]))
      · exact anc_self l k S p hk h
    · obtain rfl : p = k := by omega
      rw [if_pos h]
      exact List.mem_cons_self
theorem anc_ids (l : List S41) : ∀ (k : Nat) (S : Int → Bool) (x : Int), x ∈ ancL l k S → ∃ p : Nat, p < k ∧ (rd_T41 l p).f0 = x
  | 0, _, x, h => by simp [ancL] at h
  | k + 1, S, x, h => by
    rw [ancL] at h
    split at h
    · rcases List.mem_cons.1 h with rfl | h
      · exact ⟨k, by omega, rfl⟩
      · obtain ⟨p, hp, e⟩ := anc_ids l k _ x h
        exact ⟨p, by omega, e⟩
    · obtain ⟨p, hp, e⟩ := anc_ids l k _ x h
      exact ⟨p, by omega, e⟩
theorem anc_le (l : List S41) (a : Int) (hg : ∀ p : Nat, p < l.length → (rd_T41 l p).f1 < (rd_T41 l p).f0 ∧ (rd_T41 l p).f2 < (rd_T41 l p).f0) : ∀ (k : Nat) (S : Int → Bool), k ≤ l.length → (∀ y, S y = true → y ≤ a) → ∀ x ∈ ancL l k S, x ≤ a
  | 0, _, _, _, x, h => by simp [ancL] at h
  | k + 1, S, hk, hS, x, h => by
    rw [ancL] at h
    split at h
    · rename_i hh
      have h1 := hS _ hh
      obtain ⟨g1, g2⟩ := hg k (by omega)
      rcases List.mem_cons.1 h with rfl | h
      · exact h1
      · refine anc_le l a hg k _ (by omega) ?_ x h
        intro y hy
        simp only [Bool.or_eq_true, beq_iff_eq] at hy
        rcases hy with rfl | rfl | hy
        · omega
        · omega
        · exact hS y hy
    · exact anc_le l a hg k S (by omega) hS x h
theorem anc_sorted {l : List S41} (hs : ∀ p q : Nat, p < q → q < l.length → (rd_T41 l p).f0 < (rd_T41 l q).f0) : ∀ (k : Nat) (S : Int → Bool), k ≤ l.length → (ancL l k S).Pairwise (fun x y => y < x)
  | 0, _, _ => by simp [ancL]
  | k + 1, S, hk => by
    rw [ancL]
    split
    · refine List.pairwise_cons.2 ⟨?_, anc_sorted hs k _ (by omega)⟩
      intro y hy
      obtain ⟨p, hp, rfl⟩ := anc_ids l k _ y hy
      exact hs p k hp (by omega)
    · exact anc_sorted hs k S (by omega)
theorem anc_step {l : List S41} (hs : ∀ p q : Nat, p < q → q < l.length → (rd_T41 l p).f0 < (rd_T41 l q).f0) : ∀ (k : Nat) (S : Int → Bool) (p p' : Nat), k ≤ l.length → p < k → p' < p → (rd_T41 l p).f0 ∈ ancL l k S → (rd_T41 l p).f1 = (rd_T41 l p').f0 → (rd_T41 l p').f0 ∈ ancL l k S
  | 0, _, p, _, _, hp, _, _, _ => absurd hp (Nat.not_lt_zero _)
  | k + 1, S, p, p', hk, hp, hpp, h, e => by
    rw [ancL] at h ⊢
    rcases Nat.lt_or_ge p k with hlt | hge
    · split at h
      · rename_i hh
        rw [if_pos hh]
        rcases List.mem_cons.1 h with h | h
        · have := hs p k hlt (by omega); omega
        · exact List.mem_cons_of_mem _ (anc_step hs k _ p p' (by omega) hlt hpp h e)
      · rename_i hh
        rw [if_neg hh]
        exact anc_step hs k S p p' (by omega) hlt hpp h e
    · obtain rfl : p = k := by omega
      split at h
      · rename_i hh
        rw [if_pos hh]
        exact List.mem_cons_of_mem _ (anc_self l p _ p' hpp (by rw [e]; simp))
      · obtain ⟨q, hq, eq⟩ := anc_ids l p _ _ h
        have := hs q p hq (by omega)
        omega
theorem good_rd {h : S27} (g : GoodH h) : ∀ p : Nat, p < h.f0.length → (rd_T41 h.f0 p).f1 < (rd_T41 h.f0 p).f0 ∧ (rd_T41 h.f0 p).f2 < (rd_T41 h.f0 p).f0 := by
  intro p hp
  rw [rd41_get _ p hp]
  exact (g _ (List.getElem_mem hp)).2.2.2
theorem good_wf {h : S27} (g : GoodH h) : WfI h.f0 := by
  intro p hp
  rw [rd41_get _ p hp]
  have := g _ (List.getElem_mem hp)
  exact ⟨this.1, this.2.1, this.2.2.1⟩
/-- Every ID has its chain of first parents. -/
theorem chain_ex {h : S27} (ho : okI h.f0) (g : GoodH h) : ∀ (n : Nat) (id : Int), posI h.f0 id ≤ n → ∃ xs, Chain h.f0 id xs ∧ xs.length ≤ n + 1
  | n, id, hn => by
    cases hh : hasI h.f0 id with
    | false => exact ⟨[], .stop hh, by simp⟩
    | true =>
      obtain ⟨p1, p2, p3⟩ := has_pos hh
      have hlt : (nodeI h.f0 id).f1 < id := by
        rw [p3]; have := (good_rd g _ p1).1; omega
      cases h2 : hasI h.f0 (nodeI h.f0 id).f1 with
      | false => exact ⟨_, .step hh (.stop h2), by simp⟩
      | true =>
        have hp := pos_lt ho h2 hlt
        cases n with
        | zero => omega
        | succ n =>
          obtain ⟨xs, hc, hl⟩ := chain_ex ho g n (nodeI h.f0 id).f1 (by omega)
          exact ⟨_, .step hh hc, by simp; omega⟩
  termination_by n => n
theorem chain_of {h : S27} (ho : okI h.f0) (g : GoodH h) (id : Int) : ∃ xs, Chain h.f0 id xs ∧ xs.length ≤ h.f0.length + 1 := chain_ex ho g h.f0.length id (posI_le _ _)
/-- The chain's IDs decrease, and are ancestors. -/
theorem chain_anc {h : S27} (ho : okI h.f0) (g : GoodH h) {a : Int} : ∀ {id : Int} {xs : List Int}, Chain h.f0 id xs → (hasI h.f0 id = true → id ∈ ancS h.f0 a) → (∀ x ∈ xs, x ∈ ancS h.f0 a ∧ x ≤ id) ∧ xs.Pairwise (fun x y => y < x) := by
  intro id xs hc
  induction hc with
  | stop h_ => exact fun _ => ⟨by simp, List.Pairwise.nil⟩
  | @step id xs hh hc ih =>
    intro hm
    obtain ⟨p1, p2, p3⟩ := has_pos hh
    have hlt : (nodeI h.f0 id).f1 < id := by
      rw [p3]; have := (good_rd g _ p1).1; omega
    obtain ⟨i1, i2⟩ := ih (fun h2 => by
      obtain ⟨q1, q2, q3⟩ := has_pos h2
      have hp := pos_lt ho h2 hlt
      have hx := anc_step (sorted_rd ho) h.f0.length (fun y => y == a) (posI h.f0 id) (posI h.f0 (nodeI h.f0 id).f1) (Nat.le_refl _) p1 hp (by rw [p2]; exact hm hh) (by rw [q2, p3])
      rw [q2] at hx
      exact hx)
    have hid : (nodeI h.f0 id).f0 = id := by rw [p3, p2]
    refine ⟨?_, List.pairwise_cons.2 ⟨fun y hy => by rw [hid]; have := (i1 y hy).2; omega, i2⟩⟩
    intro x hx
    rcases List.mem_cons.1 hx with rfl | hx
    · rw [hid]; exact ⟨hm hh, Int.le_refl _⟩
    · have := i1 x hx
      exact ⟨this.1, by omega⟩
/-- A commit is its own ancestor. -/
theorem anc_refl {l : List S41} {p : Nat} (hp : p < l.length) : (rd_T41 l p).f0 ∈ ancS l (rd_T41 l p).f0 := anc_self l l.length _ p hp (by simp)
/-- The merge base: the greatest common ancestor. -/
theorem mb_some {l : List S41} (ho : okI l) {a b x : Int} (h : mbS l a b = (x, true)) : x ∈ ancS l a ∧ x ∈ ancS l b ∧ ∀ y, y ∈ ancS l a → y ∈ ancS l b → y ≤ x := by
  unfold mbS at h
  cases hf : (ancS l b).find? (fun x => (ancS l a).contains x) with
  | none => rw [hf] at h; simp at h
  | some z =>
    rw [hf] at h
    simp at h
    subst h
    obtain ⟨h1, us, vs, h2, h3⟩ := List.find?_eq_some_iff_append.1 hf
    refine ⟨by simpa using h1, by rw [h2]; simp, ?_⟩
    intro y hya hyb
    have hp : (ancS l b).Pairwise (fun x y => y < x) := anc_sorted (sorted_rd ho) l.length _ (Nat.le_refl _)
    rw [h2] at hyb hp
    rcases List.mem_append.1 hyb with h | h
    · have := h3 y h; simp [hya] at this
    · rcases List.mem_cons.1 h with h | h
      · omega
      · have := (List.pairwise_cons.1 (List.pairwise_append.1 hp).2.1).1 y h
        omega
theorem mb_none {l : List S41} {a b x : Int} (h : mbS l a b = (x, false)) : ∀ y, y ∈ ancS l b → y ∉ ancS l a := by
  unfold mbS at h
  cases hf : (ancS l b).find? (fun x => (ancS l a).contains x) with
  | some z => rw [hf] at h; simp at h
  | none =>
    intro y hy
    have := List.find?_eq_none.1 hf y hy
    simpa using this
end Go.Proofs.Ytjeoabjccbinhaa.P
