/- Commits found by their IDs; what an accepted entry does to the commits. Conditions: the hypotheses that stand at each theorem. -/
import Derived.Test.YtjeoabjccbinhaaK0
namespace Go.Proofs.Ytjeoabjccbinhaa.P
open Go.RowKit Go.Proofs.YtjeoabjccbinhaaW.PrintWords
set_option linter.unusedVariables false
set_option linter.unusedSimpArgs false
theorem hasI_mem {l : List S41} (ho : okI l) {c : S41} (hc : c ∈ l) : hasI l c.f0 = true ∧ nodeI l c.f0 = c := by
  obtain ⟨a, b, hl, hp, ha, h⟩ := splitI ho c.f0
  rcases h with ⟨hh, v, r, rfl, hv0, hv, hr⟩ | ⟨hh, hv, hb⟩
  · refine ⟨hh, hv.trans ?_⟩
    rw [hl] at hc
    rcases List.mem_append.1 hc with h | h
    · have := ha c h; omega
    · rcases List.mem_cons.1 h with h | h
      · exact h.symm
      · have := hr c h; omega
  · rw [hl] at hc
    rcases List.mem_append.1 hc with h | h
    · have := ha c h; omega
    · have := hb c h; omega
theorem hasI_not {l : List S41} (ho : okI l) {s : Int} (h : ∀ c ∈ l, c.f0 ≠ s) : hasI l s = false := by
  obtain ⟨a, b, hl, hp, ha, h'⟩ := splitI ho s
  rcases h' with ⟨hh, v, r, rfl, hv0, hv, hr⟩ | ⟨hh, hv, hb⟩
  · exact absurd hv0 (h v (by rw [hl]; simp))
  · exact hh
/-- A rejected entry leaves an empty history. -/
theorem apply_err {h : S27} {x : S32} (he : (applyE h x).2 ≠ 0) : (applyE h x).1 = eS27 := by
  unfold applyE applyS at *
  by_cases c0 : wfB x.f0 x.f1 x.f2 x.f3 x.f4 x.f5 = false
  · rw [if_pos c0]
  rw [if_neg c0] at he ⊢
  by_cases c1 : x.f0 = 1
  · rw [if_pos c1] at he ⊢
    unfold commitS at he ⊢
    split
    · rfl
    · split
      · rfl
      · split
        · rfl
        · split
          · rfl
          · split
            · rfl
            · split
              · rfl
              · simp_all
  rw [if_neg c1] at he ⊢
  by_cases c7 : x.f0 = 7
  · rw [if_pos c7] at he ⊢
    unfold expireS at he ⊢
    split
    · split
      · rfl
      · split
        · rfl
        · simp_all
    · rfl
  rw [if_neg c7] at he ⊢
  by_cases c2 : x.f0 = 2
  · rw [if_pos c2] at he ⊢
    by_cases h0 : (addS h.f0 h.f1 x.f5 x.f1).2 = 0
    · rw [if_pos h0] at he; exact absurd rfl he
    · rw [if_neg h0]
  rw [if_neg c2] at he ⊢
  by_cases c3 : x.f0 = 3
  · rw [if_pos c3] at he ⊢
    by_cases h0 : (addS h.f0 h.f2 x.f5 x.f1).2 = 0
    · rw [if_pos h0] at he; exact absurd rfl he
    · rw [if_neg h0]
  rw [if_neg c3] at he ⊢
  by_cases c4 : x.f0 = 4
  · rw [if_pos c4] at he ⊢
    by_cases h0 : hasS h.f1 x.f5 = true
    · rw [if_pos h0] at he; exact absurd rfl he
    · rw [if_neg h0]
  rw [if_neg c4] at he ⊢
  by_cases c5 : x.f0 = 5
  · rw [if_pos c5] at he ⊢
    by_cases h0 : hasS h.f2 x.f5 = true
    · rw [if_pos h0] at he; exact absurd rfl he
    · rw [if_neg h0]
  rw [if_neg c5] at he ⊢
  by_cases c6 : x.f0 = 6
  · rw [if_pos c6] at he; exact absurd rfl he
  · rw [if_neg c6] at he; exact absurd rfl he
/-- What an accepted entry does to the commits. -/
theorem apply_commits {h : S27} {x : S32} (he : (applyE h x).2 = 0) : (applyE h x).1.f0 = h.f0 ∧ x.f0 ≠ 7 ∨ (∃ c, (applyE h x).1.f0 = h.f0 ++ [c] ∧ x.f0 ≠ 7) ∨ (x.f0 = 7 ∧ hasI h.f0 x.f1 = true ∧ (applyE h x).1.f0 = dropI h.f0 x.f1) := by
  unfold applyE applyS at *
  by_cases c0 : wfB x.f0 x.f1 x.f2 x.f3 x.f4 x.f5 = false
  · rw [if_pos c0] at he; exact absurd he (by decide)
  rw [if_neg c0] at he ⊢
  by_cases c1 : x.f0 = 1
  · rw [if_pos c1] at he ⊢
    refine .inr (.inl ?_)
    unfold commitS at he ⊢
    by_cases d1 : lateB h.f0 x.f1 = true
    · rw [if_pos d1] at he; exact absurd he (by decide)
    rw [if_neg d1] at he ⊢
    by_cases d2 : confB h.f1 x.f5 x.f2 = true
    · rw [if_pos d2] at he; exact absurd he (by decide)
    rw [if_neg d2] at he ⊢
    by_cases d3 : nameB h.f1 x.f5 x.f2 = true
    · rw [if_pos d3] at he; exact absurd he (by decide)
    rw [if_neg d3] at he ⊢
    by_cases d4 : fullB h.f1 x.f5 = true
    · rw [if_pos d4] at he; exact absurd he (by decide)
    rw [if_neg d4] at he ⊢
    by_cases d5 : (goneB h.f0 x.f2 || goneB h.f0 x.f3) = true
    · rw [if_pos d5] at he; exact absurd he (by decide)
    rw [if_neg d5] at he ⊢
    by_cases d6 : timeB h.f0 x.f2 x.f4 = true
    · rw [if_pos d6] at he; exact absurd he (by decide)
    rw [if_neg d6]
    exact ⟨_, rfl, by omega⟩
  rw [if_neg c1] at he ⊢
  by_cases c7 : x.f0 = 7
  · rw [if_pos c7] at he ⊢
    refine .inr (.inr ⟨c7, ?_⟩)
    unfold expireS at he ⊢
    by_cases d1 : hasI h.f0 x.f1 = true
    · rw [if_pos d1] at he ⊢
      by_cases d2 : (h.f1.any fun r => r.f1 == x.f1) = true
      · rw [if_pos d2] at he; exact absurd he (by decide)
      rw [if_neg d2] at he ⊢
      by_cases d3 : (h.f2.any fun r => r.f1 == x.f1) = true
      · rw [if_pos d3] at he; exact absurd he (by decide)
      rw [if_neg d3]
      exact ⟨d1, rfl⟩
    · rw [if_neg d1] at he; exact absurd he (by decide)
  rw [if_neg c7] at he ⊢
  refine .inl ⟨?_, c7⟩
  by_cases c2 : x.f0 = 2
  · rw [if_pos c2] at he ⊢
    by_cases h0 : (addS h.f0 h.f1 x.f5 x.f1).2 = 0
    · rw [if_pos h0]
    · rw [if_neg h0] at he; exact absurd he h0
  rw [if_neg c2] at he ⊢
  by_cases c3 : x.f0 = 3
  · rw [if_pos c3] at he ⊢
    by_cases h0 : (addS h.f0 h.f2 x.f5 x.f1).2 = 0
    · rw [if_pos h0]
    · rw [if_neg h0] at he; exact absurd he h0
  rw [if_neg c3] at he ⊢
  by_cases c4 : x.f0 = 4
  · rw [if_pos c4] at he ⊢
    by_cases h0 : hasS h.f1 x.f5 = true
    · rw [if_pos h0]
    · rw [if_neg h0] at he; exact absurd he (by decide)
  rw [if_neg c4] at he ⊢
  by_cases c5 : x.f0 = 5
  · rw [if_pos c5] at he ⊢
    by_cases h0 : hasS h.f2 x.f5 = true
    · rw [if_pos h0]
    · rw [if_neg h0] at he; exact absurd he (by decide)
  rw [if_neg c5]
  by_cases c6 : x.f0 = 6
  · rw [if_pos c6]
  · rw [if_neg c6]
/-- A commit stays as it is, unless it is expired. -/
theorem apply_keeps {h : S27} {x : S32} {n : Nat} (o : OkN n h) (he : (applyE h x).2 = 0) {c : S41} (hc : c ∈ h.f0) :
    (x.f0 = 7 ∧ x.f1 = c.f0 ∧ hasI (applyE h x).1.f0 c.f0 = false) ∨ (¬ (x.f0 = 7 ∧ x.f1 = c.f0) ∧ hasI (applyE h x).1.f0 c.f0 = true ∧ nodeI (applyE h x).1.f0 c.f0 = c) := by
  have o2 := applyE_okN o x
  rcases apply_commits he with ⟨e, h7⟩ | ⟨⟨c', e, h7⟩⟩ | ⟨h7, hh, e⟩
  · exact .inr ⟨fun h => h7 h.1, hasI_mem o2.o0 (by rw [e]; exact hc)⟩
  · exact .inr ⟨fun h => h7 h.1, hasI_mem o2.o0 (by rw [e]; exact List.mem_append_left _ hc)⟩
  · obtain ⟨a, b, hl, hp, ha, h'⟩ := splitI o.o0 x.f1
    rcases h' with ⟨_, v, r, rfl, hv0, hv, hr⟩ | ⟨h0, _, _⟩
    · have hd := dropI_split hl hp
      by_cases hx : x.f1 = c.f0
      · refine .inl ⟨h7, hx, hasI_not o2.o0 ?_⟩
        rw [e, hd]
        intro y hy
        rcases List.mem_append.1 hy with h | h
        · have := ha y h; omega
        · have := hr y h; omega
      · refine .inr ⟨fun h => hx h.2, hasI_mem o2.o0 ?_⟩
        rw [e, hd]
        rw [hl] at hc
        rcases List.mem_append.1 hc with h | h
        · exact List.mem_append_left _ h
        · rcases List.mem_cons.1 h with h | h
          · subst h; exact absurd hv0.symm hx
          · exact List.mem_append_right _ h
    · rw [hh] at h0; cases h0
end Go.Proofs.Ytjeoabjccbinhaa.P
