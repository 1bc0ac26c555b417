/- The law HistoryRoundTrip returns true for every list of entries that is read: for the row. Conditions: the hypotheses that stand at each theorem. -/
import Derived.Test.YtjeoabjccbinhaaH21a
import Derived.Test.YtjeoabjccbinhaaPx26
import Derived.Lib.SlicesCompact
import Derived.Test.YtjeoabjccbinhaaSh
import Derived.Test.YtjeoabjccbinhaaWY
import Derived.Test.YtjeoabjccbinhaaA1
namespace Go.Proofs.Ytjeoabjccbinhaa.P
open Go.RowKit Go.Proofs.YtjeoabjccbinhaaW.PrintWords
set_option linter.unusedVariables false
set_option linter.unusedSimpArgs false
/-- The commits' numbers fit; parents are less than their children. -/
def GoodH (h : S27) : Prop := ∀ c ∈ h.f0, (Lit.int .i64 c.f0).wf = true ∧ (Lit.int .i64 c.f1).wf = true ∧ (Lit.int .i64 c.f2).wf = true ∧ c.f1 < c.f0 ∧ c.f2 < c.f0
theorem commit_new {h : S27} {x : S32} (he : (applyE h x).2 = 0) (h1 : x.f0 = 1) : lateB h.f0 x.f1 = false ∧ goneB h.f0 x.f2 = false ∧ goneB h.f0 x.f3 = false ∧ 1 ≤ x.f1 ∧ (applyE h x).1.f0 = h.f0 ++ [⟨x.f1, x.f2, x.f3, x.f4⟩] := by
  unfold applyE applyS at *
  by_cases c0 : wfB x.f0 x.f1 x.f2 x.f3 x.f4 x.f5 = false
  · rw [if_pos c0] at he; exact absurd he (by decide)
  rw [if_neg c0] at he ⊢
  rw [if_pos h1] at he ⊢
  unfold commitS at he ⊢
  by_cases d1 : lateB h.f0 x.f1 = true
  · rw [if_pos d1] at he; exact absurd he (by decide)
  rw [if_neg d1] at he ⊢
  by_cases d2 : confB h.f1 x.f5 x.f2 = true
  · rw [if_pos d2] at he; exact absurd he (by decide)
  rw [if_neg d2] at he ⊢
  by_cases d3 : nameB h.f1 x.f5 x.f2 = true
  · rw [if_pos d3] at he; exact absurd he (by decide)
  rw [if_neg d3] at he ⊢
  by_cases d4 : fullB h.f1 x.f5 = true
  · rw [if_pos d4] at he; exact absurd he (by decide)
  rw [if_neg d4] at he ⊢
  by_cases d5 : (goneB h.f0 x.f2 || goneB h.f0 x.f3) = true
  · rw [if_pos d5] at he; exact absurd he (by decide)
  rw [if_neg d5] at he ⊢
  by_cases d6 : timeB h.f0 x.f2 x.f4 = true
  · rw [if_pos d6] at he; exact absurd he (by decide)
  rw [if_neg d6]
  simp only [Bool.or_eq_true, not_or, Bool.not_eq_true] at d5
  have hw : wfB x.f0 x.f1 x.f2 x.f3 x.f4 x.f5 = true := by simpa using c0
  rw [h1] at hw
  unfold wfB at hw
  simp only [if_true, Bool.and_eq_true, decide_eq_true_eq] at hw
  exact ⟨by simpa using d1, d5.1, d5.2, hw.1.1.1.1.1, rfl⟩
/-- Only a commit adds one. -/
theorem apply_same {h : S27} {x : S32} (he : (applyE h x).2 = 0) (h1 : x.f0 ≠ 1) : ∀ c, (applyE h x).1.f0 ≠ h.f0 ++ [c] := by
  intro c hc
  have hl : h.f0.length < (applyE h x).1.f0.length := by rw [hc]; simp
  refine absurd hl (Nat.not_lt.2 ?_)
  unfold applyE applyS at *
  by_cases c0 : wfB x.f0 x.f1 x.f2 x.f3 x.f4 x.f5 = false
  · rw [if_pos c0] at he; exact absurd he (by decide)
  rw [if_neg c0, if_neg h1]
  by_cases c7 : x.f0 = 7
  · rw [if_pos c7]
    unfold expireS
    split
    · split
      · exact Nat.zero_le _
      · split
        · exact Nat.zero_le _
        · exact dropI_len _ _
    · exact Nat.zero_le _
  rw [if_neg c7]
  split
  · split
    · exact Nat.le_refl _
    · exact Nat.zero_le _
  · split
    · split
      · exact Nat.le_refl _
      · exact Nat.zero_le _
    · split
      · split
        · exact Nat.le_refl _
        · exact Nat.zero_le _
      · split
        · split
          · exact Nat.le_refl _
          · exact Nat.zero_le _
        · split
          · exact Nat.le_refl _
          · exact Nat.le_refl _
theorem late_lt {l : List S41} (ho : okI l) {s : Int} (h : lateB l s = false) : ∀ c ∈ l, c.f0 < s := by
  intro c hc
  have := List.pairwise_append.1 (okI_snoc (x := ⟨s, 0, 0, 0⟩) ho h)
  exact this.2.2 c hc ⟨s, 0, 0, 0⟩ (List.mem_singleton.2 rfl)
theorem hasI_ex {l : List S41} (ho : okI l) {s : Int} (h : hasI l s = true) : ∃ c ∈ l, c.f0 = s ∧ nodeI l s = c := by
  obtain ⟨a, b, hl, hp, ha, h'⟩ := splitI ho s
  rcases h' with ⟨hh, v, r, rfl, hv0, hv, hr⟩ | ⟨hh, hv, hb⟩
  · exact ⟨v, by rw [hl]; simp, hv0, hv⟩
  · rw [h] at hh; cases hh
theorem gone_lt {l : List S41} (ho : okI l) {s p : Int} (h : lateB l s = false) (h1 : 1 ≤ s) (hg : goneB l p = false) : p < s := by
  unfold goneB at hg
  by_cases hp : p = 0
  · omega
  · have : (p != 0) = true := by simpa using hp
    rw [this, Bool.true_and] at hg
    obtain ⟨c, hc, e, _⟩ := hasI_ex ho (by simpa using hg)
    have := late_lt ho h c hc
    omega
theorem good_apply {n : Nat} {h : S27} (o : OkN n h) (g : GoodH h) {x : S32} (hx : G32 x) : GoodH (applyE h x).1 := by
  by_cases he : (applyE h x).2 = 0
  · by_cases h1 : x.f0 = 1
    · obtain ⟨e1, e2, e3, e4, e5⟩ := commit_new he h1
      intro c hc
      rw [e5] at hc
      rcases List.mem_append.1 hc with h_ | h_
      · exact g c h_
      · rw [List.mem_singleton] at h_; subst h_
        exact ⟨hx.2.1, hx.2.2.1, hx.2.2.2.1, gone_lt o.o0 e1 e4 e2, gone_lt o.o0 e1 e4 e3⟩
    · rcases apply_commits he with ⟨e, _⟩ | ⟨c', e, _⟩ | ⟨_, _, e⟩
      · intro c hc; rw [e] at hc; exact g c hc
      · exact absurd e (apply_same he h1 c')
      · intro c hc
        rw [e] at hc
        refine g c ?_
        unfold dropI at hc
        rcases List.mem_append.1 hc with h_ | h_
        · exact List.mem_of_mem_take h_
        · exact List.mem_of_mem_drop h_
  · rw [apply_err he]
    intro c hc
    exact absurd hc (by simp [eS27])
end Go.Proofs.Ytjeoabjccbinhaa.P

namespace Go.Proofs.Ytjeoabjccbinhaa.P
open Go.RowKit Go.Proofs.YtjeoabjccbinhaaW.PrintWords
set_option linter.unusedVariables false
set_option linter.unusedSimpArgs false
/-- What holds of every history that comes about. -/
structure FullH (h : S27) : Prop where
  ids : ∀ c ∈ h.f0, 1 ≤ c.f0 ∧ 0 ≤ c.f1 ∧ c.f1 < c.f0 ∧ 0 ≤ c.f2 ∧ c.f2 < c.f0 ∧ 0 ≤ c.f3 ∧ (c.f2 = 0 ∨ c.f1 ≠ 0)
  time : ∀ c ∈ h.f0, ∀ p ∈ h.f0, p.f0 = c.f1 → p.f3 ≤ c.f3
  heads : ∀ r ∈ h.f1, identB r.f0 = true ∧ ∃ c ∈ h.f0, c.f0 = r.f1
  tags : ∀ r ∈ h.f2, identB r.f0 = true ∧ ∃ c ∈ h.f0, c.f0 = r.f1
  ret : 0 ≤ h.f3
theorem full_nil : FullH eS27 := ⟨by simp [eS27], by simp [eS27], by simp [eS27], by simp [eS27], by simp [eS27]⟩
theorem mem_insS {l : List S86} {s : ByteArray} {id : Int} {r : S86} (h : r ∈ insS l s id) : r = ⟨s, id⟩ ∨ r ∈ l := by
  unfold insS at h
  rcases List.mem_append.1 h with h | h
  · exact .inr (List.mem_of_mem_take h)
  · rcases List.mem_cons.1 h with h | h
    · exact .inl h
    · exact .inr (List.mem_of_mem_drop h)
theorem mem_dropS {l : List S86} {s : ByteArray} {r : S86} (h : r ∈ dropS l s) : r ∈ l := by
  unfold dropS at h
  rcases List.mem_append.1 h with h | h
  · exact List.mem_of_mem_take h
  · exact List.mem_of_mem_drop h
theorem mem_putS {l : List S86} {s : ByteArray} {id : Int} {r : S86} (h : r ∈ putS l s id) : r = ⟨s, id⟩ ∨ r ∈ l := by
  unfold putS at h
  split at h
  · rcases List.mem_or_eq_of_mem_set h with h | h
    · exact .inr h
    · exact .inl h
  · exact mem_insS h
theorem mem_dropI {l : List S41} {s : Int} {c : S41} (h : c ∈ dropI l s) : c ∈ l := by
  unfold dropI at h
  rcases List.mem_append.1 h with h | h
  · exact List.mem_of_mem_take h
  · exact List.mem_of_mem_drop h
theorem dropI_filter {l : List S41} (ho : okI l) {s : Int} (hh : hasI l s = true) : dropI l s = l.filter (fun c => c.f0 != s) := by
  obtain ⟨a, b, rfl, hp, ha, h⟩ := splitI ho s
  rcases h with ⟨_, v, r, rfl, hv, _, hr⟩ | ⟨h0, _⟩
  · rw [dropI_split rfl hp, List.filter_append, List.filter_cons_of_neg (by simp [hv]), List.filter_eq_self.2, List.filter_eq_self.2]
    · intro x hx; have := hr x hx; simp; omega
    · intro x hx; have := ha x hx; simp; omega
  · rw [h0] at hh; cases hh
/-- What a commit that is accepted does. -/
theorem commit_ok {h : S27} {x1 x2 x3 x4 : Int} {x5 : ByteArray} (he : (commitS h x1 x2 x3 x4 x5).2 = 0) :
    lateB h.f0 x1 = false ∧ goneB h.f0 x2 = false ∧ goneB h.f0 x3 = false ∧ timeB h.f0 x2 x4 = false ∧ (commitS h x1 x2 x3 x4 x5).1 = ⟨h.f0 ++ [⟨x1, x2, x3, x4⟩], putS h.f1 x5 x1, h.f2, h.f3⟩ := by
  unfold commitS at *
  by_cases d1 : lateB h.f0 x1 = true
  · rw [if_pos d1] at he; exact absurd he (by decide)
  rw [if_neg d1] at he ⊢
  by_cases d2 : confB h.f1 x5 x2 = true
  · rw [if_pos d2] at he; exact absurd he (by decide)
  rw [if_neg d2] at he ⊢
  by_cases d3 : nameB h.f1 x5 x2 = true
  · rw [if_pos d3] at he; exact absurd he (by decide)
  rw [if_neg d3] at he ⊢
  by_cases d4 : fullB h.f1 x5 = true
  · rw [if_pos d4] at he; exact absurd he (by decide)
  rw [if_neg d4] at he ⊢
  by_cases d5 : (goneB h.f0 x2 || goneB h.f0 x3) = true
  · rw [if_pos d5] at he; exact absurd he (by decide)
  rw [if_neg d5] at he ⊢
  by_cases d6 : timeB h.f0 x2 x4 = true
  · rw [if_pos d6] at he; exact absurd he (by decide)
  rw [if_neg d6]
  simp only [Bool.or_eq_true, not_or, Bool.not_eq_true] at d5
  exact ⟨by simpa using d1, d5.1, d5.2, by simpa using d6, rfl⟩
theorem full_commit {n : Nat} {h : S27} (o : OkN n h) (f : FullH h) {x1 x2 x3 x4 : Int} {x5 : ByteArray} (h1 : 1 ≤ x1) (h2 : 0 ≤ x2) (h3 : 0 ≤ x3) (h4 : 0 ≤ x4) (h5 : identB x5 = true) (h6 : x3 = 0 ∨ x2 ≠ 0) (he : (commitS h x1 x2 x3 x4 x5).2 = 0) : FullH (commitS h x1 x2 x3 x4 x5).1 := by
  obtain ⟨e1, e2, e3, e4, e5⟩ := commit_ok he
  rw [e5]
  have hlt := late_lt o.o0 e1
  refine ⟨?_, ?_, ?_, ?_, f.ret⟩
  · intro c hc
    rcases List.mem_append.1 hc with hc | hc
    · exact f.ids c hc
    · rw [List.mem_singleton] at hc; subst hc
      exact ⟨h1, h2, gone_lt o.o0 e1 h1 e2, h3, gone_lt o.o0 e1 h1 e3, h4, h6⟩
  · intro c hc p hp e
    rcases List.mem_append.1 hc with hc | hc
    · rcases List.mem_append.1 hp with hp | hp
      · exact f.time c hc p hp e
      · rw [List.mem_singleton] at hp; subst hp
        have h7 := hlt c hc
        have h8 := (f.ids c hc).2.2.1
        simp only at e
        omega
    · rw [List.mem_singleton] at hc; subst hc
      rcases List.mem_append.1 hp with hp | hp
      · obtain ⟨q1, q2⟩ := hasI_mem o.o0 hp
        simp only at e
        rw [e] at q1 q2
        unfold timeB at e4
        rw [q1, q2, Bool.true_and, decide_eq_false_iff_not] at e4
        simp only
        omega
      · rw [List.mem_singleton] at hp; subst hp
        simp only at e
        have := gone_lt o.o0 e1 h1 e2
        omega
  · intro r hr
    rcases mem_putS hr with rfl | hr
    · exact ⟨h5, ⟨x1, x2, x3, x4⟩, by simp, rfl⟩
    · obtain ⟨q1, c, q2, q3⟩ := f.heads r hr
      exact ⟨q1, c, List.mem_append_left _ q2, q3⟩
  · intro r hr
    obtain ⟨q1, c, q2, q3⟩ := f.tags r hr
    exact ⟨q1, c, List.mem_append_left _ q2, q3⟩
theorem full_expire {n : Nat} {h : S27} (o : OkN n h) (f : FullH h) {id : Int} (he : (expireS h id).2 = 0) : FullH (expireS h id).1 := by
  unfold expireS at *
  by_cases c1 : hasI h.f0 id = true
  · rw [if_pos c1] at he ⊢
    by_cases c2 : (h.f1.any fun r => r.f1 == id) = true
    · rw [if_pos c2] at he; exact absurd he (by decide)
    rw [if_neg c2] at he ⊢
    by_cases c3 : (h.f2.any fun r => r.f1 == id) = true
    · rw [if_pos c3] at he; exact absurd he (by decide)
    rw [if_neg c3]
    have hk : ∀ c ∈ h.f0, c.f0 ≠ id → c ∈ dropI h.f0 id := by
      intro c hc hne
      rw [dropI_filter o.o0 c1, List.mem_filter]
      exact ⟨hc, by simpa using hne⟩
    refine ⟨fun c hc => f.ids c (mem_dropI hc), fun c hc p hp e => f.time c (mem_dropI hc) p (mem_dropI hp) e, ?_, ?_, f.ret⟩
    · intro r hr
      obtain ⟨q1, c, q2, q3⟩ := f.heads r hr
      refine ⟨q1, c, hk c q2 ?_, q3⟩
      intro hc
      exact c2 (List.any_eq_true.2 ⟨r, hr, by simp; omega⟩)
    · intro r hr
      obtain ⟨q1, c, q2, q3⟩ := f.tags r hr
      refine ⟨q1, c, hk c q2 ?_, q3⟩
      intro hc
      exact c3 (List.any_eq_true.2 ⟨r, hr, by simp; omega⟩)
  · rw [if_neg c1] at he; exact absurd he (by decide)
theorem full_apply {n : Nat} {h : S27} (o : OkN n h) (f : FullH h) (x : S32) : FullH (applyE h x).1 := by
  by_cases he : (applyE h x).2 = 0
  · unfold applyE applyS at *
    by_cases c0 : wfB x.f0 x.f1 x.f2 x.f3 x.f4 x.f5 = false
    · rw [if_pos c0] at he; exact absurd he (by decide)
    rw [if_neg c0] at he ⊢
    have hw : wfB x.f0 x.f1 x.f2 x.f3 x.f4 x.f5 = true := by simpa using c0
    unfold wfB at hw
    by_cases k1 : x.f0 = 1
    · rw [if_pos k1] at he ⊢
      rw [if_pos k1] at hw
      simp only [Bool.and_eq_true, decide_eq_true_eq, Bool.or_eq_true, beq_iff_eq, bne_iff_ne] at hw
      obtain ⟨⟨⟨⟨⟨w1, w2⟩, w3⟩, w4⟩, w5⟩, w6⟩ := hw
      exact full_commit o f w1 w2 w3 w4 w5 w6 he
    rw [if_neg k1] at he ⊢ hw
    by_cases k7 : x.f0 = 7
    · rw [if_pos k7] at he ⊢
      exact full_expire o f he
    rw [if_neg k7] at he ⊢
    by_cases k2 : x.f0 = 2
    · rw [if_pos k2] at he ⊢
      rw [if_pos (.inl k2)] at hw
      simp only [Bool.and_eq_true, decide_eq_true_eq] at hw
      by_cases ha : (addS h.f0 h.f1 x.f5 x.f1).2 = 0
      · rw [if_pos ha]
        rcases addS_cases h.f0 h.f1 x.f5 x.f1 with h1 | ⟨h1, h2, h3, h4⟩
        · exact absurd ha h1.1
        · rw [h1]
          refine ⟨f.ids, f.time, ?_, f.tags, f.ret⟩
          intro r hr
          rcases mem_insS hr with rfl | hr
          · obtain ⟨c, q1, q2, _⟩ := hasI_ex o.o0 h3
            exact ⟨hw.1.2, c, q1, q2⟩
          · exact f.heads r hr
      · rw [if_neg ha] at he; exact absurd he ha
    rw [if_neg k2] at he ⊢
    by_cases k3 : x.f0 = 3
    · rw [if_pos k3] at he ⊢
      rw [if_pos (.inr k3)] at hw
      simp only [Bool.and_eq_true, decide_eq_true_eq] at hw
      by_cases ha : (addS h.f0 h.f2 x.f5 x.f1).2 = 0
      · rw [if_pos ha]
        rcases addS_cases h.f0 h.f2 x.f5 x.f1 with h1 | ⟨h1, h2, h3, h4⟩
        · exact absurd ha h1.1
        · rw [h1]
          refine ⟨f.ids, f.time, f.heads, ?_, f.ret⟩
          intro r hr
          rcases mem_insS hr with rfl | hr
          · obtain ⟨c, q1, q2, _⟩ := hasI_ex o.o0 h3
            exact ⟨hw.1.2, c, q1, q2⟩
          · exact f.tags r hr
      · rw [if_neg ha] at he; exact absurd he ha
    rw [if_neg k3] at he ⊢
    by_cases k4 : x.f0 = 4
    · rw [if_pos k4] at he ⊢
      by_cases ha : hasS h.f1 x.f5 = true
      · rw [if_pos ha]; exact ⟨f.ids, f.time, fun r hr => f.heads r (mem_dropS hr), f.tags, f.ret⟩
      · rw [if_neg ha] at he; exact absurd he (by decide)
    rw [if_neg k4] at he ⊢
    by_cases k5 : x.f0 = 5
    · rw [if_pos k5] at he ⊢
      by_cases ha : hasS h.f2 x.f5 = true
      · rw [if_pos ha]; exact ⟨f.ids, f.time, f.heads, fun r hr => f.tags r (mem_dropS hr), f.ret⟩
      · rw [if_neg ha] at he; exact absurd he (by decide)
    rw [if_neg k5] at he ⊢
    by_cases k6 : x.f0 = 6
    · rw [if_pos k6]
      rw [if_neg (by omega), if_neg (by omega), if_pos k6] at hw
      simp only [Bool.and_eq_true, decide_eq_true_eq] at hw
      exact ⟨f.ids, f.time, f.heads, f.tags, hw.1⟩
    · rw [if_neg k6]; exact f
  · rw [apply_err he]; exact full_nil
theorem full_built (l : List S32) : ∀ i, i ≤ l.length → FullH (builtS (l.take i))
  | 0, _ => full_nil
  | i + 1, h => by
    have ih := full_built l i (by omega)
    rw [builtS_snoc l i (by omega)]
    by_cases h0 : (applyE (builtS (l.take i)) l[i]).2 = 0
    · rw [if_pos h0]; exact full_apply (builtS_okN l i (by omega)) ih _
    · rw [if_neg h0]; exact ih
/-! ### runs -/
def Run (h : S27) (l : List S32) (h' : S27) : Prop := replayS h l = (h', 0)
theorem Run.cons {h h1 h' : S27} {x : S32} {l : List S32} (he : applyE h x = (h1, 0)) (hr : Run h1 l h') : Run h (x :: l) h' := by
  unfold Run at *
  rw [replayS, he, if_pos rfl]; exact hr
theorem Run.app {h h1 h' : S27} : ∀ {a b : List S32}, Run h a h1 → Run h1 b h' → Run h (a ++ b) h' := by
  intro a
  induction a generalizing h with
  | nil => intro b ha hb; unfold Run at ha; rw [replayS] at ha; injection ha with e; subst e; exact hb
  | cons x a ih =>
    intro b ha hb
    unfold Run at ha
    rw [replayS] at ha
    by_cases h0 : (applyE h x).2 = 0
    · rw [if_pos h0] at ha
      exact Run.cons (h1 := (applyE h x).1) (by rw [← h0]) (ih ha hb)
    · rw [if_neg h0] at ha
      injection ha with _ e
      exact absurd e h0
theorem Run.one {h h1 : S27} {x : S32} (he : applyE h x = (h1, 0)) : Run h [x] h1 := Run.cons he rfl
/-! ### the entries -/
/-- The name t. -/
def tB : ByteArray := ⟨#[116]⟩
def nB : ByteArray := ⟨#[]⟩
theorem tB_ident : identB tB = true := by kernel_rfl
/-- The entries that make a commit. -/
def entE (l : List S41) (id : Int) : List S32 := (if (nodeI l id).f1 ≠ 0 then [⟨2, (nodeI l id).f1, 0, 0, 0, tB⟩] else []) ++ [⟨1, id, (nodeI l id).f1, (nodeI l id).f2, (nodeI l id).f3, tB⟩, ⟨4, 0, 0, 0, 0, tB⟩]
def e7 (id : Int) : S32 := ⟨7, id, 0, 0, 0, nB⟩
def e2 (r : S86) : S32 := ⟨2, r.f1, 0, 0, 0, r.f0⟩
def e3 (r : S86) : S32 := ⟨3, r.f1, 0, 0, 0, r.f0⟩
def e6 (k : Int) : List S32 := if k ≠ 0 then [⟨6, k, 0, 0, 0, nB⟩] else []
def entriesS (h : S27) (ids : List Int) : List S32 := ids.flatMap (entE h.f0) ++ ((ids.filter fun i => !hasI h.f0 i).map e7 ++ (h.f1.map e2 ++ (h.f2.map e3 ++ e6 h.f3)))
/-- The numbers that a history mentions, in increasing order. -/
structure IdsOf (h : S27) (ids : List Int) : Prop where
  inc : ids.Pairwise (fun x y => x < y)
  all : ∀ x, x ∈ ids ↔ x ≠ 0 ∧ ∃ c ∈ h.f0, x = c.f0 ∨ x = c.f1 ∨ x = c.f2
/-- The commits of some numbers. -/
def comN (l : List S41) (ids : List Int) : List S41 := ids.map fun id => ⟨id, (nodeI l id).f1, (nodeI l id).f2, (nodeI l id).f3⟩
theorem comN_ok (l : List S41) {ids : List Int} (h : ids.Pairwise (fun x y => x < y)) : okI (comN l ids) := by
  unfold okI comN
  rw [List.pairwise_map]
  exact h
theorem comN_has (l : List S41) {ids : List Int} (h : ids.Pairwise (fun x y => x < y)) {p : Int} (hp : p ∈ ids) : hasI (comN l ids) p = true ∧ nodeI (comN l ids) p = ⟨p, (nodeI l p).f1, (nodeI l p).f2, (nodeI l p).f3⟩ :=
  hasI_mem (comN_ok l h) (c := ⟨p, (nodeI l p).f1, (nodeI l p).f2, (nodeI l p).f3⟩) (List.mem_map.2 ⟨p, hp, rfl⟩)
theorem late_of {l : List S41} {s : Int} (h : ∀ c ∈ l, c.f0 < s) : lateB l s = false := by
  unfold lateB
  by_cases h0 : 0 < l.length
  · rw [last41 h0, decide_eq_true h0, Bool.true_and, decide_eq_false_iff_not]
    have := h _ (List.getElem_mem (show l.length - 1 < l.length by omega))
    omega
  · rw [decide_eq_false h0, Bool.false_and]
theorem one_pos (s : ByteArray) (id : Int) : posS [⟨s, id⟩] s = 0 := by
  unfold posS
  rw [List.takeWhile_cons]
  have := lsB_irrefl s
  unfold lsB at this
  simp [this]
theorem one_has (s : ByteArray) (id : Int) : hasS [⟨s, id⟩] s = true := by
  unfold hasS
  rw [one_pos]
  simp [rd_T86, (cmpS_zero s s).2]
theorem one_val (s : ByteArray) (id : Int) : valS [⟨s, id⟩] s = id := by
  unfold valS
  rw [one_has, if_pos rfl, one_pos]
  simp [rd_T86]
theorem nil_has (s : ByteArray) : hasS [] s = false := by simp [hasS]
theorem nil_ins (s : ByteArray) (id : Int) : insS [] s id = [⟨s, id⟩] := by simp [insS]
theorem run_id {l : List S41} {pre : List Int} {id : Int} (hinc : pre.Pairwise (fun x y => x < y)) (hlt : ∀ x ∈ pre, x < id) (hpos : ∀ x ∈ pre, 1 ≤ x) (h1 : 1 ≤ id) (hp0 : 0 ≤ (nodeI l id).f1) (hm0 : 0 ≤ (nodeI l id).f2) (ht0 : 0 ≤ (nodeI l id).f3)
    (hmp : (nodeI l id).f2 = 0 ∨ (nodeI l id).f1 ≠ 0) (hp : (nodeI l id).f1 ≠ 0 → (nodeI l id).f1 ∈ pre) (hm : (nodeI l id).f2 ≠ 0 → (nodeI l id).f2 ∈ pre) (ht : (nodeI l id).f1 ≠ 0 → (nodeI l (nodeI l id).f1).f3 ≤ (nodeI l id).f3) :
    Run ⟨comN l pre, [], [], 0⟩ (entE l id) ⟨comN l (pre ++ [id]), [], [], 0⟩ := by
  generalize hpq : (nodeI l id).f1 = p at *
  generalize hmq : (nodeI l id).f2 = m at *
  generalize htq : (nodeI l id).f3 = t at *
  have hcom : comN l (pre ++ [id]) = comN l pre ++ [⟨id, p, m, t⟩] := by unfold comN; rw [List.map_append]; simp [hpq, hmq, htq]
  have hlate : lateB (comN l pre) id = false := by
    refine late_of ?_
    intro c hc
    obtain ⟨x, hx, rfl⟩ := List.mem_map.1 hc
    exact hlt x hx
  have hgone : ∀ q, (q ≠ 0 → q ∈ pre) → goneB (comN l pre) q = false := by
    intro q hq
    unfold goneB
    by_cases q0 : q = 0
    · simp [q0]
    · rw [(comN_has l hinc (hq q0)).1]; simp
  have htime : timeB (comN l pre) p t = false := by
    unfold timeB
    by_cases q0 : p = 0
    · subst q0
      have : hasI (comN l pre) 0 = false ∨ hasI (comN l pre) 0 = true := by cases hasI (comN l pre) 0 <;> simp
      rcases this with h0 | h0
      · rw [h0, Bool.false_and]
      · obtain ⟨c, hc, hc0, hc1⟩ := hasI_ex (comN_ok l hinc) h0
        obtain ⟨x, hx, rfl⟩ := List.mem_map.1 hc
        have := hpos x hx
        simp only at hc0
        omega
    · obtain ⟨q1, q2⟩ := comN_has l hinc (hp q0)
      rw [q1, q2, Bool.true_and, decide_eq_false_iff_not]
      have := ht q0
      simp only
      omega
  have hwf : wfB 1 id p m t tB = true := by
    unfold wfB
    rw [if_pos rfl, tB_ident, decide_eq_true h1, decide_eq_true hp0, decide_eq_true hm0, decide_eq_true ht0]
    rcases hmp with h | h
    · simp [h]
    · simp [h]
  have hdrop : applyE ⟨comN l (pre ++ [id]), [⟨tB, id⟩], [], 0⟩ ⟨4, 0, 0, 0, 0, tB⟩ = (⟨comN l (pre ++ [id]), [], [], 0⟩, 0) := by
    unfold applyE applyS
    have hw : wfB 4 0 0 0 0 tB = true := by kernel_rfl
    simp only [hw]
    rw [if_neg (by decide), if_neg (by decide), if_neg (by decide), if_neg (by decide), if_neg (by decide), if_pos trivial, one_has, if_pos rfl]
    unfold dropS
    rw [one_pos]; rfl
  unfold entE
  rw [hpq, hmq, htq]
  by_cases q0 : p = 0
  · rw [if_neg (by simpa using q0), List.nil_append]
    refine Run.cons (h1 := ⟨comN l (pre ++ [id]), [⟨tB, id⟩], [], 0⟩) ?_ (Run.one hdrop)
    unfold applyE applyS
    simp only [hwf]
    rw [if_neg (by decide), if_pos trivial]
    unfold commitS
    simp only [hlate]
    rw [if_neg (by decide), if_neg (by simp [confB, nil_has]), if_neg (by simp [nameB, nil_has, q0]), if_neg (by simp [fullB, nil_has]), if_neg (by rw [hgone p hp, hgone m hm]; decide), if_neg (by rw [htime]; decide), hcom]
    unfold putS
    rw [nil_has, if_neg (by decide), nil_ins]
  · rw [if_pos q0]
    have hwp : wfB 2 p 0 0 0 tB = true := by
      unfold wfB
      rw [if_neg (by decide), if_pos (.inl rfl), tB_ident, decide_eq_true (show 1 ≤ p by omega)]; rfl
    refine Run.cons (h1 := ⟨comN l pre, [⟨tB, p⟩], [], 0⟩) ?_ (Run.cons (h1 := ⟨comN l (pre ++ [id]), [⟨tB, id⟩], [], 0⟩) ?_ (Run.one hdrop))
    · unfold applyE applyS
      simp only [hwp]
      rw [if_neg (by decide), if_neg (by decide), if_neg (by decide), if_pos trivial]
      have ha : addS (comN l pre) [] tB p = ([⟨tB, p⟩], 0) := by
        unfold addS
        rw [nil_has, if_neg (by decide), (comN_has l hinc (hp q0)).1, if_pos rfl, if_neg (by decide), nil_ins]
      rw [ha, if_pos rfl]
    · unfold applyE applyS
      simp only [hwf]
      rw [if_neg (by decide), if_pos trivial]
      unfold commitS
      simp only [hlate]
      rw [if_neg (by decide), if_neg (by simp [confB, one_has, one_val]), if_neg (by simp [nameB, one_has]), if_neg (by simp [fullB, one_has]), if_neg (by rw [hgone p hp, hgone m hm]; decide), if_neg (by rw [htime]; decide), hcom]
      unfold putS
      rw [one_has, if_pos rfl, one_pos]; rfl
/-! ### the numbers in order -/
theorem sorted_eq : ∀ {a b : List Int}, a.Pairwise (fun x y => x < y) → b.Pairwise (fun x y => x < y) → (∀ x, x ∈ a ↔ x ∈ b) → a = b
  | [], [], _, _, _ => rfl
  | [], y :: b, _, _, h => absurd ((h y).2 List.mem_cons_self) (by simp)
  | x :: a, [], _, _, h => absurd ((h x).1 List.mem_cons_self) (by simp)
  | x :: a, y :: b, ha, hb, h => by
    obtain ⟨a1, a2⟩ := List.pairwise_cons.1 ha
    obtain ⟨b1, b2⟩ := List.pairwise_cons.1 hb
    have hxy : x = y := by
      rcases List.mem_cons.1 ((h x).1 List.mem_cons_self) with e | e
      · exact e
      · rcases List.mem_cons.1 ((h y).2 List.mem_cons_self) with e2 | e2
        · exact e2.symm
        · have := b1 x e; have := a1 y e2; omega
    subst hxy
    rw [sorted_eq a2 b2 (fun z => ?_)]
    constructor
    · intro hz
      rcases List.mem_cons.1 ((h z).1 (List.mem_cons_of_mem _ hz)) with e | e
      · have := a1 z hz; omega
      · exact e
    · intro hz
      rcases List.mem_cons.1 ((h z).2 (List.mem_cons_of_mem _ hz)) with e | e
      · have := b1 z hz; omega
      · exact e
theorem run_ids {n : Nat} {h : S27} (o : OkN n h) (f : FullH h) {ids : List Int} (hi : IdsOf h ids) : ∀ (post pre : List Int), ids = pre ++ post → Run ⟨comN h.f0 pre, [], [], 0⟩ (post.flatMap (entE h.f0)) ⟨comN h.f0 ids, [], [], 0⟩
  | [], pre, e => by
    rw [List.append_nil] at e
    subst e
    rfl
  | id :: post, pre, e => by
    have hinc := hi.inc
    rw [e] at hinc
    obtain ⟨h1, h2, h3⟩ := List.pairwise_append.1 hinc
    have hpos : ∀ x ∈ ids, 1 ≤ x := by
      intro x hx
      obtain ⟨x0, c, hc, hx1⟩ := (hi.all x).1 hx
      obtain ⟨c1, c2, c3, c4, c5, c6, c7⟩ := f.ids c hc
      rcases hx1 with rfl | rfl | rfl <;> omega
    have hidm : id ∈ ids := by rw [e]; simp
    have hmem : ∀ q, q ∈ ids → q < id → q ∈ pre := by
      intro q hq hlt
      rw [e] at hq
      rcases List.mem_append.1 hq with hq | hq
      · exact hq
      · rcases List.mem_cons.1 hq with rfl | hq
        · omega
        · have := (List.pairwise_cons.1 h2).1 q hq; omega
    rw [List.flatMap_cons]
    refine Run.app (h1 := ⟨comN h.f0 (pre ++ [id]), [], [], 0⟩) ?_ (run_ids o f hi post (pre ++ [id]) (by rw [e]; simp))
    have hlt : ∀ x ∈ pre, x < id := fun x hx => h3 x hx id List.mem_cons_self
    have hpp : ∀ x ∈ pre, 1 ≤ x := fun x hx => hpos x (by rw [e]; exact List.mem_append_left _ hx)
    cases hh : hasI h.f0 id with
    | false =>
      have hz : nodeI h.f0 id = z41 := by unfold nodeI; rw [hh]; rfl
      exact run_id h1 hlt hpp (hpos id hidm) (by rw [hz]; decide) (by rw [hz]; decide) (by rw [hz]; decide) (.inl (by rw [hz]; rfl)) (fun q => absurd (by rw [hz]; rfl) q) (fun q => absurd (by rw [hz]; rfl) q) (fun q => absurd (by rw [hz]; rfl) q)
    | true =>
      obtain ⟨c, hc, hc0, hc1⟩ := hasI_ex o.o0 hh
      obtain ⟨c1, c2, c3, c4, c5, c6, c7⟩ := f.ids c hc
      refine run_id h1 hlt hpp (hpos id hidm) ?_ ?_ ?_ ?_ ?_ ?_ ?_
      · rw [hc1]; exact c2
      · rw [hc1]; exact c4
      · rw [hc1]; exact c6
      · rw [hc1]; exact c7
      · rw [hc1]; exact fun q => hmem _ ((hi.all _).2 ⟨q, c, hc, .inr (.inl rfl)⟩) (by omega)
      · rw [hc1]; exact fun q => hmem _ ((hi.all _).2 ⟨q, c, hc, .inr (.inr rfl)⟩) (by omega)
      · rw [hc1]
        intro q
        cases h2 : hasI h.f0 c.f1 with
        | false =>
          have hz : nodeI h.f0 c.f1 = z41 := by unfold nodeI; rw [h2]; rfl
          rw [hz]; exact c6
        | true =>
          obtain ⟨p, hp, hp0, hp1⟩ := hasI_ex o.o0 h2
          rw [hp1]
          exact f.time c hc p hp hp0
theorem nB_empty : nB.toList.isEmpty = true := by kernel_rfl
theorem run_gone : ∀ (g : List Int) (L : List S41), okI L → g.Nodup → (∀ id ∈ g, 1 ≤ id ∧ ∃ c ∈ L, c.f0 = id) → Run ⟨L, [], [], 0⟩ (g.map e7) ⟨L.filter (fun c => !g.contains c.f0), [], [], 0⟩
  | [], L, _, _, _ => by
    rw [List.filter_eq_self.2 (by simp)]; rfl
  | id :: g, L, ho, hn, hg => by
    obtain ⟨n1, n2⟩ := List.nodup_cons.1 hn
    obtain ⟨i1, c, i2, i3⟩ := hg id List.mem_cons_self
    have hh : hasI L id = true := by rw [← i3]; exact (hasI_mem ho i2).1
    have hd := dropI_filter ho hh
    rw [List.map_cons]
    refine Run.cons (h1 := ⟨dropI L id, [], [], 0⟩) ?_ ?_
    · unfold applyE applyS
      have hw : wfB 7 id 0 0 0 nB = true := by
        unfold wfB
        rw [if_neg (by decide), if_neg (by decide), if_neg (by decide), if_neg (by decide), if_pos rfl, nB_empty, decide_eq_true i1]; rfl
      simp only [e7, hw]
      rw [if_neg (by decide), if_neg (by decide), if_pos trivial]
      unfold expireS
      rw [hh, if_pos rfl, if_neg (by simp), if_neg (by simp)]
    · have ih := run_gone g (dropI L id) (okI_drop ho id) n2 (fun q hq => by
        obtain ⟨j1, d, j2, j3⟩ := hg q (List.mem_cons_of_mem _ hq)
        refine ⟨j1, d, ?_, j3⟩
        rw [hd, List.mem_filter]
        refine ⟨j2, ?_⟩
        have : q ≠ id := by rintro rfl; exact n1 hq
        simpa [j3] using this)
      rw [hd, List.filter_filter] at ih
      rw [hd]
      have hf : L.filter (fun c => !(id :: g).contains c.f0) = L.filter (fun c => (!g.contains c.f0) && (c.f0 != id)) := by
        refine List.filter_congr fun x _ => ?_
        rw [Bool.eq_iff_iff]
        simp [and_comm]
      rw [hf]
      exact ih
/-- Without the numbers that are gone the commits are the history's own. -/
theorem comN_gone {n : Nat} {h : S27} (o : OkN n h) (f : FullH h) {ids : List Int} (hi : IdsOf h ids) : (comN h.f0 ids).filter (fun c => !(ids.filter fun i => !hasI h.f0 i).contains c.f0) = h.f0 := by
  have e1 : ids.filter (fun i => hasI h.f0 i) = h.f0.map (·.f0) := by
    refine sorted_eq (List.Pairwise.filter _ hi.inc) (List.pairwise_map.2 o.o0) ?_
    intro x
    rw [List.mem_filter, List.mem_map]
    constructor
    · rintro ⟨_, hx⟩
      obtain ⟨c, hc, hc0, _⟩ := hasI_ex o.o0 hx
      exact ⟨c, hc, hc0⟩
    · rintro ⟨c, hc, rfl⟩
      have := (f.ids c hc).1
      exact ⟨(hi.all _).2 ⟨by omega, c, hc, .inl rfl⟩, (hasI_mem o.o0 hc).1⟩
  unfold comN
  rw [List.filter_map]
  have e2 : ids.filter ((fun c : S41 => !(ids.filter fun i => !hasI h.f0 i).contains c.f0) ∘ fun id => (⟨id, (nodeI h.f0 id).f1, (nodeI h.f0 id).f2, (nodeI h.f0 id).f3⟩ : S41)) = ids.filter (fun i => hasI h.f0 i) := by
    refine List.filter_congr fun x hx => ?_
    simp only [Function.comp]
    rw [Bool.eq_iff_iff]
    simp [hx]
  rw [e2, e1, List.map_map]
  refine (List.map_congr_left (g := fun c => c) fun c hc => ?_).trans (by simp)
  simp only [Function.comp]
  rw [(hasI_mem o.o0 hc).2]
theorem ins_last {d : List S86} {r : S86} (ho : okS d) (h : ∀ x ∈ d, lsB x.f0 r.f0 = true) : hasS d r.f0 = false ∧ insS d r.f0 r.f1 = d ++ [r] := by
  obtain ⟨a, b, hl, hp, ha, hh⟩ := splitS ho r.f0
  rcases hh with ⟨_, v, q, rfl, _, _⟩ | ⟨h0, _, hb⟩
  · have := h ⟨r.f0, v⟩ (by rw [hl]; simp)
    rw [lsB_irrefl] at this; cases this
  · have hbn : b = [] := by
      cases b with
      | nil => rfl
      | cons x b =>
        have h1 := hb x List.mem_cons_self
        have h2 := h x (by rw [hl]; simp)
        rw [lsB_asymm h1] at h2; cases h2
    subst hbn
    rw [List.append_nil] at hl
    exact ⟨h0, by rw [insS_split (b := []) (by rw [List.append_nil]; exact hl) hp, ← hl]⟩
theorem ref_wf {h : S27} (f : FullH h) {r : S86} (hr : identB r.f0 = true ∧ ∃ c ∈ h.f0, c.f0 = r.f1) : 1 ≤ r.f1 := by
  obtain ⟨_, c, hc, e⟩ := hr
  have := (f.ids c hc).1
  omega
theorem run_heads {n : Nat} {h : S27} (o : OkN n h) (f : FullH h) : ∀ (rest d : List S86), h.f1 = d ++ rest → Run ⟨h.f0, d, [], 0⟩ (rest.map e2) ⟨h.f0, h.f1, [], 0⟩
  | [], d, e => by rw [List.append_nil] at e; subst e; rfl
  | r :: rest, d, e => by
    have ho := o.o1
    have hl := o.n1
    rw [e] at ho hl
    obtain ⟨h1, h2, h3⟩ := List.pairwise_append.1 ho
    obtain ⟨i1, i2⟩ := ins_last h1 (fun x hx => h3 x hx r List.mem_cons_self)
    have hf := f.heads r (by rw [e]; simp)
    obtain ⟨hid, c, hc, hc0⟩ := hf
    rw [List.map_cons]
    refine Run.cons (h1 := ⟨h.f0, d ++ [r], [], 0⟩) ?_ (run_heads o f rest (d ++ [r]) (by rw [e]; simp))
    unfold applyE applyS
    have hw : wfB 2 r.f1 0 0 0 r.f0 = true := by
      unfold wfB
      rw [if_neg (by decide), if_pos (.inl rfl), hid, decide_eq_true (ref_wf f ⟨hid, c, hc, hc0⟩)]; rfl
    simp only [e2, hw]
    rw [if_neg (by decide), if_neg (by decide), if_neg (by decide), if_pos trivial]
    have ha : addS h.f0 d r.f0 r.f1 = (d ++ [r], 0) := by
      unfold addS
      rw [i1, if_neg (by decide), ← hc0, (hasI_mem o.o0 hc).1, if_pos rfl, if_neg (by simp at hl; omega), hc0, i2]
    simp [ha]
theorem run_tags {n : Nat} {h : S27} (o : OkN n h) (f : FullH h) : ∀ (rest d : List S86), h.f2 = d ++ rest → Run ⟨h.f0, h.f1, d, 0⟩ (rest.map e3) ⟨h.f0, h.f1, h.f2, 0⟩
  | [], d, e => by rw [List.append_nil] at e; subst e; rfl
  | r :: rest, d, e => by
    have ho := o.o2
    have hl := o.n2
    rw [e] at ho hl
    obtain ⟨h1, h2, h3⟩ := List.pairwise_append.1 ho
    obtain ⟨i1, i2⟩ := ins_last h1 (fun x hx => h3 x hx r List.mem_cons_self)
    have hf := f.tags r (by rw [e]; simp)
    obtain ⟨hid, c, hc, hc0⟩ := hf
    rw [List.map_cons]
    refine Run.cons (h1 := ⟨h.f0, h.f1, d ++ [r], 0⟩) ?_ (run_tags o f rest (d ++ [r]) (by rw [e]; simp))
    unfold applyE applyS
    have hw : wfB 3 r.f1 0 0 0 r.f0 = true := by
      unfold wfB
      rw [if_neg (by decide), if_pos (.inr rfl), hid, decide_eq_true (ref_wf f ⟨hid, c, hc, hc0⟩)]; rfl
    simp only [e3, hw]
    rw [if_neg (by decide), if_neg (by decide), if_neg (by decide), if_neg (by decide), if_pos trivial]
    have ha : addS h.f0 d r.f0 r.f1 = (d ++ [r], 0) := by
      unfold addS
      rw [i1, if_neg (by decide), ← hc0, (hasI_mem o.o0 hc).1, if_pos rfl, if_neg (by simp at hl; omega), hc0, i2]
    simp [ha]
theorem run_retain {h : S27} (f : FullH h) : Run ⟨h.f0, h.f1, h.f2, 0⟩ (e6 h.f3) h := by
  unfold e6
  by_cases h0 : h.f3 = 0
  · rw [if_neg (by simpa using h0)]
    show (_, (0 : Int)) = _
    rw [← h0]
  · rw [if_pos h0]
    refine Run.one ?_
    unfold applyE applyS
    have hw : wfB 6 h.f3 0 0 0 nB = true := by
      unfold wfB
      rw [if_neg (by decide), if_neg (by decide), if_neg (by decide), if_pos rfl, nB_empty, decide_eq_true f.ret]; rfl
    simp only [hw]
    rw [if_neg (by decide), if_neg (by decide), if_neg (by decide), if_neg (by decide), if_neg (by decide), if_neg (by decide), if_neg (by decide), if_pos trivial]
/-- The entries of a history, replayed, give it. -/
theorem round_trip {n : Nat} {h : S27} (o : OkN n h) (f : FullH h) {ids : List Int} (hi : IdsOf h ids) : replayS eS27 (entriesS h ids) = (h, 0) := by
  unfold entriesS
  refine Run.app (h1 := ⟨comN h.f0 ids, [], [], 0⟩) (run_ids o f hi ids [] rfl) (Run.app (h1 := ⟨h.f0, [], [], 0⟩) ?_ (Run.app (h1 := ⟨h.f0, h.f1, [], 0⟩) (run_heads o f h.f1 [] rfl) (Run.app (h1 := ⟨h.f0, h.f1, h.f2, 0⟩) (run_tags o f h.f2 [] rfl) (run_retain f))))
  have hg := run_gone (ids.filter fun i => !hasI h.f0 i) (comN h.f0 ids) (comN_ok _ hi.inc) (List.Pairwise.filter _ (hi.inc.imp (fun h => by omega))) (fun id hid => by
    have hm := (List.mem_filter.1 hid).1
    obtain ⟨x0, c, hc, hx1⟩ := (hi.all id).1 hm
    obtain ⟨c1, c2, c3, c4, c5, c6, c7⟩ := f.ids c hc
    exact ⟨by rcases hx1 with rfl | rfl | rfl <;> omega, _, List.mem_map.2 ⟨id, hm, rfl⟩, rfl⟩)
  rw [comN_gone o f hi] at hg
  exact hg
end Go.Proofs.Ytjeoabjccbinhaa.P

namespace Go.Proofs.Ytjeoabjccbinhaa.P
open Go.RowKit Go.Proofs.YtjeoabjccbinhaaW.PrintWords Go.Proofs.YtjeoabjccbinhaaW.PrintLast
set_option linter.unusedVariables false
set_option linter.unusedSimpArgs false
/-! ### insertion -/
theorem wrap_small {i : Int} (h0 : -1000000 ≤ i) (h1 : i ≤ 1000000) : wrap64 i = i := by unfold wrap64; omega
/-- A number's place in an increasing list. -/
theorem split_le (x : Int) : ∀ l : List Int, l.Pairwise (fun a b => a < b) → ∃ a b, l = a ++ b ∧ (∀ y ∈ a, y ≤ x) ∧ (∀ y ∈ b, x < y)
  | [], _ => ⟨[], [], rfl, by simp, by simp⟩
  | y :: l, h => by
    obtain ⟨h1, h2⟩ := List.pairwise_cons.1 h
    by_cases hy : y ≤ x
    · obtain ⟨a, b, e, ha, hb⟩ := split_le x l h2
      exact ⟨y :: a, b, by rw [e]; rfl, by intro z hz; rcases List.mem_cons.1 hz with rfl | hz; exact hy; exact ha z hz, hb⟩
    · exact ⟨[], y :: l, rfl, by simp, by intro z hz; rcases List.mem_cons.1 hz with rfl | hz; omega; have := h1 z hz; omega⟩
theorem rd_left {a b : List Int} {i : Nat} (h : i < a.length) : rd (a ++ b) (i : Int) = a[i] := by
  unfold rd
  rw [Int.toNat_natCast, List.getD_eq_getElem?_getD, List.getElem?_append_left h, List.getElem?_eq_getElem h]; rfl
theorem rd_at {l : List Int} {i : Nat} (h : i < l.length) : rd l (i : Int) = l[i] := by
  unfold rd
  rw [Int.toNat_natCast, List.getD_eq_getElem?_getD, List.getElem?_eq_getElem h]; rfl
section
variable (l : List S41) (l1 l2 : List S86) (r : Int)
/-- The descent to the place. -/
theorem men_l1 (x4 x : Int) {a b : List Int} (ha : ∀ y ∈ a, y ≤ x) (hb : ∀ y ∈ b, x < y) (hn : (a ++ b).length ≤ 10000) : ∀ (j m : Nat), j ≤ b.length →
    laminaref25_mentioned.l1 (j + 1 + m) (a ++ b) x4 x ((a.length + j : Nat) : Int) l l1 l2 r = laminaref25_mentioned.j4 m (a ++ b) x4 x (a.length : Int) l l1 l2 r := by
  intro j
  induction j with
  | zero =>
    intro m _
    rw [show 0 + 1 + m = m + 1 by omega]
    simp only [Nat.add_zero]
    simp only [laminaref25_mentioned.l1]
    by_cases h0 : (a.length : Int) > 0
    · rw [if_pos h0, wrap_small (by omega) (by simp at hn; omega), if_pos (by omega), if_pos (by simp; omega), if_neg ?_]
      have h1 : a.length - 1 < a.length := by omega
      rw [show ((a.length : Int) - 1) = ((a.length - 1 : Nat) : Int) by omega, rd_left h1]
      have := ha _ (List.getElem_mem h1)
      omega
    · rw [if_neg h0]
  | succ j ih =>
    intro m hj
    rw [show j + 1 + 1 + m = (j + 1 + m) + 1 by omega]
    simp only [laminaref25_mentioned.l1]
    simp only [List.length_append] at hn
    rw [if_pos (by omega), show (((a.length + (j + 1) : Nat) : Int) - 1) = ((a.length + j : Nat) : Int) by omega, wrap_small (by omega) (by omega), if_pos (by omega), if_pos (by simp; omega), if_pos ?_]
    · exact ih m (by omega)
    · rw [rd_at (by simp; omega), List.getElem_append_right (by omega)]
      exact hb _ (List.getElem_mem _)
/-- The shift. -/
theorem men_l2 (x4 x : Int) {a b : List Int} (hn : (a ++ b).length ≤ 10000) : ∀ (j m : Nat) (z : Int), j ≤ b.length →
    laminaref25_mentioned.l2 (j + 1 + m) (a ++ b.take j ++ z :: b.drop j) x4 x (a.length : Int) ((a.length + j : Nat) : Int) l l1 l2 r = laminaref25_mentioned.l0 m (a ++ x :: b) (wrap64 (x4 + 1)) l l1 l2 r := by
  intro j
  simp only [List.length_append] at hn
  induction j with
  | zero =>
    intro m z _
    rw [show 0 + 1 + m = m + 1 by omega, Nat.add_zero]
    simp only [laminaref25_mentioned.l2]
    rw [if_neg (by omega), if_pos (by omega), if_pos (by simp; omega), Int.toNat_natCast]
    simp only [List.take_zero, List.append_nil, List.drop_zero]
    rw [List.set_append_right _ _ (Nat.le_refl _), Nat.sub_self, List.set_cons_zero]
  | succ j ih =>
    intro m z hj
    have hlen : (a ++ b.take (j + 1) ++ z :: b.drop (j + 1)).length = a.length + b.length + 1 := by simp; omega
    rw [show j + 1 + 1 + m = (j + 1 + m) + 1 by omega]
    simp only [laminaref25_mentioned.l2]
    rw [if_pos (by omega), show (((a.length + (j + 1) : Nat) : Int) - 1) = ((a.length + j : Nat) : Int) by omega, wrap_small (by omega) (by omega), if_pos (by omega), if_pos (by rw [hlen]; omega), if_pos (by omega), if_pos (by rw [hlen]; omega), Int.toNat_natCast]
    have hb : b.take (j + 1) = b.take j ++ [b[j]] := List.take_succ_eq_append_getElem (by omega)
    have hr : rd (a ++ b.take (j + 1) ++ z :: b.drop (j + 1)) ((a.length + j : Nat) : Int) = b[j] := by
      rw [rd_at (by rw [hlen]; omega), List.getElem_append_left (by simp; omega), List.getElem_append_right (by omega)]
      simp
    rw [hr]
    have hs : (a ++ b.take (j + 1) ++ z :: b.drop (j + 1)).set (a.length + (j + 1)) b[j] = a ++ b.take j ++ b[j] :: b.drop j := by
      rw [List.set_append_right _ _ (by simp; omega)]
      have : a.length + (j + 1) - (a ++ b.take (j + 1)).length = 0 := by simp; omega
      rw [this, List.set_cons_zero, hb, List.append_assoc, List.append_assoc, List.drop_eq_getElem_cons (show j < b.length by omega)]
      simp
    rw [hs]
    exact ih m b[j] (by omega)
/-- One number put in. -/
theorem men_one (x4 x : Int) {acc : List Int} (hi : acc.Pairwise (fun a b => a < b)) (hn : acc.length ≤ 9000) (m : Nat) (hm : 20010 ≤ m) : ∃ acc' m', m' + 20010 ≥ m ∧ acc'.Pairwise (fun a b => a < b) ∧ (∀ y, y ∈ acc' ↔ y = x ∨ y ∈ acc) ∧ acc'.length ≤ acc.length + 1 ∧
    laminaref25_mentioned.l1 m acc x4 x (acc.length : Int) l l1 l2 r = laminaref25_mentioned.l0 m' acc' (wrap64 (x4 + 1)) l l1 l2 r := by
  obtain ⟨a, b, rfl, ha, hb⟩ := split_le x acc hi
  simp only [List.length_append] at hn
  obtain ⟨m, rfl⟩ : ∃ q, m = b.length + 1 + (q + 2) := ⟨m - (b.length + 3), by omega⟩
  have h1 := men_l1 l l1 l2 r x4 x ha hb (by simp; omega) b.length (m + 2) (Nat.le_refl _)
  rw [List.length_append, h1]
  simp only [laminaref25_mentioned.j4]
  have hput : ∀ q, laminaref25_mentioned.j5 (q + (b.length + 2)) (a ++ b) x4 x (a.length : Int) false l l1 l2 r = laminaref25_mentioned.l0 q (a ++ x :: b) (wrap64 (x4 + 1)) l l1 l2 r := by
    intro q
    rw [show q + (b.length + 2) = (b.length + 1 + q) + 1 by omega]
    simp only [laminaref25_mentioned.j5]
    rw [if_neg (by decide), if_pos (by simp; omega), Option.bind_some]
    have e1 : wrap64 (((a ++ b ++ [0]).length : Int) - 1) = ((a.length + b.length : Nat) : Int) := by
      rw [wrap_small (by simp; omega) (by simp; omega)]; simp; omega
    rw [e1]
    have := men_l2 l l1 l2 r x4 x (a := a) (b := b) (by simp; omega) b.length q 0 (Nat.le_refl _)
    rw [List.take_length, List.drop_length] at this
    exact this
  have hlt : ∀ y ∈ b, x < y := hb
  obtain ⟨p1, p2, p3⟩ := List.pairwise_append.1 hi
  by_cases h0 : (a.length : Int) > 0
  · have h2 : a.length - 1 < a.length := by omega
    rw [if_pos h0, wrap_small (by omega) (by omega), if_pos (by omega), if_pos (by simp; omega), show ((a.length : Int) - 1) = ((a.length - 1 : Nat) : Int) by omega, rd_left h2]
    by_cases he : a[a.length - 1] = x
    · rw [beq_iff_eq.2 he]
      simp only [laminaref25_mentioned.j5]
      rw [if_pos trivial]
      refine ⟨a ++ b, m, by omega, hi, fun y => ⟨fun h => .inr h, fun h => ?_⟩, by simp, rfl⟩
      rcases h with rfl | h
      · exact List.mem_append_left _ (he ▸ List.getElem_mem h2)
      · exact h
    · rw [beq_eq_false_iff_ne.2 he]
      have hal : ∀ y ∈ a, y < x := by
        intro y hy
        have h3 := ha y hy
        obtain ⟨i, hi_, rfl⟩ := List.getElem_of_mem hy
        rcases Nat.lt_or_ge i (a.length - 1) with h4 | h4
        · have := (List.pairwise_iff_getElem.1 p1) i (a.length - 1) hi_ h2 h4
          have := ha _ (List.getElem_mem h2)
          omega
        · have : i = a.length - 1 := by omega
          subst this
          omega
      obtain ⟨q, hq⟩ : ∃ q, m + 1 = q + (b.length + 2) := ⟨m + 1 - (b.length + 2), by omega⟩
      rw [hq, hput]
      refine ⟨a ++ x :: b, q, by omega, ?_, ?_, by simp; omega, rfl⟩
      · exact List.pairwise_append.2 ⟨p1, List.pairwise_cons.2 ⟨hlt, p2⟩, fun y hy z hz => by
          rcases List.mem_cons.1 hz with rfl | hz
          · exact hal y hy
          · exact p3 y hy z hz⟩
      · intro y; simp; constructor
        · rintro (h | h | h); exact .inr (.inl h); exact .inl h; exact .inr (.inr h)
        · rintro (h | h | h); exact .inr (.inl h); exact .inl h; exact .inr (.inr h)
  · have ha0 : a = [] := List.eq_nil_of_length_eq_zero (by omega)
    subst ha0
    rw [if_neg h0]
    obtain ⟨q, hq⟩ : ∃ q, m + 1 = q + (b.length + 2) := ⟨m + 1 - (b.length + 2), by omega⟩
    rw [hq, hput]
    refine ⟨[] ++ x :: b, q, by omega, ?_, ?_, by simp, rfl⟩
    · exact List.pairwise_cons.2 ⟨hlt, p2⟩
    · intro y; simp
/-- The number at place i of the three columns read in turn. -/
def colN (c : S41) (j : Nat) : Int := if j = 0 then c.f0 else if j = 1 then c.f1 else c.f2
theorem men_step (hn : l.length ≤ 1000) (i : Nat) (hi : i < 3 * l.length) (acc : List Int) (m : Nat) : laminaref25_mentioned.l0 (m + 3) acc (i : Int) l l1 l2 r =
    (if colN (rd_T41 l ((i / 3 : Nat) : Int)) (i % 3) = 0 then laminaref25_mentioned.l0 m acc ((i + 1 : Nat) : Int) l l1 l2 r else laminaref25_mentioned.l1 m acc (i : Int) (colN (rd_T41 l ((i / 3 : Nat) : Int)) (i % 3)) (acc.length : Int) l l1 l2 r) := by
  have e1 : Int.tdiv (i : Int) 3 = ((i / 3 : Nat) : Int) := by rw [Int.tdiv_eq_ediv_of_nonneg (by omega)]; omega
  have e2 : Int.tmod (i : Int) 3 = ((i % 3 : Nat) : Int) := by rw [Int.tmod_eq_emod_of_nonneg (by omega)]; omega
  have hw : wrap64 ((i / 3 : Nat) : Int) = ((i / 3 : Nat) : Int) := wrap_small (by omega) (by omega)
  simp only [laminaref25_mentioned.l0, e1, e2, hw]
  rw [wrap_small (by omega) (by omega), if_pos (by omega), if_pos (by omega), if_pos (by omega)]
  unfold colN
  have h3 : i % 3 = 0 ∨ i % 3 = 1 ∨ i % 3 = 2 := by omega
  have hw1 : wrap64 ((i : Int) + 1) = ((i + 1 : Nat) : Int) := by rw [wrap_small (by omega) (by omega)]; omega
  rcases h3 with h | h | h <;> rw [h] <;> simp only [laminaref25_mentioned.j1, laminaref25_mentioned.j2, e2, h, hw1] <;> simp
theorem men_all (hn : l.length ≤ 1000) (K : Nat) (hK : 20020 ≤ K) : ∀ (d i m : Nat) (acc : List Int), i + d = 3 * l.length → acc.Pairwise (fun a b => a < b) → acc.length ≤ i → (∀ y, y ∈ acc ↔ y ≠ 0 ∧ ∃ j, j < i ∧ y = colN (rd_T41 l ((j / 3 : Nat) : Int)) (j % 3)) → d * K + 10 ≤ m →
    ∃ ids, laminaref25_mentioned.l0 m acc (i : Int) l l1 l2 r = some ids ∧ ids.Pairwise (fun a b => a < b) ∧ ∀ y, y ∈ ids ↔ y ≠ 0 ∧ ∃ j, j < 3 * l.length ∧ y = colN (rd_T41 l ((j / 3 : Nat) : Int)) (j % 3) := by
  intro d
  induction d with
  | zero =>
    intro i m acc hi hp hl hm hk
    obtain ⟨m, rfl⟩ : ∃ q, m = q + 1 := ⟨m - 1, by omega⟩
    obtain rfl : i = 3 * l.length := by omega
    refine ⟨acc, ?_, hp, hm⟩
    simp only [laminaref25_mentioned.l0]
    rw [if_neg (by rw [wrap_small (by omega) (by omega)]; omega)]
  | succ d ih =>
    intro i m acc hi hp hl hm hk
    rw [Nat.succ_mul] at hk
    obtain ⟨m, rfl⟩ : ∃ q, m = q + 3 := ⟨m - 3, by omega⟩
    rw [men_step l l1 l2 r hn i (by omega)]
    generalize hx : colN (rd_T41 l ((i / 3 : Nat) : Int)) (i % 3) = x
    by_cases h0 : x = 0
    · rw [if_pos h0]
      refine ih (i + 1) m acc (by omega) hp (by omega) ?_ (by omega)
      intro y
      rw [hm]
      constructor
      · rintro ⟨y0, j, hj, e⟩; exact ⟨y0, j, by omega, e⟩
      · rintro ⟨y0, j, hj, e⟩
        refine ⟨y0, j, ?_, e⟩
        rcases Nat.lt_or_ge j i with h | h
        · exact h
        · obtain rfl : j = i := by omega
          rw [hx] at e; omega
    · rw [if_neg h0]
      obtain ⟨acc', m', h1, h2, h3, h4, h5⟩ := men_one l l1 l2 r (i : Int) x hp (by omega) m (by omega)
      rw [h5, show wrap64 ((i : Int) + 1) = ((i + 1 : Nat) : Int) from by rw [wrap_small (by omega) (by omega)]; omega]
      refine ih (i + 1) m' acc' (by omega) h2 (by omega) ?_ (by omega)
      intro y
      rw [h3, hm]
      constructor
      · rintro (rfl | ⟨y0, j, hj, e⟩)
        · exact ⟨h0, i, by omega, hx.symm⟩
        · exact ⟨y0, j, by omega, e⟩
      · rintro ⟨y0, j, hj, e⟩
        rcases Nat.lt_or_ge j i with h | h
        · exact .inr ⟨y0, j, h, e⟩
        · obtain rfl : j = i := by omega
          exact .inl (e.trans hx)
end
theorem ids_cols {l : List S41} (y : Int) : (∃ j, j < 3 * l.length ∧ y = colN (rd_T41 l ((j / 3 : Nat) : Int)) (j % 3)) ↔ ∃ c ∈ l, y = c.f0 ∨ y = c.f1 ∨ y = c.f2 := by
  constructor
  · rintro ⟨j, hj, e⟩
    have hj3 : j / 3 < l.length := by omega
    rw [rd41_get l _ hj3] at e
    refine ⟨_, List.getElem_mem hj3, ?_⟩
    unfold colN at e
    split at e
    · exact .inl e
    · split at e
      · exact .inr (.inl e)
      · exact .inr (.inr e)
  · rintro ⟨c, hc, e⟩
    obtain ⟨i, hi, rfl⟩ := List.getElem_of_mem hc
    rcases e with e | e | e
    · exact ⟨3 * i, by omega, by rw [show 3 * i / 3 = i by omega, show 3 * i % 3 = 0 by omega, rd41_get l i hi]; exact e⟩
    · exact ⟨3 * i + 1, by omega, by rw [show (3 * i + 1) / 3 = i by omega, show (3 * i + 1) % 3 = 1 by omega, rd41_get l i hi]; exact e⟩
    · exact ⟨3 * i + 2, by omega, by rw [show (3 * i + 2) / 3 = i by omega, show (3 * i + 2) % 3 = 2 by omega, rd41_get l i hi]; exact e⟩
theorem ids_unique {h : S27} {a b : List Int} (ha : IdsOf h a) (hb : IdsOf h b) : a = b := sorted_eq ha.inc hb.inc (fun x => (ha.all x).trans (hb.all x).symm)
theorem mentioned_is (h : S27) (hn : h.f0.length ≤ 1000) {ids : List Int} (hi : IdsOf h ids) (k : Nat) (hk : 61000000 < k) : laminaref25_mentioned.f k h.f0 h.f1 h.f2 h.f3 = some ids := by
  unfold laminaref25_mentioned.f
  obtain ⟨ids', h1, h2, h3⟩ := men_all h.f0 h.f1 h.f2 h.f3 hn 20020 (Nat.le_refl _) (3 * h.f0.length) 0 k [] (by omega) List.Pairwise.nil (by simp) (by simp) (Nat.le_trans (Nat.add_le_add_right (Nat.mul_le_mul_right 20020 (show 3 * h.f0.length ≤ 3000 by omega)) 10) (by omega))
  rw [show ((0 : Int)) = ((0 : Nat) : Int) from rfl, h1, ids_unique (h := h) ⟨h2, fun x => by rw [h3, ids_cols]⟩ hi]
/-! ### the entries -/
section
variable (l : List S41) (l1 l2 : List S86) (r : Int)
theorem rd_mem0 {xs : List Int} (n : Nat) (h1 : n < xs.length) : rd xs (n : Int) = xs[n] := rd_at h1
theorem Ent_l3 (hn : l2.length ≤ 1000) : ∀ (d i m : Nat) (acc : List S32), i + d = l2.length → d + 1 < m → acc.length + d ≤ 100000 → laminaref25_Entries.l3 m acc (i : Int) l l1 l2 r = some (acc ++ ((l2.drop i).map e3 ++ e6 r)) := by
  intro d
  induction d with
  | zero =>
    intro i m acc h1 h2 h3
    obtain ⟨m, rfl⟩ : ∃ q, m = q + 1 := ⟨m - 1, by omega⟩
    simp only [laminaref25_Entries.l3]
    rw [if_neg (by omega), List.drop_eq_nil_of_le (by omega)]
    unfold e6
    by_cases h0 : r = 0
    · rw [if_pos h0, if_neg (by simpa using h0)]; simp
    · rw [if_neg h0, if_pos (by omega), if_pos h0]; rfl
  | succ d ih =>
    intro i m acc h1 h2 h3
    obtain ⟨m, rfl⟩ : ∃ q, m = q + 1 := ⟨m - 1, by omega⟩
    simp only [laminaref25_Entries.l3]
    rw [if_pos (by omega), if_pos (by omega), if_pos (by omega), wrap_succ i (by omega), ih (i + 1) m _ (by omega) (by omega) (by simp; omega), List.drop_eq_getElem_cons (show i < l2.length by omega), rd86_get l2 i (by omega), List.map_cons]
    simp only [List.append_assoc, List.cons_append, List.nil_append, e3]
theorem Ent_l2 (hn : l2.length ≤ 1000) (hn1 : l1.length ≤ 1000) : ∀ (d i m : Nat) (acc : List S32), i + d = l1.length → d + 2000 < m → acc.length + d ≤ 90000 → laminaref25_Entries.l2 m acc (i : Int) l l1 l2 r = some (acc ++ ((l1.drop i).map e2 ++ (l2.map e3 ++ e6 r))) := by
  intro d
  induction d with
  | zero =>
    intro i m acc h1 h2 h3
    obtain ⟨m, rfl⟩ : ∃ q, m = q + 1 := ⟨m - 1, by omega⟩
    simp only [laminaref25_Entries.l2]
    rw [if_neg (by omega), List.drop_eq_nil_of_le (by omega)]
    exact Ent_l3 l l1 l2 r hn l2.length 0 m acc (by omega) (by omega) (by omega)
  | succ d ih =>
    intro i m acc h1 h2 h3
    obtain ⟨m, rfl⟩ : ∃ q, m = q + 1 := ⟨m - 1, by omega⟩
    simp only [laminaref25_Entries.l2]
    rw [if_pos (by omega), if_pos (by omega), if_pos (by omega), wrap_succ i (by omega), ih (i + 1) m _ (by omega) (by omega) (by simp; omega), List.drop_eq_getElem_cons (show i < l1.length by omega), rd86_get l1 i (by omega), List.map_cons]
    simp only [List.append_assoc, List.cons_append, List.nil_append, e2]
theorem Ent_l1 (ho : okI l) (h0 : l.length ≤ 1000) (hn : l2.length ≤ 1000) (hn1 : l1.length ≤ 1000) (ids : List Int) (hx : ids.length ≤ 10000) : ∀ (d i m : Nat) (acc : List S32), i + d = ids.length → d + 4000 < m → acc.length + d ≤ 80000 → laminaref25_Entries.l1 m acc ids (i : Int) l l1 l2 r = some (acc ++ (((ids.drop i).filter fun q => !hasI l q).map e7 ++ (l1.map e2 ++ (l2.map e3 ++ e6 r)))) := by
  intro d
  induction d with
  | zero =>
    intro i m acc h1 h2 h3
    obtain ⟨m, rfl⟩ : ∃ q, m = q + 1 := ⟨m - 1, by omega⟩
    simp only [laminaref25_Entries.l1]
    rw [if_neg (by omega), List.drop_eq_nil_of_le (by omega)]
    exact Ent_l2 l l1 l2 r hn hn1 l1.length 0 m acc (by omega) (by omega) (by omega)
  | succ d ih =>
    intro i m acc h1 h2 h3
    obtain ⟨m, rfl⟩ : ∃ q, m = q + 1 := ⟨m - 1, by omega⟩
    simp only [laminaref25_Entries.l1]
    rw [if_pos (by omega), if_pos (by omega), there_is ho h0 _ _ (by omega), Option.bind_some, rd_at (show i < ids.length by omega), wrap_succ i (by omega), List.drop_eq_getElem_cons (show i < ids.length by omega)]
    cases hh : hasI l ids[i] with
    | true => rw [if_pos rfl, ih (i + 1) m _ (by omega) (by omega) (by omega), List.filter_cons_of_neg (by simp [hh])]
    | false =>
      rw [if_neg (by decide), if_pos (by omega), ih (i + 1) m _ (by omega) (by omega) (by simp; omega), List.filter_cons_of_pos (by simp [hh]), List.map_cons]
      simp only [List.append_assoc, List.cons_append, List.nil_append, e7, nB]
theorem Ent_l0 (ho : okI l) (h0 : l.length ≤ 1000) (hn : l2.length ≤ 1000) (hn1 : l1.length ≤ 1000) (ids : List Int) (hx : ids.length ≤ 10000) (hp : ∀ q ∈ ids, 0 ≤ (nodeI l q).f1) : ∀ (d i m : Nat) (acc : List S32), i + d = ids.length → d + 20000 < m → acc.length + 3 * d ≤ 60000 →
    laminaref25_Entries.l0 m acc ids (i : Int) l l1 l2 r = some (acc ++ ((ids.drop i).flatMap (entE l) ++ ((ids.filter fun q => !hasI l q).map e7 ++ (l1.map e2 ++ (l2.map e3 ++ e6 r))))) := by
  intro d
  induction d with
  | zero =>
    intro i m acc h1 h2 h3
    obtain ⟨m, rfl⟩ : ∃ q, m = q + 1 := ⟨m - 1, by omega⟩
    simp only [laminaref25_Entries.l0]
    rw [if_neg (by omega), List.drop_eq_nil_of_le (by omega)]
    exact Ent_l1 l l1 l2 r ho h0 hn hn1 ids hx ids.length 0 m acc (by omega) (by omega) (by omega)
  | succ d ih =>
    intro i m acc h1 h2 h3
    obtain ⟨m, rfl⟩ : ∃ q, m = q + 1 := ⟨m - 1, by omega⟩
    simp only [laminaref25_Entries.l0]
    have hq := hp _ (List.getElem_mem (show i < ids.length by omega))
    rw [if_pos (by omega), if_pos (by omega), Find_is ho h0 _ _ (by omega), Option.bind_some, rd_at (show i < ids.length by omega), wrap_succ i (by omega), List.drop_eq_getElem_cons (show i < ids.length by omega), List.flatMap_cons]
    simp only
    by_cases h1_ : (nodeI l ids[i]).f1 > 0
    · have he : entE l ids[i] = [⟨2, (nodeI l ids[i]).f1, 0, 0, 0, ⟨#[116]⟩⟩, ⟨1, ids[i], (nodeI l ids[i]).f1, (nodeI l ids[i]).f2, (nodeI l ids[i]).f3, ⟨#[116]⟩⟩, ⟨4, 0, 0, 0, 0, ⟨#[116]⟩⟩] := by
        unfold entE; rw [if_pos (by omega)]; rfl
      rw [if_pos h1_, if_pos (by omega), Option.bind_some, if_pos (by simp; omega), Option.bind_some, if_pos (by simp; omega), ih (i + 1) m _ (by omega) (by omega) (by simp; omega), he]
      simp only [List.append_assoc, List.cons_append, List.nil_append]
    · have he : entE l ids[i] = [⟨1, ids[i], (nodeI l ids[i]).f1, (nodeI l ids[i]).f2, (nodeI l ids[i]).f3, ⟨#[116]⟩⟩, ⟨4, 0, 0, 0, 0, ⟨#[116]⟩⟩] := by
        unfold entE; rw [if_neg (by omega)]; rfl
      rw [if_neg h1_, if_pos (by omega), Option.bind_some, if_pos (by simp; omega), ih (i + 1) m _ (by omega) (by omega) (by simp; omega), he]
      simp only [List.append_assoc, List.cons_append, List.nil_append]
end
theorem Entries_is (h : S27) (ho : okI h.f0) (h0 : h.f0.length ≤ 1000) (hn1 : h.f1.length ≤ 1000) (hn : h.f2.length ≤ 1000) {ids : List Int} (hi : IdsOf h ids) (hx : ids.length ≤ 10000) (hp : ∀ q ∈ ids, 0 ≤ (nodeI h.f0 q).f1) (k : Nat) (hk : 61000000 < k) : laminaref25_Entries.f k h.f0 h.f1 h.f2 h.f3 = some (entriesS h ids) := by
  unfold laminaref25_Entries.f
  rw [mentioned_is h h0 hi k hk, Option.bind_some]
  exact Ent_l0 h.f0 h.f1 h.f2 h.f3 ho h0 hn hn1 ids hx hp ids.length 0 k [] (by omega) (by omega) (by simp; omega)
/-! ### by sorting -/
theorem compact_up (d : Array Int) (hs : ∀ i j, i ≤ j → j < d.size → d[i]! ≤ d[j]!) : ∀ m, m ≤ d.size → (Lib.compactUpTo d m).Pairwise (fun x y => x < y) ∧ (∀ y ∈ Lib.compactUpTo d m, 0 < m ∧ y ≤ d[m - 1]!) ∧ ∀ y, y ∈ Lib.compactUpTo d m ↔ ∃ j, j < m ∧ d[j]! = y
  | 0, _ => by simp [Lib.compactUpTo]
  | m + 1, h => by
    obtain ⟨h1, h2, h3⟩ := compact_up d hs m (by omega)
    rw [Lib.compactUpTo_succ]
    by_cases hk : Lib.keeps d m = true
    · rw [if_pos hk]
      have hlt : ∀ y ∈ Lib.compactUpTo d m, y < d[m]! := by
        intro y hy
        obtain ⟨m0, hle⟩ := h2 y hy
        have h4 := hs (m - 1) m (by omega) (by omega)
        unfold Lib.keeps at hk
        have h5 := of_decide_eq_true hk
        rcases h5 with h5 | h5
        · omega
        · omega
      refine ⟨List.pairwise_append.2 ⟨h1, List.pairwise_singleton _ _, fun y hy z hz => by rw [List.mem_singleton] at hz; subst hz; exact hlt y hy⟩, ?_, ?_⟩
      · intro y hy
        refine ⟨by omega, ?_⟩
        rw [Nat.add_sub_cancel]
        rcases List.mem_append.1 hy with hy | hy
        · have := hlt y hy; omega
        · rw [List.mem_singleton] at hy; omega
      · intro y
        rw [List.mem_append, h3, List.mem_singleton]
        constructor
        · rintro (⟨j, hj, e⟩ | e)
          · exact ⟨j, by omega, e⟩
          · exact ⟨m, by omega, e.symm⟩
        · rintro ⟨j, hj, e⟩
          rcases Nat.lt_or_ge j m with h | h
          · exact .inl ⟨j, h, e⟩
          · obtain rfl : j = m := by omega
            exact .inr e.symm
    · rw [if_neg hk, List.append_nil]
      have hm : m ≠ 0 ∧ d[m]! = d[m - 1]! := by
        unfold Lib.keeps at hk
        simp only [decide_eq_true_eq, not_or, ne_eq, Decidable.not_not] at hk
        exact hk
      refine ⟨h1, ?_, ?_⟩
      · intro y hy
        obtain ⟨m0, hle⟩ := h2 y hy
        exact ⟨by omega, by rw [Nat.add_sub_cancel, hm.2]; exact hle⟩
      · intro y
        rw [h3]
        constructor
        · rintro ⟨j, hj, e⟩; exact ⟨j, by omega, e⟩
        · rintro ⟨j, hj, e⟩
          rcases Nat.lt_or_ge j m with h | h
          · exact ⟨j, h, e⟩
          · obtain rfl : j = m := by omega
            exact ⟨j - 1, by omega, by rw [← hm.2]; exact e⟩
/-- The numbers of the commits, in the history's order. -/
def idsC (l : List S41) : List Int := l.flatMap fun c => [c.f0, c.f1, c.f2].filter (fun x => x != 0)
def sortI (xs : List Int) : List Int := xs.mergeSort fun x y => decide (x ≤ y)
theorem sortI_mem (xs : List Int) (x : Int) : x ∈ sortI xs ↔ x ∈ xs := List.mem_mergeSort
theorem sortI_len (xs : List Int) : (sortI xs).length = xs.length := List.length_mergeSort _
theorem sortI_le (xs : List Int) : (sortI xs).Pairwise (fun x y => x ≤ y) := by
  have := List.pairwise_mergeSort (le := fun x y : Int => decide (x ≤ y)) (fun a b c h1 h2 => by simp at *; omega) (fun a b => by simp; omega) xs
  exact this.imp (fun h => by simpa using h)
theorem ids_sorted (h : S27) : IdsOf h (Lib.compact (sortI (idsC h.f0))) := by
  have hg : ∀ j, j < (sortI (idsC h.f0)).length → (sortI (idsC h.f0)).toArray[j]! = (sortI (idsC h.f0)).getD j 0 := by
    intro j hj
    simp [List.getD, hj]
  have hu := compact_up (sortI (idsC h.f0)).toArray (fun i j hij hj => by
    simp only [List.size_toArray] at hj
    rw [getElem!_pos _ i (by simp; omega), getElem!_pos _ j (by simpa using hj)]
    simp only [List.getElem_toArray]
    rcases Nat.lt_or_ge i j with h1 | h1
    · exact (List.pairwise_iff_getElem.1 (sortI_le _)) i j (by omega) hj h1
    · have : i = j := by omega
      subst this; exact Int.le_refl _) (sortI (idsC h.f0)).length (by simp)
  refine ⟨hu.1, fun x => ?_⟩
  show x ∈ Lib.compactUpTo _ _ ↔ _
  rw [hu.2.2 x]
  have e1 : (∃ j, j < (sortI (idsC h.f0)).length ∧ (sortI (idsC h.f0)).toArray[j]! = x) ↔ x ∈ sortI (idsC h.f0) := by
    constructor
    · rintro ⟨j, hj, e⟩
      rw [getElem!_pos _ j (by simpa using hj)] at e
      rw [← e]; simp
    · intro hx
      obtain ⟨j, hj, e⟩ := List.getElem_of_mem hx
      exact ⟨j, hj, by rw [getElem!_pos _ j (by simpa using hj)]; simpa using e⟩
  rw [e1, sortI_mem]
  unfold idsC
  rw [List.mem_flatMap]
  constructor
  · rintro ⟨c, hc, hx⟩
    rw [List.mem_filter] at hx
    simp only [List.mem_cons, List.not_mem_nil, or_false, bne_iff_ne, ne_eq] at hx
    exact ⟨hx.2, c, hc, hx.1⟩
  · rintro ⟨x0, c, hc, hx⟩
    refine ⟨c, hc, ?_⟩
    rw [List.mem_filter]
    simp only [List.mem_cons, List.not_mem_nil, or_false, bne_iff_ne, ne_eq]
    exact ⟨hx, x0⟩
theorem idsC_len (l : List S41) : (idsC l).length ≤ 3 * l.length := by
  unfold idsC
  induction l with
  | nil => simp
  | cons c l ih =>
    rw [List.flatMap_cons, List.length_append, List.length_cons]
    have := List.length_filter_le (fun x : Int => x != 0) [c.f0, c.f1, c.f2]
    simp only [List.length_cons, List.length_nil] at this
    omega
theorem compact_len (xs : List Int) : (Lib.compact xs).length ≤ xs.length := by
  unfold Lib.compact Lib.compactUpTo
  rw [List.length_map]
  exact Nat.le_trans (List.length_filter_le _ _) (by simp)
end Go.Proofs.Ytjeoabjccbinhaa.P

namespace Go.Proofs.Ytjeoabjccbinhaa.P
open Go.RowKit Go.Sort Go.Proofs.YtjeoabjccbinhaaW.PrintWords
set_option linter.unusedVariables false
set_option linter.unusedSimpArgs false
theorem holds_ints {w : World} {g : Nat} {cur : Array Value} {e : TypeId} {xs : List Int} (hb : w.heap[g]? = some (.cells cur e (0, 0))) (ht : cur.toList.take xs.length = xs.map (Value.int .i64)) : Holds (Value.int .i64) w g 0 xs.toArray := by
  intro j hj
  have hj' : j < xs.length := by simpa using hj
  refine ⟨?_, by simp [World.frozen?, hb]⟩
  have h1 : (cur.toList.take xs.length)[j]? = (xs.map (Value.int .i64))[j]? := by rw [ht]
  rw [List.getElem?_take_of_lt hj'] at h1
  simp only [World.cell?, hb, Nat.zero_add]
  simp only [Option.isSome_none, Bool.false_eq_true, if_false]
  rw [← Array.getElem?_toList, h1]
  simp [hj']
theorem heap_put {w : World} {g n : Nat} {os : Array Obj} {cur : Array Value} {e : TypeId} (d : Array Int) (hb : w.heap[g]? = some (.cells cur e (0, 0))) :
    (grow (putRow (Value.int .i64) (Sort.ahead w n) g 0 d) os).heap[g]? = some (.cells (putCells (Value.int .i64) 0 d cur) e (0, 0)) := by
  have hg : g < w.heap.size := (Array.getElem?_eq_some_iff.1 hb).1
  rw [heap_grow_old _ _ (by simpa using hg)]
  simp [putRow, mapBlock, Sort.ahead, Array.getElem?_modify, hb, onCells]
theorem grown_put {w : World} {g n : Nat} {os : Array Obj} (d : Array Int) : w.grownBy (grow (putRow (Value.int .i64) (Sort.ahead w n) g 0 d) os) (some g) := by
  refine ⟨rfl, rfl, rfl, by simp, fun k hk hne => ?_⟩
  rw [heap_grow_old _ _ (by simpa using hk)]
  have : g ≠ k := fun e => hne (by rw [e])
  simp [putRow, mapBlock, Sort.ahead, Array.getElem?_modify, this]
theorem take_put (cur : Array Value) (ts : List Int) (h : ts.length ≤ cur.size) : (putCells (Value.int .i64) 0 ts.toArray cur).toList.take ts.length = ts.map (Value.int .i64) := by
  apply List.ext_getElem?
  intro j
  by_cases hj : j < ts.length
  · rw [List.getElem?_take_of_lt hj, Array.getElem?_toList]
    simp [putCells, hj, show j < cur.size by omega]
  · rw [List.getElem?_take_eq_none (by omega), List.getElem?_eq_none (by simp; omega)]
theorem grow_nil (w : World) : grow w #[] = w := by unfold grow; simp
theorem f53_own {base : Nat} {ok : Nat → Prop} {v : Value} {xs : List Int} {w : World} (h : Kd.R (Kd.int .i64) 2 w base ok v xs) (hn : xs.length ≤ 1000000) :
    Calls Try.prog 53 #[v] w fun e w' => e = .returned (.tuple #[]) ∧ Kd.R (Kd.int .i64) 2 w' base ok v (xs.mergeSort fun x y => decide (x ≤ y)) ∧ w.grownBy w' v.ownBlock := by
  have hok := h.1
  have ho := Kd.own_of_R (enc := Value.int .i64) (h1 := fun _ => rfl) h
  obtain ⟨hl, hr⟩ := ho
  rcases hr with ⟨rfl, h0⟩ | ⟨g, cap, cur, rfl, hb, hh, h1, h2, h3, h4⟩
  · obtain rfl : xs = [] := List.eq_nil_of_length_eq_zero h0
    refine (AnyM.slices_Sort_int_none Try.laysSort none 0 w).mono ?_
    rintro e w' ⟨rfl, rfl⟩
    exact ⟨rfl, by simpa using h, World.grownBy.refl _ _⟩
  · have h5 : cur.toList.take xs.length = xs.map (Value.int .i64) := by rw [Nat.mul_one] at h4; exact h4
    refine (AnyM.slices_Sort_int Try.laysSort g 0 cap xs w (holds_ints hh h5) (Array.getElem?_eq_some_iff.1 hh).1 (by omega)).mono ?_
    rintro e w' ⟨rfl, n, os, rfl⟩
    have hs : (xs.mergeSort fun x y => decide (x ≤ y)).length = xs.length := List.length_mergeSort _
    refine ⟨rfl, ?_, by simpa [Value.ownBlock] using grown_put _⟩
    refine Kd.R_of_own (enc := Value.int .i64) (h1 := fun _ => rfl) ⟨by simp [encs], .inr ⟨g, cap, _, by rw [hs], hb, heap_put _ hh, by rw [hs]; exact h1, h2, by simp [putCells, h3], ?_⟩⟩ hok
    rw [Nat.mul_one]
    exact take_put cur _ (by rw [hs]; omega)
theorem f54_own {base : Nat} {ok : Nat → Prop} {v : Value} {xs : List Int} {w : World} (h : Kd.R (Kd.int .i64) 2 w base ok v xs) (hn : xs.length ≤ 1000000) :
    Calls Try.prog 54 #[v] w fun e w' => ∃ v', e = .returned v' ∧ Kd.R (Kd.int .i64) 2 w' base ok v' (Lib.compact xs) ∧ w.grownBy w' v.ownBlock ∧ v'.ownBlock = v.ownBlock := by
  have hok := h.1
  have ho := Kd.own_of_R (enc := Value.int .i64) (h1 := fun _ => rfl) h
  obtain ⟨hl, hr⟩ := ho
  rcases hr with ⟨rfl, h0⟩ | ⟨g, cap, cur, rfl, hb, hh, h1, h2, h3, h4⟩
  · obtain rfl : xs = [] := List.eq_nil_of_length_eq_zero h0
    refine (AnyG.slices_Compact_int_empty Try.laysCompact none 0 w).mono ?_
    rintro e w' ⟨rfl, rfl⟩
    exact ⟨_, rfl, by simpa [Lib.compact, Lib.compactUpTo] using h, World.grownBy.refl _ _, rfl⟩
  · have h5 : cur.toList.take xs.length = xs.map (Value.int .i64) := by rw [Nat.mul_one] at h4; exact h4
    refine (AnyG.slices_Compact_int Try.laysCompact g 0 cap xs w (holds_ints hh h5) (by omega) h1).mono ?_
    rintro e w' ⟨rfl, n, rfl⟩
    have hc : (Lib.compact xs).length ≤ xs.length := by
      unfold Lib.compact Lib.compactUpTo
      rw [List.length_map]
      exact Nat.le_trans (List.length_filter_le _ _) (by simp)
    have hh2 := heap_put (n := n) (os := #[]) (Lib.compact xs ++ List.replicate (xs.length - (Lib.compact xs).length) 0).toArray hh
    have hg2 := grown_put (w := w) (g := g) (n := n) (os := #[]) (Lib.compact xs ++ List.replicate (xs.length - (Lib.compact xs).length) 0).toArray
    rw [grow_nil] at hh2 hg2
    refine ⟨_, rfl, ?_, by simpa [Value.ownBlock] using hg2, by simp [Value.ownBlock]⟩
    refine Kd.R_of_own (enc := Value.int .i64) (h1 := fun _ => rfl) ⟨by simp [encs], .inr ⟨g, cap, _, rfl, hb, hh2, by omega, h2, by simp [putCells, h3], ?_⟩⟩ (fun k hk => hok k (by simpa [Value.ownBlock] using hk))
    rw [Nat.mul_one]
    have ht := take_put cur (Lib.compact xs ++ List.replicate (xs.length - (Lib.compact xs).length) 0) (by simp; omega)
    have h6 := congrArg (List.take (Lib.compact xs).length) ht
    rw [List.take_take, List.map_append, List.take_left' (by simp), Nat.min_eq_left (by simp)] at h6
    exact h6
end Go.Proofs.Ytjeoabjccbinhaa.P

namespace Go.Proofs.Ytjeoabjccbinhaa.P
open Go.RowKit Go.Proofs.YtjeoabjccbinhaaW.PrintWords Go.Proofs.YtjeoabjccbinhaaW.PrintLast Go.Proofs.YtjeoabjccbinhaaW.PrintMore
set_option linter.unusedVariables false
set_option linter.unusedSimpArgs false
theorem f16_Q (A0 : Option Addr) (c0 : Nat) (A1 : Option Addr) (c1 : Nat) (A2 : Option Addr) (c2 : Nat) (h : S27) (s : Int) (n : S41) (b : Bool) (he : nodeI h.f0 s = n) (hb : hasI h.f0 s = b) (w : World) (hr : HV w A0 c0 h.f0 A1 c1 h.f1 A2 c2 h.f2) (ho : okI h.f0) (hn : h.f0.length ≤ 1000) :
    Calls Try.prog 16 #[.agg #[.slice A0 h.f0.length c0, .slice A1 h.f1.length c1, .slice A2 h.f2.length c2, .int .i64 h.f3], .int .i64 s] w fun e w' => e = .returned (.tuple #[.agg #[.int .i64 n.f0, .int .i64 n.f1, .int .i64 n.f2, .int .i64 n.f3], .bool b]) ∧ Below w.heap.size w w' := by
  subst he; subst hb
  exact f16_calls A0 c0 h.f0 A1 c1 h.f1 A2 c2 h.f2 h.f3 s w hr ho hn
theorem idsC_snoc (l : List S41) (i : Nat) (hi : i < l.length) (c : S41) (hc : rd_T41 l (i : Int) = c) : idsC (l.take (i + 1)) = idsC (l.take i) ++ [c.f0, c.f1, c.f2].filter (fun x => x != 0) := by
  unfold idsC
  rw [List.take_succ_eq_append_getElem hi, List.flatMap_append, ← hc, rd41_get l i hi]
  simp
theorem take_snoc_rd {ids : List Int} {i : Nat} {z : Int} (hl : i < ids.length) (hz : rd ids (i : Int) = z) : ids.take (i + 1) = ids.take i ++ [z] := by
  rw [List.take_succ_eq_append_getElem hl, ← hz, rd_at hl]
theorem flat_lenE (l : List S41) (xs : List Int) : (xs.flatMap (entE l)).length ≤ 3 * xs.length := by
  induction xs with
  | nil => simp
  | cons x xs ih =>
    rw [List.flatMap_cons, List.length_append, List.length_cons]
    have : (entE l x).length ≤ 3 := by unfold entE; split <;> simp
    omega
theorem filt3 (a b c : Int) (j : Nat) (x : Int) (hj : j < 3) (hx : [a, b, c][j]? = some x) : ([a, b, c].take (j + 1)).filter (fun x => x != 0) = ([a, b, c].take j).filter (fun x => x != 0) ++ (if x = 0 then [] else [x]) := by
  rw [List.take_add_one, hx, List.filter_append]
  congr 1
  by_cases h : x = 0 <;> simp [h]
set_option maxHeartbeats 16000000 in
set_option maxRecDepth 100000 in
theorem f31_calls (A0 : Option Addr) (c0 : Nat) (A1 : Option Addr) (c1 : Nat) (A2 : Option Addr) (c2 : Nat) (h : S27) (ids : List Int) (hids : Lib.compact (sortI (idsC h.f0)) = ids) (w : World) (hr : HV w A0 c0 h.f0 A1 c1 h.f1 A2 c2 h.f2) (o0 : okI h.f0) (n0 : h.f0.length ≤ 999) (n1 : h.f1.length ≤ 1000) (n2 : h.f2.length ≤ 1000) :
    Calls Try.prog 31 #[.agg #[.slice A0 h.f0.length c0, .slice A1 h.f1.length c1, .slice A2 h.f2.length c2, .int .i64 h.f3]] w fun e w' => ∃ v, e = .returned v ∧ Kd.R k32 32 w' w.heap.size (fun _ => True) v (entriesS h ids) ∧ Below w.heap.size w w' := by
  have HR := Aside0.mk hr
  have O0 := Aside0.mk o0
  have HI := Aside0.mk hids
  have HCL := Aside0.mk (idsC_len h.f0)
  have hcl := idsC_len h.f0
  have HAL := Aside0.mk (heap_alloc_new w (.cells #[.slice A0 h.f0.length c0, .slice A1 h.f1.length c1, .slice A2 h.f2.length c2, .int .i64 h.f3] 27))
  have HB0 : Aside0 (Below w.heap.size w (w.alloc (.cells #[.slice A0 h.f0.length c0, .slice A1 h.f1.length c1, .slice A2 h.f2.length c2, .int .i64 h.f3] 27))) := ⟨below_alloc (Below.refl _ _) _⟩
  clear hr o0 hids
  go_enter Try.func31, Try.ntmps31
  go_wp2
  go_loopg [3, 23] h.f0.length (fun kq v3 v23 w' => ∃ i : Nat, v23 = .int .i64 i ∧ i ≤ h.f0.length ∧ Aside0 (kq + i = h.f0.length) ∧ Aside0 (Kd.R (Kd.int .i64) 2 w' (w.heap.size + 1) (fun _ => True) v3 (idsC (h.f0.take i))) ∧ Aside0 (Below (w.heap.size + 1) (w.alloc (.cells #[.slice A0 h.f0.length c0, .slice A1 h.f1.length c1, .slice A2 h.f2.length c2, .int .i64 h.f3] 27)) w'))
  case atStart => exact ⟨0, rfl, Nat.zero_le _, ⟨by omega⟩, ⟨Kd.R_nil _ _ _ _ _⟩, ⟨Below.refl _ _⟩⟩
  case round =>
    obtain ⟨i, rfl, hi, HK, HO, HB⟩ := hrel
    have hzr := HB.out.size
    simp only [World.size_alloc] at hzr
    by_cases hl : i < h.f0.length
    · cases gk with
      | zero => exact absurd HK.out (by omega)
      | succ k1 =>
        have HVr : Aside0 (HV wr A0 c0 h.f0 A1 c1 h.f1 A2 c2 h.f2) := ⟨HR.out.below (HB0.out.trans (HB.out.mono (by omega)))⟩
        obtain ⟨ad, e4, hx0, hx1, hx2, hx3⟩ := at_T41 HVr.out.r0 (i : Int) (by omega) (by omega)
        rw [Int.toNat_natCast] at hx0 hx1 hx2 hx3
        obtain ⟨c, hc_⟩ : ∃ c, rd_T41 h.f0 (i : Int) = c := ⟨_, rfl⟩
        rw [hc_] at hx0 hx1 hx2 hx3
        have HSN := Aside0.mk (idsC_snoc h.f0 i hl c hc_)
        have HLE : Aside0 ((idsC (h.f0.take i)).length ≤ 3 * i) := ⟨by have h_ := idsC_len (h.f0.take i); rw [List.length_take, Nat.min_eq_left hi] at h_; exact h_⟩
        obtain ⟨B, hB_⟩ : ∃ B, idsC (h.f0.take i) = B := ⟨_, rfl⟩
        rw [hB_] at HSN HO HLE
        subst e4
        have hbl : (ad.add (i * 4)).block < wr.heap.size := World.block_lt_of_cell? wr _ hx0
        clear hc_ hB_
        go_wp2
        have HBo0 : Aside0 (Below (w.heap.size + 1) (w.alloc (.cells #[.slice (some ad) h.f0.length c0, .slice A1 h.f1.length c1, .slice A2 h.f2.length c2, .int .i64 h.f3] 27)) ((wr.alloc (.cells #[.int .i64 c.f0, .int .i64 c.f1, .int .i64 c.f2, .int .i64 c.f3] 41)).alloc (.cells #[.int .i64 c.f0, .int .i64 c.f1, .int .i64 c.f2] 2))) := ⟨(HB.out.alloc (by omega) _).alloc (by simp; omega) _⟩
        have BT0 : Aside0 (((wr.alloc (.cells #[.int .i64 c.f0, .int .i64 c.f1, .int .i64 c.f2, .int .i64 c.f3] 41)).alloc (.cells #[.int .i64 c.f0, .int .i64 c.f1, .int .i64 c.f2] 2)).heap[wr.heap.size + 1]? = some (.cells #[.int .i64 c.f0, .int .i64 c.f1, .int .i64 c.f2] 2 (0, 0))) := ⟨by have h_ := heap_alloc_new (wr.alloc (.cells #[.int .i64 c.f0, .int .i64 c.f1, .int .i64 c.f2, .int .i64 c.f3] 41)) (.cells #[.int .i64 c.f0, .int .i64 c.f1, .int .i64 c.f2] 2); simpa using h_⟩
        have HOo0 : Aside0 (Kd.R (Kd.int .i64) 2 ((wr.alloc (.cells #[.int .i64 c.f0, .int .i64 c.f1, .int .i64 c.f2, .int .i64 c.f3] 41)).alloc (.cells #[.int .i64 c.f0, .int .i64 c.f1, .int .i64 c.f2] 2)) (w.heap.size + 1) (fun k => k ≠ wr.heap.size + 1) u3 B) := ⟨Kd.R_alloc (Kd.R_alloc (Kd.R_mono (Kd.R_bound HO.out) (fun k hk => by have := hk.2.2.1; omega)) _) _⟩
        have hzo : ((wr.alloc (.cells #[.int .i64 c.f0, .int .i64 c.f1, .int .i64 c.f2, .int .i64 c.f3] 41)).alloc (.cells #[.int .i64 c.f0, .int .i64 c.f1, .int .i64 c.f2] 2)).heap.size = wr.heap.size + 2 := by simp
        obtain ⟨wo, hwo⟩ : ∃ wo, (wr.alloc (.cells #[.int .i64 c.f0, .int .i64 c.f1, .int .i64 c.f2, .int .i64 c.f3] 41)).alloc (.cells #[.int .i64 c.f0, .int .i64 c.f1, .int .i64 c.f2] 2) = wo := ⟨_, rfl⟩
        rw [hwo] at HBo0 BT0 HOo0 hzo ⊢
        clear hwo HO HB HVr hx0 hx1 hx2 hx3 hbl
        obtain ⟨N0, hN0⟩ : ∃ N, wr.heap.size = N := ⟨_, rfl⟩
        rw [hN0] at BT0 HOo0 hzo hzr ⊢
        clear hN0
        go_loopg [3, 35] 3 (fun kq v3 v35 w' => ∃ j : Nat, v35 = .int .i64 j ∧ j ≤ 3 ∧ Aside0 (kq + j = 3) ∧ Aside0 (Kd.R (Kd.int .i64) 2 w' (w.heap.size + 1) (fun k => k ≠ N0 + 1) v3 (B ++ ([c.f0, c.f1, c.f2].take j).filter (fun x => x != 0))) ∧ Aside0 (Below (w.heap.size + 1) (w.alloc (.cells #[.slice (some ad) h.f0.length c0, .slice A1 h.f1.length c1, .slice A2 h.f2.length c2, .int .i64 h.f3] 27)) w') ∧ Aside0 (w'.heap[N0 + 1]? = some (.cells #[.int .i64 c.f0, .int .i64 c.f1, .int .i64 c.f2] 2 (0, 0))))
        case atStart => exact ⟨0, rfl, by omega, ⟨by omega⟩, ⟨by simpa using HOo0.out⟩, HBo0, BT0⟩
        case round =>
          obtain ⟨j, rfl, hj, HKj, HOj, HBj, BTj⟩ := hrel
          have hzj := HBj.out.size
          have hlj := blk_lt BTj.out
          simp only [World.size_alloc] at hzj
          by_cases hj3 : j < 3
          · cases gk with
            | zero => exact absurd HKj.out (by omega)
            | succ k2 =>
              obtain ⟨x, hx⟩ : ∃ x, [c.f0, c.f1, c.f2][j]? = some x := ⟨_, List.getElem?_eq_getElem (by simpa using hj3)⟩
              have HF3 := Aside0.mk (filt3 c.f0 c.f1 c.f2 j x hj3 hx)
              have hE : wr.cell? ⟨N0 + 1, j, none⟩ = some (.int .i64 x) := (blk_cell BTj.out j).trans (by
                have h_ : #[Value.int .i64 c.f0, .int .i64 c.f1, .int .i64 c.f2][j]? = ([c.f0, c.f1, c.f2].map (Value.int .i64))[j]? := by rw [← List.getElem?_toArray]; rfl
                rw [h_, List.getElem?_map, hx]; rfl)
              obtain ⟨F, hF_⟩ : ∃ F, ([c.f0, c.f1, c.f2].take j).filter (fun x => x != 0) = F := ⟨_, rfl⟩
              have HFL : Aside0 (F.length ≤ 3) := ⟨by rw [← hF_]; exact Nat.le_trans (List.length_filter_le _ _) (by simp; omega)⟩
              rw [hF_] at HF3 HOj
              clear hx hF_
              by_cases hx0 : x = 0
              · have q1 : (x != 0) = false := by simpa using hx0
                rw [if_pos hx0, List.append_nil] at HF3
                clear hx0
                go_wp2
                go_roundg k2
                case measure => omega
                case rel => exact ⟨j + 1, int_eq (by omega), by omega, ⟨by have := HKj.out; omega⟩, ⟨by rw [HF3.out]; exact HOj.out⟩, HBj, BTj⟩
              · have q1 : (x != 0) = true := by simpa using hx0
                rw [if_neg hx0] at HF3
                clear hx0
                have hle2 := HLE.out
                have hle3 := HFL.out
                have hBF : (B ++ F).length ≤ 3000 := by rw [List.length_append]; omega
                go_wp2_with ((with_reducible refine gate_builtin (b := .append) (xs := #[.tmp 41, .tmp 43]) rfl ?_); at_builtin; refine Kd.R_append (Kd.int .i64) (w0 := (w.alloc (.cells #[.slice (some ad) h.f0.length c0, .slice A1 h.f1.length c1, .slice A2 h.f2.length c2, .int .i64 h.f3] 27))) (w.heap.size + 1) rfl (.tmp 41) (.tmp 43) 45 2 (.int .i64 0) 8 rfl Try.underlying45 info2 rfl (by decide) (by omega) u3 (B ++ F) (x) [.int .i64 x] (fun k => k ≠ N0 + 1) (fun _ => False) rfl rfl ?aP1 (fun _ hk => hk.elim) ?aF1 ?aO1 ?aB1 ?aS1 ?aL1 ?_; (case aP1 => rfl); (case aB1 => exact HBj.out); (case aF1 => (intro k hk; first | trivial | omega)); (case aO1 => exact HOj.out); (case aS1 => omega); (case aL1 => omega); intro v7 w7 ho hb hg hat; have HO7 := Aside0.mk ho; have HB7 := Aside0.mk hb; have BT7 : Aside0 (w7.heap[N0 + 1]? = some (.cells #[.int .i64 c.f0, .int .i64 c.f1, .int .i64 c.f2] 2 (0, 0))) := ⟨(hg.block _ hlj (fun h_ => HOj.out.1 (N0 + 1) h_.symm rfl)).trans BTj.out⟩; clear ho hb hg hat hE)
                go_roundg k2
                case measure => omega
                case rel => exact ⟨j + 1, int_eq (by omega), by omega, ⟨by have := HKj.out; omega⟩, ⟨by rw [HF3.out, ← List.append_assoc]; exact HO7.out⟩, HB7, BT7⟩
          · obtain rfl : j = 3 := by omega
            go_wp2
            go_roundg k1
            case measure => omega
            case rel => exact ⟨i + 1, int_eq (by omega), by omega, ⟨by have := HK.out; omega⟩, ⟨by rw [HSN.out]; exact Kd.R_mono HOj.out (fun _ _ => trivial)⟩, HBj⟩
    · obtain rfl : i = h.f0.length := by omega
      rw [List.take_length] at HO
      have hsl : (sortI (idsC h.f0)).length ≤ 3000 := by rw [sortI_len]; omega
      have hcl2 : (idsC h.f0).length ≤ 3000 := by omega
      have hil : ids.length ≤ 3000 := by rw [← HI.out]; exact Nat.le_trans (compact_len _) hsl
      go_wp2_with (first
        | (go_at_call 53; refine (f53_own HO.out (by omega)).mono ?_; rintro e w5 ⟨rfl, hR, hg⟩; obtain ⟨in5, ho5⟩ := Kd.R_own HO.out; have HO5 : Aside0 (Kd.R (Kd.int .i64) 2 w5 (w.heap.size + 1) (fun _ => True) u3 (sortI (idsC h.f0))) := ⟨hR⟩; have HB5 : Aside0 (Below (w.heap.size + 1) (w.alloc (.cells #[.slice A0 h.f0.length c0, .slice A1 h.f1.length c1, .slice A2 h.f2.length c2, .int .i64 h.f3] 27)) w5) := ⟨HB.out.grown hg (by omega) (fun k e => own_base ho5 k e)⟩; have hz5 := HB5.out.size; simp only [World.size_alloc] at hz5; clear hR hg ho5)
        | (go_at_call 54; refine (f54_own HO5.out (by omega)).mono ?_; rintro e w6 ⟨v6, rfl, hR, hg, hv6⟩; obtain ⟨in6, ho6⟩ := Kd.R_own HO5.out; have HB6 : Aside0 (Below (w.heap.size + 1) (w.alloc (.cells #[.slice A0 h.f0.length c0, .slice A1 h.f1.length c1, .slice A2 h.f2.length c2, .int .i64 h.f3] 27)) w6) := ⟨HB5.out.grown hg (by omega) (fun k e => own_base ho6 k e)⟩; rw [HI.out] at hR; obtain ⟨A6, c6, rfl, hc6, hC6⟩ := Kd.R_reads hR; have HC6 := Aside0.mk hC6; clear hR hg ho6 hC6 hv6))
      have hz6 := HB6.out.size
      simp only [World.size_alloc] at hz6
      have BK6 := Aside0.mk ((HB6.out.block _ (by omega)).trans HAL.out)
      have HBW6 : Aside0 (Below w.heap.size w w6) := ⟨HB0.out.trans (HB6.out.mono (by omega))⟩
      have HV6 := Aside0.mk (HR.out.below HBW6.out)
      clear HO HB HO5 HB5 HK
      go_loopg [8, 9, 52] ids.length (fun kq v8 v9 v52 w' => ∃ i : Nat, v52 = .int .i64 i ∧ i ≤ ids.length ∧ Aside0 (kq + i = ids.length) ∧ Aside0 (Kd.R k32 32 w' w6.heap.size (fun _ => True) v8 ((ids.take i).flatMap (entE h.f0))) ∧ Aside0 (Kd.R (Kd.int .i64) 2 w' w6.heap.size (fun _ => True) v9 ((ids.take i).filter fun q => !hasI h.f0 q)) ∧ Aside0 (Below w6.heap.size w6 w'))
      case atStart => exact ⟨0, rfl, Nat.zero_le _, ⟨by omega⟩, ⟨Kd.R_nil _ _ _ _ _⟩, ⟨Kd.R_nil _ _ _ _ _⟩, ⟨Below.refl _ _⟩⟩
      case round =>
        obtain ⟨i, rfl, hi, HK, H8, H9, HB⟩ := hrel
        have hzr := HB.out.size
        by_cases hl : i < ids.length
        · cases gk with
          | zero => exact absurd HK.out (by omega)
          | succ k1 =>
            obtain ⟨⟨a0, a1, a2, a3⟩, p0, p1, p2, p3⟩ := blk4 ((HB.out.block _ (by omega)).trans BK6.out)
            obtain ⟨ad4, e4, hE⟩ := Kd.at_int (Kd.C_below HC6.out HB.out) (i : Int) (by omega) (by omega)
            rw [Int.toNat_natCast] at hE
            obtain ⟨z, hz_⟩ : ∃ z, rd ids (i : Int) = z := ⟨_, rfl⟩
            have HT := Aside0.mk (take_snoc_rd hl hz_)
            rw [hz_] at hE
            subst e4
            have HL1 := Aside0.mk (flat_lenE h.f0 (ids.take i))
            have HL2 : Aside0 ((ids.take i).length ≤ 3000) := ⟨by rw [List.length_take]; omega⟩
            have HL3 : Aside0 (((ids.take i).filter fun q => !hasI h.f0 q).length ≤ 3000) := ⟨Nat.le_trans (List.length_filter_le _ _) HL2.out⟩
            obtain ⟨EB, hEB⟩ : ∃ l, (ids.take i).flatMap (entE h.f0) = l := ⟨_, rfl⟩
            obtain ⟨GB, hGB⟩ : ∃ l, (ids.take i).filter (fun q => !hasI h.f0 q) = l := ⟨_, rfl⟩
            have HEB : Aside0 (EB.length ≤ 9000) := ⟨by rw [← hEB]; have := HL1.out; have := HL2.out; omega⟩
            have HGB : Aside0 (GB.length ≤ 3000) := ⟨by rw [← hGB]; exact HL3.out⟩
            have HE1 : Aside0 ((ids.take (i + 1)).flatMap (entE h.f0) = EB ++ entE h.f0 z) := ⟨by rw [HT.out, List.flatMap_append, hEB]; simp⟩
            have HG1 : Aside0 ((ids.take (i + 1)).filter (fun q => !hasI h.f0 q) = GB ++ (if hasI h.f0 z = true then [] else [z])) := ⟨by rw [HT.out, List.filter_append, hGB, List.filter_cons, List.filter_nil]; cases hasI h.f0 z <;> rfl⟩
            rw [hEB] at H8
            rw [hGB] at H9
            obtain ⟨nd, hnd⟩ : ∃ n, nodeI h.f0 z = n := ⟨_, rfl⟩
            have HND := Aside0.mk hnd
            have hle := HEB.out
            have hlg := HGB.out
            clear hz_ hEB hGB hnd HL1 HL2 HL3
            cases hq : hasI h.f0 z with
            | false =>
              have HQ := Aside0.mk hq
              rw [hq, if_neg (by decide)] at HG1
              have hz41 : nd = z41 := by rw [← HND.out]; unfold nodeI; rw [hq]; rfl
              have HEN : Aside0 (entE h.f0 z = [⟨1, z, nd.f1, nd.f2, nd.f3, ⟨#[116]⟩⟩, ⟨4, 0, 0, 0, 0, ⟨#[116]⟩⟩]) := ⟨by unfold entE; rw [HND.out, if_neg (by rw [hz41]; decide)]; rfl⟩
              have q1 : (nd.f1 != 0) = false := by rw [hz41]; rfl
              clear hq hz41
              go_upto_region 19 with ((go_at_call 16; refine (f16_Q A0 c0 A1 c1 A2 c2 h z nd false HND.out HQ.out _ (HV6.out.below HB.out) O0.out (by omega)).mono ?_; clear hE a0 a1 a2 a3 p0 p1 p2 p3; rintro e w7 ⟨rfl, hb⟩; have HB7 : Aside0 (Below w6.heap.size w6 (w7.alloc (.cells #[.int .i64 nd.f0, .int .i64 nd.f1, .int .i64 nd.f2, .int .i64 nd.f3] 41))) := ⟨(HB.out.trans (hb.mono HB.out.size)).alloc (by have := hb.size; omega) _⟩; have H87 := Aside0.mk (Kd.R_alloc (Kd.R_below H8.out hb) (.cells #[.int .i64 nd.f0, .int .i64 nd.f1, .int .i64 nd.f2, .int .i64 nd.f3] 41)); have H97 := Aside0.mk (Kd.R_alloc (Kd.R_below H9.out hb) (.cells #[.int .i64 nd.f0, .int .i64 nd.f1, .int .i64 nd.f2, .int .i64 nd.f3] 41)); have BC7 := Aside0.mk (heap_alloc_new w7 (.cells #[.int .i64 nd.f0, .int .i64 nd.f1, .int .i64 nd.f2, .int .i64 nd.f3] 41)); clear hb))
              obtain ⟨w8, hw8⟩ : ∃ w8, w7.alloc (.cells #[.int .i64 nd.f0, .int .i64 nd.f1, .int .i64 nd.f2, .int .i64 nd.f3] 41) = w8 := ⟨_, rfl⟩
              rw [hw8] at HB7 H87 H97 BC7 ⊢
              have hz8 := HB7.out.size
              have hq8 : w7.heap.size < w8.heap.size := blk_lt BC7.out
              obtain ⟨⟨b0, b1, b2, b3⟩, r0, r1, r2, r3⟩ := blk4 BC7.out
              clear hw8
              go_wp2_with (first
                | ((with_reducible refine gate_builtin (b := .append) (xs := #[.tmp 64, .tmp 66]) rfl ?_); at_builtin; refine Kd.R_append (Kd.int .i64) (w0 := w6) w6.heap.size rfl (.tmp 64) (.tmp 66) 45 2 (.int .i64 0) 8 rfl Try.underlying45 info2 rfl (by decide) (by omega) u9 (GB) (z) [.int .i64 z] (fun _ => True) (fun _ => False) rfl rfl ?aP2 (fun _ hk => hk.elim) ?aF2 ?aO2 ?aB2 ?aS2 ?aL2 ?_; (case aP2 => rfl); (case aB2 => exact HB7.out); (case aF2 => (intro k hk; first | trivial | omega)); (case aO2 => exact H97.out); (case aS2 => omega); (case aL2 => ((try simp only [List.length_append, List.length_cons, List.length_nil]); omega)); intro v10 w10 ho hb hg hat; have HB10 := Aside0.mk hb; have hz10 := HB10.out.size; have H910 := Aside0.mk ho; have H810 := Aside0.mk (Kd.R_grown2 H87.out rfl hg (fun k e_ => by obtain ⟨in_, ho_⟩ := Kd.R_own H97.out; obtain ⟨cs_, hc_⟩ := own_typed ho_ k e_; exact Kd.R_ne H87.out hc_ (by decide))); have BC10 := Aside0.mk ((hg.block _ (blk_lt BC7.out) (Kd.R_ne H97.out BC7.out (by decide))).trans BC7.out); clear b0 b1 b2 b3 r0 r1 r2 r3; obtain ⟨⟨b0, b1, b2, b3⟩, r0, r1, r2, r3⟩ := blk4 BC10.out; have hq10 : w7.heap.size < w10.heap.size := (blk_lt BC10.out); clear ho hb hg hat)
                | ((with_reducible refine gate_builtin (b := .append) (xs := #[.tmp 77, .tmp 86]) rfl ?_); at_builtin; refine Kd.R_append k32 (w0 := w6) w6.heap.size rfl (.tmp 77) (.tmp 86) 22 32 (.agg #[(.int .i64 0), (.int .i64 0), (.int .i64 0), (.int .i64 0), (.int .i64 0), (.string ⟨#[]⟩)]) 56 rfl Try.underlying22 info32 rfl (by decide) (by omega) u8 (EB) (⟨1, z, nd.f1, nd.f2, nd.f3, ⟨#[116]⟩⟩) [.int .i64 1, .int .i64 z, .int .i64 nd.f1, .int .i64 nd.f2, .int .i64 nd.f3, .string ⟨#[116]⟩] (fun _ => True) (fun _ => False) rfl rfl ?aP3 (fun _ hk => hk.elim) ?aF3 ?aO3 ?aB3 ?aS3 ?aL3 ?_; (case aP3 => exact k32_mkM _ _ _ (⟨1, z, nd.f1, nd.f2, nd.f3, ⟨#[116]⟩⟩)); (case aB3 => exact HB10.out); (case aF3 => (intro k hk; first | trivial | omega)); (case aO3 => exact H810.out); (case aS3 => omega); (case aL3 => ((try simp only [List.length_append, List.length_cons, List.length_nil]); omega)); intro v11 w11 ho hb hg hat; have HB11 := Aside0.mk hb; have hz11 := HB11.out.size; have H811 := Aside0.mk ho; have H911 := Aside0.mk (Kd.R_grown2 H910.out rfl hg (fun k e_ => by obtain ⟨in_, ho_⟩ := Kd.R_own H810.out; obtain ⟨cs_, hc_⟩ := own_typed ho_ k e_; exact Kd.R_ne H910.out hc_ (by decide))); have BC11 := Aside0.mk ((hg.block _ (blk_lt BC10.out) (Kd.R_ne H810.out BC10.out (by decide))).trans BC10.out); clear b0 b1 b2 b3 r0 r1 r2 r3; obtain ⟨⟨b0, b1, b2, b3⟩, r0, r1, r2, r3⟩ := blk4 BC11.out; have hq11 : w7.heap.size < w11.heap.size := (blk_lt BC11.out); clear ho hb hg hat)
                | ((with_reducible refine gate_builtin (b := .append) (xs := #[.tmp 88, .tmp 90]) rfl ?_); at_builtin; refine Kd.R_append k32 (w0 := w6) w6.heap.size rfl (.tmp 88) (.tmp 90) 22 32 (.agg #[(.int .i64 0), (.int .i64 0), (.int .i64 0), (.int .i64 0), (.int .i64 0), (.string ⟨#[]⟩)]) 56 rfl Try.underlying22 info32 rfl (by decide) (by omega) v11 (EB ++ [⟨1, z, nd.f1, nd.f2, nd.f3, ⟨#[116]⟩⟩]) (⟨4, 0, 0, 0, 0, ⟨#[116]⟩⟩) [.int .i64 4, .int .i64 0, .int .i64 0, .int .i64 0, .int .i64 0, .string ⟨#[116]⟩] (fun _ => True) (fun _ => False) rfl rfl ?aP4 (fun _ hk => hk.elim) ?aF4 ?aO4 ?aB4 ?aS4 ?aL4 ?_; (case aP4 => exact k32_mkM _ _ _ (⟨4, 0, 0, 0, 0, ⟨#[116]⟩⟩)); (case aB4 => exact HB11.out); (case aF4 => (intro k hk; first | trivial | omega)); (case aO4 => exact H811.out); (case aS4 => omega); (case aL4 => ((try simp only [List.length_append, List.length_cons, List.length_nil]); omega)); intro v12 w12 ho hb hg hat; have HB12 := Aside0.mk hb; have hz12 := HB12.out.size; have H812 := Aside0.mk ho; have H912 := Aside0.mk (Kd.R_grown2 H911.out rfl hg (fun k e_ => by obtain ⟨in_, ho_⟩ := Kd.R_own H811.out; obtain ⟨cs_, hc_⟩ := own_typed ho_ k e_; exact Kd.R_ne H911.out hc_ (by decide))); clear ho hb hg hat))
              go_roundg k1
              case measure => omega
              case rel => exact ⟨i + 1, int_eq (by omega), by omega, ⟨by have := HK.out; omega⟩, ⟨by rw [HE1.out, HEN.out]; simpa only [List.append_assoc, List.cons_append, List.nil_append] using H812.out⟩, ⟨by rw [HG1.out]; first | exact H912.out | (simpa using H912.out)⟩, HB12⟩
            | true =>
              have HQ := Aside0.mk hq
              rw [hq, if_pos rfl, List.append_nil] at HG1
              clear hq
              by_cases hp : nd.f1 = 0
              · have HEN : Aside0 (entE h.f0 z = [⟨1, z, nd.f1, nd.f2, nd.f3, ⟨#[116]⟩⟩, ⟨4, 0, 0, 0, 0, ⟨#[116]⟩⟩]) := ⟨by unfold entE; rw [HND.out, if_neg (by simpa using hp)]; rfl⟩
                have q1 : (nd.f1 != 0) = false := by simpa using hp
                clear hp
                go_upto_region 19 with ((go_at_call 16; refine (f16_Q A0 c0 A1 c1 A2 c2 h z nd true HND.out HQ.out _ (HV6.out.below HB.out) O0.out (by omega)).mono ?_; clear hE a0 a1 a2 a3 p0 p1 p2 p3; rintro e w7 ⟨rfl, hb⟩; have HB7 : Aside0 (Below w6.heap.size w6 (w7.alloc (.cells #[.int .i64 nd.f0, .int .i64 nd.f1, .int .i64 nd.f2, .int .i64 nd.f3] 41))) := ⟨(HB.out.trans (hb.mono HB.out.size)).alloc (by have := hb.size; omega) _⟩; have H87 := Aside0.mk (Kd.R_alloc (Kd.R_below H8.out hb) (.cells #[.int .i64 nd.f0, .int .i64 nd.f1, .int .i64 nd.f2, .int .i64 nd.f3] 41)); have H97 := Aside0.mk (Kd.R_alloc (Kd.R_below H9.out hb) (.cells #[.int .i64 nd.f0, .int .i64 nd.f1, .int .i64 nd.f2, .int .i64 nd.f3] 41)); have BC7 := Aside0.mk (heap_alloc_new w7 (.cells #[.int .i64 nd.f0, .int .i64 nd.f1, .int .i64 nd.f2, .int .i64 nd.f3] 41)); clear hb))
                obtain ⟨w8, hw8⟩ : ∃ w8, w7.alloc (.cells #[.int .i64 nd.f0, .int .i64 nd.f1, .int .i64 nd.f2, .int .i64 nd.f3] 41) = w8 := ⟨_, rfl⟩
                rw [hw8] at HB7 H87 H97 BC7 ⊢
                have hz8 := HB7.out.size
                have hq8 : w7.heap.size < w8.heap.size := blk_lt BC7.out
                obtain ⟨⟨b0, b1, b2, b3⟩, r0, r1, r2, r3⟩ := blk4 BC7.out
                clear hw8
                go_wp2_with (first
                  | ((with_reducible refine gate_builtin (b := .append) (xs := #[.tmp 77, .tmp 86]) rfl ?_); at_builtin; refine Kd.R_append k32 (w0 := w6) w6.heap.size rfl (.tmp 77) (.tmp 86) 22 32 (.agg #[(.int .i64 0), (.int .i64 0), (.int .i64 0), (.int .i64 0), (.int .i64 0), (.string ⟨#[]⟩)]) 56 rfl Try.underlying22 info32 rfl (by decide) (by omega) u8 (EB) (⟨1, z, nd.f1, nd.f2, nd.f3, ⟨#[116]⟩⟩) [.int .i64 1, .int .i64 z, .int .i64 nd.f1, .int .i64 nd.f2, .int .i64 nd.f3, .string ⟨#[116]⟩] (fun _ => True) (fun _ => False) rfl rfl ?aP5 (fun _ hk => hk.elim) ?aF5 ?aO5 ?aB5 ?aS5 ?aL5 ?_; (case aP5 => exact k32_mkM _ _ _ (⟨1, z, nd.f1, nd.f2, nd.f3, ⟨#[116]⟩⟩)); (case aB5 => exact HB7.out); (case aF5 => (intro k hk; first | trivial | omega)); (case aO5 => exact H87.out); (case aS5 => omega); (case aL5 => ((try simp only [List.length_append, List.length_cons, List.length_nil]); omega)); intro v10 w10 ho hb hg hat; have HB10 := Aside0.mk hb; have hz10 := HB10.out.size; have H810 := Aside0.mk ho; have H910 := Aside0.mk (Kd.R_grown2 H97.out rfl hg (fun k e_ => by obtain ⟨in_, ho_⟩ := Kd.R_own H87.out; obtain ⟨cs_, hc_⟩ := own_typed ho_ k e_; exact Kd.R_ne H97.out hc_ (by decide))); have BC10 := Aside0.mk ((hg.block _ (blk_lt BC7.out) (Kd.R_ne H87.out BC7.out (by decide))).trans BC7.out); clear b0 b1 b2 b3 r0 r1 r2 r3; obtain ⟨⟨b0, b1, b2, b3⟩, r0, r1, r2, r3⟩ := blk4 BC10.out; have hq10 : w7.heap.size < w10.heap.size := (blk_lt BC10.out); clear ho hb hg hat)
                  | ((with_reducible refine gate_builtin (b := .append) (xs := #[.tmp 88, .tmp 90]) rfl ?_); at_builtin; refine Kd.R_append k32 (w0 := w6) w6.heap.size rfl (.tmp 88) (.tmp 90) 22 32 (.agg #[(.int .i64 0), (.int .i64 0), (.int .i64 0), (.int .i64 0), (.int .i64 0), (.string ⟨#[]⟩)]) 56 rfl Try.underlying22 info32 rfl (by decide) (by omega) v10 (EB ++ [⟨1, z, nd.f1, nd.f2, nd.f3, ⟨#[116]⟩⟩]) (⟨4, 0, 0, 0, 0, ⟨#[116]⟩⟩) [.int .i64 4, .int .i64 0, .int .i64 0, .int .i64 0, .int .i64 0, .string ⟨#[116]⟩] (fun _ => True) (fun _ => False) rfl rfl ?aP6 (fun _ hk => hk.elim) ?aF6 ?aO6 ?aB6 ?aS6 ?aL6 ?_; (case aP6 => exact k32_mkM _ _ _ (⟨4, 0, 0, 0, 0, ⟨#[116]⟩⟩)); (case aB6 => exact HB10.out); (case aF6 => (intro k hk; first | trivial | omega)); (case aO6 => exact H810.out); (case aS6 => omega); (case aL6 => ((try simp only [List.length_append, List.length_cons, List.length_nil]); omega)); intro v11 w11 ho hb hg hat; have HB11 := Aside0.mk hb; have hz11 := HB11.out.size; have H811 := Aside0.mk ho; have H911 := Aside0.mk (Kd.R_grown2 H910.out rfl hg (fun k e_ => by obtain ⟨in_, ho_⟩ := Kd.R_own H810.out; obtain ⟨cs_, hc_⟩ := own_typed ho_ k e_; exact Kd.R_ne H910.out hc_ (by decide))); clear ho hb hg hat))
                go_roundg k1
                case measure => omega
                case rel => exact ⟨i + 1, int_eq (by omega), by omega, ⟨by have := HK.out; omega⟩, ⟨by rw [HE1.out, HEN.out]; simpa only [List.append_assoc, List.cons_append, List.nil_append] using H811.out⟩, ⟨by rw [HG1.out]; first | exact H911.out | (simpa using H911.out)⟩, HB11⟩
              · have HEN : Aside0 (entE h.f0 z = [⟨2, nd.f1, 0, 0, 0, ⟨#[116]⟩⟩, ⟨1, z, nd.f1, nd.f2, nd.f3, ⟨#[116]⟩⟩, ⟨4, 0, 0, 0, 0, ⟨#[116]⟩⟩]) := ⟨by unfold entE; rw [HND.out, if_pos hp]; rfl⟩
                have q1 : (nd.f1 != 0) = true := by simpa using hp
                clear hp
                go_upto_region 19 with ((go_at_call 16; refine (f16_Q A0 c0 A1 c1 A2 c2 h z nd true HND.out HQ.out _ (HV6.out.below HB.out) O0.out (by omega)).mono ?_; clear hE a0 a1 a2 a3 p0 p1 p2 p3; rintro e w7 ⟨rfl, hb⟩; have HB7 : Aside0 (Below w6.heap.size w6 (w7.alloc (.cells #[.int .i64 nd.f0, .int .i64 nd.f1, .int .i64 nd.f2, .int .i64 nd.f3] 41))) := ⟨(HB.out.trans (hb.mono HB.out.size)).alloc (by have := hb.size; omega) _⟩; have H87 := Aside0.mk (Kd.R_alloc (Kd.R_below H8.out hb) (.cells #[.int .i64 nd.f0, .int .i64 nd.f1, .int .i64 nd.f2, .int .i64 nd.f3] 41)); have H97 := Aside0.mk (Kd.R_alloc (Kd.R_below H9.out hb) (.cells #[.int .i64 nd.f0, .int .i64 nd.f1, .int .i64 nd.f2, .int .i64 nd.f3] 41)); have BC7 := Aside0.mk (heap_alloc_new w7 (.cells #[.int .i64 nd.f0, .int .i64 nd.f1, .int .i64 nd.f2, .int .i64 nd.f3] 41)); clear hb))
                obtain ⟨w8, hw8⟩ : ∃ w8, w7.alloc (.cells #[.int .i64 nd.f0, .int .i64 nd.f1, .int .i64 nd.f2, .int .i64 nd.f3] 41) = w8 := ⟨_, rfl⟩
                rw [hw8] at HB7 H87 H97 BC7 ⊢
                have hz8 := HB7.out.size
                have hq8 : w7.heap.size < w8.heap.size := blk_lt BC7.out
                obtain ⟨⟨b0, b1, b2, b3⟩, r0, r1, r2, r3⟩ := blk4 BC7.out
                clear hw8
                go_wp2_with (first
                  | ((with_reducible refine gate_builtin (b := .append) (xs := #[.tmp 71, .tmp 75]) rfl ?_); at_builtin; refine Kd.R_append k32 (w0 := w6) w6.heap.size rfl (.tmp 71) (.tmp 75) 22 32 (.agg #[(.int .i64 0), (.int .i64 0), (.int .i64 0), (.int .i64 0), (.int .i64 0), (.string ⟨#[]⟩)]) 56 rfl Try.underlying22 info32 rfl (by decide) (by omega) u8 (EB) (⟨2, nd.f1, 0, 0, 0, ⟨#[116]⟩⟩) [.int .i64 2, .int .i64 nd.f1, .int .i64 0, .int .i64 0, .int .i64 0, .string ⟨#[116]⟩] (fun _ => True) (fun _ => False) rfl rfl ?aP7 (fun _ hk => hk.elim) ?aF7 ?aO7 ?aB7 ?aS7 ?aL7 ?_; (case aP7 => exact k32_mkM _ _ _ (⟨2, nd.f1, 0, 0, 0, ⟨#[116]⟩⟩)); (case aB7 => exact HB7.out); (case aF7 => (intro k hk; first | trivial | omega)); (case aO7 => exact H87.out); (case aS7 => omega); (case aL7 => ((try simp only [List.length_append, List.length_cons, List.length_nil]); omega)); intro v10 w10 ho hb hg hat; have HB10 := Aside0.mk hb; have hz10 := HB10.out.size; have H810 := Aside0.mk ho; have H910 := Aside0.mk (Kd.R_grown2 H97.out rfl hg (fun k e_ => by obtain ⟨in_, ho_⟩ := Kd.R_own H87.out; obtain ⟨cs_, hc_⟩ := own_typed ho_ k e_; exact Kd.R_ne H97.out hc_ (by decide))); have BC10 := Aside0.mk ((hg.block _ (blk_lt BC7.out) (Kd.R_ne H87.out BC7.out (by decide))).trans BC7.out); clear b0 b1 b2 b3 r0 r1 r2 r3; obtain ⟨⟨b0, b1, b2, b3⟩, r0, r1, r2, r3⟩ := blk4 BC10.out; have hq10 : w7.heap.size < w10.heap.size := (blk_lt BC10.out); clear ho hb hg hat)
                  | ((with_reducible refine gate_builtin (b := .append) (xs := #[.tmp 77, .tmp 86]) rfl ?_); at_builtin; refine Kd.R_append k32 (w0 := w6) w6.heap.size rfl (.tmp 77) (.tmp 86) 22 32 (.agg #[(.int .i64 0), (.int .i64 0), (.int .i64 0), (.int .i64 0), (.int .i64 0), (.string ⟨#[]⟩)]) 56 rfl Try.underlying22 info32 rfl (by decide) (by omega) v10 (EB ++ [⟨2, nd.f1, 0, 0, 0, ⟨#[116]⟩⟩]) (⟨1, z, nd.f1, nd.f2, nd.f3, ⟨#[116]⟩⟩) [.int .i64 1, .int .i64 z, .int .i64 nd.f1, .int .i64 nd.f2, .int .i64 nd.f3, .string ⟨#[116]⟩] (fun _ => True) (fun _ => False) rfl rfl ?aP8 (fun _ hk => hk.elim) ?aF8 ?aO8 ?aB8 ?aS8 ?aL8 ?_; (case aP8 => exact k32_mkM _ _ _ (⟨1, z, nd.f1, nd.f2, nd.f3, ⟨#[116]⟩⟩)); (case aB8 => exact HB10.out); (case aF8 => (intro k hk; first | trivial | omega)); (case aO8 => exact H810.out); (case aS8 => omega); (case aL8 => ((try simp only [List.length_append, List.length_cons, List.length_nil]); omega)); intro v11 w11 ho hb hg hat; have HB11 := Aside0.mk hb; have hz11 := HB11.out.size; have H811 := Aside0.mk ho; have H911 := Aside0.mk (Kd.R_grown2 H910.out rfl hg (fun k e_ => by obtain ⟨in_, ho_⟩ := Kd.R_own H810.out; obtain ⟨cs_, hc_⟩ := own_typed ho_ k e_; exact Kd.R_ne H910.out hc_ (by decide))); have BC11 := Aside0.mk ((hg.block _ (blk_lt BC10.out) (Kd.R_ne H810.out BC10.out (by decide))).trans BC10.out); clear b0 b1 b2 b3 r0 r1 r2 r3; obtain ⟨⟨b0, b1, b2, b3⟩, r0, r1, r2, r3⟩ := blk4 BC11.out; have hq11 : w7.heap.size < w11.heap.size := (blk_lt BC11.out); clear ho hb hg hat)
                  | ((with_reducible refine gate_builtin (b := .append) (xs := #[.tmp 88, .tmp 90]) rfl ?_); at_builtin; refine Kd.R_append k32 (w0 := w6) w6.heap.size rfl (.tmp 88) (.tmp 90) 22 32 (.agg #[(.int .i64 0), (.int .i64 0), (.int .i64 0), (.int .i64 0), (.int .i64 0), (.string ⟨#[]⟩)]) 56 rfl Try.underlying22 info32 rfl (by decide) (by omega) v11 (EB ++ [⟨2, nd.f1, 0, 0, 0, ⟨#[116]⟩⟩] ++ [⟨1, z, nd.f1, nd.f2, nd.f3, ⟨#[116]⟩⟩]) (⟨4, 0, 0, 0, 0, ⟨#[116]⟩⟩) [.int .i64 4, .int .i64 0, .int .i64 0, .int .i64 0, .int .i64 0, .string ⟨#[116]⟩] (fun _ => True) (fun _ => False) rfl rfl ?aP9 (fun _ hk => hk.elim) ?aF9 ?aO9 ?aB9 ?aS9 ?aL9 ?_; (case aP9 => exact k32_mkM _ _ _ (⟨4, 0, 0, 0, 0, ⟨#[116]⟩⟩)); (case aB9 => exact HB11.out); (case aF9 => (intro k hk; first | trivial | omega)); (case aO9 => exact H811.out); (case aS9 => omega); (case aL9 => ((try simp only [List.length_append, List.length_cons, List.length_nil]); omega)); intro v12 w12 ho hb hg hat; have HB12 := Aside0.mk hb; have hz12 := HB12.out.size; have H812 := Aside0.mk ho; have H912 := Aside0.mk (Kd.R_grown2 H911.out rfl hg (fun k e_ => by obtain ⟨in_, ho_⟩ := Kd.R_own H811.out; obtain ⟨cs_, hc_⟩ := own_typed ho_ k e_; exact Kd.R_ne H911.out hc_ (by decide))); clear ho hb hg hat))
                go_roundg k1
                case measure => omega
                case rel => exact ⟨i + 1, int_eq (by omega), by omega, ⟨by have := HK.out; omega⟩, ⟨by rw [HE1.out, HEN.out]; simpa only [List.append_assoc, List.cons_append, List.nil_append] using H812.out⟩, ⟨by rw [HG1.out]; first | exact H912.out | (simpa using H912.out)⟩, HB12⟩
        · obtain rfl : i = ids.length := by omega
          rw [List.take_length] at H8 H9
          obtain ⟨E1, hE1⟩ : ∃ l, ids.flatMap (entE h.f0) = l := ⟨_, rfl⟩
          obtain ⟨G1, hG1⟩ : ∃ l, ids.filter (fun q => !hasI h.f0 q) = l := ⟨_, rfl⟩
          have HES : Aside0 (entriesS h ids = E1 ++ (G1.map e7 ++ (h.f1.map e2 ++ (h.f2.map e3 ++ e6 h.f3)))) := ⟨by unfold entriesS; rw [hE1, hG1]⟩
          have HLE1 : E1.length ≤ 9000 := by rw [← hE1]; have := flat_lenE h.f0 ids; omega
          have HLG1 : G1.length ≤ 3000 := by rw [← hG1]; exact Nat.le_trans (List.length_filter_le _ _) hil
          rw [hE1] at H8
          rw [hG1] at H9
          clear hE1 hG1
          obtain ⟨A9, c9, rfl, hc9, -⟩ := Kd.R_reads H9.out
          have BKr := Aside0.mk ((HB.out.block _ (by omega)).trans BK6.out)
          obtain ⟨wC, hwC⟩ : ∃ wC, wr = wC := ⟨_, rfl⟩
          subst hwC
          go_wp2
          go_loopg [8, 95] G1.length (fun kq v8 v95 w' => ∃ i : Nat, v95 = .int .i64 i ∧ i ≤ G1.length ∧ Aside0 (kq + i = G1.length) ∧ Aside0 (Kd.R k32 32 w' w6.heap.size (fun _ => True) v8 (E1 ++ (G1.take i).map e7)) ∧ Aside0 (Kd.R (Kd.int .i64) 2 w' w6.heap.size (fun _ => True) (.slice A9 G1.length c9) G1) ∧ Aside0 (Below w6.heap.size w6 w'))
          case atStart => exact ⟨0, rfl, Nat.zero_le _, ⟨by omega⟩, ⟨by simpa using H8.out⟩, H9, HB⟩
          case round =>
            obtain ⟨i, rfl, hi, HKc, H8c, H9c, HBc⟩ := hrel
            have hzr := HBc.out.size
            by_cases hl : i < G1.length
            · cases gk with
              | zero => exact absurd HKc.out (by omega)
              | succ k1 =>
                obtain ⟨ad4, e4, hE⟩ := Kd.at_int (Kd.F_now (Kd.R_F H9c.out)) (i : Int) (by omega) (by omega)
                rw [Int.toNat_natCast] at hE
                obtain ⟨z, hz_⟩ : ∃ z, rd G1 (i : Int) = z := ⟨_, rfl⟩
                have HT := Aside0.mk (take_snoc_rd hl hz_)
                rw [hz_] at hE
                subst e4
                obtain ⟨XB, hXB⟩ : ∃ l, E1 ++ (G1.take i).map e7 = l := ⟨_, rfl⟩
                have HXN : Aside0 (E1 ++ (G1.take (i + 1)).map e7 = XB ++ [⟨7, z, 0, 0, 0, ⟨#[]⟩⟩]) := ⟨by rw [HT.out, List.map_append, ← List.append_assoc, hXB]; rfl⟩
                have hxl : XB.length ≤ 12000 := by rw [← hXB]; simp; omega
                rw [hXB] at H8c
                clear hz_ hXB
                go_wp2_with ((with_reducible refine gate_builtin (b := .append) (xs := #[.tmp 99, .tmp 102]) rfl ?_); at_builtin; refine Kd.R_append k32 (w0 := w6) w6.heap.size rfl (.tmp 99) (.tmp 102) 22 32 (.agg #[(.int .i64 0), (.int .i64 0), (.int .i64 0), (.int .i64 0), (.int .i64 0), (.string ⟨#[]⟩)]) 56 rfl Try.underlying22 info32 rfl (by decide) (by omega) u8 (XB) (⟨7, z, 0, 0, 0, ⟨#[]⟩⟩) [.int .i64 7, .int .i64 z, .int .i64 0, .int .i64 0, .int .i64 0, .string ⟨#[]⟩] (fun _ => True) (fun _ => False) rfl rfl ?aP10 (fun _ hk => hk.elim) ?aF10 ?aO10 ?aB10 ?aS10 ?aL10 ?_; (case aP10 => exact k32_mkM _ _ _ (⟨7, z, 0, 0, 0, ⟨#[]⟩⟩)); (case aB10 => exact HBc.out); (case aF10 => (intro k hk; first | trivial | omega)); (case aO10 => exact H8c.out); (case aS10 => omega); (case aL10 => ((try simp only [List.length_append, List.length_cons, List.length_nil]); omega)); intro v10 w10 ho hb hg hat; have HB10 := Aside0.mk hb; have H810 := Aside0.mk ho; have H910 := Aside0.mk (Kd.R_grown2 H9c.out rfl hg (fun k e_ => by obtain ⟨in_, ho_⟩ := Kd.R_own H8c.out; obtain ⟨cs_, hc_⟩ := own_typed ho_ k e_; exact Kd.R_ne H9c.out hc_ (by decide))); clear ho hb hg hat hE)
                go_roundg k1
                case measure => omega
                case rel => exact ⟨i + 1, int_eq (by omega), by omega, ⟨by have := HKc.out; omega⟩, ⟨by rw [HXN.out]; exact H810.out⟩, H910, HB10⟩
            · obtain rfl : i = G1.length := by omega
              rw [List.take_length] at H8c
              obtain ⟨E2, hE2⟩ : ∃ l, E1 ++ G1.map e7 = l := ⟨_, rfl⟩
              have HLE2 : E2.length ≤ 13000 := by rw [← hE2]; simp; omega
              rw [hE2] at H8c
              obtain ⟨⟨a0, a1, a2, a3⟩, p0, p1, p2, p3⟩ := blk4 ((HBc.out.block _ (by omega)).trans BK6.out)
              go_wp2
              clear a0 a1 a2 a3 p0 p1 p2 p3
              go_loopg [8, 108] h.f1.length (fun kq v8 v108 w' => ∃ i : Nat, v108 = .int .i64 i ∧ i ≤ h.f1.length ∧ Aside0 (kq + i = h.f1.length) ∧ Aside0 (Kd.R k32 32 w' w6.heap.size (fun _ => True) v8 (E2 ++ (h.f1.take i).map e2)) ∧ Aside0 (Below w6.heap.size w6 w'))
              case atStart => exact ⟨0, rfl, Nat.zero_le _, ⟨by omega⟩, ⟨by simpa using H8c.out⟩, HBc⟩
              case round =>
                obtain ⟨i, rfl, hi, HK2, H82, HB2_⟩ := hrel
                have hzr := HB2_.out.size
                by_cases hl : i < h.f1.length
                · cases gk with
                  | zero => exact absurd HK2.out (by omega)
                  | succ k1 =>
                    obtain ⟨ad4, e4, hy0, hy1⟩ := at_T86 (HV6.out.below HB2_.out).r1 (i : Int) (by omega) (by omega)
                    rw [Int.toNat_natCast] at hy0 hy1
                    obtain ⟨z, hz_⟩ : ∃ z, rd_T86 h.f1 (i : Int) = z := ⟨_, rfl⟩
                    obtain ⟨XB, hXB⟩ : ∃ l, E2 ++ (h.f1.take i).map e2 = l := ⟨_, rfl⟩
                    have HXN : Aside0 (E2 ++ (h.f1.take (i + 1)).map e2 = XB ++ [⟨2, z.f1, 0, 0, 0, z.f0⟩]) := ⟨by rw [List.take_succ_eq_append_getElem hl, List.map_append, ← List.append_assoc, hXB, ← hz_, rd86_get h.f1 i hl]; rfl⟩
                    have hxl : XB.length ≤ 20000 := by rw [← hXB]; simp; omega
                    rw [hXB] at H82
                    rw [hz_] at hy0 hy1
                    subst e4
                    have hbl : (ad4.add (i * 2)).block < wr.heap.size := World.block_lt_of_cell? wr _ hy0
                    clear hz_ hXB
                    go_upto_region 34 with (fail)
                    have HBa : Aside0 (Below w6.heap.size w6 (wr.alloc (.cells #[.string z.f0, .int .i64 z.f1] 86))) := ⟨HB2_.out.alloc hzr _⟩
                    have H8a := Aside0.mk (Kd.R_alloc H82.out (.cells #[.string z.f0, .int .i64 z.f1] 86))
                    have BZa := Aside0.mk (heap_alloc_new wr (.cells #[.string z.f0, .int .i64 z.f1] 86))
                    obtain ⟨wa, hwa⟩ : ∃ wa, wr.alloc (.cells #[.string z.f0, .int .i64 z.f1] 86) = wa := ⟨_, rfl⟩
                    rw [hwa] at HBa H8a BZa ⊢
                    clear hwa hy0 hy1 hbl
                    have hza := HBa.out.size
                    have hzb := blk_lt BZa.out
                    have b0 : wa.cell? ⟨wr.heap.size, 0, none⟩ = some (.string z.f0) := (blk_cell BZa.out 0).trans rfl
                    have b1 : wa.cell? ⟨wr.heap.size, 1, none⟩ = some (.int .i64 z.f1) := (blk_cell BZa.out 1).trans rfl
                    go_wp2_with ((with_reducible refine gate_builtin (b := .append) (xs := #[.tmp 112, .tmp 118]) rfl ?_); at_builtin; refine Kd.R_append k32 (w0 := w6) w6.heap.size rfl (.tmp 112) (.tmp 118) 22 32 (.agg #[(.int .i64 0), (.int .i64 0), (.int .i64 0), (.int .i64 0), (.int .i64 0), (.string ⟨#[]⟩)]) 56 rfl Try.underlying22 info32 rfl (by decide) (by omega) u8 (XB) (⟨2, z.f1, 0, 0, 0, z.f0⟩) [.int .i64 2, .int .i64 z.f1, .int .i64 0, .int .i64 0, .int .i64 0, .string z.f0] (fun _ => True) (fun _ => False) rfl rfl ?aP11 (fun _ hk => hk.elim) ?aF11 ?aO11 ?aB11 ?aS11 ?aL11 ?_; (case aP11 => exact k32_mkM _ _ _ (⟨2, z.f1, 0, 0, 0, z.f0⟩)); (case aB11 => exact HBa.out); (case aF11 => (intro k hk; first | trivial | omega)); (case aO11 => exact H8a.out); (case aS11 => omega); (case aL11 => ((try simp only [List.length_append, List.length_cons, List.length_nil]); omega)); intro v10 w10 ho hb hg hat; have HB10 := Aside0.mk hb; have H810 := Aside0.mk ho; clear ho hb hg hat b0 b1)
                    go_roundg k1
                    case measure => omega
                    case rel => exact ⟨i + 1, int_eq (by omega), by omega, ⟨by have := HK2.out; omega⟩, ⟨by rw [HXN.out]; exact H810.out⟩, HB10⟩
                · obtain rfl : i = h.f1.length := by omega
                  rw [List.take_length] at H82
                  obtain ⟨E3, hE3⟩ : ∃ l, E2 ++ h.f1.map e2 = l := ⟨_, rfl⟩
                  have HLE3 : E3.length ≤ 15000 := by rw [← hE3]; simp; omega
                  rw [hE3] at H82
                  obtain ⟨⟨a0, a1, a2, a3⟩, p0, p1, p2, p3⟩ := blk4 ((HB2_.out.block _ (by omega)).trans BK6.out)
                  go_wp2
                  clear a0 a1 a2 a3 p0 p1 p2 p3
                  go_loopg [8, 124] h.f2.length (fun kq v8 v124 w' => ∃ i : Nat, v124 = .int .i64 i ∧ i ≤ h.f2.length ∧ Aside0 (kq + i = h.f2.length) ∧ Aside0 (Kd.R k32 32 w' w6.heap.size (fun _ => True) v8 (E3 ++ (h.f2.take i).map e3)) ∧ Aside0 (Below w6.heap.size w6 w'))
                  case atStart => exact ⟨0, rfl, Nat.zero_le _, ⟨by omega⟩, ⟨by simpa using H82.out⟩, HB2_⟩
                  case round =>
                    obtain ⟨i, rfl, hi, HK3, H83, HB3_⟩ := hrel
                    have hzr := HB3_.out.size
                    by_cases hl : i < h.f2.length
                    · cases gk with
                      | zero => exact absurd HK3.out (by omega)
                      | succ k1 =>
                        obtain ⟨ad4, e4, hy0, hy1⟩ := at_T86 (HV6.out.below HB3_.out).r2 (i : Int) (by omega) (by omega)
                        rw [Int.toNat_natCast] at hy0 hy1
                        obtain ⟨z, hz_⟩ : ∃ z, rd_T86 h.f2 (i : Int) = z := ⟨_, rfl⟩
                        obtain ⟨XB, hXB⟩ : ∃ l, E3 ++ (h.f2.take i).map e3 = l := ⟨_, rfl⟩
                        have HXN : Aside0 (E3 ++ (h.f2.take (i + 1)).map e3 = XB ++ [⟨3, z.f1, 0, 0, 0, z.f0⟩]) := ⟨by rw [List.take_succ_eq_append_getElem hl, List.map_append, ← List.append_assoc, hXB, ← hz_, rd86_get h.f2 i hl]; rfl⟩
                        have hxl : XB.length ≤ 20000 := by rw [← hXB]; simp; omega
                        rw [hXB] at H83
                        rw [hz_] at hy0 hy1
                        subst e4
                        have hbl : (ad4.add (i * 2)).block < wr.heap.size := World.block_lt_of_cell? wr _ hy0
                        clear hz_ hXB
                        go_upto_region 39 with (fail)
                        have HBa : Aside0 (Below w6.heap.size w6 (wr.alloc (.cells #[.string z.f0, .int .i64 z.f1] 86))) := ⟨HB3_.out.alloc hzr _⟩
                        have H8a := Aside0.mk (Kd.R_alloc H83.out (.cells #[.string z.f0, .int .i64 z.f1] 86))
                        have BZa := Aside0.mk (heap_alloc_new wr (.cells #[.string z.f0, .int .i64 z.f1] 86))
                        obtain ⟨wa, hwa⟩ : ∃ wa, wr.alloc (.cells #[.string z.f0, .int .i64 z.f1] 86) = wa := ⟨_, rfl⟩
                        rw [hwa] at HBa H8a BZa ⊢
                        clear hwa hy0 hy1 hbl
                        have hza := HBa.out.size
                        have hzb := blk_lt BZa.out
                        have b0 : wa.cell? ⟨wr.heap.size, 0, none⟩ = some (.string z.f0) := (blk_cell BZa.out 0).trans rfl
                        have b1 : wa.cell? ⟨wr.heap.size, 1, none⟩ = some (.int .i64 z.f1) := (blk_cell BZa.out 1).trans rfl
                        go_wp2_with ((with_reducible refine gate_builtin (b := .append) (xs := #[.tmp 128, .tmp 134]) rfl ?_); at_builtin; refine Kd.R_append k32 (w0 := w6) w6.heap.size rfl (.tmp 128) (.tmp 134) 22 32 (.agg #[(.int .i64 0), (.int .i64 0), (.int .i64 0), (.int .i64 0), (.int .i64 0), (.string ⟨#[]⟩)]) 56 rfl Try.underlying22 info32 rfl (by decide) (by omega) u8 (XB) (⟨3, z.f1, 0, 0, 0, z.f0⟩) [.int .i64 3, .int .i64 z.f1, .int .i64 0, .int .i64 0, .int .i64 0, .string z.f0] (fun _ => True) (fun _ => False) rfl rfl ?aP12 (fun _ hk => hk.elim) ?aF12 ?aO12 ?aB12 ?aS12 ?aL12 ?_; (case aP12 => exact k32_mkM _ _ _ (⟨3, z.f1, 0, 0, 0, z.f0⟩)); (case aB12 => exact HBa.out); (case aF12 => (intro k hk; first | trivial | omega)); (case aO12 => exact H8a.out); (case aS12 => omega); (case aL12 => ((try simp only [List.length_append, List.length_cons, List.length_nil]); omega)); intro v10 w10 ho hb hg hat; have HB10 := Aside0.mk hb; have H810 := Aside0.mk ho; clear ho hb hg hat b0 b1)
                        go_roundg k1
                        case measure => omega
                        case rel => exact ⟨i + 1, int_eq (by omega), by omega, ⟨by have := HK3.out; omega⟩, ⟨by rw [HXN.out]; exact H810.out⟩, HB10⟩
                    · obtain rfl : i = h.f2.length := by omega
                      rw [List.take_length] at H83
                      obtain ⟨⟨a0, a1, a2, a3⟩, p0, p1, p2, p3⟩ := blk4 ((HB3_.out.block _ (by omega)).trans BK6.out)
                      have hfl : (E3 ++ h.f2.map e3).length ≤ 17000 := by simp; omega
                      have HFE : Aside0 (entriesS h ids = (E3 ++ h.f2.map e3) ++ e6 h.f3) := ⟨by rw [HES.out, ← hE3, ← hE2]; simp only [List.append_assoc]⟩
                      obtain ⟨E4, hE4⟩ : ∃ l, E3 ++ h.f2.map e3 = l := ⟨_, rfl⟩
                      rw [hE4] at HFE hfl H83
                      clear hE2 hE3 hE4
                      by_cases hr : h.f3 = 0
                      · have q1 : (h.f3 != 0) = false := by simpa using hr
                        have HEQ : Aside0 (entriesS h ids = E4) := ⟨by rw [HFE.out]; unfold e6; rw [if_neg (by simpa using hr), List.append_nil]⟩
                        clear hr
                        go_wp2
                        go_ret
                        exact ⟨u8, rfl, by rw [HEQ.out]; exact Kd.R_lower H83.out (by omega), HBW6.out.trans (HB3_.out.mono (by omega))⟩
                      · have q1 : (h.f3 != 0) = true := by simpa using hr
                        have HEQ : Aside0 (entriesS h ids = E4 ++ [⟨6, h.f3, 0, 0, 0, ⟨#[]⟩⟩]) := ⟨by rw [HFE.out]; unfold e6; rw [if_pos hr]; rfl⟩
                        clear hr
                        go_wp2_with ((with_reducible refine gate_builtin (b := .append) (xs := #[.tmp 140, .tmp 144]) rfl ?_); at_builtin; refine Kd.R_append k32 (w0 := w6) w6.heap.size rfl (.tmp 140) (.tmp 144) 22 32 (.agg #[(.int .i64 0), (.int .i64 0), (.int .i64 0), (.int .i64 0), (.int .i64 0), (.string ⟨#[]⟩)]) 56 rfl Try.underlying22 info32 rfl (by decide) (by omega) u8 (E4) (⟨6, h.f3, 0, 0, 0, ⟨#[]⟩⟩) [.int .i64 6, .int .i64 h.f3, .int .i64 0, .int .i64 0, .int .i64 0, .string ⟨#[]⟩] (fun _ => True) (fun _ => False) rfl rfl ?aP13 (fun _ hk => hk.elim) ?aF13 ?aO13 ?aB13 ?aS13 ?aL13 ?_; (case aP13 => exact k32_mkM _ _ _ (⟨6, h.f3, 0, 0, 0, ⟨#[]⟩⟩)); (case aB13 => exact HB3_.out); (case aF13 => (intro k hk; first | trivial | omega)); (case aO13 => exact H83.out); (case aS13 => omega); (case aL13 => ((try simp only [List.length_append, List.length_cons, List.length_nil]); omega)); intro v10 w10 ho hb hg hat; have HB10 := Aside0.mk hb; have H810 := Aside0.mk ho; clear ho hb hg hat a0 a1 a2 a3 p0 p1 p2 p3)
                        go_ret
                        exact ⟨v10, rfl, by rw [HEQ.out]; exact Kd.R_lower H810.out (by omega), HBW6.out.trans (HB10.out.mono (by omega))⟩
end Go.Proofs.Ytjeoabjccbinhaa.P

namespace Go.Proofs.Ytjeoabjccbinhaa.P
open Go.RowKit Go.Proofs.YtjeoabjccbinhaaW.PrintWords Go.Proofs.YtjeoabjccbinhaaW.PrintLast Go.Proofs.YtjeoabjccbinhaaW.PrintMore
attribute [local go_sem high] eqA32
set_option linter.unusedVariables false
set_option linter.unusedSimpArgs false
theorem f12_Q (A0 : Option Addr) (c0 : Nat) (A1 : Option Addr) (c1 : Nat) (A2 : Option Addr) (c2 : Nat) (B0 : Option Addr) (d0 : Nat) (B1 : Option Addr) (d1 : Nat) (B2 : Option Addr) (d2 : Nat) (h : S27) (hn0 : h.f0.length ≤ 1000) (hn1 : h.f1.length ≤ 1000) (hn2 : h.f2.length ≤ 1000) (w : World) (ha : HV w A0 c0 h.f0 A1 c1 h.f1 A2 c2 h.f2) (hb : HV w B0 d0 h.f0 B1 d1 h.f1 B2 d2 h.f2) :
    Calls Try.prog 12 #[.agg #[.slice A0 h.f0.length c0, .slice A1 h.f1.length c1, .slice A2 h.f2.length c2, .int .i64 h.f3], .agg #[.slice B0 h.f0.length d0, .slice B1 h.f1.length d1, .slice B2 h.f2.length d2, .int .i64 h.f3]] w fun e w' => e = .returned (.bool true) ∧ Below w.heap.size w w' :=
  laminaref25_Equal.calls 2000 A0 c0 h.f0 A1 c1 h.f1 A2 c2 h.f2 h.f3 B0 d0 h.f0 B1 d1 h.f1 B2 d2 h.f2 h.f3 true w ha.r0 ha.h0 ha.r1 ha.h1 ha.r2 ha.h2 hb.r0 hb.h0 hb.r1 hb.h1 hb.r2 hb.h2 (Equal_is h.f0 h.f1 h.f2 h.f3 hn0 hn1 hn2 _ (by decide))
/-- How many of some entries make a commit. -/
def cntC (l : List S32) : Nat := (l.filter fun x => x.f0 == 1).length
/-- A history of at most n commits, as it comes about. -/
structure SmallH (n : Nat) (h : S27) : Prop where
  o0 : okI h.f0
  o1 : okS h.f1
  o2 : okS h.f2
  n0 : h.f0.length ≤ n
  n1 : h.f1.length ≤ 64
  n2 : h.f2.length ≤ 64
theorem apply_len {h : S27} {x : S32} (h1 : x.f0 ≠ 1) : (applyE h x).1.f0.length ≤ h.f0.length := by
  by_cases he : (applyE h x).2 = 0
  · rcases apply_commits he with ⟨e, _⟩ | ⟨c, e, _⟩ | ⟨_, _, e⟩
    · rw [e]; exact Nat.le_refl _
    · exact absurd e (apply_same he h1 c)
    · rw [e]; exact dropI_len _ _
  · rw [apply_err he]; exact Nat.zero_le _
theorem small_apply {n : Nat} {h : S27} (o : SmallH n h) (x : S32) : SmallH (n + if x.f0 = 1 then 1 else 0) (applyE h x).1 := by
  have k := applyE_okN (n := n) ⟨o.o0, o.o1, o.o2, o.n0, o.n1, o.n2⟩ x
  refine ⟨k.o0, k.o1, k.o2, ?_, k.n1, k.n2⟩
  by_cases h1 : x.f0 = 1
  · rw [if_pos h1]; exact k.n0
  · rw [if_neg h1]; exact Nat.le_trans (apply_len h1) o.n0
theorem cntC_snoc (l : List S32) (i : Nat) (hi : i < l.length) : cntC (l.take (i + 1)) = cntC (l.take i) + if (l[i]).f0 = 1 then 1 else 0 := by
  unfold cntC
  rw [List.take_succ_eq_append_getElem hi, List.filter_append, List.length_append]
  congr 1
  by_cases h : (l[i]).f0 = 1 <;> simp [h]
theorem cntC_take (l : List S32) (i : Nat) : cntC (l.take i) ≤ cntC l := by
  unfold cntC
  exact (List.Sublist.filter _ (List.take_sublist i l)).length_le
theorem cntC_app (a b : List S32) : cntC (a ++ b) = cntC a + cntC b := by unfold cntC; rw [List.filter_append, List.length_append]
theorem cntC_zero {l : List S32} (h : ∀ x ∈ l, x.f0 ≠ 1) : cntC l = 0 := by
  unfold cntC
  rw [List.filter_eq_nil_iff.2 (fun x hx => by simpa using h x hx)]; rfl
theorem cntC_flat (l : List S41) (ids : List Int) : cntC (ids.flatMap (entE l)) = ids.length := by
  induction ids with
  | nil => rfl
  | cons x ids ih =>
    rw [List.flatMap_cons, cntC_app, ih, List.length_cons]
    have : cntC (entE l x) = 1 := by unfold entE cntC; split <;> rfl
    omega
theorem cntC_entries (h : S27) (ids : List Int) : cntC (entriesS h ids) = ids.length := by
  unfold entriesS
  rw [cntC_app, cntC_flat, cntC_zero]
  · omega
  · intro x hx
    simp only [List.mem_append, List.mem_map] at hx
    rcases hx with ⟨i, _, rfl⟩ | ⟨i, _, rfl⟩ | ⟨i, _, rfl⟩ | hx
    · show (7 : Int) ≠ 1; decide
    · show (2 : Int) ≠ 1; decide
    · show (3 : Int) ≠ 1; decide
    · unfold e6 at hx
      split at hx
      · rw [List.mem_singleton] at hx; subst hx; show (6 : Int) ≠ 1; decide
      · cases hx
theorem entries_len (h : S27) (ids : List Int) (h1 : h.f1.length ≤ 64) (h2 : h.f2.length ≤ 64) (hi : ids.length ≤ 3000) : (entriesS h ids).length ≤ 20000 := by
  unfold entriesS
  simp only [List.length_append, List.length_map]
  have a := flat_lenE h.f0 ids
  have b := List.length_filter_le (fun i => !hasI h.f0 i) ids
  have c : (e6 h.f3).length ≤ 1 := by unfold e6; split <;> simp
  omega
theorem f32_Q (A0 : Option Addr) (c0 : Nat) (A1 : Option Addr) (c1 : Nat) (A2 : Option Addr) (c2 : Nat) (h : S27) (ids : List Int) (hi : IdsOf h ids) (hx : ids.length ≤ 10000) (hp : ∀ q ∈ ids, 0 ≤ (nodeI h.f0 q).f1) (w : World) (hr : HV w A0 c0 h.f0 A1 c1 h.f1 A2 c2 h.f2) (o0 : okI h.f0) (n0 : h.f0.length ≤ 999) (n1 : h.f1.length ≤ 1000) (n2 : h.f2.length ≤ 1000) :
    Calls Try.prog 32 #[.agg #[.slice A0 h.f0.length c0, .slice A1 h.f1.length c1, .slice A2 h.f2.length c2, .int .i64 h.f3]] w fun e w' => ∃ v, e = .returned v ∧ Kd.R k32 32 w' w.heap.size (fun _ => True) v (entriesS h ids) ∧ Below w.heap.size w w' :=
  laminaref25_Entries.calls 61000001 A0 c0 h.f0 A1 c1 h.f1 A2 c2 h.f2 h.f3 (entriesS h ids) w hr.r0 hr.h0 hr.r1 hr.h1 hr.r2 hr.h2 (Entries_is h o0 (by omega) n1 n2 hi hx hp 61000001 (by omega))
def f8_T4 : Bool × List (List Nat × List Nat) := (true, [([], []), ([0], [0]), ([], []), ([2, 1], [2]), ([1, 3, 0, 1], [1]), ([3, 4, 0, 1, 2, 3, 4], [3])])
def f8_B4 : List Nat := [0, 1, 0, 7, 15, 31]
set_option maxRecDepth 100000 in
theorem f8_tab4 : rtab .any (opsOf Try.f8 4) = f8_T4 := by kernel_rfl
theorem f8_bits4 : waitsOk f8_T4.2 f8_B4 = true := by kernel_rfl
def f8_T10 : Bool × List (List Nat × List Nat) := (true, [([], []), ([], []), ([0, 1], [0, 1]), ([2], [2]), ([], []), ([], []), ([4, 5], [4, 5]), ([6], [6]), ([3, 7], [3, 7])])
def f8_B10 : List Nat := [0, 0, 3, 7, 0, 0, 48, 112, 255]
set_option maxRecDepth 100000 in
theorem f8_tab10 : rtab .any (opsOf Try.f8 10) = f8_T10 := by kernel_rfl
theorem f8_bits10 : waitsOk f8_T10.2 f8_B10 = true := by kernel_rfl
set_option maxHeartbeats 8000000 in
set_option maxRecDepth 100000 in
theorem f8_calls (A : Option Addr) (c : Nat) (l : List S32) (w : World) (hr : Kd.C k32 w A l.length l) (hc : l.length ≤ c) (hn : l.length ≤ 9223372036854775807) :
    Calls Try.prog 8 #[.slice A l.length c] w fun e w' => e = .returned (.bool true) ∧ Below w.heap.size w w' := by
  have HR := Aside0.mk hr
  have H9 := Aside0.mk f9_calls
  clear hr
  by_cases h200 : 200 < l.length
  · have hd : decide (200 < (l.length : Int)) = true := decide_eq_true (by omega)
    go_enter Try.func8, Try.ntmps8
    go_wp2_with (go_at_call 9; refine (H9.out _).mono ?_; rintro e w1 ⟨rfl, hb⟩)
    go_ret
    exact ⟨rfl, hb⟩
  have hd : decide (200 < (l.length : Int)) = false := decide_eq_false (by omega)
  have hl2 : l.length ≤ 200 := by omega
  have hok := builtS_okN l l.length (Nat.le_refl _)
  have hfl := full_built l l.length (Nat.le_refl _)
  rw [List.take_length] at hok hfl
  have H15 := Aside0.mk (f15_calls A c l w HR.out hc (by omega))
  obtain ⟨h, hh⟩ : ∃ h, builtS l = h := ⟨_, rfl⟩
  rw [hh] at hok hfl H15
  have hh0 : h.f0.length ≤ 200 := Nat.le_trans hok.n0 hl2
  have hn9 : h.f0.length ≤ 999 := by omega
  have hn1 : h.f1.length ≤ 1000 := by have := hok.n1; omega
  have hn2 : h.f2.length ≤ 1000 := by have := hok.n2; omega
  have HN := Aside0.mk hok
  obtain ⟨ids, hids⟩ : ∃ ids, Lib.compact (sortI (idsC h.f0)) = ids := ⟨_, rfl⟩
  have hil : ids.length ≤ 600 := by
    rw [← hids]
    have h1 := compact_len (sortI (idsC h.f0))
    rw [sortI_len] at h1
    have h2 := idsC_len h.f0
    omega
  have hio : IdsOf h ids := by rw [← hids]; exact ids_sorted h
  have hpp : ∀ q ∈ ids, 0 ≤ (nodeI h.f0 q).f1 := by
    intro q hq
    cases hh_ : hasI h.f0 q with
    | false => unfold nodeI; rw [hh_, if_neg (by decide)]; decide
    | true =>
      obtain ⟨c_, hc_, _, e_⟩ := hasI_ex hok.o0 hh_
      rw [e_]; exact (hfl.ids c_ hc_).2.1
  have hel := entries_len h ids hok.n1 hok.n2 (by omega)
  have hrt := round_trip hok hfl hio
  have hcn := cntC_entries h ids
  have HID := Aside0.mk hids
  have HIO := Aside0.mk hio
  have HPP := Aside0.mk hpp
  obtain ⟨E, hE⟩ : ∃ E, entriesS h ids = E := ⟨_, rfl⟩
  have HE := Aside0.mk hE
  rw [hE] at hel hrt hcn
  have HRT := Aside0.mk hrt
  have HCN : Aside0 (cntC E ≤ 600) := ⟨by omega⟩
  clear h200 hn hok hfl hh hids hio hpp hrt hcn hE
  go_enter Try.func8, Try.ntmps8
  go_wp2_with (go_at_call 15; refine H15.out.mono ?_; rintro e w1 ⟨v0, v1, v2, rfl, hw, hb⟩; obtain ⟨A0, c0, A1, c1, A2, c2, rfl, rfl, rfl, hV, hF⟩ := HW.open hw; have HV1 := Aside0.mk hV; have HB1 := Aside0.mk hb; have hz1 := hb.size; clear hb hw hV hF)
  have BKc := Aside0.mk (heap_alloc_new w1 (.cells #[.slice A0 h.f0.length c0, .slice A1 h.f1.length c1, .slice A2 h.f2.length c2, .int .i64 h.f3] 27))
  have HBc : Aside0 (Below w1.heap.size w1 (w1.alloc (.cells #[.slice A0 h.f0.length c0, .slice A1 h.f1.length c1, .slice A2 h.f2.length c2, .int .i64 h.f3] 27))) := ⟨below_alloc (Below.refl _ _) _⟩
  have hzc : w1.heap.size < (w1.alloc (.cells #[.slice A0 h.f0.length c0, .slice A1 h.f1.length c1, .slice A2 h.f2.length c2, .int .i64 h.f3] 27)).heap.size := by simp
  obtain ⟨wc, hwc⟩ : ∃ wc, w1.alloc (.cells #[.slice A0 h.f0.length c0, .slice A1 h.f1.length c1, .slice A2 h.f2.length c2, .int .i64 h.f3] 27) = wc := ⟨_, rfl⟩
  rw [hwc] at BKc HBc hzc ⊢
  clear hwc
  have HVc := Aside0.mk (HV1.out.below HBc.out)
  have HBW := Aside0.mk (HB1.out.trans (HBc.out.mono (by omega)))
  have HS : Aside0 (∀ W, Below wc.heap.size wc W → (W.cell? ⟨w1.heap.size, 0, none⟩ = some (.slice A0 h.f0.length c0) ∧ W.cell? ⟨w1.heap.size, 1, none⟩ = some (.slice A1 h.f1.length c1) ∧ W.cell? ⟨w1.heap.size, 2, none⟩ = some (.slice A2 h.f2.length c2) ∧ W.cell? ⟨w1.heap.size, 3, none⟩ = some (.int .i64 h.f3))) := ⟨fun W hb => by
    obtain ⟨⟨a0, a1, a2, a3⟩, _⟩ := blk4 ((hb.block _ (by omega)).trans BKc.out)
    exact ⟨a0, a1, a2, a3⟩⟩
  have HYd := Aside0.mk (below_drew1 (Below.refl wc.heap.size wc))
  refine start_ (n := 6) (S := fun w' => w'.cell? ⟨w1.heap.size, 0, none⟩ = some (.slice A0 h.f0.length c0) ∧ w'.cell? ⟨w1.heap.size, 1, none⟩ = some (.slice A1 h.f1.length c1) ∧ w'.cell? ⟨w1.heap.size, 2, none⟩ = some (.slice A2 h.f2.length c2) ∧ w'.cell? ⟨w1.heap.size, 3, none⟩ = some (.int .i64 h.f3)) (ds := []) #[false, false, false, false, false, false] (by kernel_rfl) rfl rfl (HS.out _ HYd.out) (fun hHeld => ?_)
  refine with_tabW f8_tab4 f8_bits4 (fun HT_ HW_ => ?_)
  generalize wc.drew = wd at HYd hHeld ⊢
  refine take_ (i := 0) (N := some 15) (v := ?_) (a' := ?_) #[true, false, false, false, false, false] rfl rfl (take_ofW HT_.out HW_.out (by kernel_rfl)) (fun _ _ _ h => h) (Or.inl ⟨by rfl, ?_⟩) hHeld ?_ ?_
  rotate_left
  · rintro w' ⟨s0, s1, s2, s3⟩
    go_simp
    with_reducible rfl
  rotate_left
  · simp only [Act.put, List.setIfInBounds_toArray, List.set_cons_zero, List.set_cons_succ, i64_w, i32_w]
    rfl
  refine take_ (i := 2) (N := some 17) (v := ?_) (a' := ?_) #[true, false, true, false, false, false] rfl rfl (take_ofW HT_.out HW_.out (by kernel_rfl)) (fun _ _ _ h => h) (Or.inl ⟨by rfl, ?_⟩) hHeld ?_ ?_
  rotate_left
  · rintro w' ⟨s0, s1, s2, s3⟩
    go_simp
    with_reducible rfl
  rotate_left
  · simp only [Act.put, List.setIfInBounds_toArray, List.set_cons_zero, List.set_cons_succ, i64_w, i32_w]
    rfl
  refine one_ (i := 1) (N := some 16) #[true, true, true, false, false, false] rfl rfl (one_of HT_.out (by kernel_rfl)) (by decide) (fun K hK => ?_)
  refine goes_ Try.func31 (by kernel_rfl) rfl #[.agg #[.slice A0 h.f0.length c0, .slice A1 h.f1.length c1, .slice A2 h.f2.length c2, .int .i64 h.f3]] (by rfl) rfl rfl (by (try simp only [List.map_toArray, List.map_cons, List.map_nil]); first | done | rfl) ?_
  refine (f31_calls A0 c0 A1 c1 A2 c2 h ids HID.out _ (HVc.out.below HYd.out) HN.out.o0 hn9 hn1 hn2).mono ?_
  rintro e w4 ⟨v4, rfl, hR, hb⟩
  refine ⟨_, rfl, ?_⟩
  rw [HE.out] at hR
  obtain ⟨A4, c4, rfl, hc4, hC⟩ := Kd.R_reads hR
  have HC4 := Aside0.mk hC
  have HY4 := Aside0.mk (HYd.out.trans (hb.mono HYd.out.size))
  clear hR hC hb
  refine hK.out _ _ (HS.out _ HY4.out) (fun hHeld => ?_)
  clear hK K
  refine norm_ (a' := ?_) ?_ ?_
  rotate_left
  · show Act.put _ (some 16) _ = _
    simp only [Act.put, List.setIfInBounds_toArray, List.set_cons_zero, List.set_cons_succ, i64_w, i32_w]
    rfl
  refine one_ (i := 3) (N := some 18) #[true, true, true, true, false, false] rfl rfl (one_of HT_.out (by kernel_rfl)) (by decide) (fun K hK => ?_)
  refine goes_ Try.func32 (by kernel_rfl) rfl #[.agg #[.slice A0 h.f0.length c0, .slice A1 h.f1.length c1, .slice A2 h.f2.length c2, .int .i64 h.f3]] (by rfl) rfl rfl (by (try simp only [List.map_toArray, List.map_cons, List.map_nil]); first | done | rfl) ?_
  refine (f32_Q A0 c0 A1 c1 A2 c2 h ids HIO.out (by omega) HPP.out _ (HVc.out.below HY4.out) HN.out.o0 hn9 hn1 hn2).mono ?_
  rintro e w5 ⟨v5, rfl, hR, hb⟩
  refine ⟨_, rfl, ?_⟩
  rw [HE.out] at hR
  obtain ⟨A5, c5, rfl, hc5, hC⟩ := Kd.R_reads hR
  have HC5 := Aside0.mk hC
  have HC45 := Aside0.mk (Kd.C_below HC4.out hb)
  have HY5 := Aside0.mk (HY4.out.trans (hb.mono HY4.out.size))
  clear hR hC hb
  refine hK.out _ _ (HS.out _ HY5.out) (fun hHeld => ?_)
  clear hK K
  refine norm_ (a' := ?_) ?_ ?_
  rotate_left
  · show Act.put _ (some 18) _ = _
    simp only [Act.put, List.setIfInBounds_toArray, List.set_cons_zero, List.set_cons_succ, i64_w, i32_w]
    rfl
  refine pure_ (i := 4) (N := some 4) (v := ?_) (a' := ?_) #[true, true, true, true, true, false] rfl rfl (any_of HT_.out (by kernel_rfl)) (fun _ _ _ h => h) (Or.inl ⟨by rfl, ?_⟩) ?_ ?_
  rotate_left
  · intro w'
    go_simp
    with_reducible rfl
  rotate_left
  · simp only [Act.put, List.setIfInBounds_toArray, List.set_cons_zero, List.set_cons_succ, i64_w, i32_w]
    rfl
  refine pure_ (i := 5) (N := some 5) (v := ?_) (a' := ?_) #[true, true, true, true, true, true] rfl rfl (any_of HT_.out (by kernel_rfl)) (fun _ _ _ h => h) (Or.inl ⟨by rfl, ?_⟩) ?_ ?_
  rotate_left
  · intro w'
    go_simp
    with_reducible rfl
  rotate_left
  · simp only [Act.put, List.setIfInBounds_toArray, List.set_cons_zero, List.set_cons_succ, i64_w, i32_w]
    rfl
  refine done_ (done_of HT_.out (by kernel_rfl)) ?_
  clear HT_ HW_ hHeld
  have HC5b := Aside0.mk HC5.out
  go_wp2
  go_loopg [6] E.length (fun kq v6 w' => ∃ i : Nat, v6 = .int .i64 i ∧ i ≤ E.length ∧ Aside0 (kq + i = E.length) ∧ Aside0 (Below w5.heap.size w5 w'))
  case atStart => exact ⟨0, rfl, Nat.zero_le _, ⟨by omega⟩, ⟨Below.refl _ _⟩⟩
  case round =>
    obtain ⟨i, rfl, hi, HK, HB⟩ := hrel
    have hzr := HB.out.size
    by_cases hl : i < E.length
    · cases gk with
      | zero => exact absurd HK.out (by omega)
      | succ k1 =>
        obtain ⟨ad4, q4, x0, x1, x2, x3, x4, x5⟩ := at_T32 (Kd.C_below HC45.out (below_drew1 HB.out)) (i : Int) (by omega) (by omega)
        obtain ⟨ad5, q5, y0, y1, y2, y3, y4, y5⟩ := at_T32 (Kd.C_below HC5.out (below_drew1 HB.out)) (i : Int) (by omega) (by omega)
        rw [Int.toNat_natCast] at x0 x1 x2 x3 x4 x5 y0 y1 y2 y3 y4 y5
        obtain ⟨x, hx_⟩ : ∃ x, rd_T32 E (i : Int) = x := ⟨_, rfl⟩
        rw [hx_] at x0 x1 x2 x3 x4 x5 y0 y1 y2 y3 y4 y5
        subst q4
        subst q5
        clear hx_
        go_wp2_with fail
        refine start_ (n := 9) (S := fun w' => w'.cell? (ad4.add (i * 6)) = some (.int .i64 x.f0) ∧ w'.cell? ⟨(ad4.add (i * 6)).block, (ad4.add (i * 6)).off + 1, none⟩ = some (.int .i64 x.f1) ∧ w'.cell? ⟨(ad4.add (i * 6)).block, (ad4.add (i * 6)).off + 2, none⟩ = some (.int .i64 x.f2) ∧ w'.cell? ⟨(ad4.add (i * 6)).block, (ad4.add (i * 6)).off + 3, none⟩ = some (.int .i64 x.f3) ∧ w'.cell? ⟨(ad4.add (i * 6)).block, (ad4.add (i * 6)).off + 4, none⟩ = some (.int .i64 x.f4) ∧ w'.cell? ⟨(ad4.add (i * 6)).block, (ad4.add (i * 6)).off + 5, none⟩ = some (.string x.f5) ∧ w'.cell? (ad5.add (i * 6)) = some (.int .i64 x.f0) ∧ w'.cell? ⟨(ad5.add (i * 6)).block, (ad5.add (i * 6)).off + 1, none⟩ = some (.int .i64 x.f1) ∧ w'.cell? ⟨(ad5.add (i * 6)).block, (ad5.add (i * 6)).off + 2, none⟩ = some (.int .i64 x.f2) ∧ w'.cell? ⟨(ad5.add (i * 6)).block, (ad5.add (i * 6)).off + 3, none⟩ = some (.int .i64 x.f3) ∧ w'.cell? ⟨(ad5.add (i * 6)).block, (ad5.add (i * 6)).off + 4, none⟩ = some (.int .i64 x.f4) ∧ w'.cell? ⟨(ad5.add (i * 6)).block, (ad5.add (i * 6)).off + 5, none⟩ = some (.string x.f5)) (ds := []) #[false, false, false, false, false, false, false, false, false] (by kernel_rfl) rfl rfl ⟨x0, x1, x2, x3, x4, x5, y0, y1, y2, y3, y4, y5⟩ (fun hHeld => ?_)
        refine with_tabW f8_tab10 f8_bits10 (fun HT_ HW_ => ?_)
        generalize hwd_ : wr.drew = wd at hHeld ⊢
        refine pure_ (i := 0) (N := some 30) (v := ?_) (a' := ?_) #[true, false, false, false, false, false, false, false, false] rfl rfl (any_of HT_.out (by kernel_rfl)) (fun _ _ _ h => h) (Or.inl ⟨by rfl, ?_⟩) ?_ ?_
        rotate_left
        · intro w'
          go_simp
          with_reducible rfl
        rotate_left
        · simp only [Act.put, List.setIfInBounds_toArray, List.set_cons_zero, List.set_cons_succ, i64_w, i32_w]
          rfl
        refine pure_ (i := 1) (N := some 31) (v := ?_) (a' := ?_) #[true, true, false, false, false, false, false, false, false] rfl rfl (any_of HT_.out (by kernel_rfl)) (fun _ _ _ h => h) (Or.inl ⟨by rfl, ?_⟩) ?_ ?_
        rotate_left
        · intro w'
          go_simp
          with_reducible rfl
        rotate_left
        · simp only [Act.put, List.setIfInBounds_toArray, List.set_cons_zero, List.set_cons_succ, i64_w, i32_w]
          rfl
        refine pure_ (i := 2) (N := some 32) (v := ?_) (a' := ?_) #[true, true, true, false, false, false, false, false, false] rfl rfl (any_of HT_.out (by kernel_rfl)) (fun _ _ _ h => h) (Or.inl ⟨by rfl, ?_⟩) ?_ ?_
        rotate_left
        · intro w'
          go_simp
          with_reducible rfl
        rotate_left
        · simp only [Act.put, List.setIfInBounds_toArray, List.set_cons_zero, List.set_cons_succ, i64_w, i32_w]
          rfl
        refine take_ (i := 3) (N := some 33) (v := ?_) (a' := ?_) #[true, true, true, true, false, false, false, false, false] rfl rfl (take_ofW HT_.out HW_.out (by kernel_rfl)) (fun _ _ _ h => h) (Or.inl ⟨by rfl, ?_⟩) hHeld ?_ ?_
        rotate_left
        · rintro w' ⟨s0, s1, s2, s3, s4, s5, s6, s7, s8, s9, s10, s11⟩
          go_simp
          with_reducible rfl
        rotate_left
        · simp only [Act.put, List.setIfInBounds_toArray, List.set_cons_zero, List.set_cons_succ, i64_w, i32_w]
          rfl
        refine pure_ (i := 4) (N := some 34) (v := ?_) (a' := ?_) #[true, true, true, true, true, false, false, false, false] rfl rfl (any_of HT_.out (by kernel_rfl)) (fun _ _ _ h => h) (Or.inl ⟨by rfl, ?_⟩) ?_ ?_
        rotate_left
        · intro w'
          go_simp
          with_reducible rfl
        rotate_left
        · simp only [Act.put, List.setIfInBounds_toArray, List.set_cons_zero, List.set_cons_succ, i64_w, i32_w]
          rfl
        refine pure_ (i := 5) (N := some 35) (v := ?_) (a' := ?_) #[true, true, true, true, true, true, false, false, false] rfl rfl (any_of HT_.out (by kernel_rfl)) (fun _ _ _ h => h) (Or.inl ⟨by rfl, ?_⟩) ?_ ?_
        rotate_left
        · intro w'
          go_simp
          with_reducible rfl
        rotate_left
        · simp only [Act.put, List.setIfInBounds_toArray, List.set_cons_zero, List.set_cons_succ, i64_w, i32_w]
          rfl
        refine pure_ (i := 6) (N := some 36) (v := ?_) (a' := ?_) #[true, true, true, true, true, true, true, false, false] rfl rfl (any_of HT_.out (by kernel_rfl)) (fun _ _ _ h => h) (Or.inl ⟨by rfl, ?_⟩) ?_ ?_
        rotate_left
        · intro w'
          go_simp
          with_reducible rfl
        rotate_left
        · simp only [Act.put, List.setIfInBounds_toArray, List.set_cons_zero, List.set_cons_succ, i64_w, i32_w]
          rfl
        refine take_ (i := 7) (N := some 37) (v := ?_) (a' := ?_) #[true, true, true, true, true, true, true, true, false] rfl rfl (take_ofW HT_.out HW_.out (by kernel_rfl)) (fun _ _ _ h => h) (Or.inl ⟨by rfl, ?_⟩) hHeld ?_ ?_
        rotate_left
        · rintro w' ⟨s0, s1, s2, s3, s4, s5, s6, s7, s8, s9, s10, s11⟩
          go_simp
          with_reducible rfl
        rotate_left
        · simp only [Act.put, List.setIfInBounds_toArray, List.set_cons_zero, List.set_cons_succ, i64_w, i32_w]
          rfl
        refine pure_ (i := 8) (N := some 38) (v := ?_) (a' := ?_) #[true, true, true, true, true, true, true, true, true] rfl rfl (any_of HT_.out (by kernel_rfl)) (fun _ _ _ h => h) (Or.inl ⟨by rfl, ?_⟩) ?_ ?_
        rotate_left
        · intro w'
          go_simp
          with_reducible rfl
        rotate_left
        · simp only [Act.put, List.setIfInBounds_toArray, List.set_cons_zero, List.set_cons_succ, i64_w, i32_w]
          rfl
        refine done_ (done_of HT_.out (by kernel_rfl)) ?_
        clear HT_ HW_ hHeld
        have HBd : Aside0 (Below w5.heap.size w5 wd) := ⟨by rw [← hwd_]; exact below_drew1 HB.out⟩
        clear hwd_ x0 x1 x2 x3 x4 x5 y0 y1 y2 y3 y4 y5
        go_wp2
        go_roundg k1
        case measure => omega
        case rel => exact ⟨i + 1, int_eq (by omega), by omega, ⟨by have := HK.out; omega⟩, HBd⟩
    · obtain rfl : i = E.length := by omega
      have H13 := Aside0.mk (fun W (hW : Below w5.heap.size w5 W) => f13_calls A4 c4 E W (Kd.C_below HC45.out hW) hc4 (by omega) (fun j k => SmallH (cntC (E.take j)) k) ⟨List.Pairwise.nil, List.Pairwise.nil, List.Pairwise.nil, Nat.zero_le _, Nat.zero_le _, Nat.zero_le _⟩ (fun j k hj hk _ => by rw [cntC_snoc E j hj]; exact small_apply hk _) (fun j k hk => ⟨hk.o0, hk.o1, hk.o2, by have h1_ := hk.n0; have h2_ := cntC_take E j; have h3_ := HCN.out; omega, by have := hk.n1; omega, by have := hk.n2; omega⟩))
      rw [HRT.out] at H13
      obtain ⟨⟨a0, a1, a2, a3⟩, p0, p1, p2, p3⟩ := blk4 ((HB.out.block _ (by have := HY5.out.size; omega)).trans ((HY5.out.block _ (by omega)).trans BKc.out))
      have hq5 : w1.heap.size < wr.heap.size := by have := HY5.out.size; omega
      go_wp2_with (first
        | (go_at_call 13; refine (H13.out _ HB.out).mono ?_; clear a0 a1 a2 a3 p0 p1 p2 p3; rintro e w7 ⟨v0, v1, v2, rfl, hw, hb⟩; obtain ⟨D0, d0, D1, d1, D2, d2, rfl, rfl, rfl, hV, hF⟩ := HW.open hw; have HV7 := Aside0.mk hV; have HB7 : Aside0 (Below w5.heap.size w5 w7) := ⟨HB.out.trans (hb.mono hzr)⟩; obtain ⟨⟨a0, a1, a2, a3⟩, p0, p1, p2, p3⟩ := blk4 ((HB7.out.block _ (by have := HY5.out.size; omega)).trans ((HY5.out.block _ (by omega)).trans BKc.out)); have hq7 : w1.heap.size < w7.heap.size := (by have := hb.size; omega); clear hb hw hV hF)
        | (go_at_call 12; refine (f12_Q D0 d0 D1 d1 D2 d2 A0 c0 A1 c1 A2 c2 h (by omega) hn1 hn2 _ (HV7.out.below (by repeat (first | exact Below.refl _ _ | apply below_alloc | apply below_drew1 | apply pw_below_drewN))) (HVc.out.below (by exact Below.trans (HY5.out.trans (HB7.out.mono HY5.out.size)) (below_alloc (Below.refl _ _) _ |>.mono (by have := HY5.out.size; have := HB7.out.size; omega))))).mono ?_; clear a0 a1 a2 a3 p0 p1 p2 p3; rintro e w8 ⟨rfl, hb⟩; have HB8 : Aside0 (Below w5.heap.size w5 w8) := ⟨(HB7.out.alloc HB7.out.size _).trans (hb.mono (by have := HB7.out.size; simp; omega))⟩; clear hb)
        | (go_at_call 9; refine (H9.out _).mono ?_; rintro e w9 ⟨rfl, hb⟩; have HBz : Aside0 (Below w.heap.size w w9) := ⟨HBW.out.trans ((HY5.out.trans ((HB8.out.trans (hb.mono HB8.out.size)).mono HY5.out.size)).mono (by have := HBW.out.size; omega))⟩; clear hb))
      go_ret
      exact ⟨rfl, HBz.out⟩
end Go.Proofs.Ytjeoabjccbinhaa.P

namespace Go.Proofs.Ytjeoabjccbinhaa.P
open Go.RowKit Go.Proofs.YtjeoabjccbinhaaW.PrintWords
theorem f8_row (A : Option Addr) (c : Nat) (l : List S32) (w : World) (hr : Kd.C k32 w A l.length l) (hc : l.length ≤ c) (hg : l.length * 56 ≤ 140737488351232 ∧ ∀ y ∈ l, G32 y) :
    Calls Try.prog 8 #[.slice A l.length c] w fun e w' => e = .returned (.bool true) ∧ Below w.heap.size w w' :=
  f8_calls A c l w hr hc (by omega)
end Go.Proofs.Ytjeoabjccbinhaa.P
