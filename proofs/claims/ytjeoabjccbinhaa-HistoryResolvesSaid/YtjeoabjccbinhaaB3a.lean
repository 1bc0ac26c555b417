/- What the reference's queries return, for a history as it comes about. Conditions: the hypotheses that stand at each theorem. -/
import Derived.Test.YtjeoabjccbinhaaR3
import Derived.Test.YtjeoabjccbinhaaL4
import Derived.Test.YtjeoabjccbinhaaPx11
namespace Go.Proofs.Ytjeoabjccbinhaa.P
open Go.RowKit Go.Shelf Go.Proofs.YtjeoabjccbinhaaW.PrintWords Go.Proofs.YtjeoabjccbinhaaW.PrintLast Go.Proofs.YtjeoabjccbinhaaW.PrintMore
set_option linter.unusedVariables false
set_option linter.unusedSimpArgs false
attribute [local go_sem] Oper.semAt_some
theorem alloc5 (w : World) (o0 o1 o2 o3 o4 : Obj) : let V := ((((w.alloc o0).alloc o1).alloc o2).alloc o3).alloc o4
    V.heap.size = w.heap.size + 5 ∧ V.heap[w.heap.size]? = some o0 ∧ V.heap[w.heap.size + 1]? = some o1 ∧ V.heap[w.heap.size + 1 + 1]? = some o2 ∧ V.heap[w.heap.size + 1 + 1 + 1]? = some o3 ∧ V.heap[w.heap.size + 1 + 1 + 1 + 1]? = some o4 := by
  intro V
  refine ⟨by simp [V], ?_, ?_, ?_, ?_, ?_⟩
  · exact blk_alloc (blk_alloc (blk_alloc (blk_alloc (heap_alloc_new w o0) _) _) _) _
  · exact blk_alloc (blk_alloc (blk_alloc (by have := heap_alloc_new (w.alloc o0) o1; simpa using this) _) _) _
  · exact blk_alloc (blk_alloc (by have := heap_alloc_new ((w.alloc o0).alloc o1) o2; simpa using this) _) _
  · exact blk_alloc (by have := heap_alloc_new (((w.alloc o0).alloc o1).alloc o2) o3; simpa using this) _
  · have := heap_alloc_new ((((w.alloc o0).alloc o1).alloc o2).alloc o3) o4
    simp only [World.size_alloc] at this
    exact this
set_option maxHeartbeats 4000000 in
set_option maxRecDepth 100000 in
theorem f18_calls (A0 : Option Addr) (c0 : Nat) (l0 : List S41) (A1 : Option Addr) (c1 : Nat) (l1 : List S86) (A2 : Option Addr) (c2 : Nat) (l2 : List S86) (r : Int) (a id : Int) (hid : (Lit.int .i64 id).wf = true) (hwf : WfI l0) (hn0 : l0.length ≤ 1000) (w : World) (ok : Nat → Prop) (hF0 : Kd.F k41 w ok A0 l0.length l0) :
    Calls Try.prog 18 #[.agg #[.slice A0 l0.length c0, .slice A1 l1.length c1, .slice A2 l2.length c2, .int .i64 r], .int .i64 a, .int .i64 id] w fun e w' => e = .returned (.bool ((ancS l0 id).contains a)) ∧ Below w.heap.size w w' := by
  refine (callsIn_wide (n := 3)).1 ?_
  have hro : Fence.wide.round = none := rfl
  refine callsIn_of_wp_marks Try.func18 rfl trivial ?_ hro
  simp only [Try.ntmps18, List.size_toArray, List.length_cons, List.length_nil, Nat.reduceAdd, Nat.reduceSub, Array.replicate_succ, Array.replicate_zero, List.push_toArray, List.append_toArray, List.nil_append, List.cons_append]
  have HF := Aside0.mk (Kd.F_bound hF0)
  have HWF := Aside0.mk hwf
  clear hF0 hwf
  gi_wp2_with (refine ⟨trivial, ?_⟩; gi_at_call 46; refine (f46_in Fence.wide _ trivial hro A0 c0 l0 A1 c1 l1 A2 c2 l2 r _ _).mono ?_; rintro e w' ⟨rfl, rfl⟩)
  have hal := alloc5 w (.cells #[.slice A0 l0.length c0, .slice A1 l1.length c1, .slice A2 l2.length c2, .int .i64 r] 27) (.cells #[.int .i64 a] 2) (.cells #[.bool false] 4) (.cells #[.slice A0 l0.length c0, .slice A1 l1.length c1, .slice A2 l2.length c2, .int .i64 r] 27) (.cells #[.int .i64 id] 2)
  have hbV : Below w.heap.size w (((((w.alloc (.cells #[.slice A0 l0.length c0, .slice A1 l1.length c1, .slice A2 l2.length c2, .int .i64 r] 27)).alloc (.cells #[.int .i64 a] 2)).alloc (.cells #[.bool false] 4)).alloc (.cells #[.slice A0 l0.length c0, .slice A1 l1.length c1, .slice A2 l2.length c2, .int .i64 r] 27)).alloc (.cells #[.int .i64 id] 2)) := below_alloc (below_alloc (below_alloc (below_alloc (below_alloc (Below.refl _ _) _) _) _) _) _
  obtain ⟨V, hV⟩ : ∃ V, (((((w.alloc (.cells #[.slice A0 l0.length c0, .slice A1 l1.length c1, .slice A2 l2.length c2, .int .i64 r] 27)).alloc (.cells #[.int .i64 a] 2)).alloc (.cells #[.bool false] 4)).alloc (.cells #[.slice A0 l0.length c0, .slice A1 l1.length c1, .slice A2 l2.length c2, .int .i64 r] 27)).alloc (.cells #[.int .i64 id] 2)) = V := ⟨_, rfl⟩
  rw [hV] at hal hbV ⊢
  clear hV
  obtain ⟨hs, hg0, hg1, hg2, hg3, hg4⟩ := hal
  refine rangeT hro (by decide) (gf := 68) (lb := #[.pointer (some ⟨w.heap.size + 1 + 1 + 1 + 1, 0, none⟩), .pointer (some ⟨w.heap.size + 1 + 1 + 1, 0, none⟩)]) rfl trivial (enters_of Try.func68 (by kernel_rfl) rfl) (xs := ancS l0 id) (T := fun k => k = w.heap.size + 1 + 1) rfl (fun k hk => by omega)
    (fun W1 hs1 hb1 => f68_in Fence.wide 2 trivial hro (by decide) _ _ A0 c0 l0 A1 c1 l1 A2 c2 l2 r id hid HWF.out hn0 _ W1 ((hb1.block _ (by omega)).trans hg4) ((hb1.block _ (by omega)).trans hg3) (fun k => k < w.heap.size) (Kd.F_mono (Kd.F_below HF.out (hbV.trans (hb1.mono (by omega)))) (fun k hk => hk.2)) (by omega) (by omega) (fun k hk => by omega) (fun k hk => by omega))
    (fun pre W => W.heap[w.heap.size + 1]? = some (.cells #[.int .i64 a] 2 (0, 0)) ∧ W.heap[w.heap.size + 1 + 1]? = some (.cells #[.bool false] 4 (0, 0)) ∧ pre.contains a = false ∧ Below w.heap.size w W)
    (fun _ W => (ancS l0 id).contains a = true ∧ W.heap[w.heap.size + 1 + 1]? = some (.cells #[.bool true] 4 (0, 0)) ∧ Below w.heap.size w W)
    (fun s A B hI hb => ⟨(hb.block _ (by omega)).trans hI.1, (hb.block _ (by omega)).trans hI.2.1, hI.2.2.1, hI.2.2.2.trans (hb.mono (by omega))⟩)
    (fun s A B hI hb => ⟨hI.1, (hb.block _ (by omega)).trans hI.2.1, hI.2.2.trans (hb.mono (by omega))⟩)
    ⟨hg1, hg2, rfl, hbV⟩
    (fun x => { tmps := #[.agg #[.slice A0 l0.length c0, .slice A1 l1.length c1, .slice A2 l2.length c2, .int .i64 r], .int .i64 a, .int .i64 id, .pointer (some ⟨w.heap.size, 0, none⟩), .pointer (some ⟨w.heap.size + 1, 0, none⟩), undef, .pointer (some ⟨w.heap.size + 1 + 1, 0, none⟩), .int .i64 x, .agg #[.slice A0 l0.length c0, .slice A1 l1.length c1, .slice A2 l2.length c2, .int .i64 r], .int .i64 id, .func (.func 68) #[] #[.pointer (some ⟨w.heap.size + 1 + 1 + 1 + 1, 0, none⟩), .pointer (some ⟨w.heap.size + 1 + 1 + 1, 0, none⟩)], .int .i64 x, undef, undef, undef], defers := [] }) ?assign ?body ?done ?stop
  case assign =>
    intro l x W K hK
    gi_wp2
    exact hK
  case body =>
    rintro l pre x rest W hx ⟨i1, i2, i3, i4⟩ hsz
    obtain ⟨b1, b2⟩ := blk1 i1
    obtain ⟨e1, e2⟩ := blk1 i2
    by_cases hxa : x = a
    · have hq : (x == a) = true := by simpa using hxa
      have HC : Aside0 ((ancS l0 id).contains a = true) := ⟨by rw [hx, ← hxa]; simp⟩
      clear hxa
      gi_wp2
      exact ⟨(KeptX.refl (fun k => k = w.heap.size + 1 + 1) W).setCell (p := ⟨w.heap.size + 1 + 1, 0, none⟩) rfl _, HC.out, blk_put i2 0 (.bool true) rfl, i4.setCell (p := ⟨w.heap.size + 1 + 1, 0, none⟩) (by simp; omega) _⟩
    · have hq : (x == a) = false := by simpa using hxa
      have HC : Aside0 ((pre ++ [x]).contains a = false) := ⟨by
        have h1 : pre.contains a = false := i3
        simp only [List.contains_append, h1, Bool.false_or]
        simpa using fun h => hxa h.symm⟩
      clear hxa
      gi_wp2
      exact ⟨KeptX.refl _ W, i1, i2, HC.out, i4⟩
  case done =>
    rintro W ⟨i1, i2, i3, i4⟩ hD
    obtain ⟨e1, e2⟩ := blk1 i2
    have HC := Aside0.mk i3
    clear i3
    gi_wp2
    have q1 : (W.setCell ⟨w.heap.size + 1 + 1, 0, none⟩ (.bool false)).heap[V.heap.size]? = some (.deferred (some [])) := (Below.heap_setCell _ ⟨w.heap.size + 1 + 1, 0, none⟩ _ _ (by show _ ≠ _; simp; omega)).trans hD
    have q4 : ((W.setCell ⟨w.heap.size + 1 + 1, 0, none⟩ (.bool false)).putObj V.heap.size (.deferred none)).heap[w.heap.size + 1 + 1]? = some (.cells #[.bool false] 4 (0, 0)) := (World.putObj_heap_other (by omega)).trans (blk_put i2 0 (.bool false) rfl)
    have c1 := (blk1 q4).1
    have s1 := blk_lt q1
    refine ⟨by simp, .inl ⟨_, _, rfl, run_takeDeferred q1, ?_⟩⟩
    exact ⟨.bool false, by simp [results, Try.results18, go_sem, c1], by rw [HC.out], below_putObj (i4.setCell (p := ⟨w.heap.size + 1 + 1, 0, none⟩) (by simp; omega) _) (by omega) (by omega) _⟩
  case stop =>
    rintro pre W _ ⟨h1, h2, h3⟩ hD
    have s1 := blk_lt hD
    have HC := Aside0.mk h1
    clear h1
    gi_wp2
    have q4 : (W.putObj V.heap.size (.deferred none)).heap[w.heap.size + 1 + 1]? = some (.cells #[.bool true] 4 (0, 0)) := (World.putObj_heap_other (by omega)).trans h2
    have c1 := (blk1 q4).1
    refine ⟨by simp, .inl ⟨_, _, rfl, run_takeDeferred hD, ?_⟩⟩
    exact ⟨.bool true, by simp [results, Try.results18, go_sem, c1], by rw [HC.out], below_putObj h3 (by omega) (by omega) _⟩
end Go.Proofs.Ytjeoabjccbinhaa.P

namespace Go.Proofs.Ytjeoabjccbinhaa.P
open Go.RowKit Go.Proofs.YtjeoabjccbinhaaW.PrintWords
set_option linter.unusedVariables false
set_option linter.unusedSimpArgs false
/-- The commits' numbers fit; parents are less than their children. -/
def GoodH (h : S27) : Prop := ∀ c ∈ h.f0, (Lit.int .i64 c.f0).wf = true ∧ (Lit.int .i64 c.f1).wf = true ∧ (Lit.int .i64 c.f2).wf = true ∧ c.f1 < c.f0 ∧ c.f2 < c.f0
theorem commit_new {h : S27} {x : S32} (he : (applyE h x).2 = 0) (h1 : x.f0 = 1) : lateB h.f0 x.f1 = false ∧ goneB h.f0 x.f2 = false ∧ goneB h.f0 x.f3 = false ∧ 1 ≤ x.f1 ∧ (applyE h x).1.f0 = h.f0 ++ [⟨x.f1, x.f2, x.f3, x.f4⟩] := by
  unfold applyE applyS at *
  by_cases c0 : wfB x.f0 x.f1 x.f2 x.f3 x.f4 x.f5 = false
  · rw [if_pos c0] at he; exact absurd he (by decide)
  rw [if_neg c0] at he ⊢
  rw [if_pos h1] at he ⊢
  unfold commitS at he ⊢
  by_cases d1 : lateB h.f0 x.f1 = true
  · rw [if_pos d1] at he; exact absurd he (by decide)
  rw [if_neg d1] at he ⊢
  by_cases d2 : confB h.f1 x.f5 x.f2 = true
  · rw [if_pos d2] at he; exact absurd he (by decide)
  rw [if_neg d2] at he ⊢
  by_cases d3 : nameB h.f1 x.f5 x.f2 = true
  · rw [if_pos d3] at he; exact absurd he (by decide)
  rw [if_neg d3] at he ⊢
  by_cases d4 : fullB h.f1 x.f5 = true
  · rw [if_pos d4] at he; exact absurd he (by decide)
  rw [if_neg d4] at he ⊢
  by_cases d5 : (goneB h.f0 x.f2 || goneB h.f0 x.f3) = true
  · rw [if_pos d5] at he; exact absurd he (by decide)
  rw [if_neg d5] at he ⊢
  by_cases d6 : timeB h.f0 x.f2 x.f4 = true
  · rw [if_pos d6] at he; exact absurd he (by decide)
  rw [if_neg d6]
  simp only [Bool.or_eq_true, not_or, Bool.not_eq_true] at d5
  have hw : wfB x.f0 x.f1 x.f2 x.f3 x.f4 x.f5 = true := by simpa using c0
  rw [h1] at hw
  unfold wfB at hw
  simp only [if_true, Bool.and_eq_true, decide_eq_true_eq] at hw
  exact ⟨by simpa using d1, d5.1, d5.2, hw.1.1.1.1.1, rfl⟩
/-- Only a commit adds one. -/
theorem apply_same {h : S27} {x : S32} (he : (applyE h x).2 = 0) (h1 : x.f0 ≠ 1) : ∀ c, (applyE h x).1.f0 ≠ h.f0 ++ [c] := by
  intro c hc
  have hl : h.f0.length < (applyE h x).1.f0.length := by rw [hc]; simp
  refine absurd hl (Nat.not_lt.2 ?_)
  unfold applyE applyS at *
  by_cases c0 : wfB x.f0 x.f1 x.f2 x.f3 x.f4 x.f5 = false
  · rw [if_pos c0] at he; exact absurd he (by decide)
  rw [if_neg c0, if_neg h1]
  by_cases c7 : x.f0 = 7
  · rw [if_pos c7]
    unfold expireS
    split
    · split
      · exact Nat.zero_le _
      · split
        · exact Nat.zero_le _
        · exact dropI_len _ _
    · exact Nat.zero_le _
  rw [if_neg c7]
  split
  · split
    · exact Nat.le_refl _
    · exact Nat.zero_le _
  · split
    · split
      · exact Nat.le_refl _
      · exact Nat.zero_le _
    · split
      · split
        · exact Nat.le_refl _
        · exact Nat.zero_le _
      · split
        · split
          · exact Nat.le_refl _
          · exact Nat.zero_le _
        · split
          · exact Nat.le_refl _
          · exact Nat.le_refl _
theorem late_lt {l : List S41} (ho : okI l) {s : Int} (h : lateB l s = false) : ∀ c ∈ l, c.f0 < s := by
  intro c hc
  have := List.pairwise_append.1 (okI_snoc (x := ⟨s, 0, 0, 0⟩) ho h)
  exact this.2.2 c hc ⟨s, 0, 0, 0⟩ (List.mem_singleton.2 rfl)
theorem hasI_ex {l : List S41} (ho : okI l) {s : Int} (h : hasI l s = true) : ∃ c ∈ l, c.f0 = s ∧ nodeI l s = c := by
  obtain ⟨a, b, hl, hp, ha, h'⟩ := splitI ho s
  rcases h' with ⟨hh, v, r, rfl, hv0, hv, hr⟩ | ⟨hh, hv, hb⟩
  · exact ⟨v, by rw [hl]; simp, hv0, hv⟩
  · rw [h] at hh; cases hh
theorem gone_lt {l : List S41} (ho : okI l) {s p : Int} (h : lateB l s = false) (h1 : 1 ≤ s) (hg : goneB l p = false) : p < s := by
  unfold goneB at hg
  by_cases hp : p = 0
  · omega
  · have : (p != 0) = true := by simpa using hp
    rw [this, Bool.true_and] at hg
    obtain ⟨c, hc, e, _⟩ := hasI_ex ho (by simpa using hg)
    have := late_lt ho h c hc
    omega
theorem good_apply {n : Nat} {h : S27} (o : OkN n h) (g : GoodH h) {x : S32} (hx : G32 x) : GoodH (applyE h x).1 := by
  by_cases he : (applyE h x).2 = 0
  · by_cases h1 : x.f0 = 1
    · obtain ⟨e1, e2, e3, e4, e5⟩ := commit_new he h1
      intro c hc
      rw [e5] at hc
      rcases List.mem_append.1 hc with h_ | h_
      · exact g c h_
      · rw [List.mem_singleton] at h_; subst h_
        exact ⟨hx.2.1, hx.2.2.1, hx.2.2.2.1, gone_lt o.o0 e1 e4 e2, gone_lt o.o0 e1 e4 e3⟩
    · rcases apply_commits he with ⟨e, _⟩ | ⟨c', e, _⟩ | ⟨_, _, e⟩
      · intro c hc; rw [e] at hc; exact g c hc
      · exact absurd e (apply_same he h1 c')
      · intro c hc
        rw [e] at hc
        refine g c ?_
        unfold dropI at hc
        rcases List.mem_append.1 hc with h_ | h_
        · exact List.mem_of_mem_take h_
        · exact List.mem_of_mem_drop h_
  · rw [apply_err he]
    intro c hc
    exact absurd hc (by simp [eS27])
/-! ### the ancestors, by positions -/
theorem sorted_rd {l : List S41} (ho : okI l) : ∀ p q : Nat, p < q → q < l.length → (rd_T41 l p).f0 < (rd_T41 l q).f0 := by
  intro p q h1 h2
  rw [rd41_get l p (by omega), rd41_get l q h2]
  exact (List.pairwise_iff_getElem.1 ho) p q (by omega) h2 h1
theorem has_pos {l : List S41} {s : Int} (h : hasI l s = true) : posI l s < l.length ∧ (rd_T41 l (posI l s)).f0 = s ∧ nodeI l s = rd_T41 l (posI l s) := by
  have h2 := h
  unfold hasI at h2
  simp only [Bool.and_eq_true, decide_eq_true_eq, beq_iff_eq] at h2
  exact ⟨h2.1, (cmpI_zero _ _).1 h2.2, by unfold nodeI; rw [h, if_pos rfl]⟩
theorem pos_lt {l : List S41} (ho : okI l) {s t : Int} (hs : hasI l s = true) (h : s < t) : posI l s < posI l t := by
  obtain ⟨h1, h2, _⟩ := has_pos hs
  rw [posI_lt ho t _ h1, cmpI_neg, h2]
  exact h
theorem anc_self (l : List S41) : ∀ (k : Nat) (S : Int → Bool) (p : Nat), p < k → S (rd_T41 l p).f0 = true → (rd_T41 l p).f0 ∈ ancL l k S
  | 0, _, p, hp, _ => absurd hp (Nat.not_lt_zero _)
  | k + 1, S, p, hp, h => by
    rw [ancL]
    rcases Nat.lt_or_ge p k with hk | hk
    · split
      · exact List.mem_cons_of_mem _ (anc_self l k _ p hk (by simp [h]))
      · exact anc_self l k S p hk h
    · obtain rfl : p = k := by omega
      rw [if_pos h]
      exact List.mem_cons_self
theorem anc_ids (l : List S41) : ∀ (k : Nat) (S : Int → Bool) (x : Int), x ∈ ancL l k S → ∃ p : Nat, p < k ∧ (rd_T41 l p).f0 = x
  | 0, _, x, h => by simp [ancL] at h
  | k + 1, S, x, h => by
    rw [ancL] at h
    split at h
    · rcases List.mem_cons.1 h with rfl | h
      · exact ⟨k, by omega, rfl⟩
      · obtain ⟨p, hp, e⟩ := anc_ids l k _ x h
        exact ⟨p, by omega, e⟩
    · obtain ⟨p, hp, e⟩ := anc_ids l k _ x h
      exact ⟨p, by omega, e⟩
theorem anc_le (l : List S41) (a : Int) (hg : ∀ p : Nat, p < l.length → (rd_T41 l p).f1 < (rd_T41 l p).f0 ∧ (rd_T41 l p).f2 < (rd_T41 l p).f0) : ∀ (k : Nat) (S : Int → Bool), k ≤ l.length → (∀ y, S y = true → y ≤ a) → ∀ x ∈ ancL l k S, x ≤ a
  | 0, _, _, _, x, h => by simp [ancL] at h
  | k + 1, S, hk, hS, x, h => by
    rw [ancL] at h
    split at h
    · rename_i hh
      have h1 := hS _ hh
      obtain ⟨g1, g2⟩ := hg k (by omega)
      rcases List.mem_cons.1 h with rfl | h
      · exact h1
      · refine anc_le l a hg k _ (by omega) ?_ x h
        intro y hy
        simp only [Bool.or_eq_true, beq_iff_eq] at hy
        rcases hy with rfl | rfl | hy
        · omega
        · omega
        · exact hS y hy
    · exact anc_le l a hg k S (by omega) hS x h
theorem anc_sorted {l : List S41} (hs : ∀ p q : Nat, p < q → q < l.length → (rd_T41 l p).f0 < (rd_T41 l q).f0) : ∀ (k : Nat) (S : Int → Bool), k ≤ l.length → (ancL l k S).Pairwise (fun x y => y < x)
  | 0, _, _ => by simp [ancL]
  | k + 1, S, hk => by
    rw [ancL]
    split
    · refine List.pairwise_cons.2 ⟨?_, anc_sorted hs k _ (by omega)⟩
      intro y hy
      obtain ⟨p, hp, rfl⟩ := anc_ids l k _ y hy
      exact hs p k hp (by omega)
    · exact anc_sorted hs k S (by omega)
theorem anc_step {l : List S41} (hs : ∀ p q : Nat, p < q → q < l.length → (rd_T41 l p).f0 < (rd_T41 l q).f0) : ∀ (k : Nat) (S : Int → Bool) (p p' : Nat), k ≤ l.length → p < k → p' < p → (rd_T41 l p).f0 ∈ ancL l k S → (rd_T41 l p).f1 = (rd_T41 l p').f0 → (rd_T41 l p').f0 ∈ ancL l k S
  | 0, _, p, _, _, hp, _, _, _ => absurd hp (Nat.not_lt_zero _)
  | k + 1, S, p, p', hk, hp, hpp, h, e => by
    rw [ancL] at h ⊢
    rcases Nat.lt_or_ge p k with hlt | hge
    · split at h
      · rename_i hh
        rw [if_pos hh]
        rcases List.mem_cons.1 h with h | h
        · have := hs p k hlt (by omega); omega
        · exact List.mem_cons_of_mem _ (anc_step hs k _ p p' (by omega) hlt hpp h e)
      · rename_i hh
        rw [if_neg hh]
        exact anc_step hs k S p p' (by omega) hlt hpp h e
    · obtain rfl : p = k := by omega
      split at h
      · rename_i hh
        rw [if_pos hh]
        exact List.mem_cons_of_mem _ (anc_self l p _ p' hpp (by rw [e]; simp))
      · obtain ⟨q, hq, eq⟩ := anc_ids l p _ _ h
        have := hs q p hq (by omega)
        omega
theorem good_rd {h : S27} (g : GoodH h) : ∀ p : Nat, p < h.f0.length → (rd_T41 h.f0 p).f1 < (rd_T41 h.f0 p).f0 ∧ (rd_T41 h.f0 p).f2 < (rd_T41 h.f0 p).f0 := by
  intro p hp
  rw [rd41_get _ p hp]
  exact (g _ (List.getElem_mem hp)).2.2.2
theorem good_wf {h : S27} (g : GoodH h) : WfI h.f0 := by
  intro p hp
  rw [rd41_get _ p hp]
  have := g _ (List.getElem_mem hp)
  exact ⟨this.1, this.2.1, this.2.2.1⟩
/-- Every ID has its chain of first parents. -/
theorem chain_ex {h : S27} (ho : okI h.f0) (g : GoodH h) : ∀ (n : Nat) (id : Int), posI h.f0 id ≤ n → ∃ xs, Chain h.f0 id xs ∧ xs.length ≤ n + 1
  | n, id, hn => by
    cases hh : hasI h.f0 id with
    | false => exact ⟨[], .stop hh, by simp⟩
    | true =>
      obtain ⟨p1, p2, p3⟩ := has_pos hh
      have hlt : (nodeI h.f0 id).f1 < id := by
        rw [p3]; have := (good_rd g _ p1).1; omega
      cases h2 : hasI h.f0 (nodeI h.f0 id).f1 with
      | false => exact ⟨_, .step hh (.stop h2), by simp⟩
      | true =>
        have hp := pos_lt ho h2 hlt
        cases n with
        | zero => omega
        | succ n =>
          obtain ⟨xs, hc, hl⟩ := chain_ex ho g n (nodeI h.f0 id).f1 (by omega)
          exact ⟨_, .step hh hc, by simp; omega⟩
  termination_by n => n
theorem chain_of {h : S27} (ho : okI h.f0) (g : GoodH h) (id : Int) : ∃ xs, Chain h.f0 id xs ∧ xs.length ≤ h.f0.length + 1 := chain_ex ho g h.f0.length id (posI_le _ _)
/-- The chain's IDs decrease, and are ancestors. -/
theorem chain_anc {h : S27} (ho : okI h.f0) (g : GoodH h) {a : Int} : ∀ {id : Int} {xs : List Int}, Chain h.f0 id xs → (hasI h.f0 id = true → id ∈ ancS h.f0 a) → (∀ x ∈ xs, x ∈ ancS h.f0 a ∧ x ≤ id) ∧ xs.Pairwise (fun x y => y < x) := by
  intro id xs hc
  induction hc with
  | stop h_ => exact fun _ => ⟨by simp, List.Pairwise.nil⟩
  | @step id xs hh hc ih =>
    intro hm
    obtain ⟨p1, p2, p3⟩ := has_pos hh
    have hlt : (nodeI h.f0 id).f1 < id := by
      rw [p3]; have := (good_rd g _ p1).1; omega
    obtain ⟨i1, i2⟩ := ih (fun h2 => by
      obtain ⟨q1, q2, q3⟩ := has_pos h2
      have hp := pos_lt ho h2 hlt
      have hx := anc_step (sorted_rd ho) h.f0.length (fun y => y == a) (posI h.f0 id) (posI h.f0 (nodeI h.f0 id).f1) (Nat.le_refl _) p1 hp (by rw [p2]; exact hm hh) (by rw [q2, p3])
      rw [q2] at hx
      exact hx)
    have hid : (nodeI h.f0 id).f0 = id := by rw [p3, p2]
    refine ⟨?_, List.pairwise_cons.2 ⟨fun y hy => by rw [hid]; have := (i1 y hy).2; omega, i2⟩⟩
    intro x hx
    rcases List.mem_cons.1 hx with rfl | hx
    · rw [hid]; exact ⟨hm hh, Int.le_refl _⟩
    · have := i1 x hx
      exact ⟨this.1, by omega⟩
/-- A commit is its own ancestor. -/
theorem anc_refl {l : List S41} {p : Nat} (hp : p < l.length) : (rd_T41 l p).f0 ∈ ancS l (rd_T41 l p).f0 := anc_self l l.length _ p hp (by simp)
/-- The merge base: the greatest common ancestor. -/
theorem mb_some {l : List S41} (ho : okI l) {a b x : Int} (h : mbS l a b = (x, true)) : x ∈ ancS l a ∧ x ∈ ancS l b ∧ ∀ y, y ∈ ancS l a → y ∈ ancS l b → y ≤ x := by
  unfold mbS at h
  cases hf : (ancS l b).find? (fun x => (ancS l a).contains x) with
  | none => rw [hf] at h; simp at h
  | some z =>
    rw [hf] at h
    simp at h
    subst h
    obtain ⟨h1, us, vs, h2, h3⟩ := List.find?_eq_some_iff_append.1 hf
    refine ⟨by simpa using h1, by rw [h2]; simp, ?_⟩
    intro y hya hyb
    have hp : (ancS l b).Pairwise (fun x y => y < x) := anc_sorted (sorted_rd ho) l.length _ (Nat.le_refl _)
    rw [h2] at hyb hp
    rcases List.mem_append.1 hyb with h | h
    · have := h3 y h; simp [hya] at this
    · rcases List.mem_cons.1 h with h | h
      · omega
      · have := (List.pairwise_cons.1 (List.pairwise_append.1 hp).2.1).1 y h
        omega
theorem mb_none {l : List S41} {a b x : Int} (h : mbS l a b = (x, false)) : ∀ y, y ∈ ancS l b → y ∉ ancS l a := by
  unfold mbS at h
  cases hf : (ancS l b).find? (fun x => (ancS l a).contains x) with
  | some z => rw [hf] at h; simp at h
  | none =>
    intro y hy
    have := List.find?_eq_none.1 hf y hy
    simpa using this
end Go.Proofs.Ytjeoabjccbinhaa.P

namespace Go.Proofs.Ytjeoabjccbinhaa.P
open Go.RowKit Go.Proofs.YtjeoabjccbinhaaW.PrintWords Go.Proofs.YtjeoabjccbinhaaW.PrintLast Go.Proofs.YtjeoabjccbinhaaW.PrintMore
set_option linter.unusedVariables false
set_option linter.unusedSimpArgs false
section
variable (l : List S41) (l1 l2 : List S86) (r id : Int)
theorem FP_l0 (ho : okI l) (hn : l.length ≤ 1000) : ∀ (rest acc : List Int) (p : Int) (m : Nat) (okb : Bool) (c : S41), ((okb = false ∧ rest = []) ∨ (okb = true ∧ ∃ rest', rest = c.f0 :: rest' ∧ Chain l c.f1 rest')) → acc.length + rest.length ≤ l.length + 1 → 1002 + rest.length < m →
    laminaref25_FirstParents.l0 m acc okb l l1 l2 r c.f0 c.f1 c.f2 c.f3 = some (acc ++ rest) := by
  intro rest
  induction rest with
  | nil =>
    intro acc p m okb c hs hl hm
    obtain ⟨m, rfl⟩ : ∃ q, m = q + 1 := ⟨m - 1, by omega⟩
    rcases hs with ⟨rfl, _⟩ | ⟨_, _, h, _⟩
    · simp only [laminaref25_FirstParents.l0]
      rw [if_neg (by decide), List.append_nil]
    · cases h
  | cons x rest ih =>
    intro acc p m okb c hs hl hm
    obtain ⟨m, rfl⟩ : ∃ q, m = q + 1 := ⟨m - 1, by omega⟩
    rcases hs with ⟨_, h⟩ | ⟨rfl, rest', h, hc⟩
    · cases h
    · injection h with e1 e2
      subst e1; subst e2
      simp only [List.length_cons] at hl hm
      simp only [laminaref25_FirstParents.l0]
      rw [if_pos trivial, if_pos (by omega), if_pos (by omega), Find_is ho hn _ _ (by omega), Option.bind_some]
      have := ih (acc ++ [c.f0]) p m (hasI l c.f1) (nodeI l c.f1) (by
        cases hc with
        | stop h_ => exact .inl ⟨h_, rfl⟩
        | step h_ h2 => exact .inr ⟨h_, _, rfl, h2⟩) (by simp; omega) (by omega)
      simp only
      rw [this, List.append_assoc]; rfl
theorem FirstParents_is (ho : okI l) (hn : l.length ≤ 1000) {xs : List Int} (hc : Chain l id xs) (hl : xs.length ≤ l.length + 1) (k : Nat) (hk : 10000 < k) : laminaref25_FirstParents.f k l l1 l2 r id = some xs := by
  unfold laminaref25_FirstParents.f
  rw [Find_is ho hn _ _ (by omega), Option.bind_some]
  have := FP_l0 l l1 l2 r ho hn xs [] 0 k (hasI l id) (nodeI l id) (by
    cases hc with
    | stop h_ => exact .inl ⟨h_, rfl⟩
    | step h_ h2 => exact .inr ⟨h_, _, rfl, h2⟩) (by simpa using hl) (by omega)
  rw [List.nil_append] at this
  exact this
end
theorem longs_l0 (a : List Int) (hn : a.length ≤ 2000) : ∀ (d i k : Nat), i + d = a.length → d < k → laminalaw25_longs.l0 k a a i = some true := by
  intro d
  induction d with
  | zero =>
    intro i k hi hk
    obtain ⟨k, rfl⟩ : ∃ m, k = m + 1 := ⟨k - 1, by omega⟩
    simp only [laminalaw25_longs.l0]
    rw [if_neg (by omega)]
  | succ d ih =>
    intro i k hi hk
    obtain ⟨k, rfl⟩ : ∃ m, k = m + 1 := ⟨k - 1, by omega⟩
    simp only [laminalaw25_longs.l0]
    rw [if_pos (by omega), if_pos (by omega), if_pos (by omega), if_pos trivial, wrap_succ i (by omega), ih (i + 1) k (by omega) (by omega)]
theorem longs_is (a : List Int) (hn : a.length ≤ 2000) (k : Nat) (hk : 2000 < k) : laminalaw25_longs.f k a a = some true := by
  unfold laminalaw25_longs.f
  rw [if_pos rfl]
  exact longs_l0 a hn a.length 0 k (by omega) (by omega)
end Go.Proofs.Ytjeoabjccbinhaa.P

namespace Go.Proofs.Ytjeoabjccbinhaa.P
open Go.RowKit Go.Proofs.YtjeoabjccbinhaaW.PrintWords
set_option linter.unusedVariables false
set_option linter.unusedSimpArgs false
theorem good_bltQ (l : List S32) (hG : ∀ x ∈ l, G32 x) : ∀ i, i ≤ l.length → GoodH (builtS (l.take i))
  | 0, _ => fun c hc => absurd hc (by simp [builtS, eS27])
  | i + 1, h => by
    have ih := good_bltQ l hG i (by omega)
    rw [builtS_snoc l i (by omega)]
    by_cases h0 : (applyE (builtS (l.take i)) l[i]).2 = 0
    · rw [if_pos h0]; exact good_apply (builtS_okN l i (by omega)) ih (hG _ (List.getElem_mem _))
    · rw [if_neg h0]; exact ih
theorem f16_E (A0 : Option Addr) (c0 : Nat) (A1 : Option Addr) (c1 : Nat) (A2 : Option Addr) (c2 : Nat) (h : S27) (s : Int) (n : S41) (b : Bool) (he : nodeI h.f0 s = n) (hb : hasI h.f0 s = b) (w : World) (hr : HV w A0 c0 h.f0 A1 c1 h.f1 A2 c2 h.f2) (ho : okI h.f0) (hn : h.f0.length ≤ 1000) :
    Calls Try.prog 16 #[.agg #[.slice A0 h.f0.length c0, .slice A1 h.f1.length c1, .slice A2 h.f2.length c2, .int .i64 h.f3], .int .i64 s] w fun e w' => e = .returned (.tuple #[.agg #[.int .i64 n.f0, .int .i64 n.f1, .int .i64 n.f2, .int .i64 n.f3], .bool b]) ∧ Below w.heap.size w w' := by
  subst he; subst hb
  exact f16_calls A0 c0 h.f0 A1 c1 h.f1 A2 c2 h.f2 h.f3 s w hr ho hn
theorem f20_E (A0 : Option Addr) (c0 : Nat) (A1 : Option Addr) (c1 : Nat) (A2 : Option Addr) (c2 : Nat) (h : S27) (s : Int) (n : S41) (b : Bool) (he : nodeI h.f0 s = n) (hb : hasI h.f0 s = b) (w : World) (hr : HV w A0 c0 h.f0 A1 c1 h.f1 A2 c2 h.f2) (ho : okI h.f0) (hn : h.f0.length ≤ 1000) :
    Calls Try.prog 20 #[.agg #[.slice A0 h.f0.length c0, .slice A1 h.f1.length c1, .slice A2 h.f2.length c2, .int .i64 h.f3], .int .i64 s] w fun e w' => e = .returned (.tuple #[.agg #[.int .i64 n.f0, .int .i64 n.f1, .int .i64 n.f2, .int .i64 n.f3], .bool b]) ∧ Below w.heap.size w w' := by
  subst he; subst hb
  exact laminaref25_Find.calls 2000 A0 c0 h.f0 A1 c1 h.f1 A2 c2 h.f2 h.f3 s _ _ _ _ _ w hr.r0 hr.h0 hr.r1 hr.h1 hr.r2 hr.h2 (Find_is ho hn s 2000 (by omega))
theorem f17_E (A0 : Option Addr) (c0 : Nat) (A1 : Option Addr) (c1 : Nat) (A2 : Option Addr) (c2 : Nat) (h : S27) (id : Int) (xs : List Int) (hc : Chain h.f0 id xs) (hlen : xs.length ≤ h.f0.length + 1) (w : World) (hr : HV w A0 c0 h.f0 A1 c1 h.f1 A2 c2 h.f2) (ho : okI h.f0) (hn : h.f0.length ≤ 999) :
    Calls Try.prog 17 #[.agg #[.slice A0 h.f0.length c0, .slice A1 h.f1.length c1, .slice A2 h.f2.length c2, .int .i64 h.f3], .int .i64 id] w fun e w' => ∃ v, e = .returned v ∧ Kd.R (Kd.int .i64) 2 w' w.heap.size (fun _ => True) v xs ∧ Below w.heap.size w w' :=
  f17_calls A0 c0 h.f0 A1 c1 h.f1 A2 c2 h.f2 h.f3 id xs hc (by omega) w hr ho (by omega)
theorem f22_E (A0 : Option Addr) (c0 : Nat) (A1 : Option Addr) (c1 : Nat) (A2 : Option Addr) (c2 : Nat) (h : S27) (id : Int) (xs : List Int) (hc : Chain h.f0 id xs) (hlen : xs.length ≤ h.f0.length + 1) (w : World) (hr : HV w A0 c0 h.f0 A1 c1 h.f1 A2 c2 h.f2) (ho : okI h.f0) (hn : h.f0.length ≤ 999) :
    Calls Try.prog 22 #[.agg #[.slice A0 h.f0.length c0, .slice A1 h.f1.length c1, .slice A2 h.f2.length c2, .int .i64 h.f3], .int .i64 id] w fun e w' => ∃ v, e = .returned v ∧ Kd.R (Kd.int .i64) 2 w' w.heap.size (fun _ => True) v xs ∧ Below w.heap.size w w' :=
  laminaref25_FirstParents.calls 10001 A0 c0 h.f0 A1 c1 h.f1 A2 c2 h.f2 h.f3 id xs w hr.r0 hr.h0 hr.r1 hr.h1 hr.r2 hr.h2 (FirstParents_is h.f0 h.f1 h.f2 h.f3 id ho (by omega) hc hlen 10001 (by omega))

theorem f21_E (A : Option Addr) (c : Nat) (B : Option Addr) (d : Nat) (xs : List Int) (w : World) (hr : Kd.C (Kd.int .i64) w A xs.length xs) (hc : xs.length ≤ c) (hr' : Kd.C (Kd.int .i64) w B xs.length xs) (hc' : xs.length ≤ d) (hn : xs.length ≤ 2000) :
    Calls Try.prog 21 #[.slice A xs.length c, .slice B xs.length d] w fun e w' => e = .returned (.bool true) ∧ Below w.heap.size w w' :=
  (laminalaw25_longs.calls 2001 A c xs B d xs true w hr hc hr' hc' (longs_is xs hn 2001 (by omega))).mono fun e w' ⟨h1, h2⟩ => ⟨h1, h2.below⟩
theorem f25_E (A0 : Option Addr) (c0 : Nat) (A1 : Option Addr) (c1 : Nat) (A2 : Option Addr) (c2 : Nat) (h : S27) (s : ByteArray) (x : Int) (r : Bool) (he : valS h.f1 s = x) (hb : hasS h.f1 s = r) (w : World) (hr : HV w A0 c0 h.f0 A1 c1 h.f1 A2 c2 h.f2) (ho : okS h.f1) (hn : h.f1.length ≤ 1000) :
    Calls Try.prog 25 #[.agg #[.slice A0 h.f0.length c0, .slice A1 h.f1.length c1, .slice A2 h.f2.length c2, .int .i64 h.f3], .string s] w fun e w' => e = .returned (.tuple #[.int .i64 x, .bool r]) ∧ Below w.heap.size w w' := by
  subst he; subst hb
  exact f25_calls A0 c0 h.f0 A1 c1 h.f1 A2 c2 h.f2 h.f3 s w hr ho hn
theorem f27_E (A0 : Option Addr) (c0 : Nat) (A1 : Option Addr) (c1 : Nat) (A2 : Option Addr) (c2 : Nat) (h : S27) (s : ByteArray) (x : Int) (r : Bool) (he : valS h.f2 s = x) (hb : hasS h.f2 s = r) (w : World) (hr : HV w A0 c0 h.f0 A1 c1 h.f1 A2 c2 h.f2) (ho : okS h.f2) (hn : h.f2.length ≤ 1000) :
    Calls Try.prog 27 #[.agg #[.slice A0 h.f0.length c0, .slice A1 h.f1.length c1, .slice A2 h.f2.length c2, .int .i64 h.f3], .string s] w fun e w' => e = .returned (.tuple #[.int .i64 x, .bool r]) ∧ Below w.heap.size w w' := by
  subst he; subst hb
  exact f27_calls A0 c0 h.f0 A1 c1 h.f1 A2 c2 h.f2 h.f3 s w hr ho hn
theorem f26_E (A0 : Option Addr) (c0 : Nat) (A1 : Option Addr) (c1 : Nat) (A2 : Option Addr) (c2 : Nat) (h : S27) (s : ByteArray) (x : Int) (r : Bool) (he : valS h.f1 s = x) (hb : hasS h.f1 s = r) (w : World) (hr : HV w A0 c0 h.f0 A1 c1 h.f1 A2 c2 h.f2) (ho : okS h.f1) (hn : h.f1.length ≤ 1000) :
    Calls Try.prog 26 #[.agg #[.slice A0 h.f0.length c0, .slice A1 h.f1.length c1, .slice A2 h.f2.length c2, .int .i64 h.f3], .string s] w fun e w' => e = .returned (.tuple #[.int .i64 x, .bool r]) ∧ Below w.heap.size w w' := by
  subst he; subst hb
  refine laminaref25_Branch.calls 2000 A0 c0 h.f0 A1 c1 h.f1 A2 c2 h.f2 h.f3 s _ _ w hr.r0 hr.h0 hr.r1 hr.h1 hr.r2 hr.h2 ?_
  unfold laminaref25_Branch.f
  rw [ref_is ho hn s 2000 (by omega)]; rfl
theorem f28_E (A0 : Option Addr) (c0 : Nat) (A1 : Option Addr) (c1 : Nat) (A2 : Option Addr) (c2 : Nat) (h : S27) (s : ByteArray) (x : Int) (r : Bool) (he : valS h.f2 s = x) (hb : hasS h.f2 s = r) (w : World) (hr : HV w A0 c0 h.f0 A1 c1 h.f1 A2 c2 h.f2) (ho : okS h.f2) (hn : h.f2.length ≤ 1000) :
    Calls Try.prog 28 #[.agg #[.slice A0 h.f0.length c0, .slice A1 h.f1.length c1, .slice A2 h.f2.length c2, .int .i64 h.f3], .string s] w fun e w' => e = .returned (.tuple #[.int .i64 x, .bool r]) ∧ Below w.heap.size w w' := by
  subst he; subst hb
  refine laminaref25_Tag.calls 2000 A0 c0 h.f0 A1 c1 h.f1 A2 c2 h.f2 h.f3 s _ _ w hr.r0 hr.h0 hr.r1 hr.h1 hr.r2 hr.h2 ?_
  unfold laminaref25_Tag.f
  rw [ref_is ho hn s 2000 (by omega)]; rfl
end Go.Proofs.Ytjeoabjccbinhaa.P
