/- history.IsAncestor. Conditions: the hypotheses that stand at each theorem. -/
import Derived.Test.YtjeoabjccbinhaaR3
namespace Go.Proofs.Ytjeoabjccbinhaa.P
open Go.RowKit Go.Shelf Go.Proofs.YtjeoabjccbinhaaW.PrintWords Go.Proofs.YtjeoabjccbinhaaW.PrintLast Go.Proofs.YtjeoabjccbinhaaW.PrintMore
set_option linter.unusedVariables false
set_option linter.unusedSimpArgs false
attribute [local go_sem] Oper.semAt_some
theorem alloc5 (w : World) (o0 o1 o2 o3 o4 : Obj) : let V := ((((w.alloc o0).alloc o1).alloc o2).alloc o3).alloc o4
    V.heap.size = w.heap.size + 5 ∧ V.heap[w.heap.size]? = some o0 ∧ V.heap[w.heap.size + 1]? = some o1 ∧ V.heap[w.heap.size + 1 + 1]? = some o2 ∧ V.heap[w.heap.size + 1 + 1 + 1]? = some o3 ∧ V.heap[w.heap.size + 1 + 1 + 1 + 1]? = some o4 := by
  intro V
  refine ⟨by simp [V], ?_, ?_, ?_, ?_, ?_⟩
  · exact blk_alloc (blk_alloc (blk_alloc (blk_alloc (heap_alloc_new w o0) _) _) _) _
  · exact blk_alloc (blk_alloc (blk_alloc (by have := heap_alloc_new (w.alloc o0) o1; simpa using this) _) _) _
  · exact blk_alloc (blk_alloc (by have := heap_alloc_new ((w.alloc o0).alloc o1) o2; simpa using this) _) _
  · exact blk_alloc (by have := heap_alloc_new (((w.alloc o0).alloc o1).alloc o2) o3; simpa using this) _
  · have := heap_alloc_new ((((w.alloc o0).alloc o1).alloc o2).alloc o3) o4
    simp only [World.size_alloc] at this
    exact this
set_option maxHeartbeats 4000000 in
set_option maxRecDepth 100000 in
theorem f18_calls (A0 : Option Addr) (c0 : Nat) (l0 : List S41) (A1 : Option Addr) (c1 : Nat) (l1 : List S86) (A2 : Option Addr) (c2 : Nat) (l2 : List S86) (r : Int) (a id : Int) (hid : (Lit.int .i64 id).wf = true) (hwf : WfI l0) (hn0 : l0.length ≤ 1000) (w : World) (ok : Nat → Prop) (hF0 : Kd.F k41 w ok A0 l0.length l0) :
    Calls Try.prog 18 #[.agg #[.slice A0 l0.length c0, .slice A1 l1.length c1, .slice A2 l2.length c2, .int .i64 r], .int .i64 a, .int .i64 id] w fun e w' => e = .returned (.bool ((ancS l0 id).contains a)) ∧ Below w.heap.size w w' := by
  refine (callsIn_wide (n := 3)).1 ?_
  have hro : Fence.wide.round = none := rfl
  refine callsIn_of_wp_marks Try.func18 rfl trivial ?_ hro
  simp only [Try.ntmps18, List.size_toArray, List.length_cons, List.length_nil, Nat.reduceAdd, Nat.reduceSub, Array.replicate_succ, Array.replicate_zero, List.push_toArray, List.append_toArray, List.nil_append, List.cons_append]
  have HF := Aside0.mk (Kd.F_bound hF0)
  have HWF := Aside0.mk hwf
  clear hF0 hwf
  gi_wp2_with (refine ⟨trivial, ?_⟩; gi_at_call 46; refine (f46_in Fence.wide _ trivial hro A0 c0 l0 A1 c1 l1 A2 c2 l2 r _ _).mono ?_; rintro e w' ⟨rfl, rfl⟩)
  have hal := alloc5 w (.cells #[.slice A0 l0.length c0, .slice A1 l1.length c1, .slice A2 l2.length c2, .int .i64 r] 27) (.cells #[.int .i64 a] 2) (.cells #[.bool false] 4) (.cells #[.slice A0 l0.length c0, .slice A1 l1.length c1, .slice A2 l2.length c2, .int .i64 r] 27) (.cells #[.int .i64 id] 2)
  have hbV : Below w.heap.size w (((((w.alloc (.cells #[.slice A0 l0.length c0, .slice A1 l1.length c1, .slice A2 l2.length c2, .int .i64 r] 27)).alloc (.cells #[.int .i64 a] 2)).alloc (.cells #[.bool false] 4)).alloc (.cells #[.slice A0 l0.length c0, .slice A1 l1.length c1, .slice A2 l2.length c2, .int .i64 r] 27)).alloc (.cells #[.int .i64 id] 2)) := below_alloc (below_alloc (below_alloc (below_alloc (below_alloc (Below.refl _ _) _) _) _) _) _
  obtain ⟨V, hV⟩ : ∃ V, (((((w.alloc (.cells #[.slice A0 l0.length c0, .slice A1 l1.length c1, .slice A2 l2.length c2, .int .i64 r] 27)).alloc (.cells #[.int .i64 a] 2)).alloc (.cells #[.bool false] 4)).alloc (.cells #[.slice A0 l0.length c0, .slice A1 l1.length c1, .slice A2 l2.length c2, .int .i64 r] 27)).alloc (.cells #[.int .i64 id] 2)) = V := ⟨_, rfl⟩
  rw [hV] at hal hbV ⊢
  clear hV
  obtain ⟨hs, hg0, hg1, hg2, hg3, hg4⟩ := hal
  refine rangeT hro (by decide) (gf := 68) (lb := #[.pointer (some ⟨w.heap.size + 1 + 1 + 1 + 1, 0, none⟩), .pointer (some ⟨w.heap.size + 1 + 1 + 1, 0, none⟩)]) rfl trivial (enters_of Try.func68 (by kernel_rfl) rfl) (xs := ancS l0 id) (T := fun k => k = w.heap.size + 1 + 1) rfl (fun k hk => by omega)
    (fun W1 hs1 hb1 => f68_in Fence.wide 2 trivial hro (by decide) _ _ A0 c0 l0 A1 c1 l1 A2 c2 l2 r id hid HWF.out hn0 _ W1 ((hb1.block _ (by omega)).trans hg4) ((hb1.block _ (by omega)).trans hg3) (fun k => k < w.heap.size) (Kd.F_mono (Kd.F_below HF.out (hbV.trans (hb1.mono (by omega)))) (fun k hk => hk.2)) (by omega) (by omega) (fun k hk => by omega) (fun k hk => by omega))
    (fun pre W => W.heap[w.heap.size + 1]? = some (.cells #[.int .i64 a] 2 (0, 0)) ∧ W.heap[w.heap.size + 1 + 1]? = some (.cells #[.bool false] 4 (0, 0)) ∧ pre.contains a = false ∧ Below w.heap.size w W)
    (fun _ W => (ancS l0 id).contains a = true ∧ W.heap[w.heap.size + 1 + 1]? = some (.cells #[.bool true] 4 (0, 0)) ∧ Below w.heap.size w W)
    (fun s A B hI hb => ⟨(hb.block _ (by omega)).trans hI.1, (hb.block _ (by omega)).trans hI.2.1, hI.2.2.1, hI.2.2.2.trans (hb.mono (by omega))⟩)
    (fun s A B hI hb => ⟨hI.1, (hb.block _ (by omega)).trans hI.2.1, hI.2.2.trans (hb.mono (by omega))⟩)
    ⟨hg1, hg2, rfl, hbV⟩
    (fun x => { tmps := #[.agg #[.slice A0 l0.length c0, .slice A1 l1.length c1, .slice A2 l2.length c2, .int .i64 r], .int .i64 a, .int .i64 id, .pointer (some ⟨w.heap.size, 0, none⟩), .pointer (some ⟨w.heap.size + 1, 0, none⟩), undef, .pointer (some ⟨w.heap.size + 1 + 1, 0, none⟩), .int .i64 x, .agg #[.slice A0 l0.length c0, .slice A1 l1.length c1, .slice A2 l2.length c2, .int .i64 r], .int .i64 id, .func (.func 68) #[] #[.pointer (some ⟨w.heap.size + 1 + 1 + 1 + 1, 0, none⟩), .pointer (some ⟨w.heap.size + 1 + 1 + 1, 0, none⟩)], .int .i64 x, undef, undef, undef], defers := [] }) ?assign ?body ?done ?stop
  case assign =>
    intro l x W K hK
    gi_wp2
    exact hK
  case body =>
    rintro l pre x rest W hx ⟨i1, i2, i3, i4⟩ hsz
    obtain ⟨b1, b2⟩ := blk1 i1
    obtain ⟨e1, e2⟩ := blk1 i2
    by_cases hxa : x = a
    · have hq : (x == a) = true := by simpa using hxa
      have HC : Aside0 ((ancS l0 id).contains a = true) := ⟨by rw [hx, ← hxa]; simp⟩
      clear hxa
      gi_wp2
      exact ⟨(KeptX.refl (fun k => k = w.heap.size + 1 + 1) W).setCell (p := ⟨w.heap.size + 1 + 1, 0, none⟩) rfl _, HC.out, blk_put i2 0 (.bool true) rfl, i4.setCell (p := ⟨w.heap.size + 1 + 1, 0, none⟩) (by simp; omega) _⟩
    · have hq : (x == a) = false := by simpa using hxa
      have HC : Aside0 ((pre ++ [x]).contains a = false) := ⟨by
        have h1 : pre.contains a = false := i3
        simp only [List.contains_append, h1, Bool.false_or]
        simpa using fun h => hxa h.symm⟩
      clear hxa
      gi_wp2
      exact ⟨KeptX.refl _ W, i1, i2, HC.out, i4⟩
  case done =>
    rintro W ⟨i1, i2, i3, i4⟩ hD
    obtain ⟨e1, e2⟩ := blk1 i2
    have HC := Aside0.mk i3
    clear i3
    gi_wp2
    have q1 : (W.setCell ⟨w.heap.size + 1 + 1, 0, none⟩ (.bool false)).heap[V.heap.size]? = some (.deferred (some [])) := (Below.heap_setCell _ ⟨w.heap.size + 1 + 1, 0, none⟩ _ _ (by show _ ≠ _; simp; omega)).trans hD
    have q4 : ((W.setCell ⟨w.heap.size + 1 + 1, 0, none⟩ (.bool false)).putObj V.heap.size (.deferred none)).heap[w.heap.size + 1 + 1]? = some (.cells #[.bool false] 4 (0, 0)) := (World.putObj_heap_other (by omega)).trans (blk_put i2 0 (.bool false) rfl)
    have c1 := (blk1 q4).1
    have s1 := blk_lt q1
    refine ⟨by simp, .inl ⟨_, _, rfl, run_takeDeferred q1, ?_⟩⟩
    exact ⟨.bool false, by simp [results, Try.results18, go_sem, c1], by rw [HC.out], below_putObj (i4.setCell (p := ⟨w.heap.size + 1 + 1, 0, none⟩) (by simp; omega) _) (by omega) (by omega) _⟩
  case stop =>
    rintro pre W _ ⟨h1, h2, h3⟩ hD
    have s1 := blk_lt hD
    have HC := Aside0.mk h1
    clear h1
    gi_wp2
    have q4 : (W.putObj V.heap.size (.deferred none)).heap[w.heap.size + 1 + 1]? = some (.cells #[.bool true] 4 (0, 0)) := (World.putObj_heap_other (by omega)).trans h2
    have c1 := (blk1 q4).1
    refine ⟨by simp, .inl ⟨_, _, rfl, run_takeDeferred hD, ?_⟩⟩
    exact ⟨.bool true, by simp [results, Try.results18, go_sem, c1], by rw [HC.out], below_putObj h3 (by omega) (by omega) _⟩
end Go.Proofs.Ytjeoabjccbinhaa.P
