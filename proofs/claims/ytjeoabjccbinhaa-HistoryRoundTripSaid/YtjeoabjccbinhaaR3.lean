/- history.MergeBase. Conditions: the hypotheses that stand at each theorem. -/
import Derived.Test.YtjeoabjccbinhaaR2
namespace Go.Proofs.Ytjeoabjccbinhaa.P
open Go.RowKit Go.Shelf Go.Proofs.YtjeoabjccbinhaaW.PrintWords Go.Proofs.YtjeoabjccbinhaaW.PrintLast Go.Proofs.YtjeoabjccbinhaaW.PrintMore
set_option linter.unusedVariables false
set_option linter.unusedSimpArgs false
attribute [local go_sem] Oper.semAt_some
theorem ancL_wf {l : List S41} (hwf : WfI l) : ∀ (k : Nat) (S : Int → Bool), k ≤ l.length → ∀ x ∈ ancL l k S, (Lit.int .i64 x).wf = true
  | 0, _, _, x, hx => by simp [ancL] at hx
  | k + 1, S, hk, x, hx => by
    rw [ancL] at hx
    split at hx
    · rcases List.mem_cons.1 hx with rfl | hx
      · exact (hwf k (by omega)).1
      · exact ancL_wf hwf k _ (by omega) x hx
    · exact ancL_wf hwf k _ (by omega) x hx
/-- The greatest common ancestor, and whether there is one. -/
def mbS (l : List S41) (a b : Int) : Int × Bool := match (ancS l b).find? (fun x => (ancS l a).contains x) with | some x => (x, true) | none => (0, false)
theorem ancL_len (l : List S41) : ∀ (k : Nat) (S : Int → Bool), (ancL l k S).length ≤ k
  | 0, _ => Nat.le_refl _
  | k + 1, S => by
    rw [ancL]
    split
    · rw [List.length_cons]; have := ancL_len l k (fun y => y == (rd_T41 l k).f2 || (y == (rd_T41 l k).f1 || S y)); omega
    · have := ancL_len l k S; omega
theorem alloc7 (w : World) (o0 o1 o2 o3 o4 o5 o6 : Obj) : let V := ((((((w.alloc o0).alloc o1).alloc o2).alloc o3).alloc o4).alloc o5).alloc o6
    V.heap.size = w.heap.size + 7 ∧ V.heap[w.heap.size]? = some o0 ∧ V.heap[w.heap.size + 1]? = some o1 ∧ V.heap[w.heap.size + 1 + 1]? = some o2 ∧ V.heap[w.heap.size + 1 + 1 + 1]? = some o3 ∧ V.heap[w.heap.size + 1 + 1 + 1 + 1]? = some o4 ∧ V.heap[w.heap.size + 1 + 1 + 1 + 1 + 1]? = some o5 ∧ V.heap[w.heap.size + 1 + 1 + 1 + 1 + 1 + 1]? = some o6 := by
  intro V
  refine ⟨by simp [V], ?_, ?_, ?_, ?_, ?_, ?_, ?_⟩
  · exact blk_alloc (blk_alloc (blk_alloc (blk_alloc (blk_alloc (blk_alloc (heap_alloc_new w o0) _) _) _) _) _) _
  · exact blk_alloc (blk_alloc (blk_alloc (blk_alloc (blk_alloc (by have := heap_alloc_new (w.alloc o0) o1; simpa using this) _) _) _) _) _
  · exact blk_alloc (blk_alloc (blk_alloc (blk_alloc (by have := heap_alloc_new ((w.alloc o0).alloc o1) o2; simpa using this) _) _) _) _
  · exact blk_alloc (blk_alloc (blk_alloc (by have := heap_alloc_new (((w.alloc o0).alloc o1).alloc o2) o3; simpa using this) _) _) _
  · exact blk_alloc (blk_alloc (by have := heap_alloc_new ((((w.alloc o0).alloc o1).alloc o2).alloc o3) o4; simpa using this) _) _
  · exact blk_alloc (by have := heap_alloc_new (((((w.alloc o0).alloc o1).alloc o2).alloc o3).alloc o4) o5; simpa using this) _
  · have := heap_alloc_new ((((((w.alloc o0).alloc o1).alloc o2).alloc o3).alloc o4).alloc o5) o6
    simp only [World.size_alloc] at this
    exact this
theorem SetAt.of_new {W : World} {b : Nat} (h : W.heap[b]? = some (.map #[] 0)) : SetAt W b 0 (fun _ => false) := by
  obtain ⟨D, ⟨es, clock, hb, F, hs, hD⟩, hm, hS⟩ := SetAt.made W
  rw [heap_alloc_new] at hb
  injection hb with hb
  injection hb with e1 e2
  subst e1
  subst e2
  exact ⟨D, ⟨#[], 0, h, F, hs, hD⟩, hm, hS⟩
theorem blk1 {W : World} {g : Nat} {a : Value} {t : TypeId} (h : W.heap[g]? = some (.cells #[a] t (0, 0))) : W.cell? ⟨g, 0, none⟩ = some a ∧ W.frozen? ⟨g, 0, none⟩ = false := ⟨(blk_cell h 0).trans rfl, blk_frozen h 0⟩
set_option maxHeartbeats 4000000 in
set_option maxRecDepth 100000 in
theorem f19_calls (A0 : Option Addr) (c0 : Nat) (l0 : List S41) (A1 : Option Addr) (c1 : Nat) (l1 : List S86) (A2 : Option Addr) (c2 : Nat) (l2 : List S86) (r : Int) (a b : Int) (ha : (Lit.int .i64 a).wf = true) (hb : (Lit.int .i64 b).wf = true) (hwf : WfI l0) (hn0 : l0.length ≤ 1000) (w : World) (ok : Nat → Prop) (hF0 : Kd.F k41 w ok A0 l0.length l0) :
    Calls Try.prog 19 #[.agg #[.slice A0 l0.length c0, .slice A1 l1.length c1, .slice A2 l2.length c2, .int .i64 r], .int .i64 a, .int .i64 b] w fun e w' => e = .returned (.tuple #[.int .i64 (mbS l0 a b).1, .bool (mbS l0 a b).2]) ∧ Below w.heap.size w w' := by
  refine (callsIn_wide (n := 3)).1 ?_
  have hro : Fence.wide.round = none := rfl
  have hmm := @run_makeMap Try.prog
  refine callsIn_of_wp_marks Try.func19 rfl trivial ?_ hro
  simp only [Try.ntmps19, List.size_toArray, List.length_cons, List.length_nil, Nat.reduceAdd, Nat.reduceSub, Array.replicate_succ, Array.replicate_zero, List.push_toArray, List.append_toArray, List.nil_append, List.cons_append]
  have HF := Aside0.mk (Kd.F_bound hF0)
  have HWF := Aside0.mk hwf
  clear hF0 hwf
  gi_wp2_with (refine ⟨trivial, ?_⟩; gi_at_call 46; refine (f46_in Fence.wide _ trivial hro A0 c0 l0 A1 c1 l1 A2 c2 l2 r _ _).mono ?_; rintro e w' ⟨rfl, rfl⟩)
  have hal := alloc7 w (.cells #[.slice A0 l0.length c0, .slice A1 l1.length c1, .slice A2 l2.length c2, .int .i64 r] 27) (.cells #[.int .i64 0] 2) (.cells #[.bool false] 4) (.map #[] 0) (.cells #[.map (some (w.heap.size + 1 + 1 + 1))] 77) (.cells #[.slice A0 l0.length c0, .slice A1 l1.length c1, .slice A2 l2.length c2, .int .i64 r] 27) (.cells #[.int .i64 a] 2)
  have hbV : Below w.heap.size w (((((((w.alloc (.cells #[.slice A0 l0.length c0, .slice A1 l1.length c1, .slice A2 l2.length c2, .int .i64 r] 27)).alloc (.cells #[.int .i64 0] 2)).alloc (.cells #[.bool false] 4)).alloc (.map #[] 0)).alloc (.cells #[.map (some (w.heap.size + 1 + 1 + 1))] 77)).alloc (.cells #[.slice A0 l0.length c0, .slice A1 l1.length c1, .slice A2 l2.length c2, .int .i64 r] 27)).alloc (.cells #[.int .i64 a] 2)) := ((((((below_alloc (below_alloc (below_alloc (below_alloc (below_alloc (below_alloc (below_alloc (Below.refl _ _) _) _) _) _) _) _) _))))))
  obtain ⟨V, hV⟩ : ∃ V, (((((((w.alloc (.cells #[.slice A0 l0.length c0, .slice A1 l1.length c1, .slice A2 l2.length c2, .int .i64 r] 27)).alloc (.cells #[.int .i64 0] 2)).alloc (.cells #[.bool false] 4)).alloc (.map #[] 0)).alloc (.cells #[.map (some (w.heap.size + 1 + 1 + 1))] 77)).alloc (.cells #[.slice A0 l0.length c0, .slice A1 l1.length c1, .slice A2 l2.length c2, .int .i64 r] 27)).alloc (.cells #[.int .i64 a] 2)) = V := ⟨_, rfl⟩
  rw [hV] at hal hbV ⊢
  clear hV
  obtain ⟨hs, hg0, hg1, hg2, hg3, hg4, hg5, hg6⟩ := hal
  have hset0 : SetAt V (w.heap.size + 1 + 1 + 1) 0 (fun _ => false) := SetAt.of_new hg3
  have HS := Aside0.mk hs
  refine rangeT hro (by decide) (gf := 68) (lb := #[.pointer (some ⟨w.heap.size + 1 + 1 + 1 + 1 + 1 + 1, 0, none⟩), .pointer (some ⟨w.heap.size + 1 + 1 + 1 + 1 + 1, 0, none⟩)]) rfl trivial (enters_of Try.func68 (by kernel_rfl) rfl) (xs := ancS l0 a) (T := fun k => k = w.heap.size + 1 + 1 + 1) rfl (fun k hk => by omega)
    (fun W1 hs1 hb1 => f68_in Fence.wide 2 trivial hro (by decide) _ _ A0 c0 l0 A1 c1 l1 A2 c2 l2 r a ha HWF.out hn0 _ W1 ((hb1.block _ (by omega)).trans hg6) ((hb1.block _ (by omega)).trans hg5) (fun k => k < w.heap.size) (Kd.F_mono (Kd.F_below HF.out (hbV.trans (hb1.mono (by omega)))) (fun k hk => hk.2)) (by omega) (by omega) (fun k hk => by omega) (fun k hk => by omega))
    (fun pre W => W.heap[w.heap.size + 1 + 1 + 1 + 1]? = some (.cells #[.map (some (w.heap.size + 1 + 1 + 1))] 77 (0, 0)) ∧ SetAt W (w.heap.size + 1 + 1 + 1) pre.length (fun y => pre.contains y) ∧ W.heap[w.heap.size]? = some (.cells #[.slice A0 l0.length c0, .slice A1 l1.length c1, .slice A2 l2.length c2, .int .i64 r] 27 (0, 0)) ∧ W.heap[w.heap.size + 1]? = some (.cells #[.int .i64 0] 2 (0, 0)) ∧ W.heap[w.heap.size + 1 + 1]? = some (.cells #[.bool false] 4 (0, 0)) ∧ Below w.heap.size w W)
    (fun _ _ => False)
    (fun s A B hI hb => ⟨(hb.block _ (by omega)).trans hI.1, hI.2.1.of_heap (hb.block _ (by omega)), (hb.block _ (by omega)).trans hI.2.2.1, (hb.block _ (by omega)).trans hI.2.2.2.1, (hb.block _ (by omega)).trans hI.2.2.2.2.1, hI.2.2.2.2.2.trans (hb.mono (by omega))⟩)
    (fun _ _ _ h _ => h)
    ⟨hg4, hset0, hg0, hg1, hg2, hbV⟩
    (fun x => { tmps := #[.agg #[.slice A0 l0.length c0, .slice A1 l1.length c1, .slice A2 l2.length c2, .int .i64 r], .int .i64 a, .int .i64 b, .pointer (some ⟨w.heap.size, 0, none⟩), undef, undef, .pointer (some ⟨w.heap.size + 1, 0, none⟩), .pointer (some ⟨w.heap.size + 1 + 1, 0, none⟩), .pointer (some ⟨w.heap.size + 1 + 1 + 1 + 1, 0, none⟩), .int .i64 x, undef, .map (some (w.heap.size + 1 + 1 + 1)), .agg #[.slice A0 l0.length c0, .slice A1 l1.length c1, .slice A2 l2.length c2, .int .i64 r], .int .i64 a, .func (.func 68) #[] #[.pointer (some ⟨w.heap.size + 1 + 1 + 1 + 1 + 1 + 1, 0, none⟩), .pointer (some ⟨w.heap.size + 1 + 1 + 1 + 1 + 1, 0, none⟩)], .int .i64 x, undef, undef, undef, undef, undef, undef, undef, undef, undef, undef], defers := [] }) ?assign ?body ?done ?stop
  case assign =>
    intro l x W K hK
    gi_wp2
    exact hK
  case body =>
    rintro l pre x rest W hx ⟨i1, i2, i3, i4, i5, i6⟩ hsz
    have hwx := ancL_wf HWF.out l0.length _ (Nat.le_refl _) x (by have : ancS l0 a = ancL l0 l0.length (fun y => y == a) := rfl; rw [← this, hx]; simp)
    have hplen : pre.length < maxLen := by
      have h1 := congrArg List.length hx
      have h2 := ancL_len l0 l0.length (fun y => y == a)
      have : ancS l0 a = ancL l0 l0.length (fun y => y == a) := rfl
      rw [this, List.length_append, List.length_cons] at h1
      unfold maxLen; omega
    obtain ⟨W', hput, hset, hgr⟩ := i2.put hplen x hwx
    obtain ⟨b1, b2⟩ := blk1 i1
    have HSET := Aside0.mk hset
    clear hset
    gi_wp2
    have hl1 := blk_lt i1
    refine ⟨(KeptX.refl _ W).grown hgr (fun k e => by cases e; rfl), (hgr.block _ hl1 (by simp)).trans i1, ?_, (hgr.block _ (by omega) (by simp; omega)).trans i3, (hgr.block _ (by omega) (by simp)).trans i4, (hgr.block _ (by omega) (by simp)).trans i5, i6.grown hgr (by omega) (fun k e => by cases e; omega)⟩
    rw [List.length_append]
    exact HSET.out.congr (fun y => by rw [Bool.eq_iff_iff]; simp [or_comm])
  case done =>
    rintro W ⟨i1, i2, i3, i4, i5, i6⟩ hD
    have hl1 := blk_lt hD
    obtain ⟨⟨a0, a1, a2, a3⟩, p0, p1, p2, p3⟩ := blk4 i3
    gi_wp2_with (refine ⟨trivial, ?_⟩; gi_at_call 46; refine (f46_in Fence.wide _ trivial hro A0 c0 l0 A1 c1 l1 A2 c2 l2 r _ _).mono ?_; rintro e w' ⟨rfl, rfl⟩)
    have hb5 : Below w.heap.size w ((W.alloc (.cells #[.slice A0 l0.length c0, .slice A1 l1.length c1, .slice A2 l2.length c2, .int .i64 r] 27)).alloc (.cells #[.int .i64 b] 2)) := (i6.alloc (by omega) _).alloc (by simp; omega) _
    have hal2 := alloc2 W (.cells #[.slice A0 l0.length c0, .slice A1 l1.length c1, .slice A2 l2.length c2, .int .i64 r] 27) (.cells #[.int .i64 b] 2)
    have j1 := blk_alloc (blk_alloc i1 (.cells #[.slice A0 l0.length c0, .slice A1 l1.length c1, .slice A2 l2.length c2, .int .i64 r] 27)) (.cells #[.int .i64 b] 2)
    have j2 : SetAt ((W.alloc (.cells #[.slice A0 l0.length c0, .slice A1 l1.length c1, .slice A2 l2.length c2, .int .i64 r] 27)).alloc (.cells #[.int .i64 b] 2)) (w.heap.size + 1 + 1 + 1) (ancS l0 a).length (fun y => (ancS l0 a).contains y) := i2.of_heap (blk_alloc (blk_alloc (Array.getElem?_eq_getElem i2.lt) _) _ |>.trans (Array.getElem?_eq_getElem i2.lt).symm)
    have j4 := blk_alloc (blk_alloc i4 (.cells #[.slice A0 l0.length c0, .slice A1 l1.length c1, .slice A2 l2.length c2, .int .i64 r] 27)) (.cells #[.int .i64 b] 2)
    have j5 := blk_alloc (blk_alloc i5 (.cells #[.slice A0 l0.length c0, .slice A1 l1.length c1, .slice A2 l2.length c2, .int .i64 r] 27)) (.cells #[.int .i64 b] 2)
    have jD := blk_alloc (blk_alloc hD (.cells #[.slice A0 l0.length c0, .slice A1 l1.length c1, .slice A2 l2.length c2, .int .i64 r] 27)) (.cells #[.int .i64 b] 2)
    rw [hs] at jD hl1
    obtain ⟨V2, hV2⟩ : ∃ V2, ((W.alloc (.cells #[.slice A0 l0.length c0, .slice A1 l1.length c1, .slice A2 l2.length c2, .int .i64 r] 27)).alloc (.cells #[.int .i64 b] 2)) = V2 := ⟨_, rfl⟩
    have hs2 : V2.heap.size = W.heap.size + 2 := by rw [← hV2]; simp
    rw [hV2] at hb5 hal2 j1 j2 j4 j5 jD ⊢
    clear hV2 a0 a1 a2 a3 p0 p1 p2 p3
    refine rangeT hro (by decide) (gf := 68) (lb := #[.pointer (some ⟨W.heap.size + 1, 0, none⟩), .pointer (some ⟨W.heap.size, 0, none⟩)]) rfl trivial (enters_of Try.func68 (by kernel_rfl) rfl) (xs := ancS l0 b) (T := fun k => k = w.heap.size + 1 ∨ k = w.heap.size + 1 + 1) rfl (fun k hk => by omega)
      (fun W1 hs1 hb1 => f68_in Fence.wide 2 trivial hro (by decide) _ _ A0 c0 l0 A1 c1 l1 A2 c2 l2 r b hb HWF.out hn0 _ W1 ((hb1.block _ (by omega)).trans hal2.2) ((hb1.block _ (by omega)).trans hal2.1) (fun k => k < w.heap.size) (Kd.F_mono (Kd.F_below HF.out (hb5.trans (hb1.mono (by omega)))) (fun k hk => hk.2)) (by omega) (by omega) (fun k hk => by omega) (fun k hk => by omega))
      (fun pre W' => W'.heap[w.heap.size + 1 + 1 + 1 + 1]? = some (.cells #[.map (some (w.heap.size + 1 + 1 + 1))] 77 (0, 0)) ∧ SetAt W' (w.heap.size + 1 + 1 + 1) (ancS l0 a).length (fun y => (ancS l0 a).contains y) ∧ W'.heap[w.heap.size + 1]? = some (.cells #[.int .i64 0] 2 (0, 0)) ∧ W'.heap[w.heap.size + 1 + 1]? = some (.cells #[.bool false] 4 (0, 0)) ∧ W'.heap[w.heap.size + 7]? = some (.deferred (some [])) ∧ (∀ y ∈ pre, (ancS l0 a).contains y = false) ∧ Below w.heap.size w W')
      (fun pre W' => ∃ x, mbS l0 a b = (x, true) ∧ W'.heap[w.heap.size + 1]? = some (.cells #[.int .i64 x] 2 (0, 0)) ∧ W'.heap[w.heap.size + 1 + 1]? = some (.cells #[.bool true] 4 (0, 0)) ∧ W'.heap[w.heap.size + 7]? = some (.deferred (some [])) ∧ Below w.heap.size w W')
      (fun s A B hI hb_ => ⟨(hb_.block _ (by omega)).trans hI.1, hI.2.1.of_heap (hb_.block _ (by omega)), (hb_.block _ (by omega)).trans hI.2.2.1, (hb_.block _ (by omega)).trans hI.2.2.2.1, (hb_.block _ (by omega)).trans hI.2.2.2.2.1, hI.2.2.2.2.2.1, hI.2.2.2.2.2.2.trans (hb_.mono (by omega))⟩)
      (fun s A B hI hb_ => by obtain ⟨x, h1, h2, h3, h4, h5⟩ := hI; exact ⟨x, h1, (hb_.block _ (by omega)).trans h2, (hb_.block _ (by omega)).trans h3, (hb_.block _ (by omega)).trans h4, h5.trans (hb_.mono (by omega))⟩)
      ⟨j1, j2, j4, j5, jD, by simp, hb5⟩
      (fun x => { tmps := #[.agg #[.slice A0 l0.length c0, .slice A1 l1.length c1, .slice A2 l2.length c2, .int .i64 r], .int .i64 a, .int .i64 b, .pointer (some ⟨w.heap.size, 0, none⟩), undef, undef, .pointer (some ⟨w.heap.size + 1, 0, none⟩), .pointer (some ⟨w.heap.size + 1 + 1, 0, none⟩), .pointer (some ⟨w.heap.size + 1 + 1 + 1 + 1, 0, none⟩), undef, .int .i64 x, .map (some (w.heap.size + 1 + 1 + 1)), .agg #[.slice A0 l0.length c0, .slice A1 l1.length c1, .slice A2 l2.length c2, .int .i64 r], .int .i64 a, .func (.func 68) #[] #[.pointer (some ⟨w.heap.size + 1 + 1 + 1 + 1 + 1 + 1, 0, none⟩), .pointer (some ⟨w.heap.size + 1 + 1 + 1 + 1 + 1, 0, none⟩)], undef, undef, undef, .agg #[.slice A0 l0.length c0, .slice A1 l1.length c1, .slice A2 l2.length c2, .int .i64 r], .int .i64 b, .func (.func 68) #[] #[.pointer (some ⟨W.heap.size + 1, 0, none⟩), .pointer (some ⟨W.heap.size, 0, none⟩)], .int .i64 x, undef, undef, undef, undef], defers := [] }) ?assign2 ?body2 ?done2 ?stop2
    case assign2 =>
      intro l x W K hK
      gi_wp2
      exact hK
    case body2 =>
      rintro l pre x rest W' hx ⟨m1, m2, m3, m4, m5, m6, m7⟩ hsz
      have hwx := ancL_wf HWF.out l0.length _ (Nat.le_refl _) x (by have : ancS l0 b = ancL l0 l0.length (fun y => y == b) := rfl; rw [← this, hx]; simp)
      have hlk := m2.look x hwx
      obtain ⟨b1, b2⟩ := blk1 m1
      obtain ⟨e1, e2⟩ := blk1 m3
      obtain ⟨g1, g2⟩ := blk1 m4
      cases hct : (ancS l0 a).contains x with
      | true =>
        rw [hct] at hlk
        have HM : Aside0 (mbS l0 a b = (x, true)) := ⟨by
          unfold mbS
          rw [hx, List.find?_append, List.find?_eq_none.2 (fun y hy => by rw [m6 y hy]; decide), List.find?_cons_of_pos hct]; rfl⟩
        have HC := Aside0.mk hct
        clear hct
        gi_wp2
        exact ⟨((KeptX.refl _ W').setCell (p := ⟨w.heap.size + 1, 0, none⟩) (.inl rfl) _).setCell (p := ⟨w.heap.size + 1 + 1, 0, none⟩) (.inr rfl) _, x, HM.out, blk_far (p := ⟨w.heap.size + 1 + 1, 0, none⟩) (blk_put m3 0 (.int .i64 x) rfl) (by simp) _, blk_put (blk_far (p := ⟨w.heap.size + 1, 0, none⟩) m4 (by simp) _) 0 (.bool true) rfl, (Below.heap_setCell _ ⟨w.heap.size + 1 + 1, 0, none⟩ _ _ (by simp)).trans ((Below.heap_setCell _ ⟨w.heap.size + 1, 0, none⟩ _ _ (by simp)).trans m5), (m7.setCell (p := ⟨w.heap.size + 1, 0, none⟩) (by simp) _).setCell (p := ⟨w.heap.size + 1 + 1, 0, none⟩) (by simp; omega) _⟩
      | false =>
        rw [hct] at hlk
        have HC := Aside0.mk hct
        clear hct
        gi_wp2
        exact ⟨KeptX.refl _ W', m1, m2, m3, m4, m5, fun y hy => by
          rcases List.mem_append.1 hy with h | h
          · exact m6 y h
          · rw [List.mem_singleton] at h; subst h; exact HC.out, m7⟩
    case done2 =>
      rintro W' ⟨m1, m2, m3, m4, m5, m6, m7⟩ hD2
      have HM : Aside0 (mbS l0 a b = (0, false)) := ⟨by unfold mbS; rw [List.find?_eq_none.2 (fun y hy => by rw [m6 y hy]; decide)]⟩
      obtain ⟨e1, e2⟩ := blk1 m3
      obtain ⟨g1, g2⟩ := blk1 m4
      gi_wp2
      have q2 : ((W'.setCell ⟨w.heap.size + 1, 0, none⟩ (.int .i64 0)).setCell ⟨w.heap.size + 1 + 1, 0, none⟩ (.bool false)).heap[V2.heap.size]? = some (.deferred (some [])) := (Below.heap_setCell _ ⟨w.heap.size + 1 + 1, 0, none⟩ _ _ (by first | (simp; done) | (simp; omega))).trans ((Below.heap_setCell _ ⟨w.heap.size + 1, 0, none⟩ _ _ (by first | (simp; done) | (simp; omega))).trans hD2)
      have q1 : ((W'.setCell ⟨w.heap.size + 1, 0, none⟩ (.int .i64 0)).setCell ⟨w.heap.size + 1 + 1, 0, none⟩ (.bool false)).heap[w.heap.size + 7]? = some (.deferred (some [])) := (Below.heap_setCell _ ⟨w.heap.size + 1 + 1, 0, none⟩ _ _ (by first | (simp; done) | (simp; omega))).trans ((Below.heap_setCell _ ⟨w.heap.size + 1, 0, none⟩ _ _ (by first | (simp; done) | (simp; omega))).trans m5)
      have q3 : (((W'.setCell ⟨w.heap.size + 1, 0, none⟩ (.int .i64 0)).setCell ⟨w.heap.size + 1 + 1, 0, none⟩ (.bool false)).putObj V2.heap.size (.deferred none)).heap[w.heap.size + 7]? = some (.deferred (some [])) := (World.putObj_heap_other (by omega)).trans q1
      have q4 : ((((W'.setCell ⟨w.heap.size + 1, 0, none⟩ (.int .i64 0)).setCell ⟨w.heap.size + 1 + 1, 0, none⟩ (.bool false)).putObj V2.heap.size (.deferred none)).putObj (w.heap.size + 7) (.deferred none)).heap[w.heap.size + 1]? = some (.cells #[.int .i64 0] 2 (0, 0)) := (World.putObj_heap_other (by omega)).trans ((World.putObj_heap_other (by omega)).trans (blk_far (p := ⟨w.heap.size + 1 + 1, 0, none⟩) (blk_put m3 0 (.int .i64 0) rfl) (by simp) _))
      have q5 : ((((W'.setCell ⟨w.heap.size + 1, 0, none⟩ (.int .i64 0)).setCell ⟨w.heap.size + 1 + 1, 0, none⟩ (.bool false)).putObj V2.heap.size (.deferred none)).putObj (w.heap.size + 7) (.deferred none)).heap[w.heap.size + 1 + 1]? = some (.cells #[.bool false] 4 (0, 0)) := (World.putObj_heap_other (by omega)).trans ((World.putObj_heap_other (by omega)).trans (blk_put (blk_far (p := ⟨w.heap.size + 1, 0, none⟩) m4 (by simp) _) 0 (.bool false) rfl))
      have q6 : Below w.heap.size w ((((W'.setCell ⟨w.heap.size + 1, 0, none⟩ (.int .i64 0)).setCell ⟨w.heap.size + 1 + 1, 0, none⟩ (.bool false)).putObj V2.heap.size (.deferred none)).putObj (w.heap.size + 7) (.deferred none)) := by
        have s1 := blk_lt q1
        refine below_putObj (below_putObj ((m7.setCell (p := ⟨w.heap.size + 1, 0, none⟩) (by simp) _).setCell (p := ⟨w.heap.size + 1 + 1, 0, none⟩) (by simp; omega) _) (by omega) (by omega) _) ?_ (by omega) _
        have s2 := blk_lt q3
        omega
      have c1 := (blk1 q4).1
      have c2 := (blk1 q5).1
      refine ⟨by simp, .inl ⟨_, _, rfl, run_takeDeferred q2, ⟨by simp, .inl ⟨_, _, rfl, run_takeDeferred q3, ?_⟩⟩⟩⟩
      exact ⟨.tuple #[.int .i64 0, .bool false], by simp [results, Try.results19, go_sem, c1, c2], by rw [HM.out], q6⟩
    case stop2 =>
      rintro pre W' _ ⟨x, h1, h2, h3, h4, h5⟩ hD2
      obtain ⟨e1, e2⟩ := blk1 h2
      obtain ⟨g1, g2⟩ := blk1 h3
      gi_wp2
      have q2 : W'.heap[V2.heap.size]? = some (.deferred (some [])) := hD2
      have q1 : W'.heap[w.heap.size + 7]? = some (.deferred (some [])) := h4
      have q3 : (W'.putObj V2.heap.size (.deferred none)).heap[w.heap.size + 7]? = some (.deferred (some [])) := (World.putObj_heap_other (by omega)).trans q1
      have q4 : ((W'.putObj V2.heap.size (.deferred none)).putObj (w.heap.size + 7) (.deferred none)).heap[w.heap.size + 1]? = some (.cells #[.int .i64 x] 2 (0, 0)) := (World.putObj_heap_other (by omega)).trans ((World.putObj_heap_other (by omega)).trans h2)
      have q5 : ((W'.putObj V2.heap.size (.deferred none)).putObj (w.heap.size + 7) (.deferred none)).heap[w.heap.size + 1 + 1]? = some (.cells #[.bool true] 4 (0, 0)) := (World.putObj_heap_other (by omega)).trans ((World.putObj_heap_other (by omega)).trans h3)
      have q6 : Below w.heap.size w ((W'.putObj V2.heap.size (.deferred none)).putObj (w.heap.size + 7) (.deferred none)) := by
        have s1 := blk_lt q1
        refine below_putObj (below_putObj h5 (by omega) (by omega) _) ?_ (by omega) _
        have s2 := blk_lt q3
        omega
      have c1 := (blk1 q4).1
      have c2 := (blk1 q5).1
      refine ⟨by simp, .inl ⟨_, _, rfl, run_takeDeferred q2, ⟨by simp, .inl ⟨_, _, rfl, run_takeDeferred q3, ?_⟩⟩⟩⟩
      exact ⟨.tuple #[.int .i64 x, .bool true], by simp [results, Try.results19, go_sem, c1, c2], by rw [h1], q6⟩
  case stop =>
    rintro pre W _ h _
    exact h.elim
end Go.Proofs.Ytjeoabjccbinhaa.P
