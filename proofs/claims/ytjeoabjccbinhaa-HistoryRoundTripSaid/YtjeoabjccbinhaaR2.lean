/- The ancestors of a commit, as an iterator. Conditions: the hypotheses that stand at each theorem. -/
import Derived.Test.YtjeoabjccbinhaaR1
namespace Go.Proofs.Ytjeoabjccbinhaa.P
open Go.RowKit Go.Shelf Go.Proofs.YtjeoabjccbinhaaW.PrintWords Go.Proofs.YtjeoabjccbinhaaW.PrintLast Go.Proofs.YtjeoabjccbinhaaW.PrintMore
set_option linter.unusedVariables false
set_option linter.unusedSimpArgs false
attribute [local go_sem] Oper.semAt_some
theorem f46_in (F : Fence) (n : Nat) (h46 : F.fn 46) (hro : F.round = none) (A0 : Option Addr) (c0 : Nat) (l0 : List S41) (A1 : Option Addr) (c1 : Nat) (l1 : List S86) (A2 : Option Addr) (c2 : Nat) (l2 : List S86) (r : Int) (id : Int) (w : World) :
    CallsIn F n Try.prog 46 #[.agg #[.slice A0 l0.length c0, .slice A1 l1.length c1, .slice A2 l2.length c2, .int .i64 r], .int .i64 id] w fun e w' => e = .returned (.func (.func 68) #[] #[.pointer (some ⟨w.heap.size + 1, 0, none⟩), .pointer (some ⟨w.heap.size, 0, none⟩)]) ∧ w' = (w.alloc (.cells #[.slice A0 l0.length c0, .slice A1 l1.length c1, .slice A2 l2.length c2, .int .i64 r] 27)).alloc (.cells #[.int .i64 id] 2) := by
  refine callsIn_of_wp Try.func46 rfl h46 ?_ hro
  simp only [Try.ntmps46, List.size_toArray, List.length_cons, List.length_nil, Nat.reduceAdd, Nat.reduceSub, Array.replicate_succ, Array.replicate_zero, List.push_toArray, List.append_toArray, List.nil_append, List.cons_append]
  gi_wp2
  go_ret
  exact ⟨rfl, rfl⟩
/-- All numbers of a history's commits fit. -/
def WfI (l : List S41) : Prop := ∀ i : Nat, i < l.length → (Lit.int .i64 (rd_T41 l i).f0).wf = true ∧ (Lit.int .i64 (rd_T41 l i).f1).wf = true ∧ (Lit.int .i64 (rd_T41 l i).f2).wf = true
set_option maxHeartbeats 4000000 in
set_option maxRecDepth 100000 in
theorem f68_in (F : Fence) (n : Nat) (h68 : F.fn 68) (hro : F.round = none) (hn1 : 1 ≤ n) (bi bh : Nat) (A0 : Option Addr) (c0 : Nat) (l0 : List S41) (A1 : Option Addr) (c1 : Nat) (l1 : List S86) (A2 : Option Addr) (c2 : Nat) (l2 : List S86) (r : Int) (id : Int) (hid : (Lit.int .i64 id).wf = true) (hwf : WfI l0) (hn0 : l0.length ≤ 1000) (T : Nat → Prop) (W0 : World)
    (hbi : W0.heap[bi]? = some (.cells #[.int .i64 id] 2 (0, 0))) (hbh : W0.heap[bh]? = some (.cells #[.slice A0 l0.length c0, .slice A1 l1.length c1, .slice A2 l2.length c2, .int .i64 r] 27 (0, 0))) (ok : Nat → Prop) (hF : Kd.F k41 W0 ok A0 l0.length l0)
    (hTi : ¬ T bi) (hTh : ¬ T bh) (hTo : ∀ k, ok k → ¬ T k) (hTn : ∀ k, T k → k < W0.heap.size) :
    SeqT F n Try.prog 68 #[.pointer (some ⟨bi, 0, none⟩), .pointer (some ⟨bh, 0, none⟩)] (ancS l0 id) T W0 := by
  intro l J Jx hJ hJx hY h0
  have hi0 : W0.cell? ⟨bi, 0, none⟩ = some (.int .i64 id) := (blk_cell hbi 0).trans rfl
  have hlh := blk_lt hbh
  have hli := blk_lt hbi
  obtain ⟨⟨a0, a1, a2, a3⟩, p0, p1, p2, p3⟩ := blk4 hbh
  have hmm := @run_makeMap Try.prog
  obtain ⟨w1, hput, hset, hgr⟩ := (SetAt.made W0).put (by unfold maxLen; omega) id hid
  have hB1 : Below W0.heap.size W0 w1 := ((Below.refl _ W0).alloc (Nat.le_refl _) _).grown hgr (by simp) (fun k e => by cases e; exact Nat.le_refl _)
  have HSET := Aside0.mk hset
  have HB1 := Aside0.mk hB1
  have HBH : Aside0 (w1.heap[bh]? = some (.cells #[.slice A0 l0.length c0, .slice A1 l1.length c1, .slice A2 l2.length c2, .int .i64 r] 27 (0, 0))) := ⟨(hB1.block _ hlh).trans hbh⟩
  have HF1 : Aside0 (Kd.F k41 w1 (fun k_ => ok k_ ∧ k_ < W0.heap.size) A0 l0.length l0) := ⟨Kd.F_below (Kd.F_bound hF) hB1⟩
  have HJ1 : Aside0 (J [] w1) := ⟨hJ _ _ _ h0 hB1⟩
  have HWF := Aside0.mk hwf
  have HJ := Aside0.mk hJ
  have HJx := Aside0.mk hJx
  have HY := Aside0.mk hY
  have HTo := Aside0.mk hTo
  have HTn := Aside0.mk hTn
  have HTh := Aside0.mk hTh
  obtain ⟨⟨b0, b1, b2, b3⟩, q0, q1, q2, q3⟩ := blk4 HBH.out
  clear hgr hset hB1 hbi hbh hF hTi hTh hTo hTn hJ hJx hY h0 hwf a0 a1 a2 a3 p0 p1 p2 p3
  refine callsIn_of_wp Try.func68 rfl h68 ?_ hro
  simp only [Try.ntmps68, List.size_toArray, List.length_cons, List.length_nil, Nat.reduceAdd, Nat.reduceSub, Array.replicate_succ, Array.replicate_zero, List.push_toArray, List.append_toArray, List.nil_append, List.cons_append]
  gi_wp2
  gi_loopw [5] (fun v5 wr => ∃ (k : Nat) (pre : List Int) (S : Int → Bool) (m : Nat), v5 = .int .i64 ((k : Int) - 1) ∧ k ≤ l0.length ∧ m + 2 * k ≤ 2 * l0.length + 1 ∧ Aside0 (ancS l0 id = pre ++ ancL l0 k S) ∧ Aside0 (J pre wr) ∧ Aside0 (SetAt wr W0.heap.size m S) ∧ Aside0 (wr.heap[bh]? = some (.cells #[.slice A0 l0.length c0, .slice A1 l1.length c1, .slice A2 l2.length c2, .int .i64 r] 27 (0, 0))) ∧ Aside0 (Kd.F k41 wr (fun k_ => ok k_ ∧ k_ < W0.heap.size) A0 l0.length l0)) (fun v5 _ => (intOf v5 + 1).toNat)
  case atStart => exact ⟨l0.length, [], _, 1, rfl, Nat.le_refl _, by omega, ⟨rfl⟩, HJ1, ⟨HSET.out.congr (fun x => by simp)⟩, HBH, HF1⟩
  case round =>
    clear b0 b1 b2 b3 q0 q1 q2 q3
    obtain ⟨k, pre, S, m, rfl, hk, hm, HX, HJr, HS, HBr, HFr⟩ := hrel
    obtain ⟨⟨b0, b1, b2, b3⟩, q0, q1, q2, q3⟩ := blk4 HBr.out
    have hbs : W0.heap.size < wr.heap.size := HS.out.lt
    cases k with
    | zero =>
      have hz : decide ((0 : Int) ≤ ((0 : Nat) : Int) - 1) = false := by decide
      gi_wp2
      go_end0
      exact ⟨⟨_, rfl⟩, .inl (by rw [HX.out, ancL, List.append_nil]; exact HJr.out)⟩
    | succ k =>
      have hki : (((k + 1 : Nat) : Int) - 1) = (k : Int) := by omega
      rw [hki]
      obtain ⟨ad, rfl, hx0, hx1, hx2, hx3⟩ := at_T41 (Kd.F_now HFr.out) (k : Int) (by omega) (by omega)
      rw [Int.toNat_natCast] at hx0 hx1 hx2 hx3
      have hbl : (ad.add (k * 4)).block < wr.heap.size := World.block_lt_of_cell? wr _ hx0
      obtain ⟨hw0, hw1, hw2⟩ := HWF.out k (by omega)
      have hbx := heap_alloc_new wr (.cells #[.int .i64 (rd_T41 l0 k).f0, .int .i64 (rd_T41 l0 k).f1, .int .i64 (rd_T41 l0 k).f2, .int .i64 (rd_T41 l0 k).f3] 41)
      have HBX := Aside0.mk hbx
      have HSa : Aside0 (SetAt (wr.alloc (.cells #[.int .i64 (rd_T41 l0 k).f0, .int .i64 (rd_T41 l0 k).f1, .int .i64 (rd_T41 l0 k).f2, .int .i64 (rd_T41 l0 k).f3] 41)) W0.heap.size m S) := ⟨HS.out.of_heap (Below.heap_alloc _ _ _ hbs)⟩
      have hlk := HSa.out.look (rd_T41 l0 k).f0 hw0
      have HJa : Aside0 (J pre (wr.alloc (.cells #[.int .i64 (rd_T41 l0 k).f0, .int .i64 (rd_T41 l0 k).f1, .int .i64 (rd_T41 l0 k).f2, .int .i64 (rd_T41 l0 k).f3] 41))) := ⟨HJ.out _ _ _ HJr.out ((Below.refl _ wr).alloc (by omega) _)⟩
      cases hS : S (rd_T41 l0 k).f0 with
      | false =>
        rw [hS] at hlk
        have HX2 : Aside0 (ancS l0 id = pre ++ ancL l0 k S) := ⟨by rw [HX.out, ancL, if_neg (by rw [hS]; decide)]⟩
        clear hS hbx hki hw0 hw1 hw2
        gi_wp2
        go_roundw
        case rel => exact ⟨k, pre, S, m, rfl, by omega, by omega, HX2, HJa, HSa, ⟨blk_alloc HBr.out _⟩, ⟨Kd.F_alloc HFr.out _⟩⟩
        case measure => simp [intOf]
      | true =>
        rw [hS] at hlk
        have HX2 : Aside0 (ancS l0 id = pre ++ (rd_T41 l0 k).f0 :: ancL l0 k (fun y => y == (rd_T41 l0 k).f2 || (y == (rd_T41 l0 k).f1 || S y))) := ⟨by rw [HX.out, ancL, if_pos hS]⟩
        clear hS hbx hki hw0 hw1 hw2
        obtain ⟨fn, tmps, assign, body, hy, hR⟩ := HY.out pre _ _ _ HX2.out HJa.out
        gi_wp2
        refine hR.mono ?_
        rintro e W3 (⟨rfl, hJ3, hk3⟩ | ⟨rfl, hJx3⟩)
        · have hsz3 : wr.heap.size + 1 ≤ W3.heap.size := by have := hk3.1; simpa using this
          have hnT : ∀ k_, W0.heap.size ≤ k_ → ¬ T k_ := fun k_ h_ ht => by have := HTn.out k_ ht; omega
          have HBX3 : Aside0 (W3.heap[wr.heap.size]? = some (.cells #[.int .i64 (rd_T41 l0 k).f0, .int .i64 (rd_T41 l0 k).f1, .int .i64 (rd_T41 l0 k).f2, .int .i64 (rd_T41 l0 k).f3] 41 (0, 0))) := ⟨(hk3.2 _ (by simp) (hnT _ (by omega))).trans HBX.out⟩
          have HBr3 : Aside0 (W3.heap[bh]? = some (.cells #[.slice (some ad) l0.length c0, .slice A1 l1.length c1, .slice A2 l2.length c2, .int .i64 r] 27 (0, 0))) := ⟨(hk3.2 _ (by simp; omega) HTh.out).trans (blk_alloc HBr.out _)⟩
          have HFr3 : Aside0 (Kd.F k41 W3 (fun k_ => ok k_ ∧ k_ < W0.heap.size) (some ad) l0.length l0) := ⟨Kd.F_step (Kd.F_alloc HFr.out _) (fun k_ ho_ hl_ => hk3.2 _ hl_ (HTo.out k_ ho_.1))⟩
          have HS3 : Aside0 (SetAt W3 W0.heap.size m S) := ⟨HSa.out.of_heap (hk3.2 _ (by simp; omega) (hnT _ (Nat.le_refl _)))⟩
          have HJ3 := Aside0.mk hJ3
          obtain ⟨hw0, hw1, hw2⟩ := HWF.out k (by omega)
          obtain ⟨U1, e1, s1, g1⟩ := (show SetAt W3.drew W0.heap.size m S from HS3.out).put (by unfold maxLen; omega) (rd_T41 l0 k).f1 hw1
          obtain ⟨U12, e12, s12, g12⟩ := s1.put (by unfold maxLen; omega) (rd_T41 l0 k).f2 hw2
          obtain ⟨U2, e2, s2, g2⟩ := (show SetAt W3.drew W0.heap.size m S from HS3.out).put (by unfold maxLen; omega) (rd_T41 l0 k).f2 hw2
          obtain ⟨U21, e21, s21, g21⟩ := s2.put (by unfold maxLen; omega) (rd_T41 l0 k).f1 hw1
          have k1 : U1.heap[wr.heap.size]? = _ := (g1.block _ (by show wr.heap.size < W3.heap.size; omega) (by simp; omega)).trans HBX3.out
          have k2 : U2.heap[wr.heap.size]? = _ := (g2.block _ (by show wr.heap.size < W3.heap.size; omega) (by simp; omega)).trans HBX3.out
          obtain ⟨⟨x0, x1, x2, x3⟩, y0, y1, y2, y3⟩ := blk4 HBX3.out
          obtain ⟨⟨x4, x5, x6, x7⟩, y4, y5, y6, y7⟩ := blk4 k1
          obtain ⟨⟨x8, x9, x10, x11⟩, y8, y9, y10, y11⟩ := blk4 k2
          have HS12 := Aside0.mk s12
          have HS21 := Aside0.mk s21
          have HG12 := Aside0.mk ((((Below.refl W0.heap.size W3).drew).grown g1 (show W0.heap.size ≤ W3.heap.size by omega) (fun k_ e => by cases e; exact Nat.le_refl _)).grown g12 (by have := g1.size; simp at this; omega) (fun k_ e => by cases e; exact Nat.le_refl _))
          have HG21 := Aside0.mk ((((Below.refl W0.heap.size W3).drew).grown g2 (show W0.heap.size ≤ W3.heap.size by omega) (fun k_ e => by cases e; exact Nat.le_refl _)).grown g21 (by have := g2.size; simp at this; omega) (fun k_ e => by cases e; exact Nat.le_refl _))
          clear s1 s2 s12 s21 g1 g2 g12 g21 k1 k2 hk3 hJ3 hw0 hw1 hw2 hlk hx0 hx1 hx2 hx3 b0 b1 b2 b3 q0 q1 q2 q3 hnT
          gi_wp2
          gi_region
          all_goals
            gi_wp2
            go_roundw
            case rel => first
              | exact ⟨k, pre ++ [(rd_T41 l0 k).f0], _, m + 1 + 1, rfl, by omega, by omega, ⟨by rw [HX2.out, List.append_assoc]; rfl⟩, ⟨HJ.out _ _ _ HJ3.out HG12.out⟩, HS12, ⟨(HG12.out.block _ hlh).trans HBr3.out⟩, ⟨Kd.F_step HFr3.out (fun k_ ho_ _ => HG12.out.block _ ho_.2)⟩⟩
              | exact ⟨k, pre ++ [(rd_T41 l0 k).f0], _, m + 1 + 1, rfl, by omega, by omega, ⟨by rw [HX2.out, List.append_assoc]; rfl⟩, ⟨HJ.out _ _ _ HJ3.out HG21.out⟩, ⟨HS21.out.congr (fun y => by cases h1_ : y == (rd_T41 l0 k).f1 <;> cases h2_ : y == (rd_T41 l0 k).f2 <;> simp)⟩, ⟨(HG21.out.block _ hlh).trans HBr3.out⟩, ⟨Kd.F_step HFr3.out (fun k_ ho_ _ => HG21.out.block _ ho_.2)⟩⟩
            case measure => simp [intOf]
        · gi_wp2
          refine bodyPost_ret (results_none rfl _ _ _) rfl ?_
          exact ⟨⟨_, rfl⟩, .inr ⟨pre ++ [(rd_T41 l0 k).f0], ⟨ancL l0 k (fun y => y == (rd_T41 l0 k).f2 || (y == (rd_T41 l0 k).f1 || S y)), by rw [HX2.out]; simp⟩, hJx3⟩⟩
end Go.Proofs.Ytjeoabjccbinhaa.P
