/- history.Replay. Conditions: the hypotheses that stand at each theorem. -/
import Derived.Test.YtjeoabjccbinhaaH16
namespace Go.Proofs.Ytjeoabjccbinhaa.P
open Go.RowKit Go.Proofs.YtjeoabjccbinhaaW.PrintWords Go.Proofs.YtjeoabjccbinhaaW.PrintLast Go.Proofs.YtjeoabjccbinhaaW.PrintMore
set_option linter.unusedVariables false
set_option linter.unusedSimpArgs false
set_option maxHeartbeats 8000000 in
set_option maxRecDepth 100000 in
theorem f13_calls (A : Option Addr) (c : Nat) (l : List S32) (w : World) (hr : Kd.C k32 w A l.length l) (hc : l.length ≤ c) (hn : l.length ≤ 100000) (P : Nat → S27 → Prop) (hp0 : P 0 eS27) (hpS : ∀ i h (hi : i < l.length), P i h → (applyE h l[i]).2 = 0 → P (i + 1) (applyE h l[i]).1) (hpO : ∀ i h, P i h → OkH h.f0 h.f1 h.f2) :
    Calls Try.prog 13 #[.slice A l.length c] w fun e w' => ∃ v0 v1 v2, e = .returned (.tuple #[.agg #[v0, v1, v2, .int .i64 (replayS eS27 l).1.f3], .int .i64 (replayS eS27 l).2]) ∧ HW w' (fun k => w.heap.size ≤ k) v0 v1 v2 (replayS eS27 l).1 ∧ Below w.heap.size w w' := by
  have HR := Aside0.mk hr
  have HPS := Aside0.mk hpS
  have HPO := Aside0.mk hpO
  have HP0 := Aside0.mk hp0
  have hal := alloc2 w (.cells #[.slice none 0 0, .slice none 0 0, .slice none 0 0, .int .i64 0] 27) (.cells #[.slice none 0 0, .slice none 0 0, .slice none 0 0, .int .i64 0] 27)
  have HAL := Aside0.mk hal
  have HB0 : Aside0 (Below w.heap.size w ((w.alloc (.cells #[.slice none 0 0, .slice none 0 0, .slice none 0 0, .int .i64 0] 27)).alloc (.cells #[.slice none 0 0, .slice none 0 0, .slice none 0 0, .int .i64 0] 27))) := ⟨((Below.refl w.heap.size w).alloc (Nat.le_refl _) (.cells #[.slice none 0 0, .slice none 0 0, .slice none 0 0, .int .i64 0] 27)).alloc (by simp) (.cells #[.slice none 0 0, .slice none 0 0, .slice none 0 0, .int .i64 0] 27)⟩
  clear hr hal hpS hpO hp0
  go_enter Try.func13, Try.ntmps13
  go_wp2
  go_loopg [10] l.length (fun kq v10 w' => ∃ (i : Nat) (h : S27) (v0 v1 v2 : Value), v10 = .int .i64 i ∧ i ≤ l.length ∧ Aside0 (kq + i = l.length) ∧ Aside0 (w'.heap[w.heap.size]? = some (.cells #[.slice none 0 0, .slice none 0 0, .slice none 0 0, .int .i64 0] 27 (0, 0))) ∧ Aside0 (w'.heap[w.heap.size + 1]? = some (.cells #[v0, v1, v2, .int .i64 h.f3] 27 (0, 0))) ∧ Aside0 (HW w' (fun k => w.heap.size + 1 < k) v0 v1 v2 h) ∧ Aside0 (P i h) ∧ Aside0 (replayS eS27 l = replayS h (l.drop i)) ∧ Aside0 (Below w.heap.size w w'))
  case atStart => exact ⟨0, eS27, .slice none 0 0, .slice none 0 0, .slice none 0 0, rfl, Nat.zero_le _, ⟨by omega⟩, ⟨HAL.out.1⟩, ⟨HAL.out.2⟩, ⟨HW.nil _ _⟩, HP0, ⟨rfl⟩, HB0⟩
  case round =>
    obtain ⟨i, h, v0, v1, v2, rfl, hi, HK, HZ, HH, HO, HP, HQ, HB⟩ := hrel
    obtain ⟨A0, c0, A1, c1, A2, c2, rfl, rfl, rfl, hV, hF⟩ := HW.open HO.out
    have HVx := Aside0.mk hV
    have HFx := Aside0.mk hF.bound
    have hzw := HB.out.size
    clear hV hF
    obtain ⟨⟨a0, a1, a2, a3⟩, p0, p1, p2, p3⟩ := blk4 HH.out
    obtain ⟨⟨u0, u1, u2, u3⟩, q0, q1, q2, q3⟩ := blk4 HZ.out
    by_cases hl : i < l.length
    · cases gk with
      | zero => exact absurd HK.out (by omega)
      | succ k1 =>
        have HOK := Aside0.mk (HPO.out i h HP.out)
        obtain ⟨ad, rfl, hx0, hx1, hx2, hx3, hx4, hx5⟩ := at_T32 HR.out (i : Int) (by omega) (by omega)
        rw [Int.toNat_natCast] at hx0 hx1 hx2 hx3 hx4 hx5
        replace hx0 := (HB.out.cell (World.block_lt_of_cell? w _ hx0)).trans hx0
        replace hx1 := (HB.out.cell (World.block_lt_of_cell? w _ hx1)).trans hx1
        replace hx2 := (HB.out.cell (World.block_lt_of_cell? w _ hx2)).trans hx2
        replace hx3 := (HB.out.cell (World.block_lt_of_cell? w _ hx3)).trans hx3
        replace hx4 := (HB.out.cell (World.block_lt_of_cell? w _ hx4)).trans hx4
        replace hx5 := (HB.out.cell (World.block_lt_of_cell? w _ hx5)).trans hx5
        have hzb := World.block_lt_of_cell? wr _ a0
        have hzb : w.heap.size + 1 < wr.heap.size := hzb
        have hbl : (ad.add (i * 6)).block < wr.heap.size := World.block_lt_of_cell? wr _ hx0
        obtain ⟨⟨hn_, er⟩, he⟩ : ∃ z, applyE h (rd_T32 l i) = z := ⟨_, rfl⟩
        have HE := Aside0.mk he
        clear he
        by_cases h0 : er = 0
        · subst h0
          have HBS : Aside0 (replayS eS27 l = replayS hn_ (l.drop (i + 1))) := ⟨by rw [HQ.out, List.drop_eq_getElem_cons hl, replayS, ← rd32_get l i hl, HE.out, if_pos rfl]⟩
          have HPP : Aside0 (P (i + 1) hn_) := ⟨by have h_ := HPS.out i h hl HP.out; rw [← rd32_get l i hl, HE.out] at h_; exact h_ rfl⟩
          go_wp2_with (go_at_call 10; refine (f10_E A0 c0 A1 c1 A2 c2 h (rd_T32 l i) hn_ 0 _ (HVx.out.below (by repeat (first | exact Below.refl _ _ | apply below_alloc | apply below_drew1 | apply pw_below_drewN))) HOK.out _ (HFx.out.below (by repeat (first | exact Below.refl _ _ | apply below_alloc | apply below_drew1 | apply pw_below_drewN))) HE.out).mono ?_; rintro e w2 ⟨v0, v1, v2, rfl, hw2, hb2⟩; have HN := Aside0.mk hw2.bound; have HBx : Aside0 (Below wr.heap.size wr w2) := ⟨Below.trans (by repeat (first | exact Below.refl _ _ | apply below_alloc | apply below_drew1 | apply pw_below_drewN)) (hb2.mono (by first | (simp; done) | (simp; omega)))⟩; have HB2 := Aside0.mk (HB.out.trans (HBx.out.mono HB.out.size)); have BZ2 := Aside0.mk ((HBx.out.block _ (by omega)).trans HZ.out); have BH2 := Aside0.mk ((HBx.out.block _ (by omega)).trans HH.out); have hz2 := HBx.out.size; clear a0 a1 a2 a3 p0 p1 p2 p3 u0 u1 u2 u3 q0 q1 q2 q3; obtain ⟨⟨a0, a1, a2, a3⟩, p0, p1, p2, p3⟩ := blk4 BH2.out; obtain ⟨⟨u0, u1, u2, u3⟩, q0, q1, q2, q3⟩ := blk4 BZ2.out; obtain ⟨⟨B0, d0, rfl, -, -⟩, ⟨B1, d1, rfl, -, -⟩, ⟨B2, d2, rfl, -, -⟩⟩ := hw2; have hq0 : w.heap.size < w2.heap.size := (by omega); have hq1 : w.heap.size + 1 < w2.heap.size := (by omega); clear hb2)
          go_roundg k1
          case measure => omega
          case rel => exact ⟨i + 1, hn_, _, _, _, int_eq (by omega), by omega, ⟨by have := HK.out; omega⟩, ⟨blk_far4 BZ2.out (by omega) _ _ _ _⟩, ⟨blk_set4 BH2.out⟩, ⟨HW.mono (HW.far4 HN.out (fun k hk => by rcases hk with ⟨hk | hk, hk2⟩ <;> (try simp at hk) <;> omega) _ _ _ _) (fun k hk => by rcases hk with ⟨hk | hk, hk2⟩ <;> (try simp at hk) <;> omega)⟩, HPP, HBS, ⟨below_set4 HB2.out (by omega) _ _ _ _⟩⟩
        · have hne : (er != 0) = true := by simpa using h0
          have heq : (er == 0) = false := by simpa using h0
          have H0 := Aside0.mk h0
          clear h0
          have HBS : Aside0 (replayS eS27 l = (eS27, er)) := ⟨by rw [HQ.out, List.drop_eq_getElem_cons hl, replayS, ← rd32_get l i hl, HE.out, if_neg H0.out]⟩
          go_wp2_with (go_at_call 10; refine (f10_E A0 c0 A1 c1 A2 c2 h (rd_T32 l i) hn_ er _ (HVx.out.below (by repeat (first | exact Below.refl _ _ | apply below_alloc | apply below_drew1 | apply pw_below_drewN))) HOK.out _ (HFx.out.below (by repeat (first | exact Below.refl _ _ | apply below_alloc | apply below_drew1 | apply pw_below_drewN))) HE.out).mono ?_; rintro e w2 ⟨v0, v1, v2, rfl, hw2, hb2⟩; have HN := Aside0.mk hw2.bound; have HBx : Aside0 (Below wr.heap.size wr w2) := ⟨Below.trans (by repeat (first | exact Below.refl _ _ | apply below_alloc | apply below_drew1 | apply pw_below_drewN)) (hb2.mono (by first | (simp; done) | (simp; omega)))⟩; have HB2 := Aside0.mk (HB.out.trans (HBx.out.mono HB.out.size)); have BZ2 := Aside0.mk ((HBx.out.block _ (by omega)).trans HZ.out); have BH2 := Aside0.mk ((HBx.out.block _ (by omega)).trans HH.out); have hz2 := HBx.out.size; clear a0 a1 a2 a3 p0 p1 p2 p3 u0 u1 u2 u3 q0 q1 q2 q3; obtain ⟨⟨a0, a1, a2, a3⟩, p0, p1, p2, p3⟩ := blk4 BH2.out; obtain ⟨⟨u0, u1, u2, u3⟩, q0, q1, q2, q3⟩ := blk4 BZ2.out; obtain ⟨⟨B0, d0, rfl, -, -⟩, ⟨B1, d1, rfl, -, -⟩, ⟨B2, d2, rfl, -, -⟩⟩ := hw2; have hq0 : w.heap.size < w2.heap.size := (by omega); have hq1 : w.heap.size + 1 < w2.heap.size := (by omega); clear hb2)
          refine bodyPost_ret (v := .tuple #[.agg #[.slice none 0 0, .slice none 0 0, .slice none 0 0, .int .i64 0], .int .i64 er]) (by simp [results, Try.results13, go_sem, u0, u1, u2, u3]) rfl ?_
          rw [HBS.out]
          exact ⟨_, _, _, rfl, HW.nil _ _, below_set4 (below_set4 HB2.out (by omega) _ _ _ _) (Nat.le_refl _) _ _ _ _⟩
    · obtain rfl : i = l.length := by omega
      have HBS : Aside0 (replayS eS27 l = (h, 0)) := ⟨by rw [HQ.out, List.drop_of_length_le (Nat.le_refl _)]; rfl⟩
      go_wp2
      refine bodyPost_ret (v := .tuple #[.agg #[.slice A0 h.f0.length c0, .slice A1 h.f1.length c1, .slice A2 h.f2.length c2, .int .i64 h.f3], .int .i64 0]) (by simp [results, Try.results13, go_sem, u0, u1, u2, u3, a0, a1, a2, a3]) rfl ?_
      rw [HBS.out]
      exact ⟨_, _, _, rfl, HW.mono (HW.far4 HO.out (fun k hk => by omega) _ _ _ _) (fun k hk => by omega), below_set4 HB.out (Nat.le_refl _) _ _ _ _⟩
end Go.Proofs.Ytjeoabjccbinhaa.P
