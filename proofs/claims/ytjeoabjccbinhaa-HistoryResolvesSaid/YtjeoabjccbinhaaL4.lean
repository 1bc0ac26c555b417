/- The law HistoryImmutable returns true for every list of entries that is read: for the row. Conditions: the hypotheses that stand at each theorem. -/
import Derived.Test.YtjeoabjccbinhaaA1
import Derived.Test.YtjeoabjccbinhaaPx2
namespace Go.Proofs.Ytjeoabjccbinhaa.P
open Go.RowKit Go.Proofs.YtjeoabjccbinhaaW.PrintWords Go.Proofs.YtjeoabjccbinhaaW.PrintLast Go.Proofs.YtjeoabjccbinhaaW.PrintMore
set_option linter.unusedVariables false
set_option linter.unusedSimpArgs false
attribute [local go_sem high] eqA41
theorem hasI_mem {l : List S41} (ho : okI l) {c : S41} (hc : c ∈ l) : hasI l c.f0 = true ∧ nodeI l c.f0 = c := by
  obtain ⟨a, b, hl, hp, ha, h⟩ := splitI ho c.f0
  rcases h with ⟨hh, v, r, rfl, hv0, hv, hr⟩ | ⟨hh, hv, hb⟩
  · refine ⟨hh, hv.trans ?_⟩
    rw [hl] at hc
    rcases List.mem_append.1 hc with h | h
    · have := ha c h; omega
    · rcases List.mem_cons.1 h with h | h
      · exact h.symm
      · have := hr c h; omega
  · rw [hl] at hc
    rcases List.mem_append.1 hc with h | h
    · have := ha c h; omega
    · have := hb c h; omega
theorem hasI_not {l : List S41} (ho : okI l) {s : Int} (h : ∀ c ∈ l, c.f0 ≠ s) : hasI l s = false := by
  obtain ⟨a, b, hl, hp, ha, h'⟩ := splitI ho s
  rcases h' with ⟨hh, v, r, rfl, hv0, hv, hr⟩ | ⟨hh, hv, hb⟩
  · exact absurd hv0 (h v (by rw [hl]; simp))
  · exact hh
/-- A rejected entry leaves an empty history. -/
theorem apply_err {h : S27} {x : S32} (he : (applyE h x).2 ≠ 0) : (applyE h x).1 = eS27 := by
  unfold applyE applyS at *
  by_cases c0 : wfB x.f0 x.f1 x.f2 x.f3 x.f4 x.f5 = false
  · rw [if_pos c0]
  rw [if_neg c0] at he ⊢
  by_cases c1 : x.f0 = 1
  · rw [if_pos c1] at he ⊢
    unfold commitS at he ⊢
    split
    · rfl
    · split
      · rfl
      · split
        · rfl
        · split
          · rfl
          · split
            · rfl
            · split
              · rfl
              · simp_all
  rw [if_neg c1] at he ⊢
  by_cases c7 : x.f0 = 7
  · rw [if_pos c7] at he ⊢
    unfold expireS at he ⊢
    split
    · split
      · rfl
      · split
        · rfl
        · simp_all
    · rfl
  rw [if_neg c7] at he ⊢
  by_cases c2 : x.f0 = 2
  · rw [if_pos c2] at he ⊢
    by_cases h0 : (addS h.f0 h.f1 x.f5 x.f1).2 = 0
    · rw [if_pos h0] at he; exact absurd rfl he
    · rw [if_neg h0]
  rw [if_neg c2] at he ⊢
  by_cases c3 : x.f0 = 3
  · rw [if_pos c3] at he ⊢
    by_cases h0 : (addS h.f0 h.f2 x.f5 x.f1).2 = 0
    · rw [if_pos h0] at he; exact absurd rfl he
    · rw [if_neg h0]
  rw [if_neg c3] at he ⊢
  by_cases c4 : x.f0 = 4
  · rw [if_pos c4] at he ⊢
    by_cases h0 : hasS h.f1 x.f5 = true
    · rw [if_pos h0] at he; exact absurd rfl he
    · rw [if_neg h0]
  rw [if_neg c4] at he ⊢
  by_cases c5 : x.f0 = 5
  · rw [if_pos c5] at he ⊢
    by_cases h0 : hasS h.f2 x.f5 = true
    · rw [if_pos h0] at he; exact absurd rfl he
    · rw [if_neg h0]
  rw [if_neg c5] at he ⊢
  by_cases c6 : x.f0 = 6
  · rw [if_pos c6] at he; exact absurd rfl he
  · rw [if_neg c6] at he; exact absurd rfl he
/-- What an accepted entry does to the commits. -/
theorem apply_commits {h : S27} {x : S32} (he : (applyE h x).2 = 0) : (applyE h x).1.f0 = h.f0 ∧ x.f0 ≠ 7 ∨ (∃ c, (applyE h x).1.f0 = h.f0 ++ [c] ∧ x.f0 ≠ 7) ∨ (x.f0 = 7 ∧ hasI h.f0 x.f1 = true ∧ (applyE h x).1.f0 = dropI h.f0 x.f1) := by
  unfold applyE applyS at *
  by_cases c0 : wfB x.f0 x.f1 x.f2 x.f3 x.f4 x.f5 = false
  · rw [if_pos c0] at he; exact absurd he (by decide)
  rw [if_neg c0] at he ⊢
  by_cases c1 : x.f0 = 1
  · rw [if_pos c1] at he ⊢
    refine .inr (.inl ?_)
    unfold commitS at he ⊢
    by_cases d1 : lateB h.f0 x.f1 = true
    · rw [if_pos d1] at he; exact absurd he (by decide)
    rw [if_neg d1] at he ⊢
    by_cases d2 : confB h.f1 x.f5 x.f2 = true
    · rw [if_pos d2] at he; exact absurd he (by decide)
    rw [if_neg d2] at he ⊢
    by_cases d3 : nameB h.f1 x.f5 x.f2 = true
    · rw [if_pos d3] at he; exact absurd he (by decide)
    rw [if_neg d3] at he ⊢
    by_cases d4 : fullB h.f1 x.f5 = true
    · rw [if_pos d4] at he; exact absurd he (by decide)
    rw [if_neg d4] at he ⊢
    by_cases d5 : (goneB h.f0 x.f2 || goneB h.f0 x.f3) = true
    · rw [if_pos d5] at he; exact absurd he (by decide)
    rw [if_neg d5] at he ⊢
    by_cases d6 : timeB h.f0 x.f2 x.f4 = true
    · rw [if_pos d6] at he; exact absurd he (by decide)
    rw [if_neg d6]
    exact ⟨_, rfl, by omega⟩
  rw [if_neg c1] at he ⊢
  by_cases c7 : x.f0 = 7
  · rw [if_pos c7] at he ⊢
    refine .inr (.inr ⟨c7, ?_⟩)
    unfold expireS at he ⊢
    by_cases d1 : hasI h.f0 x.f1 = true
    · rw [if_pos d1] at he ⊢
      by_cases d2 : (h.f1.any fun r => r.f1 == x.f1) = true
      · rw [if_pos d2] at he; exact absurd he (by decide)
      rw [if_neg d2] at he ⊢
      by_cases d3 : (h.f2.any fun r => r.f1 == x.f1) = true
      · rw [if_pos d3] at he; exact absurd he (by decide)
      rw [if_neg d3]
      exact ⟨d1, rfl⟩
    · rw [if_neg d1] at he; exact absurd he (by decide)
  rw [if_neg c7] at he ⊢
  refine .inl ⟨?_, c7⟩
  by_cases c2 : x.f0 = 2
  · rw [if_pos c2] at he ⊢
    by_cases h0 : (addS h.f0 h.f1 x.f5 x.f1).2 = 0
    · rw [if_pos h0]
    · rw [if_neg h0] at he; exact absurd he h0
  rw [if_neg c2] at he ⊢
  by_cases c3 : x.f0 = 3
  · rw [if_pos c3] at he ⊢
    by_cases h0 : (addS h.f0 h.f2 x.f5 x.f1).2 = 0
    · rw [if_pos h0]
    · rw [if_neg h0] at he; exact absurd he h0
  rw [if_neg c3] at he ⊢
  by_cases c4 : x.f0 = 4
  · rw [if_pos c4] at he ⊢
    by_cases h0 : hasS h.f1 x.f5 = true
    · rw [if_pos h0]
    · rw [if_neg h0] at he; exact absurd he (by decide)
  rw [if_neg c4] at he ⊢
  by_cases c5 : x.f0 = 5
  · rw [if_pos c5] at he ⊢
    by_cases h0 : hasS h.f2 x.f5 = true
    · rw [if_pos h0]
    · rw [if_neg h0] at he; exact absurd he (by decide)
  rw [if_neg c5]
  by_cases c6 : x.f0 = 6
  · rw [if_pos c6]
  · rw [if_neg c6]
/-- A commit stays as it is, unless it is expired. -/
theorem apply_keeps {h : S27} {x : S32} {n : Nat} (o : OkN n h) (he : (applyE h x).2 = 0) {c : S41} (hc : c ∈ h.f0) :
    (x.f0 = 7 ∧ x.f1 = c.f0 ∧ hasI (applyE h x).1.f0 c.f0 = false) ∨ (¬ (x.f0 = 7 ∧ x.f1 = c.f0) ∧ hasI (applyE h x).1.f0 c.f0 = true ∧ nodeI (applyE h x).1.f0 c.f0 = c) := by
  have o2 := applyE_okN o x
  rcases apply_commits he with ⟨e, h7⟩ | ⟨⟨c', e, h7⟩⟩ | ⟨h7, hh, e⟩
  · exact .inr ⟨fun h => h7 h.1, hasI_mem o2.o0 (by rw [e]; exact hc)⟩
  · exact .inr ⟨fun h => h7 h.1, hasI_mem o2.o0 (by rw [e]; exact List.mem_append_left _ hc)⟩
  · obtain ⟨a, b, hl, hp, ha, h'⟩ := splitI o.o0 x.f1
    rcases h' with ⟨_, v, r, rfl, hv0, hv, hr⟩ | ⟨h0, _, _⟩
    · have hd := dropI_split hl hp
      by_cases hx : x.f1 = c.f0
      · refine .inl ⟨h7, hx, hasI_not o2.o0 ?_⟩
        rw [e, hd]
        intro y hy
        rcases List.mem_append.1 hy with h | h
        · have := ha y h; omega
        · have := hr y h; omega
      · refine .inr ⟨fun h => hx h.2, hasI_mem o2.o0 ?_⟩
        rw [e, hd]
        rw [hl] at hc
        rcases List.mem_append.1 hc with h | h
        · exact List.mem_append_left _ h
        · rcases List.mem_cons.1 h with h | h
          · subst h; exact absurd hv0.symm hx
          · exact List.mem_append_right _ h
    · rw [hh] at h0; cases h0
set_option maxHeartbeats 8000000 in
set_option maxRecDepth 100000 in
theorem f4_calls (A : Option Addr) (c : Nat) (l : List S32) (x : S32) (w : World) (hr : Kd.C k32 w A l.length l) (hc : l.length ≤ c) (hn : l.length ≤ 9223372036854775807) :
    Calls Try.prog 4 #[.slice A l.length c, .agg #[.int .i64 x.f0, .int .i64 x.f1, .int .i64 x.f2, .int .i64 x.f3, .int .i64 x.f4, .string x.f5]] w fun e w' => e = .returned (.bool true) ∧ Below w.heap.size w w' := by
  have HR := Aside0.mk hr
  have H9 := Aside0.mk f9_calls
  have HAL := Aside0.mk (heap_alloc_new w (.cells #[.int .i64 x.f0, .int .i64 x.f1, .int .i64 x.f2, .int .i64 x.f3, .int .i64 x.f4, .string x.f5] 32))
  have HB0 : Aside0 (Below w.heap.size w (w.alloc (.cells #[.int .i64 x.f0, .int .i64 x.f1, .int .i64 x.f2, .int .i64 x.f3, .int .i64 x.f4, .string x.f5] 32))) := ⟨(Below.refl w.heap.size w).alloc (Nat.le_refl _) _⟩
  clear hr
  by_cases h200 : 200 < l.length
  · have hd : decide (200 < (l.length : Int)) = true := decide_eq_true (by omega)
    go_enter Try.func4, Try.ntmps4
    go_wp2_with (go_at_call 9; refine (H9.out _).mono ?_; rintro e w1 ⟨rfl, hb⟩; have HB1 := Aside0.mk (HB0.out.trans (hb.mono (by simp))); clear hb)
    go_ret
    exact ⟨rfl, HB1.out⟩
  · have hd : decide (200 < (l.length : Int)) = false := decide_eq_false (by omega)
    have hl2 : l.length ≤ 200 := by omega
    have hok := builtS_okN l l.length (Nat.le_refl _)
    rw [List.take_length] at hok
    have H15 := Aside0.mk (f15_calls A c l (w.alloc (.cells #[.int .i64 x.f0, .int .i64 x.f1, .int .i64 x.f2, .int .i64 x.f3, .int .i64 x.f4, .string x.f5] 32)) (Kd.C_below HR.out HB0.out) hc (by omega))
    obtain ⟨h, hh⟩ : ∃ h, builtS l = h := ⟨_, rfl⟩
    rw [hh] at hok H15
    obtain ⟨⟨hn_, er⟩, he⟩ : ∃ z, applyE h x = z := ⟨_, rfl⟩
    have hok2 := applyE_okN hok x
    have HE := Aside0.mk he
    have HN := Aside0.mk hok
    have HOK := Aside0.mk (hok.okH (by omega))
    rw [he] at hok2
    have HOK2 := Aside0.mk (hok2.okH (by omega))
    have hh0 : h.f0.length ≤ 1000 := HOK.out.n0
    clear h200 hn hok he hok2 hh
    by_cases h0 : er = 0
    · subst h0
      go_enter Try.func4, Try.ntmps4
      go_wp2_with (first
        | (go_at_call 15; refine H15.out.mono ?_; rintro e w1 ⟨v0, v1, v2, rfl, hw, hb⟩; obtain ⟨A0, c0, A1, c1, A2, c2, rfl, rfl, rfl, hV, hF⟩ := HW.open hw; have HV1 := Aside0.mk hV; have HF1 := Aside0.mk hF; have BE1 := Aside0.mk ((hb.block _ (by simp)).trans HAL.out); have HB1 := Aside0.mk (HB0.out.trans (hb.mono (by simp))); have hz1 := hb.size; simp only [World.size_alloc] at hz1; have hq1 : w.heap.size < w1.heap.size := (by omega); obtain ⟨e0, e1, e2, e3, e4, e5⟩ := blk6 BE1.out; clear hb hw hV hF)
        | (go_at_call 10; refine (f10_E A0 c0 A1 c1 A2 c2 h x hn_ 0 (w1.alloc (.cells #[.slice A0 h.f0.length c0, .slice A1 h.f1.length c1, .slice A2 h.f2.length c2, .int .i64 h.f3] 27)) (HV1.out.below (below_alloc (Below.refl _ _) _)) HOK.out _ (HF1.out.below (below_alloc (Below.refl _ _) _)) HE.out).mono ?_; clear e0 e1 e2 e3 e4 e5; rintro e w2 ⟨v0, v1, v2, rfl, hw2, hb⟩; have HX2 := Aside0.mk hw2; have HBx2 : Aside0 (Below w1.heap.size w1 w2) := ⟨(below_alloc (Below.refl _ _) _).trans (hb.mono (by simp))⟩; have BE2 := Aside0.mk ((HBx2.out.block _ hq1).trans BE1.out); have BH2 := Aside0.mk ((hb.block _ (by simp)).trans (heap_alloc_new w1 (.cells #[.slice A0 h.f0.length c0, .slice A1 h.f1.length c1, .slice A2 h.f2.length c2, .int .i64 h.f3] 27))); have hz2 := hb.size; simp only [World.size_alloc] at hz2; have hq2 : w.heap.size < w2.heap.size := (by omega); have hq3 : w1.heap.size < w2.heap.size := (by omega); obtain ⟨⟨B0, d0, rfl, -, -⟩, ⟨B1, d1, rfl, -, -⟩, ⟨B2, d2, rfl, -, -⟩⟩ := hw2; clear hb))
      have BX3 := Aside0.mk (heap_alloc_new w2 (.cells #[.slice B0 hn_.f0.length d0, .slice B1 hn_.f1.length d1, .slice B2 hn_.f2.length d2, .int .i64 hn_.f3] 27))
      have BE3 := Aside0.mk (blk_alloc BE2.out (.cells #[.slice B0 hn_.f0.length d0, .slice B1 hn_.f1.length d1, .slice B2 hn_.f2.length d2, .int .i64 hn_.f3] 27))
      have BH3 := Aside0.mk (blk_alloc BH2.out (.cells #[.slice B0 hn_.f0.length d0, .slice B1 hn_.f1.length d1, .slice B2 hn_.f2.length d2, .int .i64 hn_.f3] 27))
      have HB3 := Aside0.mk ((HB1.out.trans (HBx2.out.mono (by omega))).alloc (by omega) (.cells #[.slice B0 hn_.f0.length d0, .slice B1 hn_.f1.length d1, .slice B2 hn_.f2.length d2, .int .i64 hn_.f3] 27))
      have HXV := Aside0.mk (HW.hv (HX2.out.alloc (.cells #[.slice B0 hn_.f0.length d0, .slice B1 hn_.f1.length d1, .slice B2 hn_.f2.length d2, .int .i64 hn_.f3] 27)))
      have HHV := Aside0.mk (HV1.out.below (HBx2.out.alloc (by omega) (.cells #[.slice B0 hn_.f0.length d0, .slice B1 hn_.f1.length d1, .slice B2 hn_.f2.length d2, .int .i64 hn_.f3] 27)))
      go_loopg [8] h.f0.length (fun kq v8 w' => ∃ i : Nat, v8 = .int .i64 i ∧ i ≤ h.f0.length ∧ Aside0 (kq + i = h.f0.length) ∧ Aside0 (Below (w2.heap.size + 1) (w2.alloc (.cells #[.slice B0 hn_.f0.length d0, .slice B1 hn_.f1.length d1, .slice B2 hn_.f2.length d2, .int .i64 hn_.f3] 27)) w'))
      case atStart => exact ⟨0, rfl, Nat.zero_le _, ⟨by omega⟩, ⟨Below.refl _ _⟩⟩
      case round =>
        obtain ⟨i, rfl, hi, HK, HB⟩ := hrel
        have hzr := HB.out.size
        simp only [World.size_alloc] at hzr
        have hs3 : (w2.alloc (.cells #[.slice B0 hn_.f0.length d0, .slice B1 hn_.f1.length d1, .slice B2 hn_.f2.length d2, .int .i64 hn_.f3] 27)).heap.size = w2.heap.size + 1 := by simp
        have HBr : Aside0 (Below (w2.alloc (.cells #[.slice B0 hn_.f0.length d0, .slice B1 hn_.f1.length d1, .slice B2 hn_.f2.length d2, .int .i64 hn_.f3] 27)).heap.size (w2.alloc (.cells #[.slice B0 hn_.f0.length d0, .slice B1 hn_.f1.length d1, .slice B2 hn_.f2.length d2, .int .i64 hn_.f3] 27)) wr) := ⟨by rw [hs3]; exact HB.out⟩
        clear hs3
        obtain ⟨e0, e1, e2, e3, e4, e5⟩ := blk6 ((HB.out.block _ (by omega)).trans BE3.out)
        obtain ⟨⟨a0, a1, a2, a3⟩, p0, p1, p2, p3⟩ := blk4 ((HB.out.block _ (by omega)).trans BH3.out)
        obtain ⟨⟨b0, b1, b2, b3⟩, q0, q1, q2, q3⟩ := blk4 ((HB.out.block _ (by omega)).trans BX3.out)
        have hr1 : w.heap.size < wr.heap.size := by omega
        have hr2 : w1.heap.size < wr.heap.size := by omega
        have hr3 : w2.heap.size < wr.heap.size := by omega
        by_cases hl : i < h.f0.length
        · cases gk with
          | zero => exact absurd HK.out (by omega)
          | succ k1 =>
            obtain ⟨ad, rfl, hx0, hx1, hx2, hx3⟩ := at_T41 HHV.out.r0 (i : Int) (by omega) (by omega)
            rw [Int.toNat_natCast] at hx0 hx1 hx2 hx3
            replace hx0 := (HBr.out.cell (World.block_lt_of_cell? _ _ hx0)).trans hx0
            replace hx1 := (HBr.out.cell (World.block_lt_of_cell? _ _ hx1)).trans hx1
            replace hx2 := (HBr.out.cell (World.block_lt_of_cell? _ _ hx2)).trans hx2
            replace hx3 := (HBr.out.cell (World.block_lt_of_cell? _ _ hx3)).trans hx3
            have hkp := apply_keeps HN.out (by rw [HE.out]) (List.getElem_mem hl)
            rw [HE.out, ← rd41_get h.f0 i hl] at hkp
            have H16 := Aside0.mk (f16_calls B0 d0 hn_.f0 B1 d1 hn_.f1 B2 d2 hn_.f2 hn_.f3 (rd_T41 h.f0 i).f0 (wr.alloc (.cells #[.int .i64 (rd_T41 h.f0 i).f0, .int .i64 (rd_T41 h.f0 i).f1, .int .i64 (rd_T41 h.f0 i).f2, .int .i64 (rd_T41 h.f0 i).f3] 41)) (HXV.out.below (HBr.out.alloc HBr.out.size _)) HOK2.out.o0 HOK2.out.n0)
            have HCB := Aside0.mk (heap_alloc_new wr (.cells #[.int .i64 (rd_T41 h.f0 i).f0, .int .i64 (rd_T41 h.f0 i).f1, .int .i64 (rd_T41 h.f0 i).f2, .int .i64 (rd_T41 h.f0 i).f3] 41))
            rcases hkp with ⟨k7, k1', k2⟩ | ⟨k7, k2, k3⟩
            · rw [k2] at H16
              have g1 : (x.f0 == 7) = true := by simpa using k7
              have g2 : (x.f1 == (rd_T41 h.f0 i).f0) = true := by simpa using k1'
              clear k7 k1' k2
              go_wp2_with (go_at_call 16; refine H16.out.mono ?_; clear hx0 hx1 hx2 hx3 e0 e1 e2 e3 e4 e5 a0 a1 a2 a3 p0 p1 p2 p3 b0 b1 b2 b3 q0 q1 q2 q3; rintro e w4 ⟨rfl, hb⟩; have hz4 := hb.size; simp only [World.size_alloc] at hz4; have HB4 : Aside0 (Below (w2.heap.size + 1) (w2.alloc (.cells #[.slice B0 hn_.f0.length d0, .slice B1 hn_.f1.length d1, .slice B2 hn_.f2.length d2, .int .i64 hn_.f3] 27)) w4) := ⟨(HB.out.alloc (by omega) _).trans (hb.mono (by simp; omega))⟩; obtain ⟨e0, e1, e2, e3, e4, e5⟩ := blk6 ((HB4.out.block _ (by omega)).trans BE3.out); obtain ⟨⟨y0, y1, y2, y3⟩, z0, z1, z2, z3⟩ := blk4 ((hb.block _ (by simp)).trans HCB.out); have hq4 : w.heap.size < w4.heap.size := (by omega); have hq5 : wr.heap.size < w4.heap.size := (by omega); clear hb)
              go_roundg k1
              case measure => omega
              case rel => exact ⟨i + 1, int_eq (by omega), by omega, ⟨by have := HK.out; omega⟩, ⟨HB4.out.alloc (by omega) _⟩⟩
            · rw [k2, k3] at H16
              cases g1 : (x.f0 == 7) with
              | false =>
                clear k7 k2 k3
                go_wp2_with (go_at_call 16; refine H16.out.mono ?_; clear hx0 hx1 hx2 hx3 e0 e1 e2 e3 e4 e5 a0 a1 a2 a3 p0 p1 p2 p3 b0 b1 b2 b3 q0 q1 q2 q3; rintro e w4 ⟨rfl, hb⟩; have hz4 := hb.size; simp only [World.size_alloc] at hz4; have HB4 : Aside0 (Below (w2.heap.size + 1) (w2.alloc (.cells #[.slice B0 hn_.f0.length d0, .slice B1 hn_.f1.length d1, .slice B2 hn_.f2.length d2, .int .i64 hn_.f3] 27)) w4) := ⟨(HB.out.alloc (by omega) _).trans (hb.mono (by simp; omega))⟩; obtain ⟨e0, e1, e2, e3, e4, e5⟩ := blk6 ((HB4.out.block _ (by omega)).trans BE3.out); obtain ⟨⟨y0, y1, y2, y3⟩, z0, z1, z2, z3⟩ := blk4 ((hb.block _ (by simp)).trans HCB.out); have hq4 : w.heap.size < w4.heap.size := (by omega); have hq5 : wr.heap.size < w4.heap.size := (by omega); clear hb)
                go_roundg k1
                case measure => omega
                case rel => exact ⟨i + 1, int_eq (by omega), by omega, ⟨by have := HK.out; omega⟩, ⟨HB4.out.alloc (by omega) _⟩⟩
              | true =>
                have g2 : (x.f1 == (rd_T41 h.f0 i).f0) = false := by
                  rw [beq_eq_false_iff_ne]; exact fun h_ => k7 ⟨by simpa using g1, h_⟩
                clear k7 k2 k3
                go_wp2_with (go_at_call 16; refine H16.out.mono ?_; clear hx0 hx1 hx2 hx3 e0 e1 e2 e3 e4 e5 a0 a1 a2 a3 p0 p1 p2 p3 b0 b1 b2 b3 q0 q1 q2 q3; rintro e w4 ⟨rfl, hb⟩; have hz4 := hb.size; simp only [World.size_alloc] at hz4; have HB4 : Aside0 (Below (w2.heap.size + 1) (w2.alloc (.cells #[.slice B0 hn_.f0.length d0, .slice B1 hn_.f1.length d1, .slice B2 hn_.f2.length d2, .int .i64 hn_.f3] 27)) w4) := ⟨(HB.out.alloc (by omega) _).trans (hb.mono (by simp; omega))⟩; obtain ⟨e0, e1, e2, e3, e4, e5⟩ := blk6 ((HB4.out.block _ (by omega)).trans BE3.out); obtain ⟨⟨y0, y1, y2, y3⟩, z0, z1, z2, z3⟩ := blk4 ((hb.block _ (by simp)).trans HCB.out); have hq4 : w.heap.size < w4.heap.size := (by omega); have hq5 : wr.heap.size < w4.heap.size := (by omega); clear hb)
                go_roundg k1
                case measure => omega
                case rel => exact ⟨i + 1, int_eq (by omega), by omega, ⟨by have := HK.out; omega⟩, ⟨HB4.out.alloc (by omega) _⟩⟩
        · obtain rfl : i = h.f0.length := by omega
          go_wp2_with (go_at_call 9; refine (H9.out _).mono ?_; rintro e w5 ⟨rfl, hb⟩; have HB5 := Aside0.mk ((HB3.out.trans (HB.out.mono (by omega))).trans (hb.mono (by omega))); clear hb)
          go_ret
          exact ⟨rfl, HB5.out⟩
    · have hne : (er != 0) = true := by simpa using h0
      have heq : (er == 0) = false := by simpa using h0
      obtain rfl : hn_ = eS27 := by have := apply_err (h := h) (x := x) (by rw [HE.out]; exact h0); rw [HE.out] at this; exact this
      clear h0
      go_enter Try.func4, Try.ntmps4
      go_wp2_with (first
        | (go_at_call 15; refine H15.out.mono ?_; rintro e w1 ⟨v0, v1, v2, rfl, hw, hb⟩; obtain ⟨A0, c0, A1, c1, A2, c2, rfl, rfl, rfl, hV, hF⟩ := HW.open hw; have HV1 := Aside0.mk hV; have HF1 := Aside0.mk hF; have BE1 := Aside0.mk ((hb.block _ (by simp)).trans HAL.out); have HB1 := Aside0.mk (HB0.out.trans (hb.mono (by simp))); have hz1 := hb.size; simp only [World.size_alloc] at hz1; have hq1 : w.heap.size < w1.heap.size := (by omega); obtain ⟨e0, e1, e2, e3, e4, e5⟩ := blk6 BE1.out; clear hb hw hV hF)
        | (go_at_call 10; refine (f10_E A0 c0 A1 c1 A2 c2 h x eS27 er (w1.alloc (.cells #[.slice A0 h.f0.length c0, .slice A1 h.f1.length c1, .slice A2 h.f2.length c2, .int .i64 h.f3] 27)) (HV1.out.below (below_alloc (Below.refl _ _) _)) HOK.out _ (HF1.out.below (below_alloc (Below.refl _ _) _)) HE.out).mono ?_; clear e0 e1 e2 e3 e4 e5; rintro e w2 ⟨v0, v1, v2, rfl, hw2, hb⟩; have HBx2 : Aside0 (Below w1.heap.size w1 w2) := ⟨(below_alloc (Below.refl _ _) _).trans (hb.mono (by simp))⟩; have HB2 := Aside0.mk (HB1.out.trans (HBx2.out.mono (by omega))); have hz2 := HBx2.out.size; obtain ⟨⟨B0, d0, rfl, -, -⟩, ⟨B1, d1, rfl, -, -⟩, ⟨B2, d2, rfl, -, -⟩⟩ := hw2; clear hb)
        | (go_at_call 9; refine (H9.out _).mono ?_; rintro e w5 ⟨rfl, hb⟩; have HB5 := Aside0.mk ((HB2.out.alloc (by omega) _).trans (hb.mono (by simp; omega))); clear hb))
      go_ret
      exact ⟨rfl, HB5.out⟩
end Go.Proofs.Ytjeoabjccbinhaa.P

namespace Go.Proofs.Ytjeoabjccbinhaa.P
open Go.RowKit Go.Proofs.YtjeoabjccbinhaaW.PrintWords
theorem f4_row (A : Option Addr) (c : Nat) (l : List S32) (x : S32) (w : World) (hr : Kd.C k32 w A l.length l) (hc : l.length ≤ c) (hg : l.length * 56 ≤ 140737488351232 ∧ ∀ y ∈ l, G32 y) :
    Calls Try.prog 4 #[.slice A l.length c, .agg #[.int .i64 x.f0, .int .i64 x.f1, .int .i64 x.f2, .int .i64 x.f3, .int .i64 x.f4, .string x.f5]] w fun e w' => e = .returned (.bool true) ∧ Below w.heap.size w w' :=
  f4_calls A c l x w hr hc (by omega)
end Go.Proofs.Ytjeoabjccbinhaa.P
