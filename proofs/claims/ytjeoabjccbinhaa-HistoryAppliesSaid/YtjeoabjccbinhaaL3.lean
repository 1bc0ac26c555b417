/- The law HistoryApplies returns true for every list of entries that is read: for the row. Conditions: the hypotheses that stand at each theorem. -/
import Derived.Test.YtjeoabjccbinhaaA1
import Derived.Test.YtjeoabjccbinhaaQ1
namespace Go.Proofs.Ytjeoabjccbinhaa.P
open Go.RowKit Go.Proofs.YtjeoabjccbinhaaW.PrintWords Go.Proofs.YtjeoabjccbinhaaW.PrintLast Go.Proofs.YtjeoabjccbinhaaW.PrintMore
set_option linter.unusedVariables false
set_option linter.unusedSimpArgs false
theorem f12_calls (A0 : Option Addr) (c0 : Nat) (A1 : Option Addr) (c1 : Nat) (A2 : Option Addr) (c2 : Nat) (B0 : Option Addr) (d0 : Nat) (B1 : Option Addr) (d1 : Nat) (B2 : Option Addr) (d2 : Nat) (h : S27) (hn0 : h.f0.length ≤ 1000) (hn1 : h.f1.length ≤ 1000) (hn2 : h.f2.length ≤ 1000) (w : World) (ha : HV w A0 c0 h.f0 A1 c1 h.f1 A2 c2 h.f2) (hb : HV w B0 d0 h.f0 B1 d1 h.f1 B2 d2 h.f2) :
    Calls Try.prog 12 #[.agg #[.slice A0 h.f0.length c0, .slice A1 h.f1.length c1, .slice A2 h.f2.length c2, .int .i64 h.f3], .agg #[.slice B0 h.f0.length d0, .slice B1 h.f1.length d1, .slice B2 h.f2.length d2, .int .i64 h.f3]] w fun e w' => e = .returned (.bool true) ∧ Below w.heap.size w w' :=
  laminaref25_Equal.calls 2000 A0 c0 h.f0 A1 c1 h.f1 A2 c2 h.f2 h.f3 B0 d0 h.f0 B1 d1 h.f1 B2 d2 h.f2 h.f3 true w ha.r0 ha.h0 ha.r1 ha.h1 ha.r2 ha.h2 hb.r0 hb.h0 hb.r1 hb.h1 hb.r2 hb.h2 (Equal_is h.f0 h.f1 h.f2 h.f3 hn0 hn1 hn2 _ (by decide))
theorem replay_okN : ∀ (l : List S32) (n : Nat) (h : S27), OkN n h → OkN (n + l.length) (replayS h l).1
  | [], n, h, o => by simpa [replayS] using o
  | x :: l, n, h, o => by
    rw [replayS]
    by_cases h0 : (applyE h x).2 = 0
    · rw [if_pos h0]
      have := replay_okN l (n + 1) _ (applyE_okN o x)
      rw [List.length_cons]
      exact this.mono (by omega)
    · rw [if_neg h0]; exact OkN.nil _
set_option maxHeartbeats 8000000 in
set_option maxRecDepth 100000 in
theorem f3_calls (A : Option Addr) (c : Nat) (l : List S32) (w : World) (hr : Kd.C k32 w A l.length l) (hc : l.length ≤ c) (hn : l.length ≤ 9223372036854775807) :
    Calls Try.prog 3 #[.slice A l.length c] w fun e w' => e = .returned (.bool true) ∧ Below w.heap.size w w' := by
  have HR := Aside0.mk hr
  have H9 := Aside0.mk f9_calls
  have HAL := Aside0.mk (heap_alloc_new w (.cells #[.slice none 0 0, .slice none 0 0, .slice none 0 0, .int .i64 0] 27))
  have HB0 : Aside0 (Below w.heap.size w (w.alloc (.cells #[.slice none 0 0, .slice none 0 0, .slice none 0 0, .int .i64 0] 27))) := ⟨(Below.refl w.heap.size w).alloc (Nat.le_refl _) (.cells #[.slice none 0 0, .slice none 0 0, .slice none 0 0, .int .i64 0] 27)⟩
  clear hr
  by_cases h200 : 200 < l.length
  · have hd : decide (200 < (l.length : Int)) = true := decide_eq_true (by omega)
    go_enter Try.func3, Try.ntmps3
    go_wp2_with (go_at_call 9; refine (H9.out _).mono ?_; rintro e w1 ⟨rfl, hb⟩)
    go_ret
    exact ⟨rfl, hb⟩
  · have hd : decide (200 < (l.length : Int)) = false := decide_eq_false (by omega)
    have hl2 : l.length ≤ 200 := by omega
    clear h200 hn
    go_enter Try.func3, Try.ntmps3
    go_wp2
    go_loopg [4] l.length (fun kq v4 w' => ∃ (i : Nat) (v0 v1 v2 : Value), v4 = .int .i64 i ∧ i ≤ l.length ∧ Aside0 (kq + i = l.length) ∧ Aside0 (w'.heap[w.heap.size]? = some (.cells #[v0, v1, v2, .int .i64 (builtS (l.take i)).f3] 27 (0, 0))) ∧ Aside0 (HW w' (fun k => w.heap.size < k) v0 v1 v2 (builtS (l.take i))) ∧ Aside0 (Below w.heap.size w w'))
    case atStart => exact ⟨0, .slice none 0 0, .slice none 0 0, .slice none 0 0, rfl, Nat.zero_le _, ⟨by omega⟩, ⟨HAL.out⟩, ⟨HW.nil _ _⟩, HB0⟩
    case round =>
      obtain ⟨i, v0, v1, v2, rfl, hi, HK, HH, HO, HB⟩ := hrel
      obtain ⟨A0, c0, A1, c1, A2, c2, rfl, rfl, rfl, hV, hF⟩ := HW.open HO.out
      have HVx := Aside0.mk hV
      have HFx := Aside0.mk hF.bound
      have hzw := HB.out.size
      clear hV hF
      obtain ⟨⟨a0, a1, a2, a3⟩, p0, p1, p2, p3⟩ := blk4 HH.out
      by_cases hl : i < l.length
      · cases gk with
        | zero => exact absurd HK.out (by omega)
        | succ k1 =>
          obtain ⟨ad, rfl, hx0, hx1, hx2, hx3, hx4, hx5⟩ := at_T32 HR.out (i : Int) (by omega) (by omega)
          rw [Int.toNat_natCast] at hx0 hx1 hx2 hx3 hx4 hx5
          have HX5 := Aside0.mk (And.intro hx0 (And.intro hx1 (And.intro hx2 (And.intro hx3 (And.intro hx4 hx5)))))
          replace hx0 := (HB.out.cell (World.block_lt_of_cell? w _ hx0)).trans hx0
          replace hx1 := (HB.out.cell (World.block_lt_of_cell? w _ hx1)).trans hx1
          replace hx2 := (HB.out.cell (World.block_lt_of_cell? w _ hx2)).trans hx2
          replace hx3 := (HB.out.cell (World.block_lt_of_cell? w _ hx3)).trans hx3
          replace hx4 := (HB.out.cell (World.block_lt_of_cell? w _ hx4)).trans hx4
          replace hx5 := (HB.out.cell (World.block_lt_of_cell? w _ hx5)).trans hx5
          have hzb : w.heap.size < wr.heap.size := World.block_lt_of_cell? wr _ a0
          have hbl : (ad.add (i * 6)).block < wr.heap.size := World.block_lt_of_cell? wr _ hx0
          have hok := builtS_okN l i hi
          have HOK := Aside0.mk (hok.okH (by omega))
          obtain ⟨⟨hn_, er⟩, he⟩ : ∃ z, applyE (builtS (l.take i)) (rd_T32 l i) = z := ⟨_, rfl⟩
          have hok2 := applyE_okN hok (rd_T32 l i)
          rw [he] at hok2
          have HNL : Aside0 (hn_.f0.length ≤ 1000 ∧ hn_.f1.length ≤ 1000 ∧ hn_.f2.length ≤ 1000) := ⟨by have h_ := hok2.okH (by omega); exact ⟨h_.n0, h_.n1, h_.n2⟩⟩
          have HE := Aside0.mk he
          clear he hok hok2
          go_upto_region 7 with (fail)
          go_cut [5, 6] (fun v5 v6 wd => ∃ (b5 : Nat) (B0 B1 B2 : Option Addr) (d0 d1 d2 : Nat), v5 = .pointer (some ⟨b5, 0, none⟩) ∧ v6 = .int .i64 er ∧ w.heap.size < b5 ∧ b5 < wd.heap.size ∧ Aside0 (wd.heap[w.heap.size]? = some (.cells #[.slice A0 (builtS (l.take i)).f0.length c0, .slice A1 (builtS (l.take i)).f1.length c1, .slice A2 (builtS (l.take i)).f2.length c2, .int .i64 (builtS (l.take i)).f3] 27 (0, 0))) ∧ Aside0 (wd.heap[b5]? = some (.cells #[.slice B0 hn_.f0.length d0, .slice B1 hn_.f1.length d1, .slice B2 hn_.f2.length d2, .int .i64 hn_.f3] 27 (0, 0))) ∧ Aside0 (HW wd (fun k => w.heap.size < k ∧ k ≠ b5) (.slice B0 hn_.f0.length d0) (.slice B1 hn_.f1.length d1) (.slice B2 hn_.f2.length d2) hn_) ∧ Aside0 (HW wd (fun k => w.heap.size < k ∧ k ≠ b5) (.slice A0 (builtS (l.take i)).f0.length c0) (.slice A1 (builtS (l.take i)).f1.length c1) (.slice A2 (builtS (l.take i)).f2.length c2) (builtS (l.take i))) ∧ Aside0 (Below w.heap.size w wd) ∧ wr.heap.size ≤ wd.heap.size ∧ Aside0 (∀ j u, w.cell? j = some u → wd.cell? j = some u))
          case first =>
            go_region_with (go_at_call 10; refine (f10_E A0 c0 A1 c1 A2 c2 (builtS (l.take i)) (rd_T32 l i) hn_ er _ (HVx.out.below (by repeat (first | exact Below.refl _ _ | apply below_alloc | apply below_drew1 | apply pw_below_drewN))) HOK.out _ (HFx.out.below (by repeat (first | exact Below.refl _ _ | apply below_alloc | apply below_drew1 | apply pw_below_drewN))) HE.out).mono ?_; rintro e w2 ⟨v0, v1, v2, rfl, hw2, hb2⟩; have HN := Aside0.mk hw2.bound; have HBx : Aside0 (Below wr.heap.size wr w2) := ⟨Below.trans (by repeat (first | exact Below.refl _ _ | apply below_alloc | apply below_drew1 | apply pw_below_drewN)) (hb2.mono (by first | (simp; done) | (simp; omega)))⟩; have HN2 : Aside0 (HW w2 (fun k => (w.heap.size < k ∧ k < wr.heap.size) ∧ k < w2.heap.size) (.slice A0 (builtS (l.take i)).f0.length c0) (.slice A1 (builtS (l.take i)).f1.length c1) (.slice A2 (builtS (l.take i)).f2.length c2) (builtS (l.take i))) := ⟨HW.mono (HW.below (HW.bound HO.out) HBx.out) (fun k hk => ⟨hk, by have h_ := HBx.out.size; omega⟩)⟩; have HB2 := Aside0.mk (HB.out.trans (HBx.out.mono HB.out.size)); have BH2 := Aside0.mk ((HBx.out.block _ (by omega)).trans HH.out); have hz2 := HBx.out.size; clear a0 a1 a2 a3 p0 p1 p2 p3; obtain ⟨⟨a0, a1, a2, a3⟩, p0, p1, p2, p3⟩ := blk4 BH2.out; (first | (have hnew := (hb2.block _ (by simp)).trans (heap_alloc_new _ (.cells #[.slice none 0 0, .slice none 0 0, .slice none 0 0, .int .i64 0] 27)); obtain ⟨⟨y0, y1, y2, y3⟩, z0, z1, z2, z3⟩ := blk4 hnew; have HNW := Aside0.mk hnew; clear hnew) | skip); obtain ⟨⟨B0, d0, rfl, -, -⟩, ⟨B1, d1, rfl, -, -⟩, ⟨B2, d2, rfl, -, -⟩⟩ := hw2; have hq1 : w.heap.size < w2.heap.size := (by omega); (first | have hq5 : wr.heap.size < w2.heap.size := (by (try simp at hb2); have h_ := hb2.size; (try simp at h_); omega) | skip); clear hb2)
            all_goals
              simp only [Act.put, List.getElem_toArray, List.getElem_cons_succ, List.getElem_cons_zero, List.setIfInBounds_toArray, List.set_cons_zero, List.set_cons_succ]
              go_wp2
              go_meet
              case rel => first
                | (have t_ := HNW.out; clear t_; exact ⟨wr.heap.size, B0, B1, B2, d0, d1, d2, rfl, rfl, by omega, by simp; omega, ⟨blk_far4 BH2.out (by omega) _ _ _ _⟩, ⟨blk_set4 HNW.out⟩, ⟨HW.mono (HW.far4 HN.out (fun k hk => by rcases hk with ⟨hk | hk, hk2⟩ <;> (try simp at hk) <;> omega) _ _ _ _) (fun k hk => by rcases hk with ⟨hk | hk, hk2⟩ <;> (try simp at hk) <;> omega)⟩, ⟨HW.mono (HW.far4 HN2.out (fun k hk => by have := hk.1.2; omega) _ _ _ _) (fun k hk => ⟨hk.1.1, by have := hk.1.2; omega⟩)⟩, ⟨below_set4 HB2.out (by omega) _ _ _ _⟩, by simp; omega, ⟨fun j u hu => (below_set4 HB2.out (by omega) _ _ _ _).cell (World.block_lt_of_cell? w _ hu) |>.trans hu⟩⟩)
                | exact ⟨w2.heap.size, B0, B1, B2, d0, d1, d2, rfl, rfl, by omega, by simp, ⟨blk_alloc BH2.out _⟩, ⟨heap_alloc_new _ _⟩, ⟨HW.mono (HN.out.alloc _) (fun k hk => by rcases hk with ⟨hk | hk, hk2⟩ <;> (try simp at hk) <;> omega)⟩, ⟨HW.mono (HN2.out.alloc _) (fun k hk => ⟨hk.1.1, by have := hk.1.2; omega⟩)⟩, ⟨HB2.out.alloc (by omega) _⟩, by simp; omega, ⟨fun j u hu => (HB2.out.alloc (by omega) _).cell (World.block_lt_of_cell? w _ hu) |>.trans hu⟩⟩
          case rest =>
            clear a0 a1 a2 a3 p0 p1 p2 p3 hx0 hx1 hx2 hx3 hx4 hx5 hbl
            obtain ⟨b5, B0, B1, B2, d0, d1, d2, rfl, rfl, hb5, hb6, BH2, BN2, HN, HN2, HB2, hwz, HCL⟩ := hcut
            obtain ⟨⟨a0, a1, a2, a3⟩, p0, p1, p2, p3⟩ := blk4 BH2.out
            obtain ⟨hx0, hx1, hx2, hx3, hx4, hx5⟩ := HX5.out
            replace hx0 := HCL.out _ _ hx0
            replace hx1 := HCL.out _ _ hx1
            replace hx2 := HCL.out _ _ hx2
            replace hx3 := HCL.out _ _ hx3
            replace hx4 := HCL.out _ _ hx4
            replace hx5 := HCL.out _ _ hx5
            have hbl : (ad.add (i * 6)).block < wc.heap.size := World.block_lt_of_cell? wc _ hx0
            have hzc : w.heap.size < wc.heap.size := by omega
            go_upto_region 8 with (fail)
            go_cut [7, 8] (fun v7 v8 wd => ∃ (b7 : Nat) (C0 C1 C2 : Option Addr) (e0 e1 e2 : Nat), v7 = .pointer (some ⟨b7, 0, none⟩) ∧ v8 = .int .i64 er ∧ b5 < b7 ∧ b7 < wd.heap.size ∧ Aside0 (wd.heap[w.heap.size]? = some (.cells #[.slice A0 (builtS (l.take i)).f0.length c0, .slice A1 (builtS (l.take i)).f1.length c1, .slice A2 (builtS (l.take i)).f2.length c2, .int .i64 (builtS (l.take i)).f3] 27 (0, 0))) ∧ Aside0 (wd.heap[b5]? = some (.cells #[.slice B0 hn_.f0.length d0, .slice B1 hn_.f1.length d1, .slice B2 hn_.f2.length d2, .int .i64 hn_.f3] 27 (0, 0))) ∧ Aside0 (wd.heap[b7]? = some (.cells #[.slice C0 hn_.f0.length e0, .slice C1 hn_.f1.length e1, .slice C2 hn_.f2.length e2, .int .i64 hn_.f3] 27 (0, 0))) ∧ Aside0 (HW wd (fun k => w.heap.size < k) (.slice B0 hn_.f0.length d0) (.slice B1 hn_.f1.length d1) (.slice B2 hn_.f2.length d2) hn_) ∧ Aside0 (HW wd (fun k => w.heap.size < k) (.slice C0 hn_.f0.length e0) (.slice C1 hn_.f1.length e1) (.slice C2 hn_.f2.length e2) hn_) ∧ Aside0 (HW wd (fun k => w.heap.size < k) (.slice A0 (builtS (l.take i)).f0.length c0) (.slice A1 (builtS (l.take i)).f1.length c1) (.slice A2 (builtS (l.take i)).f2.length c2) (builtS (l.take i))) ∧ Aside0 (Below w.heap.size w wd))
            case first =>
              go_region_with (go_at_call 11; refine (f11_E A0 c0 A1 c1 A2 c2 (builtS (l.take i)) (rd_T32 l i) hn_ er _ (HN2.out.hv.below (by repeat (first | exact Below.refl _ _ | apply below_alloc | apply below_drew1 | apply pw_below_drewN))) HOK.out _ (HN2.out.hf.bound.below (by repeat (first | exact Below.refl _ _ | apply below_alloc | apply below_drew1 | apply pw_below_drewN))) HE.out).mono ?_; rintro e w3 ⟨v0, v1, v2, rfl, hw3, hb3⟩; have HM := Aside0.mk hw3.bound; have HBy : Aside0 (Below wc.heap.size wc w3) := ⟨Below.trans (by repeat (first | exact Below.refl _ _ | apply below_alloc | apply below_drew1 | apply pw_below_drewN)) (hb3.mono (by first | (simp; done) | (simp; omega)))⟩; have HB3 := Aside0.mk (HB2.out.trans (HBy.out.mono HB2.out.size)); have BH3 := Aside0.mk ((HBy.out.block _ (by omega)).trans BH2.out); have BN3 := Aside0.mk ((HBy.out.block _ (by omega)).trans BN2.out); have HN3 : Aside0 (HW w3 (fun k => (w.heap.size < k ∧ k ≠ b5) ∧ k < wc.heap.size) (.slice B0 hn_.f0.length d0) (.slice B1 hn_.f1.length d1) (.slice B2 hn_.f2.length d2) hn_) := ⟨HW.below (HW.bound HN.out) HBy.out⟩; have HP3 : Aside0 (HW w3 (fun k => (w.heap.size < k ∧ k ≠ b5) ∧ k < wc.heap.size) (.slice A0 (builtS (l.take i)).f0.length c0) (.slice A1 (builtS (l.take i)).f1.length c1) (.slice A2 (builtS (l.take i)).f2.length c2) (builtS (l.take i))) := ⟨HW.below (HW.bound HN2.out) HBy.out⟩; have hz3 := HBy.out.size; clear a0 a1 a2 a3 p0 p1 p2 p3; obtain ⟨⟨a0, a1, a2, a3⟩, p0, p1, p2, p3⟩ := blk4 BH3.out; (first | (have hnew := (hb3.block _ (by simp)).trans (heap_alloc_new _ (.cells #[.slice none 0 0, .slice none 0 0, .slice none 0 0, .int .i64 0] 27)); obtain ⟨⟨y0, y1, y2, y3⟩, z0, z1, z2, z3⟩ := blk4 hnew; have HNW := Aside0.mk hnew; clear hnew) | skip); obtain ⟨⟨C0, e0, rfl, -, -⟩, ⟨C1, e1, rfl, -, -⟩, ⟨C2, e2, rfl, -, -⟩⟩ := hw3; have hq1 : w.heap.size < w3.heap.size := (by omega); (first | have hq5 : wc.heap.size < w3.heap.size := (by have h_ := hb3.size; (try simp at h_); omega) | skip); clear hb3)
              all_goals
                simp only [Act.put, List.getElem_toArray, List.getElem_cons_succ, List.getElem_cons_zero, List.setIfInBounds_toArray, List.set_cons_zero, List.set_cons_succ]
                go_wp2
                go_meet
                case rel => first
                  | (have t_ := HNW.out; clear t_; exact ⟨wc.heap.size, C0, C1, C2, e0, e1, e2, rfl, rfl, by omega, by simp; omega, ⟨blk_far4 BH3.out (by omega) _ _ _ _⟩, ⟨blk_far4 BN3.out (by omega) _ _ _ _⟩, ⟨blk_set4 HNW.out⟩, ⟨HW.mono (HW.far4 HN3.out (fun k hk => by omega) _ _ _ _) (fun k hk => hk.1.1)⟩, ⟨HW.mono (HW.far4 HM.out (fun k hk => by rcases hk with ⟨hk | hk, hk2⟩ <;> (try simp at hk) <;> omega) _ _ _ _) (fun k hk => by rcases hk with ⟨hk | hk, hk2⟩ <;> (try simp at hk) <;> omega)⟩, ⟨HW.mono (HW.far4 HP3.out (fun k hk => by omega) _ _ _ _) (fun k hk => hk.1.1)⟩, ⟨below_set4 HB3.out (by omega) _ _ _ _⟩⟩)
                  | exact ⟨w3.heap.size, C0, C1, C2, e0, e1, e2, rfl, rfl, by omega, by simp, ⟨blk_alloc BH3.out _⟩, ⟨blk_alloc BN3.out _⟩, ⟨heap_alloc_new _ _⟩, ⟨HW.mono (HN3.out.alloc _) (fun k hk => hk.1.1)⟩, ⟨HW.mono (HM.out.alloc _) (fun k hk => by rcases hk with ⟨hk | hk, hk2⟩ <;> (try simp at hk) <;> omega)⟩, ⟨HW.mono (HP3.out.alloc _) (fun k hk => hk.1.1)⟩, ⟨HB3.out.alloc (by omega) _⟩⟩
            case rest =>
              clear a0 a1 a2 a3 p0 p1 p2 p3 hx0 hx1 hx2 hx3 hx4 hx5 hbl
              obtain ⟨b7, C0, C1, C2, e0, e1, e2, rfl, rfl, hb7, hb8, BH4, BN4, BM4, HN4, HM4, HP4, HB4⟩ := hcut
              obtain ⟨⟨a0, a1, a2, a3⟩, p0, p1, p2, p3⟩ := blk4 BH4.out
              obtain ⟨⟨f0, f1, f2, f3⟩, g0, g1, g2, g3⟩ := blk4 BN4.out
              obtain ⟨⟨y0, y1, y2, y3⟩, z0, z1, z2, z3⟩ := blk4 BM4.out
              by_cases h0 : er = 0
              · subst h0
                have HBS : Aside0 (builtS (l.take (i + 1)) = hn_) := ⟨by rw [builtS_snoc l i hl, ← rd32_get l i hl, HE.out]; rfl⟩
                go_wp2_with (go_at_call 12; refine (f12_calls B0 d0 B1 d1 B2 d2 C0 e0 C1 e1 C2 e2 hn_ HNL.out.1 HNL.out.2.1 HNL.out.2.2 _ HN4.out.hv HM4.out.hv).mono ?_; clear a0 a1 a2 a3 p0 p1 p2 p3 f0 f1 f2 f3 g0 g1 g2 g3 y0 y1 y2 y3 z0 z1 z2 z3; rintro e w5 ⟨rfl, hb⟩; have HB5 := Aside0.mk (HB4.out.trans (hb.mono HB4.out.size)); have BH5 := Aside0.mk ((hb.block _ (by omega)).trans BH4.out); have BM5 := Aside0.mk ((hb.block _ hb8).trans BM4.out); have HM5 := Aside0.mk (HM4.out.below hb); have HP5 := Aside0.mk (HP4.out.below hb); obtain ⟨⟨a0, a1, a2, a3⟩, p0, p1, p2, p3⟩ := blk4 BH5.out; obtain ⟨⟨y0, y1, y2, y3⟩, z0, z1, z2, z3⟩ := blk4 BM5.out; clear hb)
                go_roundg k1
                case measure => omega
                case rel => exact ⟨i + 1, _, _, _, int_eq (by omega), by omega, ⟨by have := HK.out; omega⟩, ⟨by rw [HBS.out]; exact blk_set4 BH5.out⟩, ⟨by rw [HBS.out]; exact HW.far4 HM5.out (fun k hk => by omega) _ _ _ _⟩, ⟨below_set4 HB5.out (Nat.le_refl _) _ _ _ _⟩⟩
              · have hne : (er != 0) = true := by simpa using h0
                have heq : (er == 0) = false := by simpa using h0
                have H0 := Aside0.mk h0
                clear h0
                have HBS : Aside0 (builtS (l.take (i + 1)) = builtS (l.take i)) := ⟨by rw [builtS_snoc l i hl, ← rd32_get l i hl, HE.out]; exact if_neg H0.out⟩
                go_wp2_with (go_at_call 12; refine (f12_calls B0 d0 B1 d1 B2 d2 C0 e0 C1 e1 C2 e2 hn_ HNL.out.1 HNL.out.2.1 HNL.out.2.2 _ HN4.out.hv HM4.out.hv).mono ?_; clear a0 a1 a2 a3 p0 p1 p2 p3 f0 f1 f2 f3 g0 g1 g2 g3 y0 y1 y2 y3 z0 z1 z2 z3; rintro e w5 ⟨rfl, hb⟩; have HB5 := Aside0.mk (HB4.out.trans (hb.mono HB4.out.size)); have BH5 := Aside0.mk ((hb.block _ (by omega)).trans BH4.out); have BM5 := Aside0.mk ((hb.block _ hb8).trans BM4.out); have HM5 := Aside0.mk (HM4.out.below hb); have HP5 := Aside0.mk (HP4.out.below hb); obtain ⟨⟨a0, a1, a2, a3⟩, p0, p1, p2, p3⟩ := blk4 BH5.out; obtain ⟨⟨y0, y1, y2, y3⟩, z0, z1, z2, z3⟩ := blk4 BM5.out; clear hb)
                go_roundg k1
                case measure => omega
                case rel => exact ⟨i + 1, _, _, _, int_eq (by omega), by omega, ⟨by have := HK.out; omega⟩, ⟨by rw [HBS.out]; exact BH5.out⟩, ⟨by rw [HBS.out]; exact HP5.out⟩, HB5⟩
      · obtain rfl : i = l.length := by omega
        have hP := fun i h (hi : i < l.length) (hp : OkN i h ∧ i ≤ l.length) (_ : (applyE h l[i]).2 = 0) => (⟨applyE_okN hp.1 l[i], by omega⟩ : OkN (i + 1) (applyE h l[i]).1 ∧ i + 1 ≤ l.length)
        have H13 := Aside0.mk (f13_calls A c l wr (Kd.C_below HR.out HB.out) hc (by omega) (fun i h => OkN i h ∧ i ≤ l.length) ⟨OkN.nil 0, Nat.zero_le _⟩ hP (fun i h hp => hp.1.okH (by omega)))
        obtain ⟨⟨rn, re⟩, hre⟩ : ∃ z, replayS eS27 l = z := ⟨_, rfl⟩
        have hro := replay_okN l 0 eS27 (OkN.nil 0)
        rw [hre] at hro H13
        have HNL : Aside0 (rn.f0.length ≤ 1000 ∧ rn.f1.length ≤ 1000 ∧ rn.f2.length ≤ 1000) := ⟨by have h_ := hro.okH (by omega); exact ⟨h_.n0, h_.n1, h_.n2⟩⟩
        have HRE := Aside0.mk hre
        have HPP := Aside0.mk hP
        clear hre hro hP
        go_wp2_with (first
          | (go_at_call 13; refine H13.out.mono ?_; clear a0 a1 a2 a3 p0 p1 p2 p3; rintro e w2 ⟨v0, v1, v2, rfl, hw2, hb⟩; have HB2 := Aside0.mk (HB.out.trans (hb.mono HB.out.size)); have HN2 := Aside0.mk hw2; obtain ⟨⟨B0, d0, rfl, -, -⟩, ⟨B1, d1, rfl, -, -⟩, ⟨B2, d2, rfl, -, -⟩⟩ := hw2; have H14 := f14_calls A c l (w2.alloc (.cells #[.slice B0 rn.f0.length d0, .slice B1 rn.f1.length d1, .slice B2 rn.f2.length d2, .int .i64 rn.f3] 27)) (Kd.C_below HR.out (HB2.out.alloc HB2.out.size _)) hc (by omega) (fun i h => OkN i h ∧ i ≤ l.length) ⟨OkN.nil 0, Nat.zero_le _⟩ HPP.out (fun i h hp => hp.1.okH (by omega)); rw [HRE.out] at H14; have H14a := Aside0.mk H14; clear hb H14)
          | (go_at_call 14; refine H14a.out.mono ?_; rintro e w3 ⟨v0, v1, v2, rfl, hw3, hb⟩; have HB3 := Aside0.mk ((HB2.out.alloc HB2.out.size (.cells #[.slice B0 rn.f0.length d0, .slice B1 rn.f1.length d1, .slice B2 rn.f2.length d2, .int .i64 rn.f3] 27)).trans (hb.mono (by have := HB2.out.size; simp; omega))); have HN3 := Aside0.mk (HW.below (HW.alloc HN2.out (.cells #[.slice B0 rn.f0.length d0, .slice B1 rn.f1.length d1, .slice B2 rn.f2.length d2, .int .i64 rn.f3] 27)) hb); have HM3 := Aside0.mk hw3; have BN3 := Aside0.mk ((hb.block _ (by simp)).trans (heap_alloc_new w2 (.cells #[.slice B0 rn.f0.length d0, .slice B1 rn.f1.length d1, .slice B2 rn.f2.length d2, .int .i64 rn.f3] 27))); have hz3 := hb.size; simp only [World.size_alloc] at hz3; have hq3 : w2.heap.size < w3.heap.size := (by omega); obtain ⟨⟨C0, e0, rfl, -, -⟩, ⟨C1, e1, rfl, -, -⟩, ⟨C2, e2, rfl, -, -⟩⟩ := hw3; obtain ⟨⟨f0, f1, f2, f3⟩, g0, g1, g2, g3⟩ := blk4 BN3.out; clear hb)
          | (go_at_call 12; refine (f12_calls B0 d0 B1 d1 B2 d2 C0 e0 C1 e1 C2 e2 rn HNL.out.1 HNL.out.2.1 HNL.out.2.2 _ (HN3.out.alloc _).hv (HM3.out.alloc _).hv).mono ?_; rintro e w5 ⟨rfl, hb⟩; have HB5 := Aside0.mk ((HB3.out.alloc HB3.out.size _).trans (hb.mono (by have := HB3.out.size; simp; omega))); clear hb)
          | (go_at_call 9; refine (H9.out _).mono ?_; rintro e w6 ⟨rfl, hb⟩; have HB6 := Aside0.mk (HB5.out.trans (hb.mono HB5.out.size)); clear hb))
        go_ret
        exact ⟨rfl, HB6.out⟩
end Go.Proofs.Ytjeoabjccbinhaa.P

namespace Go.Proofs.Ytjeoabjccbinhaa.P
open Go.RowKit Go.Proofs.YtjeoabjccbinhaaW.PrintWords
theorem f3_row (A : Option Addr) (c : Nat) (l : List S32) (w : World) (hr : Kd.C k32 w A l.length l) (hc : l.length ≤ c) (hg : l.length * 56 ≤ 140737488351232 ∧ ∀ y ∈ l, G32 y) :
    Calls Try.prog 3 #[.slice A l.length c] w fun e w' => e = .returned (.bool true) ∧ Below w.heap.size w w' :=
  f3_calls A c l w hr hc (by omega)
end Go.Proofs.Ytjeoabjccbinhaa.P
