/- The history of a list of entries: the laws' built and the reference's Replay. Conditions: the hypotheses that stand at each theorem. -/
import Derived.Test.YtjeoabjccbinhaaH15
import Derived.Test.YtjeoabjccbinhaaK0
namespace Go.Proofs.Ytjeoabjccbinhaa.P
open Go.RowKit Go.Proofs.YtjeoabjccbinhaaW.PrintWords Go.Proofs.YtjeoabjccbinhaaW.PrintLast Go.Proofs.YtjeoabjccbinhaaW.PrintMore
set_option linter.unusedVariables false
set_option linter.unusedSimpArgs false
/-- A history's slices are read; their blocks. -/
theorem HW.open {w : World} {ok : Nat → Prop} {v0 v1 v2 : Value} {h : S27} (hh : HW w ok v0 v1 v2 h) : ∃ A0 c0 A1 c1 A2 c2, v0 = .slice A0 h.f0.length c0 ∧ v1 = .slice A1 h.f1.length c1 ∧ v2 = .slice A2 h.f2.length c2 ∧ HV w A0 c0 h.f0 A1 c1 h.f1 A2 c2 h.f2 ∧ HF w ok A0 h.f0 A1 h.f1 A2 h.f2 := by
  obtain ⟨⟨A0, c0, e0, k0, f0⟩, ⟨A1, c1, e1, k1, f1⟩, ⟨A2, c2, e2, k2, f2⟩⟩ := hh
  exact ⟨A0, c0, A1, c1, A2, c2, e0, e1, e2, ⟨Kd.F_now f0, Kd.F_now f1, Kd.F_now f2, k0, k1, k2⟩, ⟨f0, f1, f2⟩⟩
theorem HW.mono {w : World} {ok ok' : Nat → Prop} {v0 v1 v2 : Value} {h : S27} (hh : HW w ok v0 v1 v2 h) (hk : ∀ k, ok k → ok' k) : HW w ok' v0 v1 v2 h := ⟨Kd.V_mono hh.1 hk, Kd.V_mono hh.2.1 hk, Kd.V_mono hh.2.2 hk⟩
theorem HW.far {w : World} {ok : Nat → Prop} {v0 v1 v2 : Value} {h : S27} (hh : HW w ok v0 v1 v2 h) {p : Addr} (hk : ∀ k, ok k → k ≠ p.block) (u : Value) : HW (w.setCell p u) ok v0 v1 v2 h := ⟨Kd.V_far hh.1 hk u, Kd.V_far hh.2.1 hk u, Kd.V_far hh.2.2 hk u⟩
theorem HW.below {w w' : World} {ok : Nat → Prop} {v0 v1 v2 : Value} {h : S27} (hh : HW w ok v0 v1 v2 h) (hb : Below w.heap.size w w') : HW w' ok v0 v1 v2 h := ⟨Kd.V_below hh.1 hb, Kd.V_below hh.2.1 hb, Kd.V_below hh.2.2 hb⟩
theorem HW.bound {w : World} {ok : Nat → Prop} {v0 v1 v2 : Value} {h : S27} (hh : HW w ok v0 v1 v2 h) : HW w (fun k => ok k ∧ k < w.heap.size) v0 v1 v2 h := ⟨Kd.V_bound hh.1, Kd.V_bound hh.2.1, Kd.V_bound hh.2.2⟩
theorem HW.alloc {w : World} {ok : Nat → Prop} {v0 v1 v2 : Value} {h : S27} (hh : HW w ok v0 v1 v2 h) (o : Obj) : HW (w.alloc o) ok v0 v1 v2 h := HW.below hh (below_alloc (Below.refl _ _) o)
theorem HF.bound {w : World} {ok : Nat → Prop} {A0 : Option Addr} {l0 : List S41} {A1 : Option Addr} {l1 : List S86} {A2 : Option Addr} {l2 : List S86} (h : HF w ok A0 l0 A1 l1 A2 l2) : HF w (fun k => ok k ∧ k < w.heap.size) A0 l0 A1 l1 A2 l2 := ⟨Kd.F_bound h.f0, Kd.F_bound h.f1, Kd.F_bound h.f2⟩
theorem blk_set4 {w : World} {g : Nat} {a b c d a' b' c' d' : Value} {t : TypeId} (h : w.heap[g]? = some (.cells #[a, b, c, d] t (0, 0))) :
    ((((w.setCell ⟨g, 0, none⟩ a').setCell ⟨g, 1, none⟩ b').setCell ⟨g, 2, none⟩ c').setCell ⟨g, 3, none⟩ d').heap[g]? = some (.cells #[a', b', c', d'] t (0, 0)) := by
  have h1 := blk_put h 0 a' rfl
  have h2 := blk_put h1 1 b' rfl
  have h3 := blk_put h2 2 c' rfl
  exact blk_put h3 3 d' rfl
theorem blk_far4 {w : World} {g g' : Nat} {t : TypeId} {cs : Array Value} (h : w.heap[g]? = some (.cells cs t (0, 0))) (hp : g ≠ g') (a' b' c' d' : Value) :
    ((((w.setCell ⟨g', 0, none⟩ a').setCell ⟨g', 1, none⟩ b').setCell ⟨g', 2, none⟩ c').setCell ⟨g', 3, none⟩ d').heap[g]? = some (.cells cs t (0, 0)) :=
  blk_far (p := ⟨g', 3, none⟩) (blk_far (p := ⟨g', 2, none⟩) (blk_far (p := ⟨g', 1, none⟩) (blk_far (p := ⟨g', 0, none⟩) h hp a') hp b') hp c') hp d'
theorem HW.far4 {w : World} {ok : Nat → Prop} {v0 v1 v2 : Value} {h : S27} (hh : HW w ok v0 v1 v2 h) {g' : Nat} (hk : ∀ k, ok k → k ≠ g') (a' b' c' d' : Value) :
    HW ((((w.setCell ⟨g', 0, none⟩ a').setCell ⟨g', 1, none⟩ b').setCell ⟨g', 2, none⟩ c').setCell ⟨g', 3, none⟩ d') ok v0 v1 v2 h :=
  HW.far (p := ⟨g', 3, none⟩) (HW.far (p := ⟨g', 2, none⟩) (HW.far (p := ⟨g', 1, none⟩) (HW.far (p := ⟨g', 0, none⟩) hh hk a') hk b') hk c') hk d'
theorem below_set4 {B : Nat} {w W : World} (h : Below B w W) {g' : Nat} (hg : B ≤ g') (a' b' c' d' : Value) :
    Below B w ((((W.setCell ⟨g', 0, none⟩ a').setCell ⟨g', 1, none⟩ b').setCell ⟨g', 2, none⟩ c').setCell ⟨g', 3, none⟩ d') :=
  (((h.setCell (p := ⟨g', 0, none⟩) hg a').setCell (p := ⟨g', 1, none⟩) hg b').setCell (p := ⟨g', 2, none⟩) hg c').setCell (p := ⟨g', 3, none⟩) hg d'
theorem HW.hv {w : World} {ok : Nat → Prop} {A0 A1 A2 : Option Addr} {n0 n1 n2 c0 c1 c2 : Nat} {h : S27} (hh : HW w ok (.slice A0 n0 c0) (.slice A1 n1 c1) (.slice A2 n2 c2) h) : HV w A0 c0 h.f0 A1 c1 h.f1 A2 c2 h.f2 := by
  obtain ⟨h0, h1, h2⟩ := hh
  obtain ⟨e0, k0, r0⟩ := Kd.V_reads' h0
  obtain ⟨e1, k1, r1⟩ := Kd.V_reads' h1
  obtain ⟨e2, k2, r2⟩ := Kd.V_reads' h2
  subst e0; subst e1; subst e2
  exact ⟨r0, r1, r2, k0, k1, k2⟩
theorem HW.hf {w : World} {ok : Nat → Prop} {A0 A1 A2 : Option Addr} {c0 c1 c2 : Nat} {h : S27} (hh : HW w ok (.slice A0 h.f0.length c0) (.slice A1 h.f1.length c1) (.slice A2 h.f2.length c2) h) : HF w ok A0 h.f0 A1 h.f1 A2 h.f2 :=
  ⟨Kd.V_F hh.1, Kd.V_F hh.2.1, Kd.V_F hh.2.2⟩
/-- What Apply returns, for a history and an entry. -/
theorem f11_E (A0 : Option Addr) (c0 : Nat) (A1 : Option Addr) (c1 : Nat) (A2 : Option Addr) (c2 : Nat) (h : S27) (x : S32) (h' : S27) (er : Int) (w : World) (hr : HV w A0 c0 h.f0 A1 c1 h.f1 A2 c2 h.f2) (ho : OkH h.f0 h.f1 h.f2) (ok : Nat → Prop) (hx : HF w ok A0 h.f0 A1 h.f1 A2 h.f2) (he : applyE h x = (h', er)) :
    Calls Try.prog 11 #[.agg #[.slice A0 h.f0.length c0, .slice A1 h.f1.length c1, .slice A2 h.f2.length c2, .int .i64 h.f3], .agg #[.int .i64 x.f0, .int .i64 x.f1, .int .i64 x.f2, .int .i64 x.f3, .int .i64 x.f4, .string x.f5]] w fun e w' => ∃ v0 v1 v2, e = .returned (.tuple #[.agg #[v0, v1, v2, .int .i64 h'.f3], .int .i64 er]) ∧ HW w' (fun k => ok k ∨ w.heap.size ≤ k) v0 v1 v2 h' ∧ Below w.heap.size w w' := by
  have e1 : h' = (applyS ⟨h.f0, h.f1, h.f2, h.f3⟩ x.f0 x.f1 x.f2 x.f3 x.f4 x.f5).1 := by rw [show applyS ⟨h.f0, h.f1, h.f2, h.f3⟩ x.f0 x.f1 x.f2 x.f3 x.f4 x.f5 = (h', er) from he]
  have e2 : er = (applyS ⟨h.f0, h.f1, h.f2, h.f3⟩ x.f0 x.f1 x.f2 x.f3 x.f4 x.f5).2 := by rw [show applyS ⟨h.f0, h.f1, h.f2, h.f3⟩ x.f0 x.f1 x.f2 x.f3 x.f4 x.f5 = (h', er) from he]
  subst e1
  subst e2
  exact f11_calls A0 c0 h.f0 A1 c1 h.f1 A2 c2 h.f2 h.f3 x.f0 x.f1 x.f2 x.f3 x.f4 x.f5 w hr ho ok hx
theorem f10_E (A0 : Option Addr) (c0 : Nat) (A1 : Option Addr) (c1 : Nat) (A2 : Option Addr) (c2 : Nat) (h : S27) (x : S32) (h' : S27) (er : Int) (w : World) (hr : HV w A0 c0 h.f0 A1 c1 h.f1 A2 c2 h.f2) (ho : OkH h.f0 h.f1 h.f2) (ok : Nat → Prop) (hx : HF w ok A0 h.f0 A1 h.f1 A2 h.f2) (he : applyE h x = (h', er)) :
    Calls Try.prog 10 #[.agg #[.slice A0 h.f0.length c0, .slice A1 h.f1.length c1, .slice A2 h.f2.length c2, .int .i64 h.f3], .agg #[.int .i64 x.f0, .int .i64 x.f1, .int .i64 x.f2, .int .i64 x.f3, .int .i64 x.f4, .string x.f5]] w fun e w' => ∃ v0 v1 v2, e = .returned (.tuple #[.agg #[v0, v1, v2, .int .i64 h'.f3], .int .i64 er]) ∧ HW w' (fun k => ok k ∨ w.heap.size ≤ k) v0 v1 v2 h' ∧ Below w.heap.size w w' := by
  have e1 : h' = (applyS ⟨h.f0, h.f1, h.f2, h.f3⟩ x.f0 x.f1 x.f2 x.f3 x.f4 x.f5).1 := by rw [show applyS ⟨h.f0, h.f1, h.f2, h.f3⟩ x.f0 x.f1 x.f2 x.f3 x.f4 x.f5 = (h', er) from he]
  have e2 : er = (applyS ⟨h.f0, h.f1, h.f2, h.f3⟩ x.f0 x.f1 x.f2 x.f3 x.f4 x.f5).2 := by rw [show applyS ⟨h.f0, h.f1, h.f2, h.f3⟩ x.f0 x.f1 x.f2 x.f3 x.f4 x.f5 = (h', er) from he]
  subst e1
  subst e2
  exact f10_calls A0 c0 h.f0 A1 c1 h.f1 A2 c2 h.f2 h.f3 x.f0 x.f1 x.f2 x.f3 x.f4 x.f5 w hr ho ok hx
set_option maxHeartbeats 8000000 in
set_option maxRecDepth 100000 in
theorem f15_calls (A : Option Addr) (c : Nat) (l : List S32) (w : World) (hr : Kd.C k32 w A l.length l) (hc : l.length ≤ c) (hn : l.length ≤ 1000) :
    Calls Try.prog 15 #[.slice A l.length c] w fun e w' => ∃ v0 v1 v2, e = .returned (.agg #[v0, v1, v2, .int .i64 (builtS l).f3]) ∧ HW w' (fun k => w.heap.size ≤ k) v0 v1 v2 (builtS l) ∧ Below w.heap.size w w' := by
  have HR := Aside0.mk hr
  have hal := alloc2 w (.cells #[.slice none 0 0, .slice none 0 0, .slice none 0 0, .int .i64 0] 27) (.cells #[.slice none 0 0, .slice none 0 0, .slice none 0 0, .int .i64 0] 27)
  have HAL := Aside0.mk hal
  have HB0 : Aside0 (Below w.heap.size w ((w.alloc (.cells #[.slice none 0 0, .slice none 0 0, .slice none 0 0, .int .i64 0] 27)).alloc (.cells #[.slice none 0 0, .slice none 0 0, .slice none 0 0, .int .i64 0] 27))) := ⟨((Below.refl w.heap.size w).alloc (Nat.le_refl _) (.cells #[.slice none 0 0, .slice none 0 0, .slice none 0 0, .int .i64 0] 27)).alloc (by simp) (.cells #[.slice none 0 0, .slice none 0 0, .slice none 0 0, .int .i64 0] 27)⟩
  clear hr hal
  go_enter Try.func15, Try.ntmps15
  go_wp2
  go_loopg [4] l.length (fun kq v4 w' => ∃ (i : Nat) (v0 v1 v2 : Value), v4 = .int .i64 i ∧ i ≤ l.length ∧ Aside0 (kq + i = l.length) ∧ Aside0 (w'.heap[w.heap.size]? = some (.cells #[.slice none 0 0, .slice none 0 0, .slice none 0 0, .int .i64 0] 27 (0, 0))) ∧ Aside0 (w'.heap[w.heap.size + 1]? = some (.cells #[v0, v1, v2, .int .i64 (builtS (l.take i)).f3] 27 (0, 0))) ∧ Aside0 (HW w' (fun k => w.heap.size + 1 < k) v0 v1 v2 (builtS (l.take i))) ∧ Aside0 (Below w.heap.size w w'))
  case atStart => exact ⟨0, .slice none 0 0, .slice none 0 0, .slice none 0 0, rfl, Nat.zero_le _, ⟨by omega⟩, ⟨HAL.out.1⟩, ⟨HAL.out.2⟩, ⟨HW.nil _ _⟩, HB0⟩
  case round =>
    obtain ⟨i, v0, v1, v2, rfl, hi, HK, HZ, HH, HO, HB⟩ := hrel
    obtain ⟨A0, c0, A1, c1, A2, c2, rfl, rfl, rfl, hV, hF⟩ := HW.open HO.out
    have HVx := Aside0.mk hV
    have HFx := Aside0.mk hF.bound
    have hzw := HB.out.size
    clear hV hF
    obtain ⟨⟨a0, a1, a2, a3⟩, p0, p1, p2, p3⟩ := blk4 HH.out
    obtain ⟨⟨u0, u1, u2, u3⟩, q0, q1, q2, q3⟩ := blk4 HZ.out
    by_cases hl : i < l.length
    · cases gk with
      | zero => exact absurd HK.out (by omega)
      | succ k1 =>
        have HOK := Aside0.mk ((builtS_okN l i hi).okH (by omega))
        obtain ⟨ad, rfl, hx0, hx1, hx2, hx3, hx4, hx5⟩ := at_T32 HR.out (i : Int) (by omega) (by omega)
        rw [Int.toNat_natCast] at hx0 hx1 hx2 hx3 hx4 hx5
        replace hx0 := (HB.out.cell (World.block_lt_of_cell? w _ hx0)).trans hx0
        replace hx1 := (HB.out.cell (World.block_lt_of_cell? w _ hx1)).trans hx1
        replace hx2 := (HB.out.cell (World.block_lt_of_cell? w _ hx2)).trans hx2
        replace hx3 := (HB.out.cell (World.block_lt_of_cell? w _ hx3)).trans hx3
        replace hx4 := (HB.out.cell (World.block_lt_of_cell? w _ hx4)).trans hx4
        replace hx5 := (HB.out.cell (World.block_lt_of_cell? w _ hx5)).trans hx5
        have hzb := World.block_lt_of_cell? wr _ a0
        have hzb : w.heap.size + 1 < wr.heap.size := hzb
        have hbl : (ad.add (i * 6)).block < wr.heap.size := World.block_lt_of_cell? wr _ hx0
        obtain ⟨⟨hn_, er⟩, he⟩ : ∃ z, applyE (builtS (l.take i)) (rd_T32 l i) = z := ⟨_, rfl⟩
        have HE := Aside0.mk he
        clear he
        go_upto_region 5 with (fail)
        go_cut [5, 6] (fun v5 v6 wd => ∃ (b5 : Nat) (B0 B1 B2 : Option Addr) (d0 d1 d2 : Nat), v5 = .pointer (some ⟨b5, 0, none⟩) ∧ v6 = .int .i64 er ∧ w.heap.size + 1 < b5 ∧ b5 < wd.heap.size ∧ Aside0 (wd.heap[w.heap.size]? = some (.cells #[.slice none 0 0, .slice none 0 0, .slice none 0 0, .int .i64 0] 27 (0, 0))) ∧ Aside0 (wd.heap[w.heap.size + 1]? = some (.cells #[.slice A0 (builtS (l.take i)).f0.length c0, .slice A1 (builtS (l.take i)).f1.length c1, .slice A2 (builtS (l.take i)).f2.length c2, .int .i64 (builtS (l.take i)).f3] 27 (0, 0))) ∧ Aside0 (wd.heap[b5]? = some (.cells #[.slice B0 hn_.f0.length d0, .slice B1 hn_.f1.length d1, .slice B2 hn_.f2.length d2, .int .i64 hn_.f3] 27 (0, 0))) ∧ Aside0 (HW wd (fun k => w.heap.size + 1 < k ∧ k ≠ b5) (.slice B0 hn_.f0.length d0) (.slice B1 hn_.f1.length d1) (.slice B2 hn_.f2.length d2) hn_) ∧ Aside0 (HW wd (fun k => w.heap.size + 1 < k ∧ k ≠ b5) (.slice A0 (builtS (l.take i)).f0.length c0) (.slice A1 (builtS (l.take i)).f1.length c1) (.slice A2 (builtS (l.take i)).f2.length c2) (builtS (l.take i))) ∧ Aside0 (Below w.heap.size w wd))
        case first =>
          go_region_with (go_at_call 11; refine (f11_E A0 c0 A1 c1 A2 c2 (builtS (l.take i)) (rd_T32 l i) hn_ er _ (HVx.out.below (by repeat (first | exact Below.refl _ _ | apply below_alloc | apply below_drew1 | apply pw_below_drewN))) HOK.out _ (HFx.out.below (by repeat (first | exact Below.refl _ _ | apply below_alloc | apply below_drew1 | apply pw_below_drewN))) HE.out).mono ?_; rintro e w2 ⟨v0, v1, v2, rfl, hw2, hb2⟩; have HN := Aside0.mk hw2.bound; have HN2 : Aside0 (HW w2 (fun k => (w.heap.size + 1 < k ∧ k < wr.heap.size) ∧ k < w2.heap.size) (.slice A0 (builtS (l.take i)).f0.length c0) (.slice A1 (builtS (l.take i)).f1.length c1) (.slice A2 (builtS (l.take i)).f2.length c2) (builtS (l.take i))) := ⟨HW.mono (HW.below (HW.bound HO.out) (by exact Below.trans (by repeat (first | exact Below.refl _ _ | apply below_alloc | apply below_drew1 | apply pw_below_drewN)) (hb2.mono (by first | (simp; done) | (simp; omega))))) (fun k hk => ⟨hk, by have h_ := hb2.size; simp at h_; omega⟩)⟩; have HBx : Aside0 (Below wr.heap.size wr w2) := ⟨Below.trans (by repeat (first | exact Below.refl _ _ | apply below_alloc | apply below_drew1 | apply pw_below_drewN)) (hb2.mono (by first | (simp; done) | (simp; omega)))⟩; have HB2 := Aside0.mk (HB.out.trans (HBx.out.mono HB.out.size)); have BZ2 := Aside0.mk ((HBx.out.block _ (by omega)).trans HZ.out); have BH2 := Aside0.mk ((HBx.out.block _ (by omega)).trans HH.out); have hz2 := hb2.size; (try simp at hz2); clear a0 a1 a2 a3 p0 p1 p2 p3 u0 u1 u2 u3 q0 q1 q2 q3; obtain ⟨⟨a0, a1, a2, a3⟩, p0, p1, p2, p3⟩ := blk4 BH2.out; obtain ⟨⟨u0, u1, u2, u3⟩, q0, q1, q2, q3⟩ := blk4 BZ2.out; (first | (have hnew := (hb2.block _ (by simp)).trans (heap_alloc_new _ (.cells #[.slice none 0 0, .slice none 0 0, .slice none 0 0, .int .i64 0] 27)); obtain ⟨⟨y0, y1, y2, y3⟩, z0, z1, z2, z3⟩ := blk4 hnew; have HNW := Aside0.mk hnew; clear hnew) | skip); obtain ⟨⟨B0, d0, rfl, -, -⟩, ⟨B1, d1, rfl, -, -⟩, ⟨B2, d2, rfl, -, -⟩⟩ := hw2; have hq0 : w.heap.size < w2.heap.size := (by omega); have hq1 : w.heap.size + 1 < w2.heap.size := (by omega); (first | have hq5 : wr.heap.size < w2.heap.size := (by omega) | skip); clear hb2)
          all_goals
            simp only [Act.put, List.getElem_toArray, List.getElem_cons_succ, List.getElem_cons_zero, List.setIfInBounds_toArray, List.set_cons_zero, List.set_cons_succ]
            go_wp2
            go_meet
            case rel => first
              | (have t_ := HNW.out; clear t_; exact ⟨wr.heap.size, B0, B1, B2, d0, d1, d2, rfl, rfl, by omega, by simp; omega, ⟨blk_far4 BZ2.out (by omega) _ _ _ _⟩, ⟨blk_far4 BH2.out (by omega) _ _ _ _⟩, ⟨blk_set4 HNW.out⟩, ⟨HW.mono (HW.far4 HN.out (fun k hk => by rcases hk with ⟨hk | hk, hk2⟩ <;> (try simp at hk) <;> omega) _ _ _ _) (fun k hk => by rcases hk with ⟨hk | hk, hk2⟩ <;> (try simp at hk) <;> omega)⟩, ⟨HW.mono (HW.far4 HN2.out (fun k hk => by have := hk.1.2; omega) _ _ _ _) (fun k hk => ⟨hk.1.1, by have := hk.1.2; omega⟩)⟩, ⟨below_set4 HB2.out (by omega) _ _ _ _⟩⟩)
              | exact ⟨w2.heap.size, B0, B1, B2, d0, d1, d2, rfl, rfl, by omega, by simp, ⟨blk_alloc BZ2.out _⟩, ⟨blk_alloc BH2.out _⟩, ⟨heap_alloc_new _ _⟩, ⟨HW.mono (HN.out.alloc _) (fun k hk => by rcases hk with ⟨hk | hk, hk2⟩ <;> (try simp at hk) <;> omega)⟩, ⟨HW.mono (HN2.out.alloc _) (fun k hk => ⟨hk.1.1, by have := hk.1.2; omega⟩)⟩, ⟨below_alloc HB2.out _⟩⟩
        case rest =>
          clear a0 a1 a2 a3 p0 p1 p2 p3 u0 u1 u2 u3 q0 q1 q2 q3 hx0 hx1 hx2 hx3 hx4 hx5 hbl
          obtain ⟨b5, B0, B1, B2, d0, d1, d2, rfl, rfl, hb5, hb6, BZ2, BH2, BN2, HN, HN2, HB2⟩ := hcut
          obtain ⟨⟨a0, a1, a2, a3⟩, p0, p1, p2, p3⟩ := blk4 BH2.out
          obtain ⟨⟨u0, u1, u2, u3⟩, q0, q1, q2, q3⟩ := blk4 BZ2.out
          obtain ⟨⟨y0, y1, y2, y3⟩, z0, z1, z2, z3⟩ := blk4 BN2.out
          by_cases h0 : er = 0
          · subst h0
            have HBS : Aside0 (builtS (l.take (i + 1)) = hn_) := ⟨by rw [builtS_snoc l i hl, ← rd32_get l i hl, HE.out]; rfl⟩
            go_wp2
            go_roundg k1
            case measure => omega
            case rel => exact ⟨i + 1, _, _, _, int_eq (by omega), by omega, ⟨by have := HK.out; omega⟩, ⟨blk_far4 BZ2.out (by omega) _ _ _ _⟩, ⟨by rw [HBS.out]; exact blk_set4 BH2.out⟩, ⟨by rw [HBS.out]; exact HW.mono (HW.far4 HN.out (fun k hk => by omega) _ _ _ _) (fun k hk => hk.1)⟩, ⟨below_set4 HB2.out (by omega) _ _ _ _⟩⟩
          · have hne : (er != 0) = true := by simpa using h0
            have heq : (er == 0) = false := by simpa using h0
            have H0 := Aside0.mk h0
            clear h0
            have HBS : Aside0 (builtS (l.take (i + 1)) = builtS (l.take i)) := ⟨by rw [builtS_snoc l i hl, ← rd32_get l i hl, HE.out]; exact if_neg H0.out⟩
            go_wp2
            go_roundg k1
            case measure => omega
            case rel => exact ⟨i + 1, _, _, _, int_eq (by omega), by omega, ⟨by have := HK.out; omega⟩, BZ2, ⟨by rw [HBS.out]; exact BH2.out⟩, ⟨by rw [HBS.out]; exact HW.mono HN2.out (fun k hk => hk.1)⟩, HB2⟩
    · obtain rfl : i = l.length := by omega
      rw [List.take_length] at a3 HO HH
      go_wp2
      refine bodyPost_ret (v := .agg #[.slice A0 (builtS l).f0.length c0, .slice A1 (builtS l).f1.length c1, .slice A2 (builtS l).f2.length c2, .int .i64 (builtS l).f3]) (by simp [results, Try.results15, go_sem, u0, u1, u2, u3, a0, a1, a2, a3]) rfl ⟨_, _, _, rfl, ?_, ?_⟩
      · exact HW.mono (HW.far4 HO.out (fun k hk => by omega) _ _ _ _) (fun k hk => by omega)
      · exact below_set4 HB.out (Nat.le_refl _) _ _ _ _
set_option maxHeartbeats 8000000 in
set_option maxRecDepth 100000 in
theorem f14_calls (A : Option Addr) (c : Nat) (l : List S32) (w : World) (hr : Kd.C k32 w A l.length l) (hc : l.length ≤ c) (hn : l.length ≤ 100000) (P : Nat → S27 → Prop) (hp0 : P 0 eS27) (hpS : ∀ i h (hi : i < l.length), P i h → (applyE h l[i]).2 = 0 → P (i + 1) (applyE h l[i]).1) (hpO : ∀ i h, P i h → OkH h.f0 h.f1 h.f2) :
    Calls Try.prog 14 #[.slice A l.length c] w fun e w' => ∃ v0 v1 v2, e = .returned (.tuple #[.agg #[v0, v1, v2, .int .i64 (replayS eS27 l).1.f3], .int .i64 (replayS eS27 l).2]) ∧ HW w' (fun k => w.heap.size ≤ k) v0 v1 v2 (replayS eS27 l).1 ∧ Below w.heap.size w w' := by
  have HR := Aside0.mk hr
  have HPS := Aside0.mk hpS
  have HPO := Aside0.mk hpO
  have HP0 := Aside0.mk hp0
  have hal := alloc2 w (.cells #[.slice none 0 0, .slice none 0 0, .slice none 0 0, .int .i64 0] 27) (.cells #[.slice none 0 0, .slice none 0 0, .slice none 0 0, .int .i64 0] 27)
  have HAL := Aside0.mk hal
  have HB0 : Aside0 (Below w.heap.size w ((w.alloc (.cells #[.slice none 0 0, .slice none 0 0, .slice none 0 0, .int .i64 0] 27)).alloc (.cells #[.slice none 0 0, .slice none 0 0, .slice none 0 0, .int .i64 0] 27))) := ⟨((Below.refl w.heap.size w).alloc (Nat.le_refl _) (.cells #[.slice none 0 0, .slice none 0 0, .slice none 0 0, .int .i64 0] 27)).alloc (by simp) (.cells #[.slice none 0 0, .slice none 0 0, .slice none 0 0, .int .i64 0] 27)⟩
  clear hr hal hpS hpO hp0
  go_enter Try.func14, Try.ntmps14
  go_wp2
  go_loopg [5] l.length (fun kq v5 w' => ∃ (i : Nat) (h : S27) (v0 v1 v2 : Value), v5 = .int .i64 i ∧ i ≤ l.length ∧ Aside0 (kq + i = l.length) ∧ Aside0 (w'.heap[w.heap.size]? = some (.cells #[.slice none 0 0, .slice none 0 0, .slice none 0 0, .int .i64 0] 27 (0, 0))) ∧ Aside0 (w'.heap[w.heap.size + 1]? = some (.cells #[v0, v1, v2, .int .i64 h.f3] 27 (0, 0))) ∧ Aside0 (HW w' (fun k => w.heap.size + 1 < k) v0 v1 v2 h) ∧ Aside0 (P i h) ∧ Aside0 (replayS eS27 l = replayS h (l.drop i)) ∧ Aside0 (Below w.heap.size w w'))
  case atStart => exact ⟨0, eS27, .slice none 0 0, .slice none 0 0, .slice none 0 0, rfl, Nat.zero_le _, ⟨by omega⟩, ⟨HAL.out.1⟩, ⟨HAL.out.2⟩, ⟨HW.nil _ _⟩, HP0, ⟨rfl⟩, HB0⟩
  case round =>
    obtain ⟨i, h, v0, v1, v2, rfl, hi, HK, HZ, HH, HO, HP, HQ, HB⟩ := hrel
    obtain ⟨A0, c0, A1, c1, A2, c2, rfl, rfl, rfl, hV, hF⟩ := HW.open HO.out
    have HVx := Aside0.mk hV
    have HFx := Aside0.mk hF.bound
    have hzw := HB.out.size
    clear hV hF
    obtain ⟨⟨a0, a1, a2, a3⟩, p0, p1, p2, p3⟩ := blk4 HH.out
    obtain ⟨⟨u0, u1, u2, u3⟩, q0, q1, q2, q3⟩ := blk4 HZ.out
    by_cases hl : i < l.length
    · cases gk with
      | zero => exact absurd HK.out (by omega)
      | succ k1 =>
        have HOK := Aside0.mk (HPO.out i h HP.out)
        obtain ⟨ad, rfl, hx0, hx1, hx2, hx3, hx4, hx5⟩ := at_T32 HR.out (i : Int) (by omega) (by omega)
        rw [Int.toNat_natCast] at hx0 hx1 hx2 hx3 hx4 hx5
        replace hx0 := (HB.out.cell (World.block_lt_of_cell? w _ hx0)).trans hx0
        replace hx1 := (HB.out.cell (World.block_lt_of_cell? w _ hx1)).trans hx1
        replace hx2 := (HB.out.cell (World.block_lt_of_cell? w _ hx2)).trans hx2
        replace hx3 := (HB.out.cell (World.block_lt_of_cell? w _ hx3)).trans hx3
        replace hx4 := (HB.out.cell (World.block_lt_of_cell? w _ hx4)).trans hx4
        replace hx5 := (HB.out.cell (World.block_lt_of_cell? w _ hx5)).trans hx5
        have hzb := World.block_lt_of_cell? wr _ a0
        have hzb : w.heap.size + 1 < wr.heap.size := hzb
        have hbl : (ad.add (i * 6)).block < wr.heap.size := World.block_lt_of_cell? wr _ hx0
        obtain ⟨⟨hn_, er⟩, he⟩ : ∃ z, applyE h (rd_T32 l i) = z := ⟨_, rfl⟩
        have HE := Aside0.mk he
        clear he
        go_upto_region 5 with (fail)
        go_cut [6, 7] (fun v6 v7 wd => ∃ (b5 : Nat) (B0 B1 B2 : Option Addr) (d0 d1 d2 : Nat), v6 = .pointer (some ⟨b5, 0, none⟩) ∧ v7 = .int .i64 er ∧ w.heap.size + 1 < b5 ∧ b5 < wd.heap.size ∧ Aside0 (wd.heap[w.heap.size]? = some (.cells #[.slice none 0 0, .slice none 0 0, .slice none 0 0, .int .i64 0] 27 (0, 0))) ∧ Aside0 (wd.heap[w.heap.size + 1]? = some (.cells #[.slice A0 h.f0.length c0, .slice A1 h.f1.length c1, .slice A2 h.f2.length c2, .int .i64 h.f3] 27 (0, 0))) ∧ Aside0 (wd.heap[b5]? = some (.cells #[.slice B0 hn_.f0.length d0, .slice B1 hn_.f1.length d1, .slice B2 hn_.f2.length d2, .int .i64 hn_.f3] 27 (0, 0))) ∧ Aside0 (HW wd (fun k => w.heap.size + 1 < k ∧ k ≠ b5) (.slice B0 hn_.f0.length d0) (.slice B1 hn_.f1.length d1) (.slice B2 hn_.f2.length d2) hn_) ∧ Aside0 (HW wd (fun k => w.heap.size + 1 < k ∧ k ≠ b5) (.slice A0 h.f0.length c0) (.slice A1 h.f1.length c1) (.slice A2 h.f2.length c2) h) ∧ Aside0 (Below w.heap.size w wd))
        case first =>
          go_region_with (go_at_call 11; refine (f11_E A0 c0 A1 c1 A2 c2 h (rd_T32 l i) hn_ er _ (HVx.out.below (by repeat (first | exact Below.refl _ _ | apply below_alloc | apply below_drew1 | apply pw_below_drewN))) HOK.out _ (HFx.out.below (by repeat (first | exact Below.refl _ _ | apply below_alloc | apply below_drew1 | apply pw_below_drewN))) HE.out).mono ?_; rintro e w2 ⟨v0, v1, v2, rfl, hw2, hb2⟩; have HN := Aside0.mk hw2.bound; have HN2 : Aside0 (HW w2 (fun k => (w.heap.size + 1 < k ∧ k < wr.heap.size) ∧ k < w2.heap.size) (.slice A0 h.f0.length c0) (.slice A1 h.f1.length c1) (.slice A2 h.f2.length c2) h) := ⟨HW.mono (HW.below (HW.bound HO.out) (by exact Below.trans (by repeat (first | exact Below.refl _ _ | apply below_alloc | apply below_drew1 | apply pw_below_drewN)) (hb2.mono (by first | (simp; done) | (simp; omega))))) (fun k hk => ⟨hk, by have h_ := hb2.size; simp at h_; omega⟩)⟩; have HBx : Aside0 (Below wr.heap.size wr w2) := ⟨Below.trans (by repeat (first | exact Below.refl _ _ | apply below_alloc | apply below_drew1 | apply pw_below_drewN)) (hb2.mono (by first | (simp; done) | (simp; omega)))⟩; have HB2 := Aside0.mk (HB.out.trans (HBx.out.mono HB.out.size)); have BZ2 := Aside0.mk ((HBx.out.block _ (by omega)).trans HZ.out); have BH2 := Aside0.mk ((HBx.out.block _ (by omega)).trans HH.out); have hz2 := hb2.size; (try simp at hz2); clear a0 a1 a2 a3 p0 p1 p2 p3 u0 u1 u2 u3 q0 q1 q2 q3; obtain ⟨⟨a0, a1, a2, a3⟩, p0, p1, p2, p3⟩ := blk4 BH2.out; obtain ⟨⟨u0, u1, u2, u3⟩, q0, q1, q2, q3⟩ := blk4 BZ2.out; (first | (have hnew := (hb2.block _ (by simp)).trans (heap_alloc_new _ (.cells #[.slice none 0 0, .slice none 0 0, .slice none 0 0, .int .i64 0] 27)); obtain ⟨⟨y0, y1, y2, y3⟩, z0, z1, z2, z3⟩ := blk4 hnew; have HNW := Aside0.mk hnew; clear hnew) | skip); obtain ⟨⟨B0, d0, rfl, -, -⟩, ⟨B1, d1, rfl, -, -⟩, ⟨B2, d2, rfl, -, -⟩⟩ := hw2; have hq0 : w.heap.size < w2.heap.size := (by omega); have hq1 : w.heap.size + 1 < w2.heap.size := (by omega); (first | have hq5 : wr.heap.size < w2.heap.size := (by omega) | skip); clear hb2)
          all_goals
            simp only [Act.put, List.getElem_toArray, List.getElem_cons_succ, List.getElem_cons_zero, List.setIfInBounds_toArray, List.set_cons_zero, List.set_cons_succ]
            go_wp2
            go_meet
            case rel => first
              | (have t_ := HNW.out; clear t_; exact ⟨wr.heap.size, B0, B1, B2, d0, d1, d2, rfl, rfl, by omega, by simp; omega, ⟨blk_far4 BZ2.out (by omega) _ _ _ _⟩, ⟨blk_far4 BH2.out (by omega) _ _ _ _⟩, ⟨blk_set4 HNW.out⟩, ⟨HW.mono (HW.far4 HN.out (fun k hk => by rcases hk with ⟨hk | hk, hk2⟩ <;> (try simp at hk) <;> omega) _ _ _ _) (fun k hk => by rcases hk with ⟨hk | hk, hk2⟩ <;> (try simp at hk) <;> omega)⟩, ⟨HW.mono (HW.far4 HN2.out (fun k hk => by have := hk.1.2; omega) _ _ _ _) (fun k hk => ⟨hk.1.1, by have := hk.1.2; omega⟩)⟩, ⟨below_set4 HB2.out (by omega) _ _ _ _⟩⟩)
              | exact ⟨w2.heap.size, B0, B1, B2, d0, d1, d2, rfl, rfl, by omega, by simp, ⟨blk_alloc BZ2.out _⟩, ⟨blk_alloc BH2.out _⟩, ⟨heap_alloc_new _ _⟩, ⟨HW.mono (HN.out.alloc _) (fun k hk => by rcases hk with ⟨hk | hk, hk2⟩ <;> (try simp at hk) <;> omega)⟩, ⟨HW.mono (HN2.out.alloc _) (fun k hk => ⟨hk.1.1, by have := hk.1.2; omega⟩)⟩, ⟨below_alloc HB2.out _⟩⟩
        case rest =>
          clear a0 a1 a2 a3 p0 p1 p2 p3 u0 u1 u2 u3 q0 q1 q2 q3 hx0 hx1 hx2 hx3 hx4 hx5 hbl
          obtain ⟨b5, B0, B1, B2, d0, d1, d2, rfl, rfl, hb5, hb6, BZ2, BH2, BN2, HN, HN2, HB2⟩ := hcut
          obtain ⟨⟨a0, a1, a2, a3⟩, p0, p1, p2, p3⟩ := blk4 BH2.out
          obtain ⟨⟨u0, u1, u2, u3⟩, q0, q1, q2, q3⟩ := blk4 BZ2.out
          obtain ⟨⟨y0, y1, y2, y3⟩, z0, z1, z2, z3⟩ := blk4 BN2.out
          by_cases h0 : er = 0
          · subst h0
            have HBS : Aside0 (replayS eS27 l = replayS hn_ (l.drop (i + 1))) := ⟨by rw [HQ.out, List.drop_eq_getElem_cons hl, replayS, ← rd32_get l i hl, HE.out, if_pos rfl]⟩
            have HPP : Aside0 (P (i + 1) hn_) := ⟨by have h_ := HPS.out i h hl HP.out; rw [← rd32_get l i hl, HE.out] at h_; exact h_ rfl⟩
            go_wp2
            go_roundg k1
            case measure => omega
            case rel => exact ⟨i + 1, hn_, _, _, _, int_eq (by omega), by omega, ⟨by have := HK.out; omega⟩, ⟨blk_far4 BZ2.out (by omega) _ _ _ _⟩, ⟨blk_set4 BH2.out⟩, ⟨HW.mono (HW.far4 HN.out (fun k hk => by omega) _ _ _ _) (fun k hk => hk.1)⟩, HPP, HBS, ⟨below_set4 HB2.out (by omega) _ _ _ _⟩⟩
          · have hne : (er != 0) = true := by simpa using h0
            have heq : (er == 0) = false := by simpa using h0
            have H0 := Aside0.mk h0
            clear h0
            have HBS : Aside0 (replayS eS27 l = (eS27, er)) := ⟨by rw [HQ.out, List.drop_eq_getElem_cons hl, replayS, ← rd32_get l i hl, HE.out, if_neg H0.out]⟩
            go_wp2
            refine bodyPost_ret (v := .tuple #[.agg #[.slice none 0 0, .slice none 0 0, .slice none 0 0, .int .i64 0], .int .i64 er]) (by simp [results, Try.results14, go_sem, u0, u1, u2, u3]) rfl ?_
            rw [HBS.out]
            exact ⟨_, _, _, rfl, HW.nil _ _, below_set4 HB2.out (Nat.le_refl _) _ _ _ _⟩
    · obtain rfl : i = l.length := by omega
      have HBS : Aside0 (replayS eS27 l = (h, 0)) := ⟨by rw [HQ.out, List.drop_of_length_le (Nat.le_refl _)]; rfl⟩
      go_wp2
      refine bodyPost_ret (v := .tuple #[.agg #[.slice A0 h.f0.length c0, .slice A1 h.f1.length c1, .slice A2 h.f2.length c2, .int .i64 h.f3], .int .i64 0]) (by simp [results, Try.results14, go_sem, u0, u1, u2, u3, a0, a1, a2, a3]) rfl ?_
      rw [HBS.out]
      exact ⟨_, _, _, rfl, HW.mono (HW.far4 HO.out (fun k hk => by omega) _ _ _ _) (fun k hk => by omega), below_set4 HB.out (Nat.le_refl _) _ _ _ _⟩
end Go.Proofs.Ytjeoabjccbinhaa.P
