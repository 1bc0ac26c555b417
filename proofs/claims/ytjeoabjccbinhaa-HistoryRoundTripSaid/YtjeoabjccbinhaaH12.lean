/- history.Apply. Conditions: the hypotheses that stand at each theorem. -/
import Derived.Test.YtjeoabjccbinhaaH9
import Derived.Test.YtjeoabjccbinhaaH11
namespace Go.Proofs.Ytjeoabjccbinhaa.P
open Go.RowKit Go.Proofs.YtjeoabjccbinhaaW.PrintWords Go.Proofs.YtjeoabjccbinhaaW.PrintLast Go.Proofs.YtjeoabjccbinhaaW.PrintMore
set_option linter.unusedVariables false
set_option linter.unusedSimpArgs false
/-- A history after an entry, or an error. -/
def applyS (h : S27) (x0 x1 x2 x3 x4 : Int) (x5 : ByteArray) : S27 × Int :=
  if wfB x0 x1 x2 x3 x4 x5 = false then (eS27, 1) else if x0 = 1 then commitS h x1 x2 x3 x4 x5 else if x0 = 7 then expireS h x1
  else if x0 = 2 then (if (addS h.f0 h.f1 x5 x1).2 = 0 then (⟨h.f0, (addS h.f0 h.f1 x5 x1).1, h.f2, h.f3⟩, 0) else (eS27, (addS h.f0 h.f1 x5 x1).2))
  else if x0 = 3 then (if (addS h.f0 h.f2 x5 x1).2 = 0 then (⟨h.f0, h.f1, (addS h.f0 h.f2 x5 x1).1, h.f3⟩, 0) else (eS27, (addS h.f0 h.f2 x5 x1).2))
  else if x0 = 4 then (if hasS h.f1 x5 = true then (⟨h.f0, dropS h.f1 x5, h.f2, h.f3⟩, 0) else (eS27, 8))
  else if x0 = 5 then (if hasS h.f2 x5 = true then (⟨h.f0, h.f1, dropS h.f2 x5, h.f3⟩, 0) else (eS27, 8))
  else if x0 = 6 then (⟨h.f0, h.f1, h.f2, x1⟩, 0) else (h, 0)
theorem wfB_kind {x0 x1 x2 x3 x4 : Int} {x5 : ByteArray} (h : wfB x0 x1 x2 x3 x4 x5 = true) (h1 : x0 ≠ 1) (h7 : x0 ≠ 7) (h2 : x0 ≠ 2) (h3 : x0 ≠ 3) (h4 : x0 ≠ 4) (h5 : x0 ≠ 5) : x0 = 6 := by
  unfold wfB at h
  simp only [h1, h7, h2, h3, h4, h5, if_false, or_self] at h
  by_cases h6 : x0 = 6
  · exact h6
  · simp [h6] at h
set_option maxHeartbeats 8000000 in
set_option maxRecDepth 100000 in
theorem f10_no (A0 : Option Addr) (c0 : Nat) (l0 : List S41) (A1 : Option Addr) (c1 : Nat) (l1 : List S86) (A2 : Option Addr) (c2 : Nat) (l2 : List S86) (r : Int) (x0 x1 x2 x3 x4 : Int) (x5 : ByteArray) (w : World) (hr : HV w A0 c0 l0 A1 c1 l1 A2 c2 l2) (ho : OkH l0 l1 l2) (ok : Nat → Prop) (hx : HF w ok A0 l0 A1 l1 A2 l2) (hwf : wfB x0 x1 x2 x3 x4 x5 = false) :
    Calls Try.prog 10 #[.agg #[.slice A0 l0.length c0, .slice A1 l1.length c1, .slice A2 l2.length c2, .int .i64 r], .agg #[.int .i64 x0, .int .i64 x1, .int .i64 x2, .int .i64 x3, .int .i64 x4, .string x5]] w fun e w' => ∃ v0 v1 v2, e = .returned (.tuple #[.agg #[v0, v1, v2, .int .i64 (applyS ⟨l0, l1, l2, r⟩ x0 x1 x2 x3 x4 x5).1.f3], .int .i64 (applyS ⟨l0, l1, l2, r⟩ x0 x1 x2 x3 x4 x5).2]) ∧ HW w' (fun k => ok k ∨ w.heap.size ≤ k) v0 v1 v2 (applyS ⟨l0, l1, l2, r⟩ x0 x1 x2 x3 x4 x5).1 ∧ Below w.heap.size w w' := by
  have hb0 : Below w.heap.size w (((w.alloc (.cells #[.slice A0 l0.length c0, .slice A1 l1.length c1, .slice A2 l2.length c2, .int .i64 r] 27)).alloc (.cells #[.int .i64 x0, .int .i64 x1, .int .i64 x2, .int .i64 x3, .int .i64 x4, .string x5] 32)).alloc (.cells #[.slice none 0 0, .slice none 0 0, .slice none 0 0, .int .i64 0] 27)) := (((Below.refl w.heap.size w).alloc (Nat.le_refl _) (.cells #[.slice A0 l0.length c0, .slice A1 l1.length c1, .slice A2 l2.length c2, .int .i64 r] 27)).alloc (by simp) (.cells #[.int .i64 x0, .int .i64 x1, .int .i64 x2, .int .i64 x3, .int .i64 x4, .string x5] 32)).alloc (by simp; omega) (.cells #[.slice none 0 0, .slice none 0 0, .slice none 0 0, .int .i64 0] 27)
  have HB0 := Aside0.mk hb0
  have HR := Aside0.mk hr
  have HO := Aside0.mk ho
  have HX : Aside0 (HF w (fun k => ok k ∧ k < w.heap.size) A0 l0 A1 l1 A2 l2) := ⟨⟨Kd.F_bound hx.f0, Kd.F_bound hx.f1, Kd.F_bound hx.f2⟩⟩
  have hal := alloc3 w (.cells #[.slice A0 l0.length c0, .slice A1 l1.length c1, .slice A2 l2.length c2, .int .i64 r] 27) (.cells #[.int .i64 x0, .int .i64 x1, .int .i64 x2, .int .i64 x3, .int .i64 x4, .string x5] 32) (.cells #[.slice none 0 0, .slice none 0 0, .slice none 0 0, .int .i64 0] 27)
  have HAL := Aside0.mk hal
  have H33 := Aside0.mk (f33_calls x0 x1 x2 x3 x4 x5 (((w.alloc (.cells #[.slice A0 l0.length c0, .slice A1 l1.length c1, .slice A2 l2.length c2, .int .i64 r] 27)).alloc (.cells #[.int .i64 x0, .int .i64 x1, .int .i64 x2, .int .i64 x3, .int .i64 x4, .string x5] 32)).alloc (.cells #[.slice none 0 0, .slice none 0 0, .slice none 0 0, .int .i64 0] 27)))
  rw [hwf] at H33
  have HWF := Aside0.mk hwf
  clear hr hb0 ho hal hwf hx
  have HV : Aside0 (applyS ⟨l0, l1, l2, r⟩ x0 x1 x2 x3 x4 x5 = (eS27, 1)) := ⟨by unfold applyS; simp [HWF.out]⟩
  go_enter Try.func10, Try.ntmps10
  go_wp2_with (first
    | (go_at_call 33; refine H33.out.mono ?_; rintro e w1 ⟨rfl, hb⟩; have HY := Aside0.mk hb; have hz1 := hb.size; simp only [World.size_alloc] at hz1; obtain ⟨⟨a0, a1, a2, a3⟩, p0, p1, p2, p3⟩ := blk4 ((hb.block _ (by first | (simp; done) | (simp; omega))).trans HAL.out.1); obtain ⟨b0, b1, b2, b3, b4, b5⟩ := blk6 ((hb.block _ (by first | (simp; done) | (simp; omega))).trans HAL.out.2.1); obtain ⟨⟨u0, u1, u2, u3⟩, q0, q1, q2, q3⟩ := blk4 ((hb.block _ (by first | (simp; done) | (simp; omega))).trans HAL.out.2.2); have HB1 := Aside0.mk (HB0.out.trans (hb.mono (by first | (simp; done) | (simp; omega)))); clear hb))
  refine bodyPost_ret (v := .tuple #[.agg #[.slice none 0 0, .slice none 0 0, .slice none 0 0, .int .i64 0], .int .i64 1]) (by simp [results, Try.results10, go_sem, u0, u1, u2, u3, a0, a1, a2, a3]) rfl ?_
  rw [HV.out]
  exact ⟨_, _, _, rfl, HW.nil _ _, (by repeat (first | (with_reducible exact HB1.out) | ((with_reducible refine Below.setCell ?_ ?_ _); rotate_left; (first | exact Nat.le_refl _ | (simp; done) | (simp; omega)))))⟩
set_option maxHeartbeats 8000000 in
set_option maxRecDepth 100000 in
theorem f10_k1 (A0 : Option Addr) (c0 : Nat) (l0 : List S41) (A1 : Option Addr) (c1 : Nat) (l1 : List S86) (A2 : Option Addr) (c2 : Nat) (l2 : List S86) (r : Int) (x1 x2 x3 x4 : Int) (x5 : ByteArray) (w : World) (hr : HV w A0 c0 l0 A1 c1 l1 A2 c2 l2) (ho : OkH l0 l1 l2) (ok : Nat → Prop) (hx : HF w ok A0 l0 A1 l1 A2 l2) (hwf : wfB 1 x1 x2 x3 x4 x5 = true) :
    Calls Try.prog 10 #[.agg #[.slice A0 l0.length c0, .slice A1 l1.length c1, .slice A2 l2.length c2, .int .i64 r], .agg #[.int .i64 1, .int .i64 x1, .int .i64 x2, .int .i64 x3, .int .i64 x4, .string x5]] w fun e w' => ∃ v0 v1 v2, e = .returned (.tuple #[.agg #[v0, v1, v2, .int .i64 (applyS ⟨l0, l1, l2, r⟩ 1 x1 x2 x3 x4 x5).1.f3], .int .i64 (applyS ⟨l0, l1, l2, r⟩ 1 x1 x2 x3 x4 x5).2]) ∧ HW w' (fun k => ok k ∨ w.heap.size ≤ k) v0 v1 v2 (applyS ⟨l0, l1, l2, r⟩ 1 x1 x2 x3 x4 x5).1 ∧ Below w.heap.size w w' := by
  have hb0 : Below w.heap.size w (((w.alloc (.cells #[.slice A0 l0.length c0, .slice A1 l1.length c1, .slice A2 l2.length c2, .int .i64 r] 27)).alloc (.cells #[.int .i64 1, .int .i64 x1, .int .i64 x2, .int .i64 x3, .int .i64 x4, .string x5] 32)).alloc (.cells #[.slice none 0 0, .slice none 0 0, .slice none 0 0, .int .i64 0] 27)) := (((Below.refl w.heap.size w).alloc (Nat.le_refl _) (.cells #[.slice A0 l0.length c0, .slice A1 l1.length c1, .slice A2 l2.length c2, .int .i64 r] 27)).alloc (by simp) (.cells #[.int .i64 1, .int .i64 x1, .int .i64 x2, .int .i64 x3, .int .i64 x4, .string x5] 32)).alloc (by simp; omega) (.cells #[.slice none 0 0, .slice none 0 0, .slice none 0 0, .int .i64 0] 27)
  have HB0 := Aside0.mk hb0
  have HR := Aside0.mk hr
  have HO := Aside0.mk ho
  have HX : Aside0 (HF w (fun k => ok k ∧ k < w.heap.size) A0 l0 A1 l1 A2 l2) := ⟨⟨Kd.F_bound hx.f0, Kd.F_bound hx.f1, Kd.F_bound hx.f2⟩⟩
  have hal := alloc3 w (.cells #[.slice A0 l0.length c0, .slice A1 l1.length c1, .slice A2 l2.length c2, .int .i64 r] 27) (.cells #[.int .i64 1, .int .i64 x1, .int .i64 x2, .int .i64 x3, .int .i64 x4, .string x5] 32) (.cells #[.slice none 0 0, .slice none 0 0, .slice none 0 0, .int .i64 0] 27)
  have HAL := Aside0.mk hal
  have H33 := Aside0.mk (f33_calls 1 x1 x2 x3 x4 x5 (((w.alloc (.cells #[.slice A0 l0.length c0, .slice A1 l1.length c1, .slice A2 l2.length c2, .int .i64 r] 27)).alloc (.cells #[.int .i64 1, .int .i64 x1, .int .i64 x2, .int .i64 x3, .int .i64 x4, .string x5] 32)).alloc (.cells #[.slice none 0 0, .slice none 0 0, .slice none 0 0, .int .i64 0] 27)))
  rw [hwf] at H33
  have HWF := Aside0.mk hwf
  clear hr hb0 ho hal hwf hx
  have HV : Aside0 (applyS ⟨l0, l1, l2, r⟩ 1 x1 x2 x3 x4 x5 = commitS ⟨l0, l1, l2, r⟩ x1 x2 x3 x4 x5) := ⟨by unfold applyS; simp [HWF.out]⟩
  go_enter Try.func10, Try.ntmps10
  go_wp2_with (first
    | (go_at_call 33; refine H33.out.mono ?_; rintro e w1 ⟨rfl, hb⟩; have HY := Aside0.mk hb; have hz1 := hb.size; simp only [World.size_alloc] at hz1; obtain ⟨⟨a0, a1, a2, a3⟩, p0, p1, p2, p3⟩ := blk4 ((hb.block _ (by first | (simp; done) | (simp; omega))).trans HAL.out.1); obtain ⟨b0, b1, b2, b3, b4, b5⟩ := blk6 ((hb.block _ (by first | (simp; done) | (simp; omega))).trans HAL.out.2.1); obtain ⟨⟨u0, u1, u2, u3⟩, q0, q1, q2, q3⟩ := blk4 ((hb.block _ (by first | (simp; done) | (simp; omega))).trans HAL.out.2.2); have HB1 := Aside0.mk (HB0.out.trans (hb.mono (by first | (simp; done) | (simp; omega)))); clear hb)
    | (go_at_call 34; refine (f34_calls A0 c0 l0 A1 c1 l1 A2 c2 l2 r 1 x1 x2 x3 x4 x5 w1 (HR.out.below HB1.out) HO.out _ (HX.out.below HB1.out)).mono ?_; clear a0 a1 a2 a3 p0 p1 p2 p3 b0 b1 b2 b3 b4 b5 u0 u1 u2 u3 q0 q1 q2 q3; rintro e w2 ⟨v0, v1, v2, rfl, ⟨hn0, hn1, hn2⟩, hb⟩; have HY2 := Aside0.mk (HY.out.trans (hb.mono HY.out.size)); have hz2 := HY2.out.size; simp only [World.size_alloc] at hz2; obtain ⟨⟨a0, a1, a2, a3⟩, p0, p1, p2, p3⟩ := blk4 ((HY2.out.block _ (by first | (simp; done) | (simp; omega))).trans HAL.out.1); obtain ⟨⟨u0, u1, u2, u3⟩, q0, q1, q2, q3⟩ := blk4 ((HY2.out.block _ (by first | (simp; done) | (simp; omega))).trans HAL.out.2.2); have HB2 := Aside0.mk (HB1.out.trans (hb.mono HB1.out.size)); have HN0 := Aside0.mk hn0; have HN1 := Aside0.mk hn1; have HN2 := Aside0.mk hn2; obtain ⟨B0, d0, rfl⟩ := Kd.V_slice hn0; obtain ⟨B1, d1, rfl⟩ := Kd.V_slice hn1; obtain ⟨B2, d2, rfl⟩ := Kd.V_slice hn2; clear hb hn0 hn1 hn2))
  refine bodyPost_ret (v := .tuple #[.agg #[.slice B0 (commitS ⟨l0, l1, l2, r⟩ x1 x2 x3 x4 x5).1.f0.length d0, .slice B1 (commitS ⟨l0, l1, l2, r⟩ x1 x2 x3 x4 x5).1.f1.length d1, .slice B2 (commitS ⟨l0, l1, l2, r⟩ x1 x2 x3 x4 x5).1.f2.length d2, .int .i64 (commitS ⟨l0, l1, l2, r⟩ x1 x2 x3 x4 x5).1.f3], .int .i64 (commitS ⟨l0, l1, l2, r⟩ x1 x2 x3 x4 x5).2]) (by simp [results, Try.results10, go_sem, u0, u1, u2, u3, a0, a1, a2, a3]) rfl ?_
  rw [HV.out]
  refine ⟨_, _, _, rfl, ⟨?_, ?_, ?_⟩, (by repeat (first | (with_reducible exact HB2.out) | ((with_reducible refine Below.setCell ?_ ?_ _); rotate_left; (first | exact Nat.le_refl _ | (simp; done) | (simp; omega)))))⟩
  · (try dsimp only)
    refine Kd.V_mono (ok := fun k => (ok k ∧ k < w.heap.size) ∨ w1.heap.size ≤ k) (by repeat (first | (with_reducible exact HN0.out) | ((with_reducible refine Kd.V_far ?_ ?_ _); rotate_left; (intro k hk; first | (simp; omega) | (rcases hk with hk | hk <;> simp <;> omega))))) (fun k hk => ?_)
    exact hk.imp (fun h => h.1) (fun h => (by omega))
  · (try dsimp only)
    refine Kd.V_mono (ok := fun k => (ok k ∧ k < w.heap.size) ∨ w1.heap.size ≤ k) (by repeat (first | (with_reducible exact HN1.out) | ((with_reducible refine Kd.V_far ?_ ?_ _); rotate_left; (intro k hk; first | (simp; omega) | (rcases hk with hk | hk <;> simp <;> omega))))) (fun k hk => ?_)
    exact hk.imp (fun h => h.1) (fun h => (by omega))
  · (try dsimp only)
    refine Kd.V_mono (ok := fun k => (ok k ∧ k < w.heap.size) ∨ w1.heap.size ≤ k) (by repeat (first | (with_reducible exact HN2.out) | ((with_reducible refine Kd.V_far ?_ ?_ _); rotate_left; (intro k hk; first | (simp; omega) | (rcases hk with hk | hk <;> simp <;> omega))))) (fun k hk => ?_)
    exact hk.imp (fun h => h.1) (fun h => (by omega))
set_option maxHeartbeats 8000000 in
set_option maxRecDepth 100000 in
theorem f10_k7 (A0 : Option Addr) (c0 : Nat) (l0 : List S41) (A1 : Option Addr) (c1 : Nat) (l1 : List S86) (A2 : Option Addr) (c2 : Nat) (l2 : List S86) (r : Int) (x1 x2 x3 x4 : Int) (x5 : ByteArray) (w : World) (hr : HV w A0 c0 l0 A1 c1 l1 A2 c2 l2) (ho : OkH l0 l1 l2) (ok : Nat → Prop) (hx : HF w ok A0 l0 A1 l1 A2 l2) (hwf : wfB 7 x1 x2 x3 x4 x5 = true) :
    Calls Try.prog 10 #[.agg #[.slice A0 l0.length c0, .slice A1 l1.length c1, .slice A2 l2.length c2, .int .i64 r], .agg #[.int .i64 7, .int .i64 x1, .int .i64 x2, .int .i64 x3, .int .i64 x4, .string x5]] w fun e w' => ∃ v0 v1 v2, e = .returned (.tuple #[.agg #[v0, v1, v2, .int .i64 (applyS ⟨l0, l1, l2, r⟩ 7 x1 x2 x3 x4 x5).1.f3], .int .i64 (applyS ⟨l0, l1, l2, r⟩ 7 x1 x2 x3 x4 x5).2]) ∧ HW w' (fun k => ok k ∨ w.heap.size ≤ k) v0 v1 v2 (applyS ⟨l0, l1, l2, r⟩ 7 x1 x2 x3 x4 x5).1 ∧ Below w.heap.size w w' := by
  have hb0 : Below w.heap.size w (((w.alloc (.cells #[.slice A0 l0.length c0, .slice A1 l1.length c1, .slice A2 l2.length c2, .int .i64 r] 27)).alloc (.cells #[.int .i64 7, .int .i64 x1, .int .i64 x2, .int .i64 x3, .int .i64 x4, .string x5] 32)).alloc (.cells #[.slice none 0 0, .slice none 0 0, .slice none 0 0, .int .i64 0] 27)) := (((Below.refl w.heap.size w).alloc (Nat.le_refl _) (.cells #[.slice A0 l0.length c0, .slice A1 l1.length c1, .slice A2 l2.length c2, .int .i64 r] 27)).alloc (by simp) (.cells #[.int .i64 7, .int .i64 x1, .int .i64 x2, .int .i64 x3, .int .i64 x4, .string x5] 32)).alloc (by simp; omega) (.cells #[.slice none 0 0, .slice none 0 0, .slice none 0 0, .int .i64 0] 27)
  have HB0 := Aside0.mk hb0
  have HR := Aside0.mk hr
  have HO := Aside0.mk ho
  have HX : Aside0 (HF w (fun k => ok k ∧ k < w.heap.size) A0 l0 A1 l1 A2 l2) := ⟨⟨Kd.F_bound hx.f0, Kd.F_bound hx.f1, Kd.F_bound hx.f2⟩⟩
  have hal := alloc3 w (.cells #[.slice A0 l0.length c0, .slice A1 l1.length c1, .slice A2 l2.length c2, .int .i64 r] 27) (.cells #[.int .i64 7, .int .i64 x1, .int .i64 x2, .int .i64 x3, .int .i64 x4, .string x5] 32) (.cells #[.slice none 0 0, .slice none 0 0, .slice none 0 0, .int .i64 0] 27)
  have HAL := Aside0.mk hal
  have H33 := Aside0.mk (f33_calls 7 x1 x2 x3 x4 x5 (((w.alloc (.cells #[.slice A0 l0.length c0, .slice A1 l1.length c1, .slice A2 l2.length c2, .int .i64 r] 27)).alloc (.cells #[.int .i64 7, .int .i64 x1, .int .i64 x2, .int .i64 x3, .int .i64 x4, .string x5] 32)).alloc (.cells #[.slice none 0 0, .slice none 0 0, .slice none 0 0, .int .i64 0] 27)))
  rw [hwf] at H33
  have HWF := Aside0.mk hwf
  clear hr hb0 ho hal hwf hx
  have HV : Aside0 (applyS ⟨l0, l1, l2, r⟩ 7 x1 x2 x3 x4 x5 = expireS ⟨l0, l1, l2, r⟩ x1) := ⟨by unfold applyS; simp [HWF.out]⟩
  go_enter Try.func10, Try.ntmps10
  go_wp2_with (first
    | (go_at_call 33; refine H33.out.mono ?_; rintro e w1 ⟨rfl, hb⟩; have HY := Aside0.mk hb; have hz1 := hb.size; simp only [World.size_alloc] at hz1; obtain ⟨⟨a0, a1, a2, a3⟩, p0, p1, p2, p3⟩ := blk4 ((hb.block _ (by first | (simp; done) | (simp; omega))).trans HAL.out.1); obtain ⟨b0, b1, b2, b3, b4, b5⟩ := blk6 ((hb.block _ (by first | (simp; done) | (simp; omega))).trans HAL.out.2.1); obtain ⟨⟨u0, u1, u2, u3⟩, q0, q1, q2, q3⟩ := blk4 ((hb.block _ (by first | (simp; done) | (simp; omega))).trans HAL.out.2.2); have HB1 := Aside0.mk (HB0.out.trans (hb.mono (by first | (simp; done) | (simp; omega)))); clear hb)
    | (go_at_call 35; refine (f35_calls A0 c0 l0 A1 c1 l1 A2 c2 l2 r x1 w1 (HR.out.below HB1.out) HO.out _ (HX.out.below HB1.out)).mono ?_; clear a0 a1 a2 a3 p0 p1 p2 p3 b0 b1 b2 b3 b4 b5 u0 u1 u2 u3 q0 q1 q2 q3; rintro e w2 ⟨v0, v1, v2, rfl, ⟨hn0, hn1, hn2⟩, hb⟩; have HY2 := Aside0.mk (HY.out.trans (hb.mono HY.out.size)); have hz2 := HY2.out.size; simp only [World.size_alloc] at hz2; obtain ⟨⟨a0, a1, a2, a3⟩, p0, p1, p2, p3⟩ := blk4 ((HY2.out.block _ (by first | (simp; done) | (simp; omega))).trans HAL.out.1); obtain ⟨⟨u0, u1, u2, u3⟩, q0, q1, q2, q3⟩ := blk4 ((HY2.out.block _ (by first | (simp; done) | (simp; omega))).trans HAL.out.2.2); have HB2 := Aside0.mk (HB1.out.trans (hb.mono HB1.out.size)); have HN0 := Aside0.mk hn0; have HN1 := Aside0.mk hn1; have HN2 := Aside0.mk hn2; obtain ⟨B0, d0, rfl⟩ := Kd.V_slice hn0; obtain ⟨B1, d1, rfl⟩ := Kd.V_slice hn1; obtain ⟨B2, d2, rfl⟩ := Kd.V_slice hn2; clear hb hn0 hn1 hn2))
  refine bodyPost_ret (v := .tuple #[.agg #[.slice B0 (expireS ⟨l0, l1, l2, r⟩ x1).1.f0.length d0, .slice B1 (expireS ⟨l0, l1, l2, r⟩ x1).1.f1.length d1, .slice B2 (expireS ⟨l0, l1, l2, r⟩ x1).1.f2.length d2, .int .i64 (expireS ⟨l0, l1, l2, r⟩ x1).1.f3], .int .i64 (expireS ⟨l0, l1, l2, r⟩ x1).2]) (by simp [results, Try.results10, go_sem, u0, u1, u2, u3, a0, a1, a2, a3]) rfl ?_
  rw [HV.out]
  refine ⟨_, _, _, rfl, ⟨?_, ?_, ?_⟩, (by repeat (first | (with_reducible exact HB2.out) | ((with_reducible refine Below.setCell ?_ ?_ _); rotate_left; (first | exact Nat.le_refl _ | (simp; done) | (simp; omega)))))⟩
  · (try dsimp only)
    refine Kd.V_mono (ok := fun k => (ok k ∧ k < w.heap.size) ∨ w1.heap.size ≤ k) (by repeat (first | (with_reducible exact HN0.out) | ((with_reducible refine Kd.V_far ?_ ?_ _); rotate_left; (intro k hk; first | (simp; omega) | (rcases hk with hk | hk <;> simp <;> omega))))) (fun k hk => ?_)
    exact hk.imp (fun h => h.1) (fun h => (by omega))
  · (try dsimp only)
    refine Kd.V_mono (ok := fun k => (ok k ∧ k < w.heap.size) ∨ w1.heap.size ≤ k) (by repeat (first | (with_reducible exact HN1.out) | ((with_reducible refine Kd.V_far ?_ ?_ _); rotate_left; (intro k hk; first | (simp; omega) | (rcases hk with hk | hk <;> simp <;> omega))))) (fun k hk => ?_)
    exact hk.imp (fun h => h.1) (fun h => (by omega))
  · (try dsimp only)
    refine Kd.V_mono (ok := fun k => (ok k ∧ k < w.heap.size) ∨ w1.heap.size ≤ k) (by repeat (first | (with_reducible exact HN2.out) | ((with_reducible refine Kd.V_far ?_ ?_ _); rotate_left; (intro k hk; first | (simp; omega) | (rcases hk with hk | hk <;> simp <;> omega))))) (fun k hk => ?_)
    exact hk.imp (fun h => h.1) (fun h => (by omega))
set_option maxHeartbeats 8000000 in
set_option maxRecDepth 100000 in
theorem f10_k2 (A0 : Option Addr) (c0 : Nat) (l0 : List S41) (A1 : Option Addr) (c1 : Nat) (l1 : List S86) (A2 : Option Addr) (c2 : Nat) (l2 : List S86) (r : Int) (x1 x2 x3 x4 : Int) (x5 : ByteArray) (w : World) (hr : HV w A0 c0 l0 A1 c1 l1 A2 c2 l2) (ho : OkH l0 l1 l2) (ok : Nat → Prop) (hx : HF w ok A0 l0 A1 l1 A2 l2) (hwf : wfB 2 x1 x2 x3 x4 x5 = true) :
    Calls Try.prog 10 #[.agg #[.slice A0 l0.length c0, .slice A1 l1.length c1, .slice A2 l2.length c2, .int .i64 r], .agg #[.int .i64 2, .int .i64 x1, .int .i64 x2, .int .i64 x3, .int .i64 x4, .string x5]] w fun e w' => ∃ v0 v1 v2, e = .returned (.tuple #[.agg #[v0, v1, v2, .int .i64 (applyS ⟨l0, l1, l2, r⟩ 2 x1 x2 x3 x4 x5).1.f3], .int .i64 (applyS ⟨l0, l1, l2, r⟩ 2 x1 x2 x3 x4 x5).2]) ∧ HW w' (fun k => ok k ∨ w.heap.size ≤ k) v0 v1 v2 (applyS ⟨l0, l1, l2, r⟩ 2 x1 x2 x3 x4 x5).1 ∧ Below w.heap.size w w' := by
  have hb0 : Below w.heap.size w (((w.alloc (.cells #[.slice A0 l0.length c0, .slice A1 l1.length c1, .slice A2 l2.length c2, .int .i64 r] 27)).alloc (.cells #[.int .i64 2, .int .i64 x1, .int .i64 x2, .int .i64 x3, .int .i64 x4, .string x5] 32)).alloc (.cells #[.slice none 0 0, .slice none 0 0, .slice none 0 0, .int .i64 0] 27)) := (((Below.refl w.heap.size w).alloc (Nat.le_refl _) (.cells #[.slice A0 l0.length c0, .slice A1 l1.length c1, .slice A2 l2.length c2, .int .i64 r] 27)).alloc (by simp) (.cells #[.int .i64 2, .int .i64 x1, .int .i64 x2, .int .i64 x3, .int .i64 x4, .string x5] 32)).alloc (by simp; omega) (.cells #[.slice none 0 0, .slice none 0 0, .slice none 0 0, .int .i64 0] 27)
  have HB0 := Aside0.mk hb0
  have HR := Aside0.mk hr
  have HO := Aside0.mk ho
  have HX : Aside0 (HF w (fun k => ok k ∧ k < w.heap.size) A0 l0 A1 l1 A2 l2) := ⟨⟨Kd.F_bound hx.f0, Kd.F_bound hx.f1, Kd.F_bound hx.f2⟩⟩
  have hal := alloc3 w (.cells #[.slice A0 l0.length c0, .slice A1 l1.length c1, .slice A2 l2.length c2, .int .i64 r] 27) (.cells #[.int .i64 2, .int .i64 x1, .int .i64 x2, .int .i64 x3, .int .i64 x4, .string x5] 32) (.cells #[.slice none 0 0, .slice none 0 0, .slice none 0 0, .int .i64 0] 27)
  have HAL := Aside0.mk hal
  have H33 := Aside0.mk (f33_calls 2 x1 x2 x3 x4 x5 (((w.alloc (.cells #[.slice A0 l0.length c0, .slice A1 l1.length c1, .slice A2 l2.length c2, .int .i64 r] 27)).alloc (.cells #[.int .i64 2, .int .i64 x1, .int .i64 x2, .int .i64 x3, .int .i64 x4, .string x5] 32)).alloc (.cells #[.slice none 0 0, .slice none 0 0, .slice none 0 0, .int .i64 0] 27)))
  rw [hwf] at H33
  have HWF := Aside0.mk hwf
  clear hr hb0 ho hal hwf hx
  obtain ⟨⟨nl, er⟩, he⟩ : ∃ z, addS l0 l1 x5 x1 = z := ⟨_, rfl⟩
  have HE := Aside0.mk he
  clear he
  by_cases h0 : er = 0
  · subst h0
    have HV : Aside0 (applyS ⟨l0, l1, l2, r⟩ 2 x1 x2 x3 x4 x5 = (⟨l0, nl, l2, r⟩, 0)) := ⟨by unfold applyS; simp [HWF.out, HE.out]⟩
    go_enter Try.func10, Try.ntmps10
    go_wp2_with (first
      | (go_at_call 33; refine H33.out.mono ?_; rintro e w1 ⟨rfl, hb⟩; have HY := Aside0.mk hb; have hz1 := hb.size; simp only [World.size_alloc] at hz1; obtain ⟨⟨a0, a1, a2, a3⟩, p0, p1, p2, p3⟩ := blk4 ((hb.block _ (by first | (simp; done) | (simp; omega))).trans HAL.out.1); obtain ⟨b0, b1, b2, b3, b4, b5⟩ := blk6 ((hb.block _ (by first | (simp; done) | (simp; omega))).trans HAL.out.2.1); obtain ⟨⟨u0, u1, u2, u3⟩, q0, q1, q2, q3⟩ := blk4 ((hb.block _ (by first | (simp; done) | (simp; omega))).trans HAL.out.2.2); have HB1 := Aside0.mk (HB0.out.trans (hb.mono (by first | (simp; done) | (simp; omega)))); clear hb)
      | (go_at_call 36; have H36 := f36_calls A0 c0 l0 A1 c1 l1 A2 c2 l2 r A1 c1 l1 2 x1 x2 x3 x4 x5 w1 (HR.out.below HB1.out) HO.out (Kd.C_below HR.out.r1 HB1.out) HR.out.h1 HO.out.o1 HO.out.n1; rw [HE.out] at H36; refine H36.mono ?_; clear H36; clear a0 a1 a2 a3 p0 p1 p2 p3 b0 b1 b2 b3 b4 b5 u0 u1 u2 u3 q0 q1 q2 q3; rintro e w2 ⟨v, rfl, hn, hb⟩; have HY2 := Aside0.mk (HY.out.trans (hb.mono HY.out.size)); have hz2 := HY2.out.size; simp only [World.size_alloc] at hz2; obtain ⟨⟨a0, a1, a2, a3⟩, p0, p1, p2, p3⟩ := blk4 ((HY2.out.block _ (by first | (simp; done) | (simp; omega))).trans HAL.out.1); obtain ⟨⟨u0, u1, u2, u3⟩, q0, q1, q2, q3⟩ := blk4 ((HY2.out.block _ (by first | (simp; done) | (simp; omega))).trans HAL.out.2.2); have HB2 := Aside0.mk (HB1.out.trans (hb.mono HB1.out.size)); have HN1 := Aside0.mk hn; obtain ⟨B, d, rfl⟩ := Kd.V_slice hn; clear hb hn))
    have HN0 : Aside0 (Kd.V k41 41 w2 0 (fun k => ok k ∧ k < w.heap.size) (.slice A0 l0.length c0) l0) := ⟨Kd.V_mk HR.out.h0 (Kd.F_below HX.out.f0 HB2.out)⟩
    have HN2 : Aside0 (Kd.V k86 86 w2 0 (fun k => ok k ∧ k < w.heap.size) (.slice A2 l2.length c2) l2) := ⟨Kd.V_mk HR.out.h2 (Kd.F_below HX.out.f2 HB2.out)⟩
    refine bodyPost_ret (v := .tuple #[.agg #[.slice A0 l0.length c0, .slice B nl.length d, .slice A2 l2.length c2, .int .i64 r], .int .i64 0]) (by simp [results, Try.results10, go_sem, u0, u1, u2, u3, a0, a1, a2, a3]) rfl ?_
    rw [HV.out]
    refine ⟨_, _, _, rfl, ⟨?_, ?_, ?_⟩, (by repeat (first | (with_reducible exact HB2.out) | ((with_reducible refine Below.setCell ?_ ?_ _); rotate_left; (first | exact Nat.le_refl _ | (simp; done) | (simp; omega)))))⟩
    · (try dsimp only)
      refine Kd.V_mono (ok := fun k => ok k ∧ k < w.heap.size) (by repeat (first | (with_reducible exact HN0.out) | ((with_reducible refine Kd.V_far ?_ ?_ _); rotate_left; (intro k hk; first | (simp; omega) | (rcases hk with hk | hk <;> simp <;> omega))))) (fun k hk => ?_)
      exact .inl hk.1
    · (try dsimp only)
      refine Kd.V_mono (ok := fun k => w1.heap.size ≤ k) (by repeat (first | (with_reducible exact HN1.out) | ((with_reducible refine Kd.V_far ?_ ?_ _); rotate_left; (intro k hk; first | (simp; omega) | (rcases hk with hk | hk <;> simp <;> omega))))) (fun k hk => ?_)
      exact .inr (by omega)
    · (try dsimp only)
      refine Kd.V_mono (ok := fun k => ok k ∧ k < w.heap.size) (by repeat (first | (with_reducible exact HN2.out) | ((with_reducible refine Kd.V_far ?_ ?_ _); rotate_left; (intro k hk; first | (simp; omega) | (rcases hk with hk | hk <;> simp <;> omega))))) (fun k hk => ?_)
      exact .inl hk.1
  · have hne : (er != 0) = true := by simpa using h0
    have heq : (er == 0) = false := by simpa using h0
    have HV : Aside0 (applyS ⟨l0, l1, l2, r⟩ 2 x1 x2 x3 x4 x5 = (eS27, er)) := ⟨by unfold applyS; simp [HWF.out, HE.out, h0]⟩
    clear h0
    go_enter Try.func10, Try.ntmps10
    go_wp2_with (first
      | (go_at_call 33; refine H33.out.mono ?_; rintro e w1 ⟨rfl, hb⟩; have HY := Aside0.mk hb; have hz1 := hb.size; simp only [World.size_alloc] at hz1; obtain ⟨⟨a0, a1, a2, a3⟩, p0, p1, p2, p3⟩ := blk4 ((hb.block _ (by first | (simp; done) | (simp; omega))).trans HAL.out.1); obtain ⟨b0, b1, b2, b3, b4, b5⟩ := blk6 ((hb.block _ (by first | (simp; done) | (simp; omega))).trans HAL.out.2.1); obtain ⟨⟨u0, u1, u2, u3⟩, q0, q1, q2, q3⟩ := blk4 ((hb.block _ (by first | (simp; done) | (simp; omega))).trans HAL.out.2.2); have HB1 := Aside0.mk (HB0.out.trans (hb.mono (by first | (simp; done) | (simp; omega)))); clear hb)
      | (go_at_call 36; have H36 := f36_calls A0 c0 l0 A1 c1 l1 A2 c2 l2 r A1 c1 l1 2 x1 x2 x3 x4 x5 w1 (HR.out.below HB1.out) HO.out (Kd.C_below HR.out.r1 HB1.out) HR.out.h1 HO.out.o1 HO.out.n1; rw [HE.out] at H36; refine H36.mono ?_; clear H36; clear a0 a1 a2 a3 p0 p1 p2 p3 b0 b1 b2 b3 b4 b5 u0 u1 u2 u3 q0 q1 q2 q3; rintro e w2 ⟨v, rfl, hn, hb⟩; have HY2 := Aside0.mk (HY.out.trans (hb.mono HY.out.size)); have hz2 := HY2.out.size; simp only [World.size_alloc] at hz2; obtain ⟨⟨a0, a1, a2, a3⟩, p0, p1, p2, p3⟩ := blk4 ((HY2.out.block _ (by first | (simp; done) | (simp; omega))).trans HAL.out.1); obtain ⟨⟨u0, u1, u2, u3⟩, q0, q1, q2, q3⟩ := blk4 ((HY2.out.block _ (by first | (simp; done) | (simp; omega))).trans HAL.out.2.2); have HB2 := Aside0.mk (HB1.out.trans (hb.mono HB1.out.size)); have HN1 := Aside0.mk hn; obtain ⟨B, d, rfl⟩ := Kd.V_slice hn; clear hb hn))
    refine bodyPost_ret (v := .tuple #[.agg #[.slice none 0 0, .slice none 0 0, .slice none 0 0, .int .i64 0], .int .i64 er]) (by simp [results, Try.results10, go_sem, u0, u1, u2, u3, a0, a1, a2, a3]) rfl ?_
    rw [HV.out]
    exact ⟨_, _, _, rfl, HW.nil _ _, (by repeat (first | (with_reducible exact HB2.out) | ((with_reducible refine Below.setCell ?_ ?_ _); rotate_left; (first | exact Nat.le_refl _ | (simp; done) | (simp; omega)))))⟩
set_option maxHeartbeats 8000000 in
set_option maxRecDepth 100000 in
theorem f10_k3 (A0 : Option Addr) (c0 : Nat) (l0 : List S41) (A1 : Option Addr) (c1 : Nat) (l1 : List S86) (A2 : Option Addr) (c2 : Nat) (l2 : List S86) (r : Int) (x1 x2 x3 x4 : Int) (x5 : ByteArray) (w : World) (hr : HV w A0 c0 l0 A1 c1 l1 A2 c2 l2) (ho : OkH l0 l1 l2) (ok : Nat → Prop) (hx : HF w ok A0 l0 A1 l1 A2 l2) (hwf : wfB 3 x1 x2 x3 x4 x5 = true) :
    Calls Try.prog 10 #[.agg #[.slice A0 l0.length c0, .slice A1 l1.length c1, .slice A2 l2.length c2, .int .i64 r], .agg #[.int .i64 3, .int .i64 x1, .int .i64 x2, .int .i64 x3, .int .i64 x4, .string x5]] w fun e w' => ∃ v0 v1 v2, e = .returned (.tuple #[.agg #[v0, v1, v2, .int .i64 (applyS ⟨l0, l1, l2, r⟩ 3 x1 x2 x3 x4 x5).1.f3], .int .i64 (applyS ⟨l0, l1, l2, r⟩ 3 x1 x2 x3 x4 x5).2]) ∧ HW w' (fun k => ok k ∨ w.heap.size ≤ k) v0 v1 v2 (applyS ⟨l0, l1, l2, r⟩ 3 x1 x2 x3 x4 x5).1 ∧ Below w.heap.size w w' := by
  have hb0 : Below w.heap.size w (((w.alloc (.cells #[.slice A0 l0.length c0, .slice A1 l1.length c1, .slice A2 l2.length c2, .int .i64 r] 27)).alloc (.cells #[.int .i64 3, .int .i64 x1, .int .i64 x2, .int .i64 x3, .int .i64 x4, .string x5] 32)).alloc (.cells #[.slice none 0 0, .slice none 0 0, .slice none 0 0, .int .i64 0] 27)) := (((Below.refl w.heap.size w).alloc (Nat.le_refl _) (.cells #[.slice A0 l0.length c0, .slice A1 l1.length c1, .slice A2 l2.length c2, .int .i64 r] 27)).alloc (by simp) (.cells #[.int .i64 3, .int .i64 x1, .int .i64 x2, .int .i64 x3, .int .i64 x4, .string x5] 32)).alloc (by simp; omega) (.cells #[.slice none 0 0, .slice none 0 0, .slice none 0 0, .int .i64 0] 27)
  have HB0 := Aside0.mk hb0
  have HR := Aside0.mk hr
  have HO := Aside0.mk ho
  have HX : Aside0 (HF w (fun k => ok k ∧ k < w.heap.size) A0 l0 A1 l1 A2 l2) := ⟨⟨Kd.F_bound hx.f0, Kd.F_bound hx.f1, Kd.F_bound hx.f2⟩⟩
  have hal := alloc3 w (.cells #[.slice A0 l0.length c0, .slice A1 l1.length c1, .slice A2 l2.length c2, .int .i64 r] 27) (.cells #[.int .i64 3, .int .i64 x1, .int .i64 x2, .int .i64 x3, .int .i64 x4, .string x5] 32) (.cells #[.slice none 0 0, .slice none 0 0, .slice none 0 0, .int .i64 0] 27)
  have HAL := Aside0.mk hal
  have H33 := Aside0.mk (f33_calls 3 x1 x2 x3 x4 x5 (((w.alloc (.cells #[.slice A0 l0.length c0, .slice A1 l1.length c1, .slice A2 l2.length c2, .int .i64 r] 27)).alloc (.cells #[.int .i64 3, .int .i64 x1, .int .i64 x2, .int .i64 x3, .int .i64 x4, .string x5] 32)).alloc (.cells #[.slice none 0 0, .slice none 0 0, .slice none 0 0, .int .i64 0] 27)))
  rw [hwf] at H33
  have HWF := Aside0.mk hwf
  clear hr hb0 ho hal hwf hx
  obtain ⟨⟨nl, er⟩, he⟩ : ∃ z, addS l0 l2 x5 x1 = z := ⟨_, rfl⟩
  have HE := Aside0.mk he
  clear he
  by_cases h0 : er = 0
  · subst h0
    have HV : Aside0 (applyS ⟨l0, l1, l2, r⟩ 3 x1 x2 x3 x4 x5 = (⟨l0, l1, nl, r⟩, 0)) := ⟨by unfold applyS; simp [HWF.out, HE.out]⟩
    go_enter Try.func10, Try.ntmps10
    go_wp2_with (first
      | (go_at_call 33; refine H33.out.mono ?_; rintro e w1 ⟨rfl, hb⟩; have HY := Aside0.mk hb; have hz1 := hb.size; simp only [World.size_alloc] at hz1; obtain ⟨⟨a0, a1, a2, a3⟩, p0, p1, p2, p3⟩ := blk4 ((hb.block _ (by first | (simp; done) | (simp; omega))).trans HAL.out.1); obtain ⟨b0, b1, b2, b3, b4, b5⟩ := blk6 ((hb.block _ (by first | (simp; done) | (simp; omega))).trans HAL.out.2.1); obtain ⟨⟨u0, u1, u2, u3⟩, q0, q1, q2, q3⟩ := blk4 ((hb.block _ (by first | (simp; done) | (simp; omega))).trans HAL.out.2.2); have HB1 := Aside0.mk (HB0.out.trans (hb.mono (by first | (simp; done) | (simp; omega)))); clear hb)
      | (go_at_call 36; have H36 := f36_calls A0 c0 l0 A1 c1 l1 A2 c2 l2 r A2 c2 l2 3 x1 x2 x3 x4 x5 w1 (HR.out.below HB1.out) HO.out (Kd.C_below HR.out.r2 HB1.out) HR.out.h2 HO.out.o2 HO.out.n2; rw [HE.out] at H36; refine H36.mono ?_; clear H36; clear a0 a1 a2 a3 p0 p1 p2 p3 b0 b1 b2 b3 b4 b5 u0 u1 u2 u3 q0 q1 q2 q3; rintro e w2 ⟨v, rfl, hn, hb⟩; have HY2 := Aside0.mk (HY.out.trans (hb.mono HY.out.size)); have hz2 := HY2.out.size; simp only [World.size_alloc] at hz2; obtain ⟨⟨a0, a1, a2, a3⟩, p0, p1, p2, p3⟩ := blk4 ((HY2.out.block _ (by first | (simp; done) | (simp; omega))).trans HAL.out.1); obtain ⟨⟨u0, u1, u2, u3⟩, q0, q1, q2, q3⟩ := blk4 ((HY2.out.block _ (by first | (simp; done) | (simp; omega))).trans HAL.out.2.2); have HB2 := Aside0.mk (HB1.out.trans (hb.mono HB1.out.size)); have HN2 := Aside0.mk hn; obtain ⟨B, d, rfl⟩ := Kd.V_slice hn; clear hb hn))
    have HN0 : Aside0 (Kd.V k41 41 w2 0 (fun k => ok k ∧ k < w.heap.size) (.slice A0 l0.length c0) l0) := ⟨Kd.V_mk HR.out.h0 (Kd.F_below HX.out.f0 HB2.out)⟩
    have HN1 : Aside0 (Kd.V k86 86 w2 0 (fun k => ok k ∧ k < w.heap.size) (.slice A1 l1.length c1) l1) := ⟨Kd.V_mk HR.out.h1 (Kd.F_below HX.out.f1 HB2.out)⟩
    refine bodyPost_ret (v := .tuple #[.agg #[.slice A0 l0.length c0, .slice A1 l1.length c1, .slice B nl.length d, .int .i64 r], .int .i64 0]) (by simp [results, Try.results10, go_sem, u0, u1, u2, u3, a0, a1, a2, a3]) rfl ?_
    rw [HV.out]
    refine ⟨_, _, _, rfl, ⟨?_, ?_, ?_⟩, (by repeat (first | (with_reducible exact HB2.out) | ((with_reducible refine Below.setCell ?_ ?_ _); rotate_left; (first | exact Nat.le_refl _ | (simp; done) | (simp; omega)))))⟩
    · (try dsimp only)
      refine Kd.V_mono (ok := fun k => ok k ∧ k < w.heap.size) (by repeat (first | (with_reducible exact HN0.out) | ((with_reducible refine Kd.V_far ?_ ?_ _); rotate_left; (intro k hk; first | (simp; omega) | (rcases hk with hk | hk <;> simp <;> omega))))) (fun k hk => ?_)
      exact .inl hk.1
    · (try dsimp only)
      refine Kd.V_mono (ok := fun k => ok k ∧ k < w.heap.size) (by repeat (first | (with_reducible exact HN1.out) | ((with_reducible refine Kd.V_far ?_ ?_ _); rotate_left; (intro k hk; first | (simp; omega) | (rcases hk with hk | hk <;> simp <;> omega))))) (fun k hk => ?_)
      exact .inl hk.1
    · (try dsimp only)
      refine Kd.V_mono (ok := fun k => w1.heap.size ≤ k) (by repeat (first | (with_reducible exact HN2.out) | ((with_reducible refine Kd.V_far ?_ ?_ _); rotate_left; (intro k hk; first | (simp; omega) | (rcases hk with hk | hk <;> simp <;> omega))))) (fun k hk => ?_)
      exact .inr (by omega)
  · have hne : (er != 0) = true := by simpa using h0
    have heq : (er == 0) = false := by simpa using h0
    have HV : Aside0 (applyS ⟨l0, l1, l2, r⟩ 3 x1 x2 x3 x4 x5 = (eS27, er)) := ⟨by unfold applyS; simp [HWF.out, HE.out, h0]⟩
    clear h0
    go_enter Try.func10, Try.ntmps10
    go_wp2_with (first
      | (go_at_call 33; refine H33.out.mono ?_; rintro e w1 ⟨rfl, hb⟩; have HY := Aside0.mk hb; have hz1 := hb.size; simp only [World.size_alloc] at hz1; obtain ⟨⟨a0, a1, a2, a3⟩, p0, p1, p2, p3⟩ := blk4 ((hb.block _ (by first | (simp; done) | (simp; omega))).trans HAL.out.1); obtain ⟨b0, b1, b2, b3, b4, b5⟩ := blk6 ((hb.block _ (by first | (simp; done) | (simp; omega))).trans HAL.out.2.1); obtain ⟨⟨u0, u1, u2, u3⟩, q0, q1, q2, q3⟩ := blk4 ((hb.block _ (by first | (simp; done) | (simp; omega))).trans HAL.out.2.2); have HB1 := Aside0.mk (HB0.out.trans (hb.mono (by first | (simp; done) | (simp; omega)))); clear hb)
      | (go_at_call 36; have H36 := f36_calls A0 c0 l0 A1 c1 l1 A2 c2 l2 r A2 c2 l2 3 x1 x2 x3 x4 x5 w1 (HR.out.below HB1.out) HO.out (Kd.C_below HR.out.r2 HB1.out) HR.out.h2 HO.out.o2 HO.out.n2; rw [HE.out] at H36; refine H36.mono ?_; clear H36; clear a0 a1 a2 a3 p0 p1 p2 p3 b0 b1 b2 b3 b4 b5 u0 u1 u2 u3 q0 q1 q2 q3; rintro e w2 ⟨v, rfl, hn, hb⟩; have HY2 := Aside0.mk (HY.out.trans (hb.mono HY.out.size)); have hz2 := HY2.out.size; simp only [World.size_alloc] at hz2; obtain ⟨⟨a0, a1, a2, a3⟩, p0, p1, p2, p3⟩ := blk4 ((HY2.out.block _ (by first | (simp; done) | (simp; omega))).trans HAL.out.1); obtain ⟨⟨u0, u1, u2, u3⟩, q0, q1, q2, q3⟩ := blk4 ((HY2.out.block _ (by first | (simp; done) | (simp; omega))).trans HAL.out.2.2); have HB2 := Aside0.mk (HB1.out.trans (hb.mono HB1.out.size)); have HN2 := Aside0.mk hn; obtain ⟨B, d, rfl⟩ := Kd.V_slice hn; clear hb hn))
    refine bodyPost_ret (v := .tuple #[.agg #[.slice none 0 0, .slice none 0 0, .slice none 0 0, .int .i64 0], .int .i64 er]) (by simp [results, Try.results10, go_sem, u0, u1, u2, u3, a0, a1, a2, a3]) rfl ?_
    rw [HV.out]
    exact ⟨_, _, _, rfl, HW.nil _ _, (by repeat (first | (with_reducible exact HB2.out) | ((with_reducible refine Below.setCell ?_ ?_ _); rotate_left; (first | exact Nat.le_refl _ | (simp; done) | (simp; omega)))))⟩
set_option maxHeartbeats 8000000 in
set_option maxRecDepth 100000 in
theorem f10_k4 (A0 : Option Addr) (c0 : Nat) (l0 : List S41) (A1 : Option Addr) (c1 : Nat) (l1 : List S86) (A2 : Option Addr) (c2 : Nat) (l2 : List S86) (r : Int) (x1 x2 x3 x4 : Int) (x5 : ByteArray) (w : World) (hr : HV w A0 c0 l0 A1 c1 l1 A2 c2 l2) (ho : OkH l0 l1 l2) (ok : Nat → Prop) (hx : HF w ok A0 l0 A1 l1 A2 l2) (hwf : wfB 4 x1 x2 x3 x4 x5 = true) :
    Calls Try.prog 10 #[.agg #[.slice A0 l0.length c0, .slice A1 l1.length c1, .slice A2 l2.length c2, .int .i64 r], .agg #[.int .i64 4, .int .i64 x1, .int .i64 x2, .int .i64 x3, .int .i64 x4, .string x5]] w fun e w' => ∃ v0 v1 v2, e = .returned (.tuple #[.agg #[v0, v1, v2, .int .i64 (applyS ⟨l0, l1, l2, r⟩ 4 x1 x2 x3 x4 x5).1.f3], .int .i64 (applyS ⟨l0, l1, l2, r⟩ 4 x1 x2 x3 x4 x5).2]) ∧ HW w' (fun k => ok k ∨ w.heap.size ≤ k) v0 v1 v2 (applyS ⟨l0, l1, l2, r⟩ 4 x1 x2 x3 x4 x5).1 ∧ Below w.heap.size w w' := by
  have hb0 : Below w.heap.size w (((w.alloc (.cells #[.slice A0 l0.length c0, .slice A1 l1.length c1, .slice A2 l2.length c2, .int .i64 r] 27)).alloc (.cells #[.int .i64 4, .int .i64 x1, .int .i64 x2, .int .i64 x3, .int .i64 x4, .string x5] 32)).alloc (.cells #[.slice none 0 0, .slice none 0 0, .slice none 0 0, .int .i64 0] 27)) := (((Below.refl w.heap.size w).alloc (Nat.le_refl _) (.cells #[.slice A0 l0.length c0, .slice A1 l1.length c1, .slice A2 l2.length c2, .int .i64 r] 27)).alloc (by simp) (.cells #[.int .i64 4, .int .i64 x1, .int .i64 x2, .int .i64 x3, .int .i64 x4, .string x5] 32)).alloc (by simp; omega) (.cells #[.slice none 0 0, .slice none 0 0, .slice none 0 0, .int .i64 0] 27)
  have HB0 := Aside0.mk hb0
  have HR := Aside0.mk hr
  have HO := Aside0.mk ho
  have HX : Aside0 (HF w (fun k => ok k ∧ k < w.heap.size) A0 l0 A1 l1 A2 l2) := ⟨⟨Kd.F_bound hx.f0, Kd.F_bound hx.f1, Kd.F_bound hx.f2⟩⟩
  have hal := alloc3 w (.cells #[.slice A0 l0.length c0, .slice A1 l1.length c1, .slice A2 l2.length c2, .int .i64 r] 27) (.cells #[.int .i64 4, .int .i64 x1, .int .i64 x2, .int .i64 x3, .int .i64 x4, .string x5] 32) (.cells #[.slice none 0 0, .slice none 0 0, .slice none 0 0, .int .i64 0] 27)
  have HAL := Aside0.mk hal
  have H33 := Aside0.mk (f33_calls 4 x1 x2 x3 x4 x5 (((w.alloc (.cells #[.slice A0 l0.length c0, .slice A1 l1.length c1, .slice A2 l2.length c2, .int .i64 r] 27)).alloc (.cells #[.int .i64 4, .int .i64 x1, .int .i64 x2, .int .i64 x3, .int .i64 x4, .string x5] 32)).alloc (.cells #[.slice none 0 0, .slice none 0 0, .slice none 0 0, .int .i64 0] 27)))
  rw [hwf] at H33
  have HWF := Aside0.mk hwf
  clear hr hb0 ho hal hwf hx
  cases he : hasS l1 x5 with
  | true =>
    have HE := Aside0.mk he
    have HV : Aside0 (applyS ⟨l0, l1, l2, r⟩ 4 x1 x2 x3 x4 x5 = (⟨l0, dropS l1 x5, l2, r⟩, 0)) := ⟨by unfold applyS; simp [HWF.out, he]⟩
    clear he
    go_enter Try.func10, Try.ntmps10
    go_wp2_with (first
      | (go_at_call 33; refine H33.out.mono ?_; rintro e w1 ⟨rfl, hb⟩; have HY := Aside0.mk hb; have hz1 := hb.size; simp only [World.size_alloc] at hz1; obtain ⟨⟨a0, a1, a2, a3⟩, p0, p1, p2, p3⟩ := blk4 ((hb.block _ (by first | (simp; done) | (simp; omega))).trans HAL.out.1); obtain ⟨b0, b1, b2, b3, b4, b5⟩ := blk6 ((hb.block _ (by first | (simp; done) | (simp; omega))).trans HAL.out.2.1); obtain ⟨⟨u0, u1, u2, u3⟩, q0, q1, q2, q3⟩ := blk4 ((hb.block _ (by first | (simp; done) | (simp; omega))).trans HAL.out.2.2); have HB1 := Aside0.mk (HB0.out.trans (hb.mono (by first | (simp; done) | (simp; omega)))); clear hb)
      | (go_at_call 37; have H37 := f37_calls A1 c1 l1 x5 w1 (Kd.C_below HR.out.r1 HB1.out) HR.out.h1 HO.out.o1 HO.out.n1; rw [HE.out] at H37; simp only [if_true, Bool.false_eq_true, if_false] at H37; refine H37.mono ?_; clear H37; clear a0 a1 a2 a3 p0 p1 p2 p3 b0 b1 b2 b3 b4 b5 u0 u1 u2 u3 q0 q1 q2 q3; rintro e w2 ⟨v, rfl, hn, hb⟩; have HY2 := Aside0.mk (HY.out.trans (hb.mono HY.out.size)); have hz2 := HY2.out.size; simp only [World.size_alloc] at hz2; obtain ⟨⟨a0, a1, a2, a3⟩, p0, p1, p2, p3⟩ := blk4 ((HY2.out.block _ (by first | (simp; done) | (simp; omega))).trans HAL.out.1); obtain ⟨⟨u0, u1, u2, u3⟩, q0, q1, q2, q3⟩ := blk4 ((HY2.out.block _ (by first | (simp; done) | (simp; omega))).trans HAL.out.2.2); have HB2 := Aside0.mk (HB1.out.trans (hb.mono HB1.out.size)); have HN1 := Aside0.mk (Vof (ok := fun k => w1.heap.size ≤ k) hn (fun k hk => hk)); obtain ⟨B, d, rfl⟩ := Kd.R_slice hn; clear hb hn))
    have HN0 : Aside0 (Kd.V k41 41 w2 0 (fun k => ok k ∧ k < w.heap.size) (.slice A0 l0.length c0) l0) := ⟨Kd.V_mk HR.out.h0 (Kd.F_below HX.out.f0 HB2.out)⟩
    have HN2 : Aside0 (Kd.V k86 86 w2 0 (fun k => ok k ∧ k < w.heap.size) (.slice A2 l2.length c2) l2) := ⟨Kd.V_mk HR.out.h2 (Kd.F_below HX.out.f2 HB2.out)⟩
    refine bodyPost_ret (v := .tuple #[.agg #[.slice A0 l0.length c0, .slice B (dropS l1 x5).length d, .slice A2 l2.length c2, .int .i64 r], .int .i64 0]) (by simp [results, Try.results10, go_sem, u0, u1, u2, u3, a0, a1, a2, a3]) rfl ?_
    rw [HV.out]
    refine ⟨_, _, _, rfl, ⟨?_, ?_, ?_⟩, (by repeat (first | (with_reducible exact HB2.out) | ((with_reducible refine Below.setCell ?_ ?_ _); rotate_left; (first | exact Nat.le_refl _ | (simp; done) | (simp; omega)))))⟩
    · (try dsimp only)
      refine Kd.V_mono (ok := fun k => ok k ∧ k < w.heap.size) (by repeat (first | (with_reducible exact HN0.out) | ((with_reducible refine Kd.V_far ?_ ?_ _); rotate_left; (intro k hk; first | (simp; omega) | (rcases hk with hk | hk <;> simp <;> omega))))) (fun k hk => ?_)
      exact .inl hk.1
    · (try dsimp only)
      refine Kd.V_mono (ok := fun k => w1.heap.size ≤ k) (by repeat (first | (with_reducible exact HN1.out) | ((with_reducible refine Kd.V_far ?_ ?_ _); rotate_left; (intro k hk; first | (simp; omega) | (rcases hk with hk | hk <;> simp <;> omega))))) (fun k hk => ?_)
      exact .inr (by omega)
    · (try dsimp only)
      refine Kd.V_mono (ok := fun k => ok k ∧ k < w.heap.size) (by repeat (first | (with_reducible exact HN2.out) | ((with_reducible refine Kd.V_far ?_ ?_ _); rotate_left; (intro k hk; first | (simp; omega) | (rcases hk with hk | hk <;> simp <;> omega))))) (fun k hk => ?_)
      exact .inl hk.1
  | false =>
    have HE := Aside0.mk he
    have HV : Aside0 (applyS ⟨l0, l1, l2, r⟩ 4 x1 x2 x3 x4 x5 = (eS27, 8)) := ⟨by unfold applyS; simp [HWF.out, he]⟩
    clear he
    go_enter Try.func10, Try.ntmps10
    go_wp2_with (first
      | (go_at_call 33; refine H33.out.mono ?_; rintro e w1 ⟨rfl, hb⟩; have HY := Aside0.mk hb; have hz1 := hb.size; simp only [World.size_alloc] at hz1; obtain ⟨⟨a0, a1, a2, a3⟩, p0, p1, p2, p3⟩ := blk4 ((hb.block _ (by first | (simp; done) | (simp; omega))).trans HAL.out.1); obtain ⟨b0, b1, b2, b3, b4, b5⟩ := blk6 ((hb.block _ (by first | (simp; done) | (simp; omega))).trans HAL.out.2.1); obtain ⟨⟨u0, u1, u2, u3⟩, q0, q1, q2, q3⟩ := blk4 ((hb.block _ (by first | (simp; done) | (simp; omega))).trans HAL.out.2.2); have HB1 := Aside0.mk (HB0.out.trans (hb.mono (by first | (simp; done) | (simp; omega)))); clear hb)
      | (go_at_call 37; have H37 := f37_calls A1 c1 l1 x5 w1 (Kd.C_below HR.out.r1 HB1.out) HR.out.h1 HO.out.o1 HO.out.n1; rw [HE.out] at H37; simp only [if_true, Bool.false_eq_true, if_false] at H37; refine H37.mono ?_; clear H37; clear a0 a1 a2 a3 p0 p1 p2 p3 b0 b1 b2 b3 b4 b5 u0 u1 u2 u3 q0 q1 q2 q3; rintro e w2 ⟨v, rfl, hn, hb⟩; have HY2 := Aside0.mk (HY.out.trans (hb.mono HY.out.size)); have hz2 := HY2.out.size; simp only [World.size_alloc] at hz2; obtain ⟨⟨a0, a1, a2, a3⟩, p0, p1, p2, p3⟩ := blk4 ((HY2.out.block _ (by first | (simp; done) | (simp; omega))).trans HAL.out.1); obtain ⟨⟨u0, u1, u2, u3⟩, q0, q1, q2, q3⟩ := blk4 ((HY2.out.block _ (by first | (simp; done) | (simp; omega))).trans HAL.out.2.2); have HB2 := Aside0.mk (HB1.out.trans (hb.mono HB1.out.size)); have HN1 := Aside0.mk (Vof (ok := fun k => w1.heap.size ≤ k) hn (fun k hk => hk)); obtain ⟨B, d, rfl⟩ := Kd.R_slice hn; clear hb hn))
    refine bodyPost_ret (v := .tuple #[.agg #[.slice none 0 0, .slice none 0 0, .slice none 0 0, .int .i64 0], .int .i64 8]) (by simp [results, Try.results10, go_sem, u0, u1, u2, u3, a0, a1, a2, a3]) rfl ?_
    rw [HV.out]
    exact ⟨_, _, _, rfl, HW.nil _ _, (by repeat (first | (with_reducible exact HB2.out) | ((with_reducible refine Below.setCell ?_ ?_ _); rotate_left; (first | exact Nat.le_refl _ | (simp; done) | (simp; omega)))))⟩
set_option maxHeartbeats 8000000 in
set_option maxRecDepth 100000 in
theorem f10_k5 (A0 : Option Addr) (c0 : Nat) (l0 : List S41) (A1 : Option Addr) (c1 : Nat) (l1 : List S86) (A2 : Option Addr) (c2 : Nat) (l2 : List S86) (r : Int) (x1 x2 x3 x4 : Int) (x5 : ByteArray) (w : World) (hr : HV w A0 c0 l0 A1 c1 l1 A2 c2 l2) (ho : OkH l0 l1 l2) (ok : Nat → Prop) (hx : HF w ok A0 l0 A1 l1 A2 l2) (hwf : wfB 5 x1 x2 x3 x4 x5 = true) :
    Calls Try.prog 10 #[.agg #[.slice A0 l0.length c0, .slice A1 l1.length c1, .slice A2 l2.length c2, .int .i64 r], .agg #[.int .i64 5, .int .i64 x1, .int .i64 x2, .int .i64 x3, .int .i64 x4, .string x5]] w fun e w' => ∃ v0 v1 v2, e = .returned (.tuple #[.agg #[v0, v1, v2, .int .i64 (applyS ⟨l0, l1, l2, r⟩ 5 x1 x2 x3 x4 x5).1.f3], .int .i64 (applyS ⟨l0, l1, l2, r⟩ 5 x1 x2 x3 x4 x5).2]) ∧ HW w' (fun k => ok k ∨ w.heap.size ≤ k) v0 v1 v2 (applyS ⟨l0, l1, l2, r⟩ 5 x1 x2 x3 x4 x5).1 ∧ Below w.heap.size w w' := by
  have hb0 : Below w.heap.size w (((w.alloc (.cells #[.slice A0 l0.length c0, .slice A1 l1.length c1, .slice A2 l2.length c2, .int .i64 r] 27)).alloc (.cells #[.int .i64 5, .int .i64 x1, .int .i64 x2, .int .i64 x3, .int .i64 x4, .string x5] 32)).alloc (.cells #[.slice none 0 0, .slice none 0 0, .slice none 0 0, .int .i64 0] 27)) := (((Below.refl w.heap.size w).alloc (Nat.le_refl _) (.cells #[.slice A0 l0.length c0, .slice A1 l1.length c1, .slice A2 l2.length c2, .int .i64 r] 27)).alloc (by simp) (.cells #[.int .i64 5, .int .i64 x1, .int .i64 x2, .int .i64 x3, .int .i64 x4, .string x5] 32)).alloc (by simp; omega) (.cells #[.slice none 0 0, .slice none 0 0, .slice none 0 0, .int .i64 0] 27)
  have HB0 := Aside0.mk hb0
  have HR := Aside0.mk hr
  have HO := Aside0.mk ho
  have HX : Aside0 (HF w (fun k => ok k ∧ k < w.heap.size) A0 l0 A1 l1 A2 l2) := ⟨⟨Kd.F_bound hx.f0, Kd.F_bound hx.f1, Kd.F_bound hx.f2⟩⟩
  have hal := alloc3 w (.cells #[.slice A0 l0.length c0, .slice A1 l1.length c1, .slice A2 l2.length c2, .int .i64 r] 27) (.cells #[.int .i64 5, .int .i64 x1, .int .i64 x2, .int .i64 x3, .int .i64 x4, .string x5] 32) (.cells #[.slice none 0 0, .slice none 0 0, .slice none 0 0, .int .i64 0] 27)
  have HAL := Aside0.mk hal
  have H33 := Aside0.mk (f33_calls 5 x1 x2 x3 x4 x5 (((w.alloc (.cells #[.slice A0 l0.length c0, .slice A1 l1.length c1, .slice A2 l2.length c2, .int .i64 r] 27)).alloc (.cells #[.int .i64 5, .int .i64 x1, .int .i64 x2, .int .i64 x3, .int .i64 x4, .string x5] 32)).alloc (.cells #[.slice none 0 0, .slice none 0 0, .slice none 0 0, .int .i64 0] 27)))
  rw [hwf] at H33
  have HWF := Aside0.mk hwf
  clear hr hb0 ho hal hwf hx
  cases he : hasS l2 x5 with
  | true =>
    have HE := Aside0.mk he
    have HV : Aside0 (applyS ⟨l0, l1, l2, r⟩ 5 x1 x2 x3 x4 x5 = (⟨l0, l1, dropS l2 x5, r⟩, 0)) := ⟨by unfold applyS; simp [HWF.out, he]⟩
    clear he
    go_enter Try.func10, Try.ntmps10
    go_wp2_with (first
      | (go_at_call 33; refine H33.out.mono ?_; rintro e w1 ⟨rfl, hb⟩; have HY := Aside0.mk hb; have hz1 := hb.size; simp only [World.size_alloc] at hz1; obtain ⟨⟨a0, a1, a2, a3⟩, p0, p1, p2, p3⟩ := blk4 ((hb.block _ (by first | (simp; done) | (simp; omega))).trans HAL.out.1); obtain ⟨b0, b1, b2, b3, b4, b5⟩ := blk6 ((hb.block _ (by first | (simp; done) | (simp; omega))).trans HAL.out.2.1); obtain ⟨⟨u0, u1, u2, u3⟩, q0, q1, q2, q3⟩ := blk4 ((hb.block _ (by first | (simp; done) | (simp; omega))).trans HAL.out.2.2); have HB1 := Aside0.mk (HB0.out.trans (hb.mono (by first | (simp; done) | (simp; omega)))); clear hb)
      | (go_at_call 37; have H37 := f37_calls A2 c2 l2 x5 w1 (Kd.C_below HR.out.r2 HB1.out) HR.out.h2 HO.out.o2 HO.out.n2; rw [HE.out] at H37; simp only [if_true, Bool.false_eq_true, if_false] at H37; refine H37.mono ?_; clear H37; clear a0 a1 a2 a3 p0 p1 p2 p3 b0 b1 b2 b3 b4 b5 u0 u1 u2 u3 q0 q1 q2 q3; rintro e w2 ⟨v, rfl, hn, hb⟩; have HY2 := Aside0.mk (HY.out.trans (hb.mono HY.out.size)); have hz2 := HY2.out.size; simp only [World.size_alloc] at hz2; obtain ⟨⟨a0, a1, a2, a3⟩, p0, p1, p2, p3⟩ := blk4 ((HY2.out.block _ (by first | (simp; done) | (simp; omega))).trans HAL.out.1); obtain ⟨⟨u0, u1, u2, u3⟩, q0, q1, q2, q3⟩ := blk4 ((HY2.out.block _ (by first | (simp; done) | (simp; omega))).trans HAL.out.2.2); have HB2 := Aside0.mk (HB1.out.trans (hb.mono HB1.out.size)); have HN2 := Aside0.mk (Vof (ok := fun k => w1.heap.size ≤ k) hn (fun k hk => hk)); obtain ⟨B, d, rfl⟩ := Kd.R_slice hn; clear hb hn))
    have HN0 : Aside0 (Kd.V k41 41 w2 0 (fun k => ok k ∧ k < w.heap.size) (.slice A0 l0.length c0) l0) := ⟨Kd.V_mk HR.out.h0 (Kd.F_below HX.out.f0 HB2.out)⟩
    have HN1 : Aside0 (Kd.V k86 86 w2 0 (fun k => ok k ∧ k < w.heap.size) (.slice A1 l1.length c1) l1) := ⟨Kd.V_mk HR.out.h1 (Kd.F_below HX.out.f1 HB2.out)⟩
    refine bodyPost_ret (v := .tuple #[.agg #[.slice A0 l0.length c0, .slice A1 l1.length c1, .slice B (dropS l2 x5).length d, .int .i64 r], .int .i64 0]) (by simp [results, Try.results10, go_sem, u0, u1, u2, u3, a0, a1, a2, a3]) rfl ?_
    rw [HV.out]
    refine ⟨_, _, _, rfl, ⟨?_, ?_, ?_⟩, (by repeat (first | (with_reducible exact HB2.out) | ((with_reducible refine Below.setCell ?_ ?_ _); rotate_left; (first | exact Nat.le_refl _ | (simp; done) | (simp; omega)))))⟩
    · (try dsimp only)
      refine Kd.V_mono (ok := fun k => ok k ∧ k < w.heap.size) (by repeat (first | (with_reducible exact HN0.out) | ((with_reducible refine Kd.V_far ?_ ?_ _); rotate_left; (intro k hk; first | (simp; omega) | (rcases hk with hk | hk <;> simp <;> omega))))) (fun k hk => ?_)
      exact .inl hk.1
    · (try dsimp only)
      refine Kd.V_mono (ok := fun k => ok k ∧ k < w.heap.size) (by repeat (first | (with_reducible exact HN1.out) | ((with_reducible refine Kd.V_far ?_ ?_ _); rotate_left; (intro k hk; first | (simp; omega) | (rcases hk with hk | hk <;> simp <;> omega))))) (fun k hk => ?_)
      exact .inl hk.1
    · (try dsimp only)
      refine Kd.V_mono (ok := fun k => w1.heap.size ≤ k) (by repeat (first | (with_reducible exact HN2.out) | ((with_reducible refine Kd.V_far ?_ ?_ _); rotate_left; (intro k hk; first | (simp; omega) | (rcases hk with hk | hk <;> simp <;> omega))))) (fun k hk => ?_)
      exact .inr (by omega)
  | false =>
    have HE := Aside0.mk he
    have HV : Aside0 (applyS ⟨l0, l1, l2, r⟩ 5 x1 x2 x3 x4 x5 = (eS27, 8)) := ⟨by unfold applyS; simp [HWF.out, he]⟩
    clear he
    go_enter Try.func10, Try.ntmps10
    go_wp2_with (first
      | (go_at_call 33; refine H33.out.mono ?_; rintro e w1 ⟨rfl, hb⟩; have HY := Aside0.mk hb; have hz1 := hb.size; simp only [World.size_alloc] at hz1; obtain ⟨⟨a0, a1, a2, a3⟩, p0, p1, p2, p3⟩ := blk4 ((hb.block _ (by first | (simp; done) | (simp; omega))).trans HAL.out.1); obtain ⟨b0, b1, b2, b3, b4, b5⟩ := blk6 ((hb.block _ (by first | (simp; done) | (simp; omega))).trans HAL.out.2.1); obtain ⟨⟨u0, u1, u2, u3⟩, q0, q1, q2, q3⟩ := blk4 ((hb.block _ (by first | (simp; done) | (simp; omega))).trans HAL.out.2.2); have HB1 := Aside0.mk (HB0.out.trans (hb.mono (by first | (simp; done) | (simp; omega)))); clear hb)
      | (go_at_call 37; have H37 := f37_calls A2 c2 l2 x5 w1 (Kd.C_below HR.out.r2 HB1.out) HR.out.h2 HO.out.o2 HO.out.n2; rw [HE.out] at H37; simp only [if_true, Bool.false_eq_true, if_false] at H37; refine H37.mono ?_; clear H37; clear a0 a1 a2 a3 p0 p1 p2 p3 b0 b1 b2 b3 b4 b5 u0 u1 u2 u3 q0 q1 q2 q3; rintro e w2 ⟨v, rfl, hn, hb⟩; have HY2 := Aside0.mk (HY.out.trans (hb.mono HY.out.size)); have hz2 := HY2.out.size; simp only [World.size_alloc] at hz2; obtain ⟨⟨a0, a1, a2, a3⟩, p0, p1, p2, p3⟩ := blk4 ((HY2.out.block _ (by first | (simp; done) | (simp; omega))).trans HAL.out.1); obtain ⟨⟨u0, u1, u2, u3⟩, q0, q1, q2, q3⟩ := blk4 ((HY2.out.block _ (by first | (simp; done) | (simp; omega))).trans HAL.out.2.2); have HB2 := Aside0.mk (HB1.out.trans (hb.mono HB1.out.size)); have HN2 := Aside0.mk (Vof (ok := fun k => w1.heap.size ≤ k) hn (fun k hk => hk)); obtain ⟨B, d, rfl⟩ := Kd.R_slice hn; clear hb hn))
    refine bodyPost_ret (v := .tuple #[.agg #[.slice none 0 0, .slice none 0 0, .slice none 0 0, .int .i64 0], .int .i64 8]) (by simp [results, Try.results10, go_sem, u0, u1, u2, u3, a0, a1, a2, a3]) rfl ?_
    rw [HV.out]
    exact ⟨_, _, _, rfl, HW.nil _ _, (by repeat (first | (with_reducible exact HB2.out) | ((with_reducible refine Below.setCell ?_ ?_ _); rotate_left; (first | exact Nat.le_refl _ | (simp; done) | (simp; omega)))))⟩
set_option maxHeartbeats 8000000 in
set_option maxRecDepth 100000 in
theorem f10_k6 (A0 : Option Addr) (c0 : Nat) (l0 : List S41) (A1 : Option Addr) (c1 : Nat) (l1 : List S86) (A2 : Option Addr) (c2 : Nat) (l2 : List S86) (r : Int) (x1 x2 x3 x4 : Int) (x5 : ByteArray) (w : World) (hr : HV w A0 c0 l0 A1 c1 l1 A2 c2 l2) (ho : OkH l0 l1 l2) (ok : Nat → Prop) (hx : HF w ok A0 l0 A1 l1 A2 l2) (hwf : wfB 6 x1 x2 x3 x4 x5 = true) :
    Calls Try.prog 10 #[.agg #[.slice A0 l0.length c0, .slice A1 l1.length c1, .slice A2 l2.length c2, .int .i64 r], .agg #[.int .i64 6, .int .i64 x1, .int .i64 x2, .int .i64 x3, .int .i64 x4, .string x5]] w fun e w' => ∃ v0 v1 v2, e = .returned (.tuple #[.agg #[v0, v1, v2, .int .i64 (applyS ⟨l0, l1, l2, r⟩ 6 x1 x2 x3 x4 x5).1.f3], .int .i64 (applyS ⟨l0, l1, l2, r⟩ 6 x1 x2 x3 x4 x5).2]) ∧ HW w' (fun k => ok k ∨ w.heap.size ≤ k) v0 v1 v2 (applyS ⟨l0, l1, l2, r⟩ 6 x1 x2 x3 x4 x5).1 ∧ Below w.heap.size w w' := by
  have hb0 : Below w.heap.size w (((w.alloc (.cells #[.slice A0 l0.length c0, .slice A1 l1.length c1, .slice A2 l2.length c2, .int .i64 r] 27)).alloc (.cells #[.int .i64 6, .int .i64 x1, .int .i64 x2, .int .i64 x3, .int .i64 x4, .string x5] 32)).alloc (.cells #[.slice none 0 0, .slice none 0 0, .slice none 0 0, .int .i64 0] 27)) := (((Below.refl w.heap.size w).alloc (Nat.le_refl _) (.cells #[.slice A0 l0.length c0, .slice A1 l1.length c1, .slice A2 l2.length c2, .int .i64 r] 27)).alloc (by simp) (.cells #[.int .i64 6, .int .i64 x1, .int .i64 x2, .int .i64 x3, .int .i64 x4, .string x5] 32)).alloc (by simp; omega) (.cells #[.slice none 0 0, .slice none 0 0, .slice none 0 0, .int .i64 0] 27)
  have HB0 := Aside0.mk hb0
  have HR := Aside0.mk hr
  have HO := Aside0.mk ho
  have HX : Aside0 (HF w (fun k => ok k ∧ k < w.heap.size) A0 l0 A1 l1 A2 l2) := ⟨⟨Kd.F_bound hx.f0, Kd.F_bound hx.f1, Kd.F_bound hx.f2⟩⟩
  have hal := alloc3 w (.cells #[.slice A0 l0.length c0, .slice A1 l1.length c1, .slice A2 l2.length c2, .int .i64 r] 27) (.cells #[.int .i64 6, .int .i64 x1, .int .i64 x2, .int .i64 x3, .int .i64 x4, .string x5] 32) (.cells #[.slice none 0 0, .slice none 0 0, .slice none 0 0, .int .i64 0] 27)
  have HAL := Aside0.mk hal
  have H33 := Aside0.mk (f33_calls 6 x1 x2 x3 x4 x5 (((w.alloc (.cells #[.slice A0 l0.length c0, .slice A1 l1.length c1, .slice A2 l2.length c2, .int .i64 r] 27)).alloc (.cells #[.int .i64 6, .int .i64 x1, .int .i64 x2, .int .i64 x3, .int .i64 x4, .string x5] 32)).alloc (.cells #[.slice none 0 0, .slice none 0 0, .slice none 0 0, .int .i64 0] 27)))
  rw [hwf] at H33
  have HWF := Aside0.mk hwf
  clear hr hb0 ho hal hwf hx
  have HV : Aside0 (applyS ⟨l0, l1, l2, r⟩ 6 x1 x2 x3 x4 x5 = (⟨l0, l1, l2, x1⟩, 0)) := ⟨by unfold applyS; simp [HWF.out]⟩
  go_enter Try.func10, Try.ntmps10
  go_wp2_with (first
    | (go_at_call 33; refine H33.out.mono ?_; rintro e w1 ⟨rfl, hb⟩; have HY := Aside0.mk hb; have hz1 := hb.size; simp only [World.size_alloc] at hz1; obtain ⟨⟨a0, a1, a2, a3⟩, p0, p1, p2, p3⟩ := blk4 ((hb.block _ (by first | (simp; done) | (simp; omega))).trans HAL.out.1); obtain ⟨b0, b1, b2, b3, b4, b5⟩ := blk6 ((hb.block _ (by first | (simp; done) | (simp; omega))).trans HAL.out.2.1); obtain ⟨⟨u0, u1, u2, u3⟩, q0, q1, q2, q3⟩ := blk4 ((hb.block _ (by first | (simp; done) | (simp; omega))).trans HAL.out.2.2); have HB1 := Aside0.mk (HB0.out.trans (hb.mono (by first | (simp; done) | (simp; omega)))); clear hb))
  have HN0 : Aside0 (Kd.V k41 41 w1 0 (fun k => ok k ∧ k < w.heap.size) (.slice A0 l0.length c0) l0) := ⟨Kd.V_mk HR.out.h0 (Kd.F_below HX.out.f0 HB1.out)⟩
  have HN1 : Aside0 (Kd.V k86 86 w1 0 (fun k => ok k ∧ k < w.heap.size) (.slice A1 l1.length c1) l1) := ⟨Kd.V_mk HR.out.h1 (Kd.F_below HX.out.f1 HB1.out)⟩
  have HN2 : Aside0 (Kd.V k86 86 w1 0 (fun k => ok k ∧ k < w.heap.size) (.slice A2 l2.length c2) l2) := ⟨Kd.V_mk HR.out.h2 (Kd.F_below HX.out.f2 HB1.out)⟩
  refine bodyPost_ret (v := .tuple #[.agg #[.slice A0 l0.length c0, .slice A1 l1.length c1, .slice A2 l2.length c2, .int .i64 x1], .int .i64 0]) (by simp [results, Try.results10, go_sem, u0, u1, u2, u3, a0, a1, a2, a3]) rfl ?_
  rw [HV.out]
  refine ⟨_, _, _, rfl, ⟨?_, ?_, ?_⟩, (by repeat (first | (with_reducible exact HB1.out) | ((with_reducible refine Below.setCell ?_ ?_ _); rotate_left; (first | exact Nat.le_refl _ | (simp; done) | (simp; omega)))))⟩
  · (try dsimp only)
    refine Kd.V_mono (ok := fun k => ok k ∧ k < w.heap.size) (by repeat (first | (with_reducible exact HN0.out) | ((with_reducible refine Kd.V_far ?_ ?_ _); rotate_left; (intro k hk; first | (simp; omega) | (rcases hk with hk | hk <;> simp <;> omega))))) (fun k hk => ?_)
    exact .inl hk.1
  · (try dsimp only)
    refine Kd.V_mono (ok := fun k => ok k ∧ k < w.heap.size) (by repeat (first | (with_reducible exact HN1.out) | ((with_reducible refine Kd.V_far ?_ ?_ _); rotate_left; (intro k hk; first | (simp; omega) | (rcases hk with hk | hk <;> simp <;> omega))))) (fun k hk => ?_)
    exact .inl hk.1
  · (try dsimp only)
    refine Kd.V_mono (ok := fun k => ok k ∧ k < w.heap.size) (by repeat (first | (with_reducible exact HN2.out) | ((with_reducible refine Kd.V_far ?_ ?_ _); rotate_left; (intro k hk; first | (simp; omega) | (rcases hk with hk | hk <;> simp <;> omega))))) (fun k hk => ?_)
    exact .inl hk.1
set_option maxHeartbeats 8000000 in
set_option maxRecDepth 100000 in
theorem f10_calls (A0 : Option Addr) (c0 : Nat) (l0 : List S41) (A1 : Option Addr) (c1 : Nat) (l1 : List S86) (A2 : Option Addr) (c2 : Nat) (l2 : List S86) (r : Int) (x0 x1 x2 x3 x4 : Int) (x5 : ByteArray) (w : World) (hr : HV w A0 c0 l0 A1 c1 l1 A2 c2 l2) (ho : OkH l0 l1 l2) (ok : Nat → Prop) (hx : HF w ok A0 l0 A1 l1 A2 l2) :
    Calls Try.prog 10 #[.agg #[.slice A0 l0.length c0, .slice A1 l1.length c1, .slice A2 l2.length c2, .int .i64 r], .agg #[.int .i64 x0, .int .i64 x1, .int .i64 x2, .int .i64 x3, .int .i64 x4, .string x5]] w fun e w' => ∃ v0 v1 v2, e = .returned (.tuple #[.agg #[v0, v1, v2, .int .i64 (applyS ⟨l0, l1, l2, r⟩ x0 x1 x2 x3 x4 x5).1.f3], .int .i64 (applyS ⟨l0, l1, l2, r⟩ x0 x1 x2 x3 x4 x5).2]) ∧ HW w' (fun k => ok k ∨ w.heap.size ≤ k) v0 v1 v2 (applyS ⟨l0, l1, l2, r⟩ x0 x1 x2 x3 x4 x5).1 ∧ Below w.heap.size w w' := by
  cases hwf : wfB x0 x1 x2 x3 x4 x5 with
  | false => exact f10_no A0 c0 l0 A1 c1 l1 A2 c2 l2 r x0 x1 x2 x3 x4 x5 w hr ho ok hx hwf
  | true =>
    by_cases h1 : x0 = 1
    · subst h1
      exact f10_k1 A0 c0 l0 A1 c1 l1 A2 c2 l2 r x1 x2 x3 x4 x5 w hr ho ok hx hwf
    by_cases h7 : x0 = 7
    · subst h7
      exact f10_k7 A0 c0 l0 A1 c1 l1 A2 c2 l2 r x1 x2 x3 x4 x5 w hr ho ok hx hwf
    by_cases h2 : x0 = 2
    · subst h2
      exact f10_k2 A0 c0 l0 A1 c1 l1 A2 c2 l2 r x1 x2 x3 x4 x5 w hr ho ok hx hwf
    by_cases h3 : x0 = 3
    · subst h3
      exact f10_k3 A0 c0 l0 A1 c1 l1 A2 c2 l2 r x1 x2 x3 x4 x5 w hr ho ok hx hwf
    by_cases h4 : x0 = 4
    · subst h4
      exact f10_k4 A0 c0 l0 A1 c1 l1 A2 c2 l2 r x1 x2 x3 x4 x5 w hr ho ok hx hwf
    by_cases h5 : x0 = 5
    · subst h5
      exact f10_k5 A0 c0 l0 A1 c1 l1 A2 c2 l2 r x1 x2 x3 x4 x5 w hr ho ok hx hwf
    obtain rfl := wfB_kind hwf h1 h7 h2 h3 h4 h5
    exact f10_k6 A0 c0 l0 A1 c1 l1 A2 c2 l2 r x1 x2 x3 x4 x5 w hr ho ok hx hwf
end Go.Proofs.Ytjeoabjccbinhaa.P
