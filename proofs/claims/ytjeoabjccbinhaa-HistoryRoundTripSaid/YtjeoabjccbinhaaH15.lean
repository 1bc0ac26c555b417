/- The reference's Apply. Conditions: the hypotheses that stand at each theorem. -/
import Derived.Test.YtjeoabjccbinhaaQ1
import Derived.Test.YtjeoabjccbinhaaH14
import Derived.Test.YtjeoabjccbinhaaH12
namespace Go.Proofs.Ytjeoabjccbinhaa.P
open Go.RowKit Go.Proofs.YtjeoabjccbinhaaW.PrintWords Go.Proofs.YtjeoabjccbinhaaW.PrintLast Go.Proofs.YtjeoabjccbinhaaW.PrintMore
set_option linter.unusedVariables false
set_option linter.unusedSimpArgs false
set_option maxHeartbeats 8000000 in
set_option maxRecDepth 100000 in
theorem f38_calls (x0 x1 x2 x3 x4 : Int) (x5 : ByteArray) (w : World) :
    Calls Try.prog 38 #[.agg #[.int .i64 x0, .int .i64 x1, .int .i64 x2, .int .i64 x3, .int .i64 x4, .string x5]] w fun e w' => e = .returned (.bool (wfB x0 x1 x2 x3 x4 x5)) ∧ Below w.heap.size w w' := by
  obtain ⟨nb, hnb⟩ : ∃ b, identB x5 = b := ⟨_, rfl⟩
  have HN := Aside0.mk hnb
  have H65 : Aside0 (∀ W, Calls Try.prog 65 #[.string x5] W fun e w' => e = .returned (.bool nb) ∧ Below W.heap.size W w') := ⟨fun W => (laminaref05_IsIdent.calls 200 x5 nb W (hnb ▸ IsIdent_is x5 200 (by decide))).mono fun e w' ⟨h1, h2⟩ => ⟨h1, h2.below⟩⟩
  clear hnb
  by_cases h1 : x0 = 1
  · subst h1
    go_enter Try.func38, Try.ntmps38
    go_wp2_with (go_at_call 65; refine (H65.out _).mono ?_; rintro e w1 ⟨rfl, hb⟩; obtain ⟨hc, hf⟩ := bcell hb; have hz := hb.size; simp only [World.size_alloc] at hz; have HB1 := Aside0.mk (((Below.refl w.heap.size w).alloc (Nat.le_refl _) _).trans (hb.mono (by first | (simp; done) | (simp; omega)))); clear hb)
    all_goals (go_ret; refine ⟨?_, by repeat (first | exact HB1.out | refine Below.setCell ?_ (by first | (simp; done) | (simp; omega)) _)⟩; congr 2; first | rfl | (simp [wfB, bareB, HN.out, *]; done) | (simp [wfB, bareB, HN.out, *]; omega) | (simp [wfB, bareB, HN.out, Bool.and_assoc, *]; done))
  have e1 : (x0 == 1) = false := by simp [h1]
  by_cases h2 : x0 = 2
  · subst h2
    go_enter Try.func38, Try.ntmps38
    go_wp2_with (go_at_call 65; refine (H65.out _).mono ?_; rintro e w1 ⟨rfl, hb⟩; obtain ⟨hc, hf⟩ := bcell hb; have hz := hb.size; simp only [World.size_alloc] at hz; have HB1 := Aside0.mk (((Below.refl w.heap.size w).alloc (Nat.le_refl _) _).trans (hb.mono (by first | (simp; done) | (simp; omega)))); clear hb)
    all_goals (go_ret; refine ⟨?_, by repeat (first | exact HB1.out | refine Below.setCell ?_ (by first | (simp; done) | (simp; omega)) _)⟩; congr 2; first | rfl | (simp [wfB, bareB, HN.out, *]; done) | (simp [wfB, bareB, HN.out, *]; omega) | (simp [wfB, bareB, HN.out, Bool.and_assoc, *]; done))
  have e2 : (x0 == 2) = false := by simp [h2]
  by_cases h3 : x0 = 3
  · subst h3
    go_enter Try.func38, Try.ntmps38
    go_wp2_with (go_at_call 65; refine (H65.out _).mono ?_; rintro e w1 ⟨rfl, hb⟩; obtain ⟨hc, hf⟩ := bcell hb; have hz := hb.size; simp only [World.size_alloc] at hz; have HB1 := Aside0.mk (((Below.refl w.heap.size w).alloc (Nat.le_refl _) _).trans (hb.mono (by first | (simp; done) | (simp; omega)))); clear hb)
    all_goals (go_ret; refine ⟨?_, by repeat (first | exact HB1.out | refine Below.setCell ?_ (by first | (simp; done) | (simp; omega)) _)⟩; congr 2; first | rfl | (simp [wfB, bareB, HN.out, *]; done) | (simp [wfB, bareB, HN.out, *]; omega) | (simp [wfB, bareB, HN.out, Bool.and_assoc, *]; done))
  have e3 : (x0 == 3) = false := by simp [h3]
  by_cases h4 : x0 = 4
  · subst h4
    go_enter Try.func38, Try.ntmps38
    go_wp2_with (go_at_call 65; refine (H65.out _).mono ?_; rintro e w1 ⟨rfl, hb⟩; obtain ⟨hc, hf⟩ := bcell hb; have hz := hb.size; simp only [World.size_alloc] at hz; have HB1 := Aside0.mk (((Below.refl w.heap.size w).alloc (Nat.le_refl _) _).trans (hb.mono (by first | (simp; done) | (simp; omega)))); clear hb)
    all_goals (go_ret; refine ⟨?_, by repeat (first | exact HB1.out | refine Below.setCell ?_ (by first | (simp; done) | (simp; omega)) _)⟩; congr 2; first | rfl | (simp [wfB, bareB, HN.out, *]; done) | (simp [wfB, bareB, HN.out, *]; omega) | (simp [wfB, bareB, HN.out, Bool.and_assoc, *]; done))
  have e4 : (x0 == 4) = false := by simp [h4]
  by_cases h5 : x0 = 5
  · subst h5
    go_enter Try.func38, Try.ntmps38
    go_wp2_with (go_at_call 65; refine (H65.out _).mono ?_; rintro e w1 ⟨rfl, hb⟩; obtain ⟨hc, hf⟩ := bcell hb; have hz := hb.size; simp only [World.size_alloc] at hz; have HB1 := Aside0.mk (((Below.refl w.heap.size w).alloc (Nat.le_refl _) _).trans (hb.mono (by first | (simp; done) | (simp; omega)))); clear hb)
    all_goals (go_ret; refine ⟨?_, by repeat (first | exact HB1.out | refine Below.setCell ?_ (by first | (simp; done) | (simp; omega)) _)⟩; congr 2; first | rfl | (simp [wfB, bareB, HN.out, *]; done) | (simp [wfB, bareB, HN.out, *]; omega) | (simp [wfB, bareB, HN.out, Bool.and_assoc, *]; done))
  have e5 : (x0 == 5) = false := by simp [h5]
  by_cases h6 : x0 = 6
  · subst h6
    go_enter Try.func38, Try.ntmps38
    go_wp2_with (go_at_call 65; refine (H65.out _).mono ?_; rintro e w1 ⟨rfl, hb⟩; obtain ⟨hc, hf⟩ := bcell hb; have hz := hb.size; simp only [World.size_alloc] at hz; have HB1 := Aside0.mk (((Below.refl w.heap.size w).alloc (Nat.le_refl _) _).trans (hb.mono (by first | (simp; done) | (simp; omega)))); clear hb)
    all_goals (go_ret; refine ⟨?_, by repeat (first | exact HB1.out | refine Below.setCell ?_ (by first | (simp; done) | (simp; omega)) _)⟩; congr 2; first | rfl | (simp [wfB, bareB, HN.out, *]; done) | (simp [wfB, bareB, HN.out, *]; omega) | (simp [wfB, bareB, HN.out, Bool.and_assoc, *]; done))
  have e6 : (x0 == 6) = false := by simp [h6]
  by_cases h7 : x0 = 7
  · subst h7
    go_enter Try.func38, Try.ntmps38
    go_wp2_with (go_at_call 65; refine (H65.out _).mono ?_; rintro e w1 ⟨rfl, hb⟩; obtain ⟨hc, hf⟩ := bcell hb; have hz := hb.size; simp only [World.size_alloc] at hz; have HB1 := Aside0.mk (((Below.refl w.heap.size w).alloc (Nat.le_refl _) _).trans (hb.mono (by first | (simp; done) | (simp; omega)))); clear hb)
    all_goals (go_ret; refine ⟨?_, by repeat (first | exact HB1.out | refine Below.setCell ?_ (by first | (simp; done) | (simp; omega)) _)⟩; congr 2; first | rfl | (simp [wfB, bareB, HN.out, *]; done) | (simp [wfB, bareB, HN.out, *]; omega) | (simp [wfB, bareB, HN.out, Bool.and_assoc, *]; done))
  have e7 : (x0 == 7) = false := by simp [h7]
  go_enter Try.func38, Try.ntmps38
  go_wp2_with (go_at_call 65; refine (H65.out _).mono ?_; rintro e w1 ⟨rfl, hb⟩; obtain ⟨hc, hf⟩ := bcell hb; have hz := hb.size; simp only [World.size_alloc] at hz; have HB1 := Aside0.mk (((Below.refl w.heap.size w).alloc (Nat.le_refl _) _).trans (hb.mono (by first | (simp; done) | (simp; omega)))); clear hb)
  all_goals (go_ret; refine ⟨?_, by repeat (first | exact HB1.out | refine Below.setCell ?_ (by first | (simp; done) | (simp; omega)) _)⟩; congr 2; first | rfl | (simp [wfB, bareB, HN.out, *]; done) | (simp [wfB, bareB, HN.out, *]; omega) | (simp [wfB, bareB, HN.out, Bool.and_assoc, *]; done))
end Go.Proofs.Ytjeoabjccbinhaa.P

namespace Go.Proofs.Ytjeoabjccbinhaa.P
open Go.RowKit Go.Proofs.YtjeoabjccbinhaaW.PrintWords Go.Proofs.YtjeoabjccbinhaaW.PrintLast Go.Proofs.YtjeoabjccbinhaaW.PrintMore
set_option linter.unusedVariables false
set_option linter.unusedSimpArgs false
theorem f40_calls (A0 : Option Addr) (c0 : Nat) (l0 : List S41) (A1 : Option Addr) (c1 : Nat) (l1 : List S86) (A2 : Option Addr) (c2 : Nat) (l2 : List S86) (r : Int) (A : Option Addr) (c : Nat) (l : List S86) (x0 x1 x2 x3 x4 : Int) (x5 : ByteArray) (w : World) (hr : HV w A0 c0 l0 A1 c1 l1 A2 c2 l2) (ho : OkH l0 l1 l2) (hr3 : Kd.C k86 w A l.length l) (hc3 : l.length ≤ c) (ho3 : okS l) (hn3 : l.length ≤ 1000) :
    Calls Try.prog 40 #[.agg #[.slice A0 l0.length c0, .slice A1 l1.length c1, .slice A2 l2.length c2, .int .i64 r], .slice A l.length c, .agg #[.int .i64 x0, .int .i64 x1, .int .i64 x2, .int .i64 x3, .int .i64 x4, .string x5]] w fun e w' => e = .returned (.int .i64 (addS l0 l x5 x1).2) ∧ Below w.heap.size w w' :=
  laminaref25_create.calls 2000 A0 c0 l0 A1 c1 l1 A2 c2 l2 r A c l x0 x1 x2 x3 x4 x5 _ w hr.r0 hr.h0 hr.r1 hr.h1 hr.r2 hr.h2 hr3 hc3 (create_is ho.o0 ho.n0 ho3 hn3 x0 x1 x2 x3 x4 x5 _ (by decide))
theorem addS_ok {l0 : List S41} {l nl : List S86} {x5 : ByteArray} {x1 er : Int} (h : addS l0 l x5 x1 = (nl, er)) (h0 : er = 0) : nl = putS l x5 x1 := by
  unfold addS at h
  cases hh : hasS l x5 with
  | true => rw [hh, if_pos rfl] at h; injection h with h1 h2; omega
  | false =>
    rw [hh, if_neg (by decide)] at h
    cases hi : hasI l0 x1 with
    | false => rw [hi, if_neg (by decide)] at h; injection h with h1 h2; omega
    | true =>
      rw [hi, if_pos rfl] at h
      by_cases h6 : 64 ≤ l.length
      · rw [if_pos h6] at h; injection h with h1 h2; omega
      · rw [if_neg h6] at h; injection h with h1 h2; unfold putS; rw [hh, if_neg (by decide)]; exact h1.symm
theorem wfB_time {x1 x2 x3 x4 : Int} {x5 : ByteArray} (h : wfB 1 x1 x2 x3 x4 x5 = true) : 0 ≤ x4 := by
  unfold wfB at h
  simp only [if_true, Bool.and_eq_true, decide_eq_true_eq] at h
  exact h.1.1.2
set_option maxHeartbeats 8000000 in
set_option maxRecDepth 100000 in
theorem f11_no (A0 : Option Addr) (c0 : Nat) (l0 : List S41) (A1 : Option Addr) (c1 : Nat) (l1 : List S86) (A2 : Option Addr) (c2 : Nat) (l2 : List S86) (r : Int) (x0 x1 x2 x3 x4 : Int) (x5 : ByteArray) (w : World) (hr : HV w A0 c0 l0 A1 c1 l1 A2 c2 l2) (ho : OkH l0 l1 l2) (ok : Nat → Prop) (hx : HF w ok A0 l0 A1 l1 A2 l2) (hwf : wfB x0 x1 x2 x3 x4 x5 = false) :
    Calls Try.prog 11 #[.agg #[.slice A0 l0.length c0, .slice A1 l1.length c1, .slice A2 l2.length c2, .int .i64 r], .agg #[.int .i64 x0, .int .i64 x1, .int .i64 x2, .int .i64 x3, .int .i64 x4, .string x5]] w fun e w' => ∃ v0 v1 v2, e = .returned (.tuple #[.agg #[v0, v1, v2, .int .i64 (applyS ⟨l0, l1, l2, r⟩ x0 x1 x2 x3 x4 x5).1.f3], .int .i64 (applyS ⟨l0, l1, l2, r⟩ x0 x1 x2 x3 x4 x5).2]) ∧ HW w' (fun k => ok k ∨ w.heap.size ≤ k) v0 v1 v2 (applyS ⟨l0, l1, l2, r⟩ x0 x1 x2 x3 x4 x5).1 ∧ Below w.heap.size w w' := by
  have hb0 : Below w.heap.size w (((w.alloc (.cells #[.slice A0 l0.length c0, .slice A1 l1.length c1, .slice A2 l2.length c2, .int .i64 r] 27)).alloc (.cells #[.int .i64 x0, .int .i64 x1, .int .i64 x2, .int .i64 x3, .int .i64 x4, .string x5] 32)).alloc (.cells #[.slice none 0 0, .slice none 0 0, .slice none 0 0, .int .i64 0] 27)) := (((Below.refl w.heap.size w).alloc (Nat.le_refl _) (.cells #[.slice A0 l0.length c0, .slice A1 l1.length c1, .slice A2 l2.length c2, .int .i64 r] 27)).alloc (by simp) (.cells #[.int .i64 x0, .int .i64 x1, .int .i64 x2, .int .i64 x3, .int .i64 x4, .string x5] 32)).alloc (by simp; omega) (.cells #[.slice none 0 0, .slice none 0 0, .slice none 0 0, .int .i64 0] 27)
  have HB0 := Aside0.mk hb0
  have HR := Aside0.mk hr
  have HO := Aside0.mk ho
  have HX : Aside0 (HF w (fun k => ok k ∧ k < w.heap.size) A0 l0 A1 l1 A2 l2) := ⟨⟨Kd.F_bound hx.f0, Kd.F_bound hx.f1, Kd.F_bound hx.f2⟩⟩
  have hal := alloc3 w (.cells #[.slice A0 l0.length c0, .slice A1 l1.length c1, .slice A2 l2.length c2, .int .i64 r] 27) (.cells #[.int .i64 x0, .int .i64 x1, .int .i64 x2, .int .i64 x3, .int .i64 x4, .string x5] 32) (.cells #[.slice none 0 0, .slice none 0 0, .slice none 0 0, .int .i64 0] 27)
  have HAL := Aside0.mk hal
  have H38 := Aside0.mk (f38_calls x0 x1 x2 x3 x4 x5 (((w.alloc (.cells #[.slice A0 l0.length c0, .slice A1 l1.length c1, .slice A2 l2.length c2, .int .i64 r] 27)).alloc (.cells #[.int .i64 x0, .int .i64 x1, .int .i64 x2, .int .i64 x3, .int .i64 x4, .string x5] 32)).alloc (.cells #[.slice none 0 0, .slice none 0 0, .slice none 0 0, .int .i64 0] 27)))
  rw [hwf] at H38
  have HWF := Aside0.mk hwf
  clear hr hb0 ho hal hwf hx
  have HV : Aside0 (applyS ⟨l0, l1, l2, r⟩ x0 x1 x2 x3 x4 x5 = (eS27, 1)) := ⟨by unfold applyS; simp [HWF.out]⟩
  go_enter Try.func11, Try.ntmps11
  go_wp2_with (first
    | (go_at_call 38; refine H38.out.mono ?_; rintro e w1 ⟨rfl, hb⟩; have HY := Aside0.mk hb; have hz1 := hb.size; simp only [World.size_alloc] at hz1; obtain ⟨⟨a0, a1, a2, a3⟩, p0, p1, p2, p3⟩ := blk4 ((hb.block _ (by first | (simp; done) | (simp; omega))).trans HAL.out.1); obtain ⟨b0, b1, b2, b3, b4, b5⟩ := blk6 ((hb.block _ (by first | (simp; done) | (simp; omega))).trans HAL.out.2.1); obtain ⟨⟨u0, u1, u2, u3⟩, q0, q1, q2, q3⟩ := blk4 ((hb.block _ (by first | (simp; done) | (simp; omega))).trans HAL.out.2.2); have HB1 := Aside0.mk (HB0.out.trans (hb.mono (by first | (simp; done) | (simp; omega)))); clear hb))
  refine bodyPost_ret (v := .tuple #[.agg #[.slice none 0 0, .slice none 0 0, .slice none 0 0, .int .i64 0], .int .i64 1]) (by simp [results, Try.results11, go_sem, u0, u1, u2, u3, a0, a1, a2, a3]) rfl ?_
  rw [HV.out]
  exact ⟨_, _, _, rfl, HW.nil _ _, (by repeat (first | (with_reducible exact HB1.out) | ((with_reducible refine Below.setCell ?_ ?_ _); rotate_left; (first | exact Nat.le_refl _ | (simp; done) | (simp; omega)))))⟩
set_option maxHeartbeats 8000000 in
set_option maxRecDepth 100000 in
theorem f11_k1 (A0 : Option Addr) (c0 : Nat) (l0 : List S41) (A1 : Option Addr) (c1 : Nat) (l1 : List S86) (A2 : Option Addr) (c2 : Nat) (l2 : List S86) (r : Int) (x1 x2 x3 x4 : Int) (x5 : ByteArray) (w : World) (hr : HV w A0 c0 l0 A1 c1 l1 A2 c2 l2) (ho : OkH l0 l1 l2) (ok : Nat → Prop) (hx : HF w ok A0 l0 A1 l1 A2 l2) (hwf : wfB 1 x1 x2 x3 x4 x5 = true) :
    Calls Try.prog 11 #[.agg #[.slice A0 l0.length c0, .slice A1 l1.length c1, .slice A2 l2.length c2, .int .i64 r], .agg #[.int .i64 1, .int .i64 x1, .int .i64 x2, .int .i64 x3, .int .i64 x4, .string x5]] w fun e w' => ∃ v0 v1 v2, e = .returned (.tuple #[.agg #[v0, v1, v2, .int .i64 (applyS ⟨l0, l1, l2, r⟩ 1 x1 x2 x3 x4 x5).1.f3], .int .i64 (applyS ⟨l0, l1, l2, r⟩ 1 x1 x2 x3 x4 x5).2]) ∧ HW w' (fun k => ok k ∨ w.heap.size ≤ k) v0 v1 v2 (applyS ⟨l0, l1, l2, r⟩ 1 x1 x2 x3 x4 x5).1 ∧ Below w.heap.size w w' := by
  have hb0 : Below w.heap.size w (((w.alloc (.cells #[.slice A0 l0.length c0, .slice A1 l1.length c1, .slice A2 l2.length c2, .int .i64 r] 27)).alloc (.cells #[.int .i64 1, .int .i64 x1, .int .i64 x2, .int .i64 x3, .int .i64 x4, .string x5] 32)).alloc (.cells #[.slice none 0 0, .slice none 0 0, .slice none 0 0, .int .i64 0] 27)) := (((Below.refl w.heap.size w).alloc (Nat.le_refl _) (.cells #[.slice A0 l0.length c0, .slice A1 l1.length c1, .slice A2 l2.length c2, .int .i64 r] 27)).alloc (by simp) (.cells #[.int .i64 1, .int .i64 x1, .int .i64 x2, .int .i64 x3, .int .i64 x4, .string x5] 32)).alloc (by simp; omega) (.cells #[.slice none 0 0, .slice none 0 0, .slice none 0 0, .int .i64 0] 27)
  have HB0 := Aside0.mk hb0
  have HR := Aside0.mk hr
  have HO := Aside0.mk ho
  have HX : Aside0 (HF w (fun k => ok k ∧ k < w.heap.size) A0 l0 A1 l1 A2 l2) := ⟨⟨Kd.F_bound hx.f0, Kd.F_bound hx.f1, Kd.F_bound hx.f2⟩⟩
  have hal := alloc3 w (.cells #[.slice A0 l0.length c0, .slice A1 l1.length c1, .slice A2 l2.length c2, .int .i64 r] 27) (.cells #[.int .i64 1, .int .i64 x1, .int .i64 x2, .int .i64 x3, .int .i64 x4, .string x5] 32) (.cells #[.slice none 0 0, .slice none 0 0, .slice none 0 0, .int .i64 0] 27)
  have HAL := Aside0.mk hal
  have H38 := Aside0.mk (f38_calls 1 x1 x2 x3 x4 x5 (((w.alloc (.cells #[.slice A0 l0.length c0, .slice A1 l1.length c1, .slice A2 l2.length c2, .int .i64 r] 27)).alloc (.cells #[.int .i64 1, .int .i64 x1, .int .i64 x2, .int .i64 x3, .int .i64 x4, .string x5] 32)).alloc (.cells #[.slice none 0 0, .slice none 0 0, .slice none 0 0, .int .i64 0] 27)))
  rw [hwf] at H38
  have HWF := Aside0.mk hwf
  clear hr hb0 ho hal hwf hx
  have HV : Aside0 (applyS ⟨l0, l1, l2, r⟩ 1 x1 x2 x3 x4 x5 = commitS ⟨l0, l1, l2, r⟩ x1 x2 x3 x4 x5) := ⟨by unfold applyS; simp [HWF.out]⟩
  go_enter Try.func11, Try.ntmps11
  go_wp2_with (first
    | (go_at_call 38; refine H38.out.mono ?_; rintro e w1 ⟨rfl, hb⟩; have HY := Aside0.mk hb; have hz1 := hb.size; simp only [World.size_alloc] at hz1; obtain ⟨⟨a0, a1, a2, a3⟩, p0, p1, p2, p3⟩ := blk4 ((hb.block _ (by first | (simp; done) | (simp; omega))).trans HAL.out.1); obtain ⟨b0, b1, b2, b3, b4, b5⟩ := blk6 ((hb.block _ (by first | (simp; done) | (simp; omega))).trans HAL.out.2.1); obtain ⟨⟨u0, u1, u2, u3⟩, q0, q1, q2, q3⟩ := blk4 ((hb.block _ (by first | (simp; done) | (simp; omega))).trans HAL.out.2.2); have HB1 := Aside0.mk (HB0.out.trans (hb.mono (by first | (simp; done) | (simp; omega)))); clear hb)
    | (go_at_call 39; refine (f39_calls A0 c0 l0 A1 c1 l1 A2 c2 l2 r 1 x1 x2 x3 x4 x5 w1 (HR.out.below HB1.out) HO.out (wfB_time HWF.out) _ (HX.out.below HB1.out)).mono ?_; clear a0 a1 a2 a3 p0 p1 p2 p3 b0 b1 b2 b3 b4 b5 u0 u1 u2 u3 q0 q1 q2 q3; rintro e w2 ⟨v0, v1, v2, rfl, ⟨hn0, hn1, hn2⟩, hb⟩; have HY2 := Aside0.mk (HY.out.trans (hb.mono HY.out.size)); have hz2 := HY2.out.size; simp only [World.size_alloc] at hz2; obtain ⟨⟨a0, a1, a2, a3⟩, p0, p1, p2, p3⟩ := blk4 ((HY2.out.block _ (by first | (simp; done) | (simp; omega))).trans HAL.out.1); obtain ⟨⟨u0, u1, u2, u3⟩, q0, q1, q2, q3⟩ := blk4 ((HY2.out.block _ (by first | (simp; done) | (simp; omega))).trans HAL.out.2.2); have HB2 := Aside0.mk (HB1.out.trans (hb.mono HB1.out.size)); have HN0 := Aside0.mk hn0; have HN1 := Aside0.mk hn1; have HN2 := Aside0.mk hn2; obtain ⟨B0, d0, rfl⟩ := Kd.V_slice hn0; obtain ⟨B1, d1, rfl⟩ := Kd.V_slice hn1; obtain ⟨B2, d2, rfl⟩ := Kd.V_slice hn2; clear hb hn0 hn1 hn2))
  refine bodyPost_ret (v := .tuple #[.agg #[.slice B0 (commitS ⟨l0, l1, l2, r⟩ x1 x2 x3 x4 x5).1.f0.length d0, .slice B1 (commitS ⟨l0, l1, l2, r⟩ x1 x2 x3 x4 x5).1.f1.length d1, .slice B2 (commitS ⟨l0, l1, l2, r⟩ x1 x2 x3 x4 x5).1.f2.length d2, .int .i64 (commitS ⟨l0, l1, l2, r⟩ x1 x2 x3 x4 x5).1.f3], .int .i64 (commitS ⟨l0, l1, l2, r⟩ x1 x2 x3 x4 x5).2]) (by simp [results, Try.results11, go_sem, u0, u1, u2, u3, a0, a1, a2, a3]) rfl ?_
  rw [HV.out]
  refine ⟨_, _, _, rfl, ⟨?_, ?_, ?_⟩, (by repeat (first | (with_reducible exact HB2.out) | ((with_reducible refine Below.setCell ?_ ?_ _); rotate_left; (first | exact Nat.le_refl _ | (simp; done) | (simp; omega)))))⟩
  · (try dsimp only)
    refine Kd.V_mono (ok := fun k => (ok k ∧ k < w.heap.size) ∨ w1.heap.size ≤ k) (by repeat (first | (with_reducible exact HN0.out) | ((with_reducible refine Kd.V_far ?_ ?_ _); rotate_left; (intro k hk; first | (simp; omega) | (rcases hk with hk | hk <;> simp <;> omega))))) (fun k hk => ?_)
    exact hk.imp (fun h => h.1) (fun h => (by omega))
  · (try dsimp only)
    refine Kd.V_mono (ok := fun k => (ok k ∧ k < w.heap.size) ∨ w1.heap.size ≤ k) (by repeat (first | (with_reducible exact HN1.out) | ((with_reducible refine Kd.V_far ?_ ?_ _); rotate_left; (intro k hk; first | (simp; omega) | (rcases hk with hk | hk <;> simp <;> omega))))) (fun k hk => ?_)
    exact hk.imp (fun h => h.1) (fun h => (by omega))
  · (try dsimp only)
    refine Kd.V_mono (ok := fun k => (ok k ∧ k < w.heap.size) ∨ w1.heap.size ≤ k) (by repeat (first | (with_reducible exact HN2.out) | ((with_reducible refine Kd.V_far ?_ ?_ _); rotate_left; (intro k hk; first | (simp; omega) | (rcases hk with hk | hk <;> simp <;> omega))))) (fun k hk => ?_)
    exact hk.imp (fun h => h.1) (fun h => (by omega))
set_option maxHeartbeats 8000000 in
set_option maxRecDepth 100000 in
theorem f11_k7 (A0 : Option Addr) (c0 : Nat) (l0 : List S41) (A1 : Option Addr) (c1 : Nat) (l1 : List S86) (A2 : Option Addr) (c2 : Nat) (l2 : List S86) (r : Int) (x1 x2 x3 x4 : Int) (x5 : ByteArray) (w : World) (hr : HV w A0 c0 l0 A1 c1 l1 A2 c2 l2) (ho : OkH l0 l1 l2) (ok : Nat → Prop) (hx : HF w ok A0 l0 A1 l1 A2 l2) (hwf : wfB 7 x1 x2 x3 x4 x5 = true) :
    Calls Try.prog 11 #[.agg #[.slice A0 l0.length c0, .slice A1 l1.length c1, .slice A2 l2.length c2, .int .i64 r], .agg #[.int .i64 7, .int .i64 x1, .int .i64 x2, .int .i64 x3, .int .i64 x4, .string x5]] w fun e w' => ∃ v0 v1 v2, e = .returned (.tuple #[.agg #[v0, v1, v2, .int .i64 (applyS ⟨l0, l1, l2, r⟩ 7 x1 x2 x3 x4 x5).1.f3], .int .i64 (applyS ⟨l0, l1, l2, r⟩ 7 x1 x2 x3 x4 x5).2]) ∧ HW w' (fun k => ok k ∨ w.heap.size ≤ k) v0 v1 v2 (applyS ⟨l0, l1, l2, r⟩ 7 x1 x2 x3 x4 x5).1 ∧ Below w.heap.size w w' := by
  have hb0 : Below w.heap.size w (((w.alloc (.cells #[.slice A0 l0.length c0, .slice A1 l1.length c1, .slice A2 l2.length c2, .int .i64 r] 27)).alloc (.cells #[.int .i64 7, .int .i64 x1, .int .i64 x2, .int .i64 x3, .int .i64 x4, .string x5] 32)).alloc (.cells #[.slice none 0 0, .slice none 0 0, .slice none 0 0, .int .i64 0] 27)) := (((Below.refl w.heap.size w).alloc (Nat.le_refl _) (.cells #[.slice A0 l0.length c0, .slice A1 l1.length c1, .slice A2 l2.length c2, .int .i64 r] 27)).alloc (by simp) (.cells #[.int .i64 7, .int .i64 x1, .int .i64 x2, .int .i64 x3, .int .i64 x4, .string x5] 32)).alloc (by simp; omega) (.cells #[.slice none 0 0, .slice none 0 0, .slice none 0 0, .int .i64 0] 27)
  have HB0 := Aside0.mk hb0
  have HR := Aside0.mk hr
  have HO := Aside0.mk ho
  have HX : Aside0 (HF w (fun k => ok k ∧ k < w.heap.size) A0 l0 A1 l1 A2 l2) := ⟨⟨Kd.F_bound hx.f0, Kd.F_bound hx.f1, Kd.F_bound hx.f2⟩⟩
  have hal := alloc3 w (.cells #[.slice A0 l0.length c0, .slice A1 l1.length c1, .slice A2 l2.length c2, .int .i64 r] 27) (.cells #[.int .i64 7, .int .i64 x1, .int .i64 x2, .int .i64 x3, .int .i64 x4, .string x5] 32) (.cells #[.slice none 0 0, .slice none 0 0, .slice none 0 0, .int .i64 0] 27)
  have HAL := Aside0.mk hal
  have H38 := Aside0.mk (f38_calls 7 x1 x2 x3 x4 x5 (((w.alloc (.cells #[.slice A0 l0.length c0, .slice A1 l1.length c1, .slice A2 l2.length c2, .int .i64 r] 27)).alloc (.cells #[.int .i64 7, .int .i64 x1, .int .i64 x2, .int .i64 x3, .int .i64 x4, .string x5] 32)).alloc (.cells #[.slice none 0 0, .slice none 0 0, .slice none 0 0, .int .i64 0] 27)))
  rw [hwf] at H38
  have HWF := Aside0.mk hwf
  clear hr hb0 ho hal hwf hx
  have HV : Aside0 (applyS ⟨l0, l1, l2, r⟩ 7 x1 x2 x3 x4 x5 = expireS ⟨l0, l1, l2, r⟩ x1) := ⟨by unfold applyS; simp [HWF.out]⟩
  go_enter Try.func11, Try.ntmps11
  go_wp2_with (first
    | (go_at_call 38; refine H38.out.mono ?_; rintro e w1 ⟨rfl, hb⟩; have HY := Aside0.mk hb; have hz1 := hb.size; simp only [World.size_alloc] at hz1; obtain ⟨⟨a0, a1, a2, a3⟩, p0, p1, p2, p3⟩ := blk4 ((hb.block _ (by first | (simp; done) | (simp; omega))).trans HAL.out.1); obtain ⟨b0, b1, b2, b3, b4, b5⟩ := blk6 ((hb.block _ (by first | (simp; done) | (simp; omega))).trans HAL.out.2.1); obtain ⟨⟨u0, u1, u2, u3⟩, q0, q1, q2, q3⟩ := blk4 ((hb.block _ (by first | (simp; done) | (simp; omega))).trans HAL.out.2.2); have HB1 := Aside0.mk (HB0.out.trans (hb.mono (by first | (simp; done) | (simp; omega)))); clear hb)
    | (go_at_call 43; refine (f43_calls A0 c0 l0 A1 c1 l1 A2 c2 l2 r x1 w1 (HR.out.below HB1.out) HO.out _ (HX.out.below HB1.out)).mono ?_; clear a0 a1 a2 a3 p0 p1 p2 p3 b0 b1 b2 b3 b4 b5 u0 u1 u2 u3 q0 q1 q2 q3; rintro e w2 ⟨v0, v1, v2, rfl, ⟨hn0, hn1, hn2⟩, hb⟩; have HY2 := Aside0.mk (HY.out.trans (hb.mono HY.out.size)); have hz2 := HY2.out.size; simp only [World.size_alloc] at hz2; obtain ⟨⟨a0, a1, a2, a3⟩, p0, p1, p2, p3⟩ := blk4 ((HY2.out.block _ (by first | (simp; done) | (simp; omega))).trans HAL.out.1); obtain ⟨⟨u0, u1, u2, u3⟩, q0, q1, q2, q3⟩ := blk4 ((HY2.out.block _ (by first | (simp; done) | (simp; omega))).trans HAL.out.2.2); have HB2 := Aside0.mk (HB1.out.trans (hb.mono HB1.out.size)); have HN0 := Aside0.mk hn0; have HN1 := Aside0.mk hn1; have HN2 := Aside0.mk hn2; obtain ⟨B0, d0, rfl⟩ := Kd.V_slice hn0; obtain ⟨B1, d1, rfl⟩ := Kd.V_slice hn1; obtain ⟨B2, d2, rfl⟩ := Kd.V_slice hn2; clear hb hn0 hn1 hn2))
  refine bodyPost_ret (v := .tuple #[.agg #[.slice B0 (expireS ⟨l0, l1, l2, r⟩ x1).1.f0.length d0, .slice B1 (expireS ⟨l0, l1, l2, r⟩ x1).1.f1.length d1, .slice B2 (expireS ⟨l0, l1, l2, r⟩ x1).1.f2.length d2, .int .i64 (expireS ⟨l0, l1, l2, r⟩ x1).1.f3], .int .i64 (expireS ⟨l0, l1, l2, r⟩ x1).2]) (by simp [results, Try.results11, go_sem, u0, u1, u2, u3, a0, a1, a2, a3]) rfl ?_
  rw [HV.out]
  refine ⟨_, _, _, rfl, ⟨?_, ?_, ?_⟩, (by repeat (first | (with_reducible exact HB2.out) | ((with_reducible refine Below.setCell ?_ ?_ _); rotate_left; (first | exact Nat.le_refl _ | (simp; done) | (simp; omega)))))⟩
  · (try dsimp only)
    refine Kd.V_mono (ok := fun k => (ok k ∧ k < w.heap.size) ∨ w1.heap.size ≤ k) (by repeat (first | (with_reducible exact HN0.out) | ((with_reducible refine Kd.V_far ?_ ?_ _); rotate_left; (intro k hk; first | (simp; omega) | (rcases hk with hk | hk <;> simp <;> omega))))) (fun k hk => ?_)
    exact hk.imp (fun h => h.1) (fun h => (by omega))
  · (try dsimp only)
    refine Kd.V_mono (ok := fun k => (ok k ∧ k < w.heap.size) ∨ w1.heap.size ≤ k) (by repeat (first | (with_reducible exact HN1.out) | ((with_reducible refine Kd.V_far ?_ ?_ _); rotate_left; (intro k hk; first | (simp; omega) | (rcases hk with hk | hk <;> simp <;> omega))))) (fun k hk => ?_)
    exact hk.imp (fun h => h.1) (fun h => (by omega))
  · (try dsimp only)
    refine Kd.V_mono (ok := fun k => (ok k ∧ k < w.heap.size) ∨ w1.heap.size ≤ k) (by repeat (first | (with_reducible exact HN2.out) | ((with_reducible refine Kd.V_far ?_ ?_ _); rotate_left; (intro k hk; first | (simp; omega) | (rcases hk with hk | hk <;> simp <;> omega))))) (fun k hk => ?_)
    exact hk.imp (fun h => h.1) (fun h => (by omega))
set_option maxHeartbeats 8000000 in
set_option maxRecDepth 100000 in
theorem f11_k2 (A0 : Option Addr) (c0 : Nat) (l0 : List S41) (A1 : Option Addr) (c1 : Nat) (l1 : List S86) (A2 : Option Addr) (c2 : Nat) (l2 : List S86) (r : Int) (x1 x2 x3 x4 : Int) (x5 : ByteArray) (w : World) (hr : HV w A0 c0 l0 A1 c1 l1 A2 c2 l2) (ho : OkH l0 l1 l2) (ok : Nat → Prop) (hx : HF w ok A0 l0 A1 l1 A2 l2) (hwf : wfB 2 x1 x2 x3 x4 x5 = true) :
    Calls Try.prog 11 #[.agg #[.slice A0 l0.length c0, .slice A1 l1.length c1, .slice A2 l2.length c2, .int .i64 r], .agg #[.int .i64 2, .int .i64 x1, .int .i64 x2, .int .i64 x3, .int .i64 x4, .string x5]] w fun e w' => ∃ v0 v1 v2, e = .returned (.tuple #[.agg #[v0, v1, v2, .int .i64 (applyS ⟨l0, l1, l2, r⟩ 2 x1 x2 x3 x4 x5).1.f3], .int .i64 (applyS ⟨l0, l1, l2, r⟩ 2 x1 x2 x3 x4 x5).2]) ∧ HW w' (fun k => ok k ∨ w.heap.size ≤ k) v0 v1 v2 (applyS ⟨l0, l1, l2, r⟩ 2 x1 x2 x3 x4 x5).1 ∧ Below w.heap.size w w' := by
  have hb0 : Below w.heap.size w (((w.alloc (.cells #[.slice A0 l0.length c0, .slice A1 l1.length c1, .slice A2 l2.length c2, .int .i64 r] 27)).alloc (.cells #[.int .i64 2, .int .i64 x1, .int .i64 x2, .int .i64 x3, .int .i64 x4, .string x5] 32)).alloc (.cells #[.slice none 0 0, .slice none 0 0, .slice none 0 0, .int .i64 0] 27)) := (((Below.refl w.heap.size w).alloc (Nat.le_refl _) (.cells #[.slice A0 l0.length c0, .slice A1 l1.length c1, .slice A2 l2.length c2, .int .i64 r] 27)).alloc (by simp) (.cells #[.int .i64 2, .int .i64 x1, .int .i64 x2, .int .i64 x3, .int .i64 x4, .string x5] 32)).alloc (by simp; omega) (.cells #[.slice none 0 0, .slice none 0 0, .slice none 0 0, .int .i64 0] 27)
  have HB0 := Aside0.mk hb0
  have HR := Aside0.mk hr
  have HO := Aside0.mk ho
  have HX : Aside0 (HF w (fun k => ok k ∧ k < w.heap.size) A0 l0 A1 l1 A2 l2) := ⟨⟨Kd.F_bound hx.f0, Kd.F_bound hx.f1, Kd.F_bound hx.f2⟩⟩
  have hal := alloc3 w (.cells #[.slice A0 l0.length c0, .slice A1 l1.length c1, .slice A2 l2.length c2, .int .i64 r] 27) (.cells #[.int .i64 2, .int .i64 x1, .int .i64 x2, .int .i64 x3, .int .i64 x4, .string x5] 32) (.cells #[.slice none 0 0, .slice none 0 0, .slice none 0 0, .int .i64 0] 27)
  have HAL := Aside0.mk hal
  have H38 := Aside0.mk (f38_calls 2 x1 x2 x3 x4 x5 (((w.alloc (.cells #[.slice A0 l0.length c0, .slice A1 l1.length c1, .slice A2 l2.length c2, .int .i64 r] 27)).alloc (.cells #[.int .i64 2, .int .i64 x1, .int .i64 x2, .int .i64 x3, .int .i64 x4, .string x5] 32)).alloc (.cells #[.slice none 0 0, .slice none 0 0, .slice none 0 0, .int .i64 0] 27)))
  rw [hwf] at H38
  have HWF := Aside0.mk hwf
  clear hr hb0 ho hal hwf hx
  obtain ⟨⟨nl, er⟩, he⟩ : ∃ z, addS l0 l1 x5 x1 = z := ⟨_, rfl⟩
  have HE := Aside0.mk he
  clear he
  by_cases h0 : er = 0
  · subst h0
    have HNL := Aside0.mk (addS_ok HE.out rfl)
    have HV : Aside0 (applyS ⟨l0, l1, l2, r⟩ 2 x1 x2 x3 x4 x5 = (⟨l0, nl, l2, r⟩, 0)) := ⟨by unfold applyS; simp [HWF.out, HE.out]⟩
    go_enter Try.func11, Try.ntmps11
    go_wp2_with (first
      | (go_at_call 38; refine H38.out.mono ?_; rintro e w1 ⟨rfl, hb⟩; have HY := Aside0.mk hb; have hz1 := hb.size; simp only [World.size_alloc] at hz1; obtain ⟨⟨a0, a1, a2, a3⟩, p0, p1, p2, p3⟩ := blk4 ((hb.block _ (by first | (simp; done) | (simp; omega))).trans HAL.out.1); obtain ⟨b0, b1, b2, b3, b4, b5⟩ := blk6 ((hb.block _ (by first | (simp; done) | (simp; omega))).trans HAL.out.2.1); obtain ⟨⟨u0, u1, u2, u3⟩, q0, q1, q2, q3⟩ := blk4 ((hb.block _ (by first | (simp; done) | (simp; omega))).trans HAL.out.2.2); have HB1 := Aside0.mk (HB0.out.trans (hb.mono (by first | (simp; done) | (simp; omega)))); clear hb)
      | (go_at_call 40; have H36 := f40_calls A0 c0 l0 A1 c1 l1 A2 c2 l2 r A1 c1 l1 2 x1 x2 x3 x4 x5 w1 (HR.out.below HB1.out) HO.out (Kd.C_below HR.out.r1 HB1.out) HR.out.h1 HO.out.o1 HO.out.n1; rw [HE.out] at H36; refine H36.mono ?_; clear H36; clear a0 a1 a2 a3 p0 p1 p2 p3 b0 b1 b2 b3 b4 b5 u0 u1 u2 u3 q0 q1 q2 q3; rintro e w2 ⟨rfl, hb⟩; have HS2 := Aside0.mk hb.size; have HY2 := Aside0.mk (HY.out.trans (hb.mono HY.out.size)); have hz2 := HY2.out.size; simp only [World.size_alloc] at hz2; obtain ⟨⟨a0, a1, a2, a3⟩, p0, p1, p2, p3⟩ := blk4 ((HY2.out.block _ (by first | (simp; done) | (simp; omega))).trans HAL.out.1); obtain ⟨⟨u0, u1, u2, u3⟩, q0, q1, q2, q3⟩ := blk4 ((HY2.out.block _ (by first | (simp; done) | (simp; omega))).trans HAL.out.2.2); obtain ⟨b0, b1, b2, b3, b4, b5⟩ := blk6 ((HY2.out.block _ (by first | (simp; done) | (simp; omega))).trans HAL.out.2.1); have HB2 := Aside0.mk (HB1.out.trans (hb.mono HB1.out.size)); clear hb)
      | (go_at_call 41; refine (f41_calls A1 c1 l1 x5 x1 w2 (Kd.C_below HR.out.r1 HB2.out) HR.out.h1 HO.out.o1 HO.out.n1).mono ?_; clear a0 a1 a2 a3 p0 p1 p2 p3 b0 b1 b2 b3 b4 b5 u0 u1 u2 u3 q0 q1 q2 q3; rintro e w3 ⟨v, rfl, hn, hb⟩; have HY3 := Aside0.mk (HY2.out.trans (hb.mono HY2.out.size)); have hz3 := HY3.out.size; simp only [World.size_alloc] at hz3; obtain ⟨⟨a0, a1, a2, a3⟩, p0, p1, p2, p3⟩ := blk4 ((HY3.out.block _ (by first | (simp; done) | (simp; omega))).trans HAL.out.1); obtain ⟨⟨u0, u1, u2, u3⟩, q0, q1, q2, q3⟩ := blk4 ((HY3.out.block _ (by first | (simp; done) | (simp; omega))).trans HAL.out.2.2); have HB3 := Aside0.mk (HB2.out.trans (hb.mono HB2.out.size)); (try simp only [← HNL.out] at hn); have HN1 := Aside0.mk (Kd.R_V (base' := 0) (Kd.R_mono (Kd.R_bound hn) (ok' := fun k => w1.heap.size ≤ k) (fun k hk => by have h_ := hk.2.1; have := HS2.out; omega))); obtain ⟨B, d, rfl⟩ := Kd.R_slice hn; clear hb hn))
    have HN0 : Aside0 (Kd.V k41 41 w3 0 (fun k => ok k ∧ k < w.heap.size) (.slice A0 l0.length c0) l0) := ⟨Kd.V_mk HR.out.h0 (Kd.F_below HX.out.f0 HB3.out)⟩
    have HN2 : Aside0 (Kd.V k86 86 w3 0 (fun k => ok k ∧ k < w.heap.size) (.slice A2 l2.length c2) l2) := ⟨Kd.V_mk HR.out.h2 (Kd.F_below HX.out.f2 HB3.out)⟩
    refine bodyPost_ret (v := .tuple #[.agg #[.slice A0 l0.length c0, .slice B nl.length d, .slice A2 l2.length c2, .int .i64 r], .int .i64 0]) (by simp [results, Try.results11, go_sem, u0, u1, u2, u3, a0, a1, a2, a3]) rfl ?_
    rw [HV.out]
    refine ⟨_, _, _, rfl, ⟨?_, ?_, ?_⟩, (by repeat (first | (with_reducible exact HB3.out) | ((with_reducible refine Below.setCell ?_ ?_ _); rotate_left; (first | exact Nat.le_refl _ | (simp; done) | (simp; omega)))))⟩
    · (try dsimp only)
      refine Kd.V_mono (ok := fun k => ok k ∧ k < w.heap.size) (by repeat (first | (with_reducible exact HN0.out) | ((with_reducible refine Kd.V_far ?_ ?_ _); rotate_left; (intro k hk; first | (simp; omega) | (rcases hk with hk | hk <;> simp <;> omega))))) (fun k hk => ?_)
      exact .inl hk.1
    · (try dsimp only)
      refine Kd.V_mono (ok := fun k => w1.heap.size ≤ k) (by repeat (first | (with_reducible exact HN1.out) | ((with_reducible refine Kd.V_far ?_ ?_ _); rotate_left; (intro k hk; first | (simp; omega) | (rcases hk with hk | hk <;> simp <;> omega))))) (fun k hk => ?_)
      exact .inr (by omega)
    · (try dsimp only)
      refine Kd.V_mono (ok := fun k => ok k ∧ k < w.heap.size) (by repeat (first | (with_reducible exact HN2.out) | ((with_reducible refine Kd.V_far ?_ ?_ _); rotate_left; (intro k hk; first | (simp; omega) | (rcases hk with hk | hk <;> simp <;> omega))))) (fun k hk => ?_)
      exact .inl hk.1
  · have hne : (er != 0) = true := by simpa using h0
    have heq : (er == 0) = false := by simpa using h0
    have HV : Aside0 (applyS ⟨l0, l1, l2, r⟩ 2 x1 x2 x3 x4 x5 = (eS27, er)) := ⟨by unfold applyS; simp [HWF.out, HE.out, h0]⟩
    clear h0
    go_enter Try.func11, Try.ntmps11
    go_wp2_with (first
      | (go_at_call 38; refine H38.out.mono ?_; rintro e w1 ⟨rfl, hb⟩; have HY := Aside0.mk hb; have hz1 := hb.size; simp only [World.size_alloc] at hz1; obtain ⟨⟨a0, a1, a2, a3⟩, p0, p1, p2, p3⟩ := blk4 ((hb.block _ (by first | (simp; done) | (simp; omega))).trans HAL.out.1); obtain ⟨b0, b1, b2, b3, b4, b5⟩ := blk6 ((hb.block _ (by first | (simp; done) | (simp; omega))).trans HAL.out.2.1); obtain ⟨⟨u0, u1, u2, u3⟩, q0, q1, q2, q3⟩ := blk4 ((hb.block _ (by first | (simp; done) | (simp; omega))).trans HAL.out.2.2); have HB1 := Aside0.mk (HB0.out.trans (hb.mono (by first | (simp; done) | (simp; omega)))); clear hb)
      | (go_at_call 40; have H36 := f40_calls A0 c0 l0 A1 c1 l1 A2 c2 l2 r A1 c1 l1 2 x1 x2 x3 x4 x5 w1 (HR.out.below HB1.out) HO.out (Kd.C_below HR.out.r1 HB1.out) HR.out.h1 HO.out.o1 HO.out.n1; rw [HE.out] at H36; refine H36.mono ?_; clear H36; clear a0 a1 a2 a3 p0 p1 p2 p3 b0 b1 b2 b3 b4 b5 u0 u1 u2 u3 q0 q1 q2 q3; rintro e w2 ⟨rfl, hb⟩; have HS2 := Aside0.mk hb.size; have HY2 := Aside0.mk (HY.out.trans (hb.mono HY.out.size)); have hz2 := HY2.out.size; simp only [World.size_alloc] at hz2; obtain ⟨⟨a0, a1, a2, a3⟩, p0, p1, p2, p3⟩ := blk4 ((HY2.out.block _ (by first | (simp; done) | (simp; omega))).trans HAL.out.1); obtain ⟨⟨u0, u1, u2, u3⟩, q0, q1, q2, q3⟩ := blk4 ((HY2.out.block _ (by first | (simp; done) | (simp; omega))).trans HAL.out.2.2); obtain ⟨b0, b1, b2, b3, b4, b5⟩ := blk6 ((HY2.out.block _ (by first | (simp; done) | (simp; omega))).trans HAL.out.2.1); have HB2 := Aside0.mk (HB1.out.trans (hb.mono HB1.out.size)); clear hb))
    refine bodyPost_ret (v := .tuple #[.agg #[.slice none 0 0, .slice none 0 0, .slice none 0 0, .int .i64 0], .int .i64 er]) (by simp [results, Try.results11, go_sem, u0, u1, u2, u3, a0, a1, a2, a3]) rfl ?_
    rw [HV.out]
    exact ⟨_, _, _, rfl, HW.nil _ _, (by repeat (first | (with_reducible exact HB2.out) | ((with_reducible refine Below.setCell ?_ ?_ _); rotate_left; (first | exact Nat.le_refl _ | (simp; done) | (simp; omega)))))⟩
set_option maxHeartbeats 8000000 in
set_option maxRecDepth 100000 in
theorem f11_k3 (A0 : Option Addr) (c0 : Nat) (l0 : List S41) (A1 : Option Addr) (c1 : Nat) (l1 : List S86) (A2 : Option Addr) (c2 : Nat) (l2 : List S86) (r : Int) (x1 x2 x3 x4 : Int) (x5 : ByteArray) (w : World) (hr : HV w A0 c0 l0 A1 c1 l1 A2 c2 l2) (ho : OkH l0 l1 l2) (ok : Nat → Prop) (hx : HF w ok A0 l0 A1 l1 A2 l2) (hwf : wfB 3 x1 x2 x3 x4 x5 = true) :
    Calls Try.prog 11 #[.agg #[.slice A0 l0.length c0, .slice A1 l1.length c1, .slice A2 l2.length c2, .int .i64 r], .agg #[.int .i64 3, .int .i64 x1, .int .i64 x2, .int .i64 x3, .int .i64 x4, .string x5]] w fun e w' => ∃ v0 v1 v2, e = .returned (.tuple #[.agg #[v0, v1, v2, .int .i64 (applyS ⟨l0, l1, l2, r⟩ 3 x1 x2 x3 x4 x5).1.f3], .int .i64 (applyS ⟨l0, l1, l2, r⟩ 3 x1 x2 x3 x4 x5).2]) ∧ HW w' (fun k => ok k ∨ w.heap.size ≤ k) v0 v1 v2 (applyS ⟨l0, l1, l2, r⟩ 3 x1 x2 x3 x4 x5).1 ∧ Below w.heap.size w w' := by
  have hb0 : Below w.heap.size w (((w.alloc (.cells #[.slice A0 l0.length c0, .slice A1 l1.length c1, .slice A2 l2.length c2, .int .i64 r] 27)).alloc (.cells #[.int .i64 3, .int .i64 x1, .int .i64 x2, .int .i64 x3, .int .i64 x4, .string x5] 32)).alloc (.cells #[.slice none 0 0, .slice none 0 0, .slice none 0 0, .int .i64 0] 27)) := (((Below.refl w.heap.size w).alloc (Nat.le_refl _) (.cells #[.slice A0 l0.length c0, .slice A1 l1.length c1, .slice A2 l2.length c2, .int .i64 r] 27)).alloc (by simp) (.cells #[.int .i64 3, .int .i64 x1, .int .i64 x2, .int .i64 x3, .int .i64 x4, .string x5] 32)).alloc (by simp; omega) (.cells #[.slice none 0 0, .slice none 0 0, .slice none 0 0, .int .i64 0] 27)
  have HB0 := Aside0.mk hb0
  have HR := Aside0.mk hr
  have HO := Aside0.mk ho
  have HX : Aside0 (HF w (fun k => ok k ∧ k < w.heap.size) A0 l0 A1 l1 A2 l2) := ⟨⟨Kd.F_bound hx.f0, Kd.F_bound hx.f1, Kd.F_bound hx.f2⟩⟩
  have hal := alloc3 w (.cells #[.slice A0 l0.length c0, .slice A1 l1.length c1, .slice A2 l2.length c2, .int .i64 r] 27) (.cells #[.int .i64 3, .int .i64 x1, .int .i64 x2, .int .i64 x3, .int .i64 x4, .string x5] 32) (.cells #[.slice none 0 0, .slice none 0 0, .slice none 0 0, .int .i64 0] 27)
  have HAL := Aside0.mk hal
  have H38 := Aside0.mk (f38_calls 3 x1 x2 x3 x4 x5 (((w.alloc (.cells #[.slice A0 l0.length c0, .slice A1 l1.length c1, .slice A2 l2.length c2, .int .i64 r] 27)).alloc (.cells #[.int .i64 3, .int .i64 x1, .int .i64 x2, .int .i64 x3, .int .i64 x4, .string x5] 32)).alloc (.cells #[.slice none 0 0, .slice none 0 0, .slice none 0 0, .int .i64 0] 27)))
  rw [hwf] at H38
  have HWF := Aside0.mk hwf
  clear hr hb0 ho hal hwf hx
  obtain ⟨⟨nl, er⟩, he⟩ : ∃ z, addS l0 l2 x5 x1 = z := ⟨_, rfl⟩
  have HE := Aside0.mk he
  clear he
  by_cases h0 : er = 0
  · subst h0
    have HNL := Aside0.mk (addS_ok HE.out rfl)
    have HV : Aside0 (applyS ⟨l0, l1, l2, r⟩ 3 x1 x2 x3 x4 x5 = (⟨l0, l1, nl, r⟩, 0)) := ⟨by unfold applyS; simp [HWF.out, HE.out]⟩
    go_enter Try.func11, Try.ntmps11
    go_wp2_with (first
      | (go_at_call 38; refine H38.out.mono ?_; rintro e w1 ⟨rfl, hb⟩; have HY := Aside0.mk hb; have hz1 := hb.size; simp only [World.size_alloc] at hz1; obtain ⟨⟨a0, a1, a2, a3⟩, p0, p1, p2, p3⟩ := blk4 ((hb.block _ (by first | (simp; done) | (simp; omega))).trans HAL.out.1); obtain ⟨b0, b1, b2, b3, b4, b5⟩ := blk6 ((hb.block _ (by first | (simp; done) | (simp; omega))).trans HAL.out.2.1); obtain ⟨⟨u0, u1, u2, u3⟩, q0, q1, q2, q3⟩ := blk4 ((hb.block _ (by first | (simp; done) | (simp; omega))).trans HAL.out.2.2); have HB1 := Aside0.mk (HB0.out.trans (hb.mono (by first | (simp; done) | (simp; omega)))); clear hb)
      | (go_at_call 40; have H36 := f40_calls A0 c0 l0 A1 c1 l1 A2 c2 l2 r A2 c2 l2 3 x1 x2 x3 x4 x5 w1 (HR.out.below HB1.out) HO.out (Kd.C_below HR.out.r2 HB1.out) HR.out.h2 HO.out.o2 HO.out.n2; rw [HE.out] at H36; refine H36.mono ?_; clear H36; clear a0 a1 a2 a3 p0 p1 p2 p3 b0 b1 b2 b3 b4 b5 u0 u1 u2 u3 q0 q1 q2 q3; rintro e w2 ⟨rfl, hb⟩; have HS2 := Aside0.mk hb.size; have HY2 := Aside0.mk (HY.out.trans (hb.mono HY.out.size)); have hz2 := HY2.out.size; simp only [World.size_alloc] at hz2; obtain ⟨⟨a0, a1, a2, a3⟩, p0, p1, p2, p3⟩ := blk4 ((HY2.out.block _ (by first | (simp; done) | (simp; omega))).trans HAL.out.1); obtain ⟨⟨u0, u1, u2, u3⟩, q0, q1, q2, q3⟩ := blk4 ((HY2.out.block _ (by first | (simp; done) | (simp; omega))).trans HAL.out.2.2); obtain ⟨b0, b1, b2, b3, b4, b5⟩ := blk6 ((HY2.out.block _ (by first | (simp; done) | (simp; omega))).trans HAL.out.2.1); have HB2 := Aside0.mk (HB1.out.trans (hb.mono HB1.out.size)); clear hb)
      | (go_at_call 41; refine (f41_calls A2 c2 l2 x5 x1 w2 (Kd.C_below HR.out.r2 HB2.out) HR.out.h2 HO.out.o2 HO.out.n2).mono ?_; clear a0 a1 a2 a3 p0 p1 p2 p3 b0 b1 b2 b3 b4 b5 u0 u1 u2 u3 q0 q1 q2 q3; rintro e w3 ⟨v, rfl, hn, hb⟩; have HY3 := Aside0.mk (HY2.out.trans (hb.mono HY2.out.size)); have hz3 := HY3.out.size; simp only [World.size_alloc] at hz3; obtain ⟨⟨a0, a1, a2, a3⟩, p0, p1, p2, p3⟩ := blk4 ((HY3.out.block _ (by first | (simp; done) | (simp; omega))).trans HAL.out.1); obtain ⟨⟨u0, u1, u2, u3⟩, q0, q1, q2, q3⟩ := blk4 ((HY3.out.block _ (by first | (simp; done) | (simp; omega))).trans HAL.out.2.2); have HB3 := Aside0.mk (HB2.out.trans (hb.mono HB2.out.size)); (try simp only [← HNL.out] at hn); have HN2 := Aside0.mk (Kd.R_V (base' := 0) (Kd.R_mono (Kd.R_bound hn) (ok' := fun k => w1.heap.size ≤ k) (fun k hk => by have h_ := hk.2.1; have := HS2.out; omega))); obtain ⟨B, d, rfl⟩ := Kd.R_slice hn; clear hb hn))
    have HN0 : Aside0 (Kd.V k41 41 w3 0 (fun k => ok k ∧ k < w.heap.size) (.slice A0 l0.length c0) l0) := ⟨Kd.V_mk HR.out.h0 (Kd.F_below HX.out.f0 HB3.out)⟩
    have HN1 : Aside0 (Kd.V k86 86 w3 0 (fun k => ok k ∧ k < w.heap.size) (.slice A1 l1.length c1) l1) := ⟨Kd.V_mk HR.out.h1 (Kd.F_below HX.out.f1 HB3.out)⟩
    refine bodyPost_ret (v := .tuple #[.agg #[.slice A0 l0.length c0, .slice A1 l1.length c1, .slice B nl.length d, .int .i64 r], .int .i64 0]) (by simp [results, Try.results11, go_sem, u0, u1, u2, u3, a0, a1, a2, a3]) rfl ?_
    rw [HV.out]
    refine ⟨_, _, _, rfl, ⟨?_, ?_, ?_⟩, (by repeat (first | (with_reducible exact HB3.out) | ((with_reducible refine Below.setCell ?_ ?_ _); rotate_left; (first | exact Nat.le_refl _ | (simp; done) | (simp; omega)))))⟩
    · (try dsimp only)
      refine Kd.V_mono (ok := fun k => ok k ∧ k < w.heap.size) (by repeat (first | (with_reducible exact HN0.out) | ((with_reducible refine Kd.V_far ?_ ?_ _); rotate_left; (intro k hk; first | (simp; omega) | (rcases hk with hk | hk <;> simp <;> omega))))) (fun k hk => ?_)
      exact .inl hk.1
    · (try dsimp only)
      refine Kd.V_mono (ok := fun k => ok k ∧ k < w.heap.size) (by repeat (first | (with_reducible exact HN1.out) | ((with_reducible refine Kd.V_far ?_ ?_ _); rotate_left; (intro k hk; first | (simp; omega) | (rcases hk with hk | hk <;> simp <;> omega))))) (fun k hk => ?_)
      exact .inl hk.1
    · (try dsimp only)
      refine Kd.V_mono (ok := fun k => w1.heap.size ≤ k) (by repeat (first | (with_reducible exact HN2.out) | ((with_reducible refine Kd.V_far ?_ ?_ _); rotate_left; (intro k hk; first | (simp; omega) | (rcases hk with hk | hk <;> simp <;> omega))))) (fun k hk => ?_)
      exact .inr (by omega)
  · have hne : (er != 0) = true := by simpa using h0
    have heq : (er == 0) = false := by simpa using h0
    have HV : Aside0 (applyS ⟨l0, l1, l2, r⟩ 3 x1 x2 x3 x4 x5 = (eS27, er)) := ⟨by unfold applyS; simp [HWF.out, HE.out, h0]⟩
    clear h0
    go_enter Try.func11, Try.ntmps11
    go_wp2_with (first
      | (go_at_call 38; refine H38.out.mono ?_; rintro e w1 ⟨rfl, hb⟩; have HY := Aside0.mk hb; have hz1 := hb.size; simp only [World.size_alloc] at hz1; obtain ⟨⟨a0, a1, a2, a3⟩, p0, p1, p2, p3⟩ := blk4 ((hb.block _ (by first | (simp; done) | (simp; omega))).trans HAL.out.1); obtain ⟨b0, b1, b2, b3, b4, b5⟩ := blk6 ((hb.block _ (by first | (simp; done) | (simp; omega))).trans HAL.out.2.1); obtain ⟨⟨u0, u1, u2, u3⟩, q0, q1, q2, q3⟩ := blk4 ((hb.block _ (by first | (simp; done) | (simp; omega))).trans HAL.out.2.2); have HB1 := Aside0.mk (HB0.out.trans (hb.mono (by first | (simp; done) | (simp; omega)))); clear hb)
      | (go_at_call 40; have H36 := f40_calls A0 c0 l0 A1 c1 l1 A2 c2 l2 r A2 c2 l2 3 x1 x2 x3 x4 x5 w1 (HR.out.below HB1.out) HO.out (Kd.C_below HR.out.r2 HB1.out) HR.out.h2 HO.out.o2 HO.out.n2; rw [HE.out] at H36; refine H36.mono ?_; clear H36; clear a0 a1 a2 a3 p0 p1 p2 p3 b0 b1 b2 b3 b4 b5 u0 u1 u2 u3 q0 q1 q2 q3; rintro e w2 ⟨rfl, hb⟩; have HS2 := Aside0.mk hb.size; have HY2 := Aside0.mk (HY.out.trans (hb.mono HY.out.size)); have hz2 := HY2.out.size; simp only [World.size_alloc] at hz2; obtain ⟨⟨a0, a1, a2, a3⟩, p0, p1, p2, p3⟩ := blk4 ((HY2.out.block _ (by first | (simp; done) | (simp; omega))).trans HAL.out.1); obtain ⟨⟨u0, u1, u2, u3⟩, q0, q1, q2, q3⟩ := blk4 ((HY2.out.block _ (by first | (simp; done) | (simp; omega))).trans HAL.out.2.2); obtain ⟨b0, b1, b2, b3, b4, b5⟩ := blk6 ((HY2.out.block _ (by first | (simp; done) | (simp; omega))).trans HAL.out.2.1); have HB2 := Aside0.mk (HB1.out.trans (hb.mono HB1.out.size)); clear hb))
    refine bodyPost_ret (v := .tuple #[.agg #[.slice none 0 0, .slice none 0 0, .slice none 0 0, .int .i64 0], .int .i64 er]) (by simp [results, Try.results11, go_sem, u0, u1, u2, u3, a0, a1, a2, a3]) rfl ?_
    rw [HV.out]
    exact ⟨_, _, _, rfl, HW.nil _ _, (by repeat (first | (with_reducible exact HB2.out) | ((with_reducible refine Below.setCell ?_ ?_ _); rotate_left; (first | exact Nat.le_refl _ | (simp; done) | (simp; omega)))))⟩
set_option maxHeartbeats 8000000 in
set_option maxRecDepth 100000 in
theorem f11_k4 (A0 : Option Addr) (c0 : Nat) (l0 : List S41) (A1 : Option Addr) (c1 : Nat) (l1 : List S86) (A2 : Option Addr) (c2 : Nat) (l2 : List S86) (r : Int) (x1 x2 x3 x4 : Int) (x5 : ByteArray) (w : World) (hr : HV w A0 c0 l0 A1 c1 l1 A2 c2 l2) (ho : OkH l0 l1 l2) (ok : Nat → Prop) (hx : HF w ok A0 l0 A1 l1 A2 l2) (hwf : wfB 4 x1 x2 x3 x4 x5 = true) :
    Calls Try.prog 11 #[.agg #[.slice A0 l0.length c0, .slice A1 l1.length c1, .slice A2 l2.length c2, .int .i64 r], .agg #[.int .i64 4, .int .i64 x1, .int .i64 x2, .int .i64 x3, .int .i64 x4, .string x5]] w fun e w' => ∃ v0 v1 v2, e = .returned (.tuple #[.agg #[v0, v1, v2, .int .i64 (applyS ⟨l0, l1, l2, r⟩ 4 x1 x2 x3 x4 x5).1.f3], .int .i64 (applyS ⟨l0, l1, l2, r⟩ 4 x1 x2 x3 x4 x5).2]) ∧ HW w' (fun k => ok k ∨ w.heap.size ≤ k) v0 v1 v2 (applyS ⟨l0, l1, l2, r⟩ 4 x1 x2 x3 x4 x5).1 ∧ Below w.heap.size w w' := by
  have hb0 : Below w.heap.size w (((w.alloc (.cells #[.slice A0 l0.length c0, .slice A1 l1.length c1, .slice A2 l2.length c2, .int .i64 r] 27)).alloc (.cells #[.int .i64 4, .int .i64 x1, .int .i64 x2, .int .i64 x3, .int .i64 x4, .string x5] 32)).alloc (.cells #[.slice none 0 0, .slice none 0 0, .slice none 0 0, .int .i64 0] 27)) := (((Below.refl w.heap.size w).alloc (Nat.le_refl _) (.cells #[.slice A0 l0.length c0, .slice A1 l1.length c1, .slice A2 l2.length c2, .int .i64 r] 27)).alloc (by simp) (.cells #[.int .i64 4, .int .i64 x1, .int .i64 x2, .int .i64 x3, .int .i64 x4, .string x5] 32)).alloc (by simp; omega) (.cells #[.slice none 0 0, .slice none 0 0, .slice none 0 0, .int .i64 0] 27)
  have HB0 := Aside0.mk hb0
  have HR := Aside0.mk hr
  have HO := Aside0.mk ho
  have HX : Aside0 (HF w (fun k => ok k ∧ k < w.heap.size) A0 l0 A1 l1 A2 l2) := ⟨⟨Kd.F_bound hx.f0, Kd.F_bound hx.f1, Kd.F_bound hx.f2⟩⟩
  have hal := alloc3 w (.cells #[.slice A0 l0.length c0, .slice A1 l1.length c1, .slice A2 l2.length c2, .int .i64 r] 27) (.cells #[.int .i64 4, .int .i64 x1, .int .i64 x2, .int .i64 x3, .int .i64 x4, .string x5] 32) (.cells #[.slice none 0 0, .slice none 0 0, .slice none 0 0, .int .i64 0] 27)
  have HAL := Aside0.mk hal
  have H38 := Aside0.mk (f38_calls 4 x1 x2 x3 x4 x5 (((w.alloc (.cells #[.slice A0 l0.length c0, .slice A1 l1.length c1, .slice A2 l2.length c2, .int .i64 r] 27)).alloc (.cells #[.int .i64 4, .int .i64 x1, .int .i64 x2, .int .i64 x3, .int .i64 x4, .string x5] 32)).alloc (.cells #[.slice none 0 0, .slice none 0 0, .slice none 0 0, .int .i64 0] 27)))
  rw [hwf] at H38
  have HWF := Aside0.mk hwf
  clear hr hb0 ho hal hwf hx
  cases he : hasS l1 x5 with
  | true =>
    have HE := Aside0.mk he
    have HV : Aside0 (applyS ⟨l0, l1, l2, r⟩ 4 x1 x2 x3 x4 x5 = (⟨l0, dropS l1 x5, l2, r⟩, 0)) := ⟨by unfold applyS; simp [HWF.out, he]⟩
    clear he
    go_enter Try.func11, Try.ntmps11
    go_wp2_with (first
      | (go_at_call 38; refine H38.out.mono ?_; rintro e w1 ⟨rfl, hb⟩; have HY := Aside0.mk hb; have hz1 := hb.size; simp only [World.size_alloc] at hz1; obtain ⟨⟨a0, a1, a2, a3⟩, p0, p1, p2, p3⟩ := blk4 ((hb.block _ (by first | (simp; done) | (simp; omega))).trans HAL.out.1); obtain ⟨b0, b1, b2, b3, b4, b5⟩ := blk6 ((hb.block _ (by first | (simp; done) | (simp; omega))).trans HAL.out.2.1); obtain ⟨⟨u0, u1, u2, u3⟩, q0, q1, q2, q3⟩ := blk4 ((hb.block _ (by first | (simp; done) | (simp; omega))).trans HAL.out.2.2); have HB1 := Aside0.mk (HB0.out.trans (hb.mono (by first | (simp; done) | (simp; omega)))); clear hb)
      | (go_at_call 26; have H37 := f26_calls A0 c0 l0 A1 c1 l1 A2 c2 l2 r x5 w1 (HR.out.below HB1.out) HO.out.o1 HO.out.n1; rw [HE.out] at H37; refine H37.mono ?_; clear H37; clear a0 a1 a2 a3 p0 p1 p2 p3 b0 b1 b2 b3 b4 b5 u0 u1 u2 u3 q0 q1 q2 q3; rintro e w2 ⟨rfl, hb⟩; have HS2 := Aside0.mk hb.size; have HY2 := Aside0.mk (HY.out.trans (hb.mono HY.out.size)); have hz2 := HY2.out.size; simp only [World.size_alloc] at hz2; obtain ⟨⟨a0, a1, a2, a3⟩, p0, p1, p2, p3⟩ := blk4 ((HY2.out.block _ (by first | (simp; done) | (simp; omega))).trans HAL.out.1); obtain ⟨⟨u0, u1, u2, u3⟩, q0, q1, q2, q3⟩ := blk4 ((HY2.out.block _ (by first | (simp; done) | (simp; omega))).trans HAL.out.2.2); obtain ⟨b0, b1, b2, b3, b4, b5⟩ := blk6 ((HY2.out.block _ (by first | (simp; done) | (simp; omega))).trans HAL.out.2.1); have HB2 := Aside0.mk (HB1.out.trans (hb.mono HB1.out.size)); clear hb)
      | (go_at_call 42; refine (f42_calls A1 c1 l1 x5 w2 (Kd.C_below HR.out.r1 HB2.out) HR.out.h1 HO.out.o1 HO.out.n1).mono ?_; clear a0 a1 a2 a3 p0 p1 p2 p3 b0 b1 b2 b3 b4 b5 u0 u1 u2 u3 q0 q1 q2 q3; rintro e w3 ⟨v, rfl, hn, hb⟩; have HY3 := Aside0.mk (HY2.out.trans (hb.mono HY2.out.size)); have hz3 := HY3.out.size; simp only [World.size_alloc] at hz3; obtain ⟨⟨a0, a1, a2, a3⟩, p0, p1, p2, p3⟩ := blk4 ((HY3.out.block _ (by first | (simp; done) | (simp; omega))).trans HAL.out.1); obtain ⟨⟨u0, u1, u2, u3⟩, q0, q1, q2, q3⟩ := blk4 ((HY3.out.block _ (by first | (simp; done) | (simp; omega))).trans HAL.out.2.2); have HB3 := Aside0.mk (HB2.out.trans (hb.mono HB2.out.size)); (try simp only [HE.out, if_true] at hn); have HN1 := Aside0.mk (Kd.R_V (base' := 0) (Kd.R_mono (Kd.R_bound hn) (ok' := fun k => w1.heap.size ≤ k) (fun k hk => by have h_ := hk.2.1; have := HS2.out; omega))); obtain ⟨B, d, rfl⟩ := Kd.R_slice hn; clear hb hn))
    have HN0 : Aside0 (Kd.V k41 41 w3 0 (fun k => ok k ∧ k < w.heap.size) (.slice A0 l0.length c0) l0) := ⟨Kd.V_mk HR.out.h0 (Kd.F_below HX.out.f0 HB3.out)⟩
    have HN2 : Aside0 (Kd.V k86 86 w3 0 (fun k => ok k ∧ k < w.heap.size) (.slice A2 l2.length c2) l2) := ⟨Kd.V_mk HR.out.h2 (Kd.F_below HX.out.f2 HB3.out)⟩
    refine bodyPost_ret (v := .tuple #[.agg #[.slice A0 l0.length c0, .slice B (dropS l1 x5).length d, .slice A2 l2.length c2, .int .i64 r], .int .i64 0]) (by simp [results, Try.results11, go_sem, u0, u1, u2, u3, a0, a1, a2, a3]) rfl ?_
    rw [HV.out]
    refine ⟨_, _, _, rfl, ⟨?_, ?_, ?_⟩, (by repeat (first | (with_reducible exact HB3.out) | ((with_reducible refine Below.setCell ?_ ?_ _); rotate_left; (first | exact Nat.le_refl _ | (simp; done) | (simp; omega)))))⟩
    · (try dsimp only)
      refine Kd.V_mono (ok := fun k => ok k ∧ k < w.heap.size) (by repeat (first | (with_reducible exact HN0.out) | ((with_reducible refine Kd.V_far ?_ ?_ _); rotate_left; (intro k hk; first | (simp; omega) | (rcases hk with hk | hk <;> simp <;> omega))))) (fun k hk => ?_)
      exact .inl hk.1
    · (try dsimp only)
      refine Kd.V_mono (ok := fun k => w1.heap.size ≤ k) (by repeat (first | (with_reducible exact HN1.out) | ((with_reducible refine Kd.V_far ?_ ?_ _); rotate_left; (intro k hk; first | (simp; omega) | (rcases hk with hk | hk <;> simp <;> omega))))) (fun k hk => ?_)
      exact .inr (by omega)
    · (try dsimp only)
      refine Kd.V_mono (ok := fun k => ok k ∧ k < w.heap.size) (by repeat (first | (with_reducible exact HN2.out) | ((with_reducible refine Kd.V_far ?_ ?_ _); rotate_left; (intro k hk; first | (simp; omega) | (rcases hk with hk | hk <;> simp <;> omega))))) (fun k hk => ?_)
      exact .inl hk.1
  | false =>
    have HE := Aside0.mk he
    have HV : Aside0 (applyS ⟨l0, l1, l2, r⟩ 4 x1 x2 x3 x4 x5 = (eS27, 8)) := ⟨by unfold applyS; simp [HWF.out, he]⟩
    clear he
    go_enter Try.func11, Try.ntmps11
    go_wp2_with (first
      | (go_at_call 38; refine H38.out.mono ?_; rintro e w1 ⟨rfl, hb⟩; have HY := Aside0.mk hb; have hz1 := hb.size; simp only [World.size_alloc] at hz1; obtain ⟨⟨a0, a1, a2, a3⟩, p0, p1, p2, p3⟩ := blk4 ((hb.block _ (by first | (simp; done) | (simp; omega))).trans HAL.out.1); obtain ⟨b0, b1, b2, b3, b4, b5⟩ := blk6 ((hb.block _ (by first | (simp; done) | (simp; omega))).trans HAL.out.2.1); obtain ⟨⟨u0, u1, u2, u3⟩, q0, q1, q2, q3⟩ := blk4 ((hb.block _ (by first | (simp; done) | (simp; omega))).trans HAL.out.2.2); have HB1 := Aside0.mk (HB0.out.trans (hb.mono (by first | (simp; done) | (simp; omega)))); clear hb)
      | (go_at_call 26; have H37 := f26_calls A0 c0 l0 A1 c1 l1 A2 c2 l2 r x5 w1 (HR.out.below HB1.out) HO.out.o1 HO.out.n1; rw [HE.out] at H37; refine H37.mono ?_; clear H37; clear a0 a1 a2 a3 p0 p1 p2 p3 b0 b1 b2 b3 b4 b5 u0 u1 u2 u3 q0 q1 q2 q3; rintro e w2 ⟨rfl, hb⟩; have HS2 := Aside0.mk hb.size; have HY2 := Aside0.mk (HY.out.trans (hb.mono HY.out.size)); have hz2 := HY2.out.size; simp only [World.size_alloc] at hz2; obtain ⟨⟨a0, a1, a2, a3⟩, p0, p1, p2, p3⟩ := blk4 ((HY2.out.block _ (by first | (simp; done) | (simp; omega))).trans HAL.out.1); obtain ⟨⟨u0, u1, u2, u3⟩, q0, q1, q2, q3⟩ := blk4 ((HY2.out.block _ (by first | (simp; done) | (simp; omega))).trans HAL.out.2.2); obtain ⟨b0, b1, b2, b3, b4, b5⟩ := blk6 ((HY2.out.block _ (by first | (simp; done) | (simp; omega))).trans HAL.out.2.1); have HB2 := Aside0.mk (HB1.out.trans (hb.mono HB1.out.size)); clear hb))
    refine bodyPost_ret (v := .tuple #[.agg #[.slice none 0 0, .slice none 0 0, .slice none 0 0, .int .i64 0], .int .i64 8]) (by simp [results, Try.results11, go_sem, u0, u1, u2, u3, a0, a1, a2, a3]) rfl ?_
    rw [HV.out]
    exact ⟨_, _, _, rfl, HW.nil _ _, (by repeat (first | (with_reducible exact HB2.out) | ((with_reducible refine Below.setCell ?_ ?_ _); rotate_left; (first | exact Nat.le_refl _ | (simp; done) | (simp; omega)))))⟩
set_option maxHeartbeats 8000000 in
set_option maxRecDepth 100000 in
theorem f11_k5 (A0 : Option Addr) (c0 : Nat) (l0 : List S41) (A1 : Option Addr) (c1 : Nat) (l1 : List S86) (A2 : Option Addr) (c2 : Nat) (l2 : List S86) (r : Int) (x1 x2 x3 x4 : Int) (x5 : ByteArray) (w : World) (hr : HV w A0 c0 l0 A1 c1 l1 A2 c2 l2) (ho : OkH l0 l1 l2) (ok : Nat → Prop) (hx : HF w ok A0 l0 A1 l1 A2 l2) (hwf : wfB 5 x1 x2 x3 x4 x5 = true) :
    Calls Try.prog 11 #[.agg #[.slice A0 l0.length c0, .slice A1 l1.length c1, .slice A2 l2.length c2, .int .i64 r], .agg #[.int .i64 5, .int .i64 x1, .int .i64 x2, .int .i64 x3, .int .i64 x4, .string x5]] w fun e w' => ∃ v0 v1 v2, e = .returned (.tuple #[.agg #[v0, v1, v2, .int .i64 (applyS ⟨l0, l1, l2, r⟩ 5 x1 x2 x3 x4 x5).1.f3], .int .i64 (applyS ⟨l0, l1, l2, r⟩ 5 x1 x2 x3 x4 x5).2]) ∧ HW w' (fun k => ok k ∨ w.heap.size ≤ k) v0 v1 v2 (applyS ⟨l0, l1, l2, r⟩ 5 x1 x2 x3 x4 x5).1 ∧ Below w.heap.size w w' := by
  have hb0 : Below w.heap.size w (((w.alloc (.cells #[.slice A0 l0.length c0, .slice A1 l1.length c1, .slice A2 l2.length c2, .int .i64 r] 27)).alloc (.cells #[.int .i64 5, .int .i64 x1, .int .i64 x2, .int .i64 x3, .int .i64 x4, .string x5] 32)).alloc (.cells #[.slice none 0 0, .slice none 0 0, .slice none 0 0, .int .i64 0] 27)) := (((Below.refl w.heap.size w).alloc (Nat.le_refl _) (.cells #[.slice A0 l0.length c0, .slice A1 l1.length c1, .slice A2 l2.length c2, .int .i64 r] 27)).alloc (by simp) (.cells #[.int .i64 5, .int .i64 x1, .int .i64 x2, .int .i64 x3, .int .i64 x4, .string x5] 32)).alloc (by simp; omega) (.cells #[.slice none 0 0, .slice none 0 0, .slice none 0 0, .int .i64 0] 27)
  have HB0 := Aside0.mk hb0
  have HR := Aside0.mk hr
  have HO := Aside0.mk ho
  have HX : Aside0 (HF w (fun k => ok k ∧ k < w.heap.size) A0 l0 A1 l1 A2 l2) := ⟨⟨Kd.F_bound hx.f0, Kd.F_bound hx.f1, Kd.F_bound hx.f2⟩⟩
  have hal := alloc3 w (.cells #[.slice A0 l0.length c0, .slice A1 l1.length c1, .slice A2 l2.length c2, .int .i64 r] 27) (.cells #[.int .i64 5, .int .i64 x1, .int .i64 x2, .int .i64 x3, .int .i64 x4, .string x5] 32) (.cells #[.slice none 0 0, .slice none 0 0, .slice none 0 0, .int .i64 0] 27)
  have HAL := Aside0.mk hal
  have H38 := Aside0.mk (f38_calls 5 x1 x2 x3 x4 x5 (((w.alloc (.cells #[.slice A0 l0.length c0, .slice A1 l1.length c1, .slice A2 l2.length c2, .int .i64 r] 27)).alloc (.cells #[.int .i64 5, .int .i64 x1, .int .i64 x2, .int .i64 x3, .int .i64 x4, .string x5] 32)).alloc (.cells #[.slice none 0 0, .slice none 0 0, .slice none 0 0, .int .i64 0] 27)))
  rw [hwf] at H38
  have HWF := Aside0.mk hwf
  clear hr hb0 ho hal hwf hx
  cases he : hasS l2 x5 with
  | true =>
    have HE := Aside0.mk he
    have HV : Aside0 (applyS ⟨l0, l1, l2, r⟩ 5 x1 x2 x3 x4 x5 = (⟨l0, l1, dropS l2 x5, r⟩, 0)) := ⟨by unfold applyS; simp [HWF.out, he]⟩
    clear he
    go_enter Try.func11, Try.ntmps11
    go_wp2_with (first
      | (go_at_call 38; refine H38.out.mono ?_; rintro e w1 ⟨rfl, hb⟩; have HY := Aside0.mk hb; have hz1 := hb.size; simp only [World.size_alloc] at hz1; obtain ⟨⟨a0, a1, a2, a3⟩, p0, p1, p2, p3⟩ := blk4 ((hb.block _ (by first | (simp; done) | (simp; omega))).trans HAL.out.1); obtain ⟨b0, b1, b2, b3, b4, b5⟩ := blk6 ((hb.block _ (by first | (simp; done) | (simp; omega))).trans HAL.out.2.1); obtain ⟨⟨u0, u1, u2, u3⟩, q0, q1, q2, q3⟩ := blk4 ((hb.block _ (by first | (simp; done) | (simp; omega))).trans HAL.out.2.2); have HB1 := Aside0.mk (HB0.out.trans (hb.mono (by first | (simp; done) | (simp; omega)))); clear hb)
      | (go_at_call 28; have H37 := f28_calls A0 c0 l0 A1 c1 l1 A2 c2 l2 r x5 w1 (HR.out.below HB1.out) HO.out.o2 HO.out.n2; rw [HE.out] at H37; refine H37.mono ?_; clear H37; clear a0 a1 a2 a3 p0 p1 p2 p3 b0 b1 b2 b3 b4 b5 u0 u1 u2 u3 q0 q1 q2 q3; rintro e w2 ⟨rfl, hb⟩; have HS2 := Aside0.mk hb.size; have HY2 := Aside0.mk (HY.out.trans (hb.mono HY.out.size)); have hz2 := HY2.out.size; simp only [World.size_alloc] at hz2; obtain ⟨⟨a0, a1, a2, a3⟩, p0, p1, p2, p3⟩ := blk4 ((HY2.out.block _ (by first | (simp; done) | (simp; omega))).trans HAL.out.1); obtain ⟨⟨u0, u1, u2, u3⟩, q0, q1, q2, q3⟩ := blk4 ((HY2.out.block _ (by first | (simp; done) | (simp; omega))).trans HAL.out.2.2); obtain ⟨b0, b1, b2, b3, b4, b5⟩ := blk6 ((HY2.out.block _ (by first | (simp; done) | (simp; omega))).trans HAL.out.2.1); have HB2 := Aside0.mk (HB1.out.trans (hb.mono HB1.out.size)); clear hb)
      | (go_at_call 42; refine (f42_calls A2 c2 l2 x5 w2 (Kd.C_below HR.out.r2 HB2.out) HR.out.h2 HO.out.o2 HO.out.n2).mono ?_; clear a0 a1 a2 a3 p0 p1 p2 p3 b0 b1 b2 b3 b4 b5 u0 u1 u2 u3 q0 q1 q2 q3; rintro e w3 ⟨v, rfl, hn, hb⟩; have HY3 := Aside0.mk (HY2.out.trans (hb.mono HY2.out.size)); have hz3 := HY3.out.size; simp only [World.size_alloc] at hz3; obtain ⟨⟨a0, a1, a2, a3⟩, p0, p1, p2, p3⟩ := blk4 ((HY3.out.block _ (by first | (simp; done) | (simp; omega))).trans HAL.out.1); obtain ⟨⟨u0, u1, u2, u3⟩, q0, q1, q2, q3⟩ := blk4 ((HY3.out.block _ (by first | (simp; done) | (simp; omega))).trans HAL.out.2.2); have HB3 := Aside0.mk (HB2.out.trans (hb.mono HB2.out.size)); (try simp only [HE.out, if_true] at hn); have HN2 := Aside0.mk (Kd.R_V (base' := 0) (Kd.R_mono (Kd.R_bound hn) (ok' := fun k => w1.heap.size ≤ k) (fun k hk => by have h_ := hk.2.1; have := HS2.out; omega))); obtain ⟨B, d, rfl⟩ := Kd.R_slice hn; clear hb hn))
    have HN0 : Aside0 (Kd.V k41 41 w3 0 (fun k => ok k ∧ k < w.heap.size) (.slice A0 l0.length c0) l0) := ⟨Kd.V_mk HR.out.h0 (Kd.F_below HX.out.f0 HB3.out)⟩
    have HN1 : Aside0 (Kd.V k86 86 w3 0 (fun k => ok k ∧ k < w.heap.size) (.slice A1 l1.length c1) l1) := ⟨Kd.V_mk HR.out.h1 (Kd.F_below HX.out.f1 HB3.out)⟩
    refine bodyPost_ret (v := .tuple #[.agg #[.slice A0 l0.length c0, .slice A1 l1.length c1, .slice B (dropS l2 x5).length d, .int .i64 r], .int .i64 0]) (by simp [results, Try.results11, go_sem, u0, u1, u2, u3, a0, a1, a2, a3]) rfl ?_
    rw [HV.out]
    refine ⟨_, _, _, rfl, ⟨?_, ?_, ?_⟩, (by repeat (first | (with_reducible exact HB3.out) | ((with_reducible refine Below.setCell ?_ ?_ _); rotate_left; (first | exact Nat.le_refl _ | (simp; done) | (simp; omega)))))⟩
    · (try dsimp only)
      refine Kd.V_mono (ok := fun k => ok k ∧ k < w.heap.size) (by repeat (first | (with_reducible exact HN0.out) | ((with_reducible refine Kd.V_far ?_ ?_ _); rotate_left; (intro k hk; first | (simp; omega) | (rcases hk with hk | hk <;> simp <;> omega))))) (fun k hk => ?_)
      exact .inl hk.1
    · (try dsimp only)
      refine Kd.V_mono (ok := fun k => ok k ∧ k < w.heap.size) (by repeat (first | (with_reducible exact HN1.out) | ((with_reducible refine Kd.V_far ?_ ?_ _); rotate_left; (intro k hk; first | (simp; omega) | (rcases hk with hk | hk <;> simp <;> omega))))) (fun k hk => ?_)
      exact .inl hk.1
    · (try dsimp only)
      refine Kd.V_mono (ok := fun k => w1.heap.size ≤ k) (by repeat (first | (with_reducible exact HN2.out) | ((with_reducible refine Kd.V_far ?_ ?_ _); rotate_left; (intro k hk; first | (simp; omega) | (rcases hk with hk | hk <;> simp <;> omega))))) (fun k hk => ?_)
      exact .inr (by omega)
  | false =>
    have HE := Aside0.mk he
    have HV : Aside0 (applyS ⟨l0, l1, l2, r⟩ 5 x1 x2 x3 x4 x5 = (eS27, 8)) := ⟨by unfold applyS; simp [HWF.out, he]⟩
    clear he
    go_enter Try.func11, Try.ntmps11
    go_wp2_with (first
      | (go_at_call 38; refine H38.out.mono ?_; rintro e w1 ⟨rfl, hb⟩; have HY := Aside0.mk hb; have hz1 := hb.size; simp only [World.size_alloc] at hz1; obtain ⟨⟨a0, a1, a2, a3⟩, p0, p1, p2, p3⟩ := blk4 ((hb.block _ (by first | (simp; done) | (simp; omega))).trans HAL.out.1); obtain ⟨b0, b1, b2, b3, b4, b5⟩ := blk6 ((hb.block _ (by first | (simp; done) | (simp; omega))).trans HAL.out.2.1); obtain ⟨⟨u0, u1, u2, u3⟩, q0, q1, q2, q3⟩ := blk4 ((hb.block _ (by first | (simp; done) | (simp; omega))).trans HAL.out.2.2); have HB1 := Aside0.mk (HB0.out.trans (hb.mono (by first | (simp; done) | (simp; omega)))); clear hb)
      | (go_at_call 28; have H37 := f28_calls A0 c0 l0 A1 c1 l1 A2 c2 l2 r x5 w1 (HR.out.below HB1.out) HO.out.o2 HO.out.n2; rw [HE.out] at H37; refine H37.mono ?_; clear H37; clear a0 a1 a2 a3 p0 p1 p2 p3 b0 b1 b2 b3 b4 b5 u0 u1 u2 u3 q0 q1 q2 q3; rintro e w2 ⟨rfl, hb⟩; have HS2 := Aside0.mk hb.size; have HY2 := Aside0.mk (HY.out.trans (hb.mono HY.out.size)); have hz2 := HY2.out.size; simp only [World.size_alloc] at hz2; obtain ⟨⟨a0, a1, a2, a3⟩, p0, p1, p2, p3⟩ := blk4 ((HY2.out.block _ (by first | (simp; done) | (simp; omega))).trans HAL.out.1); obtain ⟨⟨u0, u1, u2, u3⟩, q0, q1, q2, q3⟩ := blk4 ((HY2.out.block _ (by first | (simp; done) | (simp; omega))).trans HAL.out.2.2); obtain ⟨b0, b1, b2, b3, b4, b5⟩ := blk6 ((HY2.out.block _ (by first | (simp; done) | (simp; omega))).trans HAL.out.2.1); have HB2 := Aside0.mk (HB1.out.trans (hb.mono HB1.out.size)); clear hb))
    refine bodyPost_ret (v := .tuple #[.agg #[.slice none 0 0, .slice none 0 0, .slice none 0 0, .int .i64 0], .int .i64 8]) (by simp [results, Try.results11, go_sem, u0, u1, u2, u3, a0, a1, a2, a3]) rfl ?_
    rw [HV.out]
    exact ⟨_, _, _, rfl, HW.nil _ _, (by repeat (first | (with_reducible exact HB2.out) | ((with_reducible refine Below.setCell ?_ ?_ _); rotate_left; (first | exact Nat.le_refl _ | (simp; done) | (simp; omega)))))⟩
set_option maxHeartbeats 8000000 in
set_option maxRecDepth 100000 in
theorem f11_k6 (A0 : Option Addr) (c0 : Nat) (l0 : List S41) (A1 : Option Addr) (c1 : Nat) (l1 : List S86) (A2 : Option Addr) (c2 : Nat) (l2 : List S86) (r : Int) (x1 x2 x3 x4 : Int) (x5 : ByteArray) (w : World) (hr : HV w A0 c0 l0 A1 c1 l1 A2 c2 l2) (ho : OkH l0 l1 l2) (ok : Nat → Prop) (hx : HF w ok A0 l0 A1 l1 A2 l2) (hwf : wfB 6 x1 x2 x3 x4 x5 = true) :
    Calls Try.prog 11 #[.agg #[.slice A0 l0.length c0, .slice A1 l1.length c1, .slice A2 l2.length c2, .int .i64 r], .agg #[.int .i64 6, .int .i64 x1, .int .i64 x2, .int .i64 x3, .int .i64 x4, .string x5]] w fun e w' => ∃ v0 v1 v2, e = .returned (.tuple #[.agg #[v0, v1, v2, .int .i64 (applyS ⟨l0, l1, l2, r⟩ 6 x1 x2 x3 x4 x5).1.f3], .int .i64 (applyS ⟨l0, l1, l2, r⟩ 6 x1 x2 x3 x4 x5).2]) ∧ HW w' (fun k => ok k ∨ w.heap.size ≤ k) v0 v1 v2 (applyS ⟨l0, l1, l2, r⟩ 6 x1 x2 x3 x4 x5).1 ∧ Below w.heap.size w w' := by
  have hb0 : Below w.heap.size w (((w.alloc (.cells #[.slice A0 l0.length c0, .slice A1 l1.length c1, .slice A2 l2.length c2, .int .i64 r] 27)).alloc (.cells #[.int .i64 6, .int .i64 x1, .int .i64 x2, .int .i64 x3, .int .i64 x4, .string x5] 32)).alloc (.cells #[.slice none 0 0, .slice none 0 0, .slice none 0 0, .int .i64 0] 27)) := (((Below.refl w.heap.size w).alloc (Nat.le_refl _) (.cells #[.slice A0 l0.length c0, .slice A1 l1.length c1, .slice A2 l2.length c2, .int .i64 r] 27)).alloc (by simp) (.cells #[.int .i64 6, .int .i64 x1, .int .i64 x2, .int .i64 x3, .int .i64 x4, .string x5] 32)).alloc (by simp; omega) (.cells #[.slice none 0 0, .slice none 0 0, .slice none 0 0, .int .i64 0] 27)
  have HB0 := Aside0.mk hb0
  have HR := Aside0.mk hr
  have HO := Aside0.mk ho
  have HX : Aside0 (HF w (fun k => ok k ∧ k < w.heap.size) A0 l0 A1 l1 A2 l2) := ⟨⟨Kd.F_bound hx.f0, Kd.F_bound hx.f1, Kd.F_bound hx.f2⟩⟩
  have hal := alloc3 w (.cells #[.slice A0 l0.length c0, .slice A1 l1.length c1, .slice A2 l2.length c2, .int .i64 r] 27) (.cells #[.int .i64 6, .int .i64 x1, .int .i64 x2, .int .i64 x3, .int .i64 x4, .string x5] 32) (.cells #[.slice none 0 0, .slice none 0 0, .slice none 0 0, .int .i64 0] 27)
  have HAL := Aside0.mk hal
  have H38 := Aside0.mk (f38_calls 6 x1 x2 x3 x4 x5 (((w.alloc (.cells #[.slice A0 l0.length c0, .slice A1 l1.length c1, .slice A2 l2.length c2, .int .i64 r] 27)).alloc (.cells #[.int .i64 6, .int .i64 x1, .int .i64 x2, .int .i64 x3, .int .i64 x4, .string x5] 32)).alloc (.cells #[.slice none 0 0, .slice none 0 0, .slice none 0 0, .int .i64 0] 27)))
  rw [hwf] at H38
  have HWF := Aside0.mk hwf
  clear hr hb0 ho hal hwf hx
  have HV : Aside0 (applyS ⟨l0, l1, l2, r⟩ 6 x1 x2 x3 x4 x5 = (⟨l0, l1, l2, x1⟩, 0)) := ⟨by unfold applyS; simp [HWF.out]⟩
  go_enter Try.func11, Try.ntmps11
  go_wp2_with (first
    | (go_at_call 38; refine H38.out.mono ?_; rintro e w1 ⟨rfl, hb⟩; have HY := Aside0.mk hb; have hz1 := hb.size; simp only [World.size_alloc] at hz1; obtain ⟨⟨a0, a1, a2, a3⟩, p0, p1, p2, p3⟩ := blk4 ((hb.block _ (by first | (simp; done) | (simp; omega))).trans HAL.out.1); obtain ⟨b0, b1, b2, b3, b4, b5⟩ := blk6 ((hb.block _ (by first | (simp; done) | (simp; omega))).trans HAL.out.2.1); obtain ⟨⟨u0, u1, u2, u3⟩, q0, q1, q2, q3⟩ := blk4 ((hb.block _ (by first | (simp; done) | (simp; omega))).trans HAL.out.2.2); have HB1 := Aside0.mk (HB0.out.trans (hb.mono (by first | (simp; done) | (simp; omega)))); clear hb))
  have HN0 : Aside0 (Kd.V k41 41 w1 0 (fun k => ok k ∧ k < w.heap.size) (.slice A0 l0.length c0) l0) := ⟨Kd.V_mk HR.out.h0 (Kd.F_below HX.out.f0 HB1.out)⟩
  have HN1 : Aside0 (Kd.V k86 86 w1 0 (fun k => ok k ∧ k < w.heap.size) (.slice A1 l1.length c1) l1) := ⟨Kd.V_mk HR.out.h1 (Kd.F_below HX.out.f1 HB1.out)⟩
  have HN2 : Aside0 (Kd.V k86 86 w1 0 (fun k => ok k ∧ k < w.heap.size) (.slice A2 l2.length c2) l2) := ⟨Kd.V_mk HR.out.h2 (Kd.F_below HX.out.f2 HB1.out)⟩
  refine bodyPost_ret (v := .tuple #[.agg #[.slice A0 l0.length c0, .slice A1 l1.length c1, .slice A2 l2.length c2, .int .i64 x1], .int .i64 0]) (by simp [results, Try.results11, go_sem, u0, u1, u2, u3, a0, a1, a2, a3]) rfl ?_
  rw [HV.out]
  refine ⟨_, _, _, rfl, ⟨?_, ?_, ?_⟩, (by repeat (first | (with_reducible exact HB1.out) | ((with_reducible refine Below.setCell ?_ ?_ _); rotate_left; (first | exact Nat.le_refl _ | (simp; done) | (simp; omega)))))⟩
  · (try dsimp only)
    refine Kd.V_mono (ok := fun k => ok k ∧ k < w.heap.size) (by repeat (first | (with_reducible exact HN0.out) | ((with_reducible refine Kd.V_far ?_ ?_ _); rotate_left; (intro k hk; first | (simp; omega) | (rcases hk with hk | hk <;> simp <;> omega))))) (fun k hk => ?_)
    exact .inl hk.1
  · (try dsimp only)
    refine Kd.V_mono (ok := fun k => ok k ∧ k < w.heap.size) (by repeat (first | (with_reducible exact HN1.out) | ((with_reducible refine Kd.V_far ?_ ?_ _); rotate_left; (intro k hk; first | (simp; omega) | (rcases hk with hk | hk <;> simp <;> omega))))) (fun k hk => ?_)
    exact .inl hk.1
  · (try dsimp only)
    refine Kd.V_mono (ok := fun k => ok k ∧ k < w.heap.size) (by repeat (first | (with_reducible exact HN2.out) | ((with_reducible refine Kd.V_far ?_ ?_ _); rotate_left; (intro k hk; first | (simp; omega) | (rcases hk with hk | hk <;> simp <;> omega))))) (fun k hk => ?_)
    exact .inl hk.1
set_option maxHeartbeats 8000000 in
set_option maxRecDepth 100000 in
theorem f11_calls (A0 : Option Addr) (c0 : Nat) (l0 : List S41) (A1 : Option Addr) (c1 : Nat) (l1 : List S86) (A2 : Option Addr) (c2 : Nat) (l2 : List S86) (r : Int) (x0 x1 x2 x3 x4 : Int) (x5 : ByteArray) (w : World) (hr : HV w A0 c0 l0 A1 c1 l1 A2 c2 l2) (ho : OkH l0 l1 l2) (ok : Nat → Prop) (hx : HF w ok A0 l0 A1 l1 A2 l2) :
    Calls Try.prog 11 #[.agg #[.slice A0 l0.length c0, .slice A1 l1.length c1, .slice A2 l2.length c2, .int .i64 r], .agg #[.int .i64 x0, .int .i64 x1, .int .i64 x2, .int .i64 x3, .int .i64 x4, .string x5]] w fun e w' => ∃ v0 v1 v2, e = .returned (.tuple #[.agg #[v0, v1, v2, .int .i64 (applyS ⟨l0, l1, l2, r⟩ x0 x1 x2 x3 x4 x5).1.f3], .int .i64 (applyS ⟨l0, l1, l2, r⟩ x0 x1 x2 x3 x4 x5).2]) ∧ HW w' (fun k => ok k ∨ w.heap.size ≤ k) v0 v1 v2 (applyS ⟨l0, l1, l2, r⟩ x0 x1 x2 x3 x4 x5).1 ∧ Below w.heap.size w w' := by
  cases hwf : wfB x0 x1 x2 x3 x4 x5 with
  | false => exact f11_no A0 c0 l0 A1 c1 l1 A2 c2 l2 r x0 x1 x2 x3 x4 x5 w hr ho ok hx hwf
  | true =>
    by_cases h1 : x0 = 1
    · subst h1
      exact f11_k1 A0 c0 l0 A1 c1 l1 A2 c2 l2 r x1 x2 x3 x4 x5 w hr ho ok hx hwf
    by_cases h7 : x0 = 7
    · subst h7
      exact f11_k7 A0 c0 l0 A1 c1 l1 A2 c2 l2 r x1 x2 x3 x4 x5 w hr ho ok hx hwf
    by_cases h2 : x0 = 2
    · subst h2
      exact f11_k2 A0 c0 l0 A1 c1 l1 A2 c2 l2 r x1 x2 x3 x4 x5 w hr ho ok hx hwf
    by_cases h3 : x0 = 3
    · subst h3
      exact f11_k3 A0 c0 l0 A1 c1 l1 A2 c2 l2 r x1 x2 x3 x4 x5 w hr ho ok hx hwf
    by_cases h4 : x0 = 4
    · subst h4
      exact f11_k4 A0 c0 l0 A1 c1 l1 A2 c2 l2 r x1 x2 x3 x4 x5 w hr ho ok hx hwf
    by_cases h5 : x0 = 5
    · subst h5
      exact f11_k5 A0 c0 l0 A1 c1 l1 A2 c2 l2 r x1 x2 x3 x4 x5 w hr ho ok hx hwf
    obtain rfl := wfB_kind hwf h1 h7 h2 h3 h4 h5
    exact f11_k6 A0 c0 l0 A1 c1 l1 A2 c2 l2 r x1 x2 x3 x4 x5 w hr ho ok hx hwf
end Go.Proofs.Ytjeoabjccbinhaa.P
