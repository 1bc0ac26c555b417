/- The reference's commit. Conditions: the hypotheses that stand at each theorem. -/
import Derived.Test.YtjeoabjccbinhaaQ1
namespace Go.Proofs.Ytjeoabjccbinhaa.P
open Go.RowKit Go.Proofs.YtjeoabjccbinhaaW.PrintWords Go.Proofs.YtjeoabjccbinhaaW.PrintLast Go.Proofs.YtjeoabjccbinhaaW.PrintMore
set_option linter.unusedVariables false
set_option linter.unusedSimpArgs false
theorem Branch_is {l0 : List S41} {l1 l2 : List S86} {r : Int} (ho : okS l1) (hn : l1.length ≤ 1000) (s : ByteArray) (k : Nat) (hk : 1000 < k) : laminaref25_Branch.f k l0 l1 l2 r s = some (valS l1 s, hasS l1 s) := by
  unfold laminaref25_Branch.f; rw [ref_is ho hn s k hk]; rfl
theorem Tag_is {l0 : List S41} {l1 l2 : List S86} {r : Int} (ho : okS l2) (hn : l2.length ≤ 1000) (s : ByteArray) (k : Nat) (hk : 1000 < k) : laminaref25_Tag.f k l0 l1 l2 r s = some (valS l2 s, hasS l2 s) := by
  unfold laminaref25_Tag.f; rw [ref_is ho hn s k hk]; rfl
theorem f26_calls (A0 : Option Addr) (c0 : Nat) (l0 : List S41) (A1 : Option Addr) (c1 : Nat) (l1 : List S86) (A2 : Option Addr) (c2 : Nat) (l2 : List S86) (r : Int) (s : ByteArray) (w : World) (hr : HV w A0 c0 l0 A1 c1 l1 A2 c2 l2) (ho : okS l1) (hn : l1.length ≤ 1000) :
    Calls Try.prog 26 #[.agg #[.slice A0 l0.length c0, .slice A1 l1.length c1, .slice A2 l2.length c2, .int .i64 r], .string s] w fun e w' => e = .returned (.tuple #[.int .i64 (valS l1 s), .bool (hasS l1 s)]) ∧ Below w.heap.size w w' :=
  laminaref25_Branch.calls 2000 A0 c0 l0 A1 c1 l1 A2 c2 l2 r s _ _ w hr.r0 hr.h0 hr.r1 hr.h1 hr.r2 hr.h2 (Branch_is ho hn s _ (by decide))
theorem f28_calls (A0 : Option Addr) (c0 : Nat) (l0 : List S41) (A1 : Option Addr) (c1 : Nat) (l1 : List S86) (A2 : Option Addr) (c2 : Nat) (l2 : List S86) (r : Int) (s : ByteArray) (w : World) (hr : HV w A0 c0 l0 A1 c1 l1 A2 c2 l2) (ho : okS l2) (hn : l2.length ≤ 1000) :
    Calls Try.prog 28 #[.agg #[.slice A0 l0.length c0, .slice A1 l1.length c1, .slice A2 l2.length c2, .int .i64 r], .string s] w fun e w' => e = .returned (.tuple #[.int .i64 (valS l2 s), .bool (hasS l2 s)]) ∧ Below w.heap.size w w' :=
  laminaref25_Tag.calls 2000 A0 c0 l0 A1 c1 l1 A2 c2 l2 r s _ _ w hr.r0 hr.h0 hr.r1 hr.h1 hr.r2 hr.h2 (Tag_is ho hn s _ (by decide))
theorem f20_calls (A0 : Option Addr) (c0 : Nat) (l0 : List S41) (A1 : Option Addr) (c1 : Nat) (l1 : List S86) (A2 : Option Addr) (c2 : Nat) (l2 : List S86) (r : Int) (s : Int) (w : World) (hr : HV w A0 c0 l0 A1 c1 l1 A2 c2 l2) (ho : okI l0) (hn : l0.length ≤ 1000) :
    Calls Try.prog 20 #[.agg #[.slice A0 l0.length c0, .slice A1 l1.length c1, .slice A2 l2.length c2, .int .i64 r], .int .i64 s] w fun e w' => e = .returned (.tuple #[.agg #[.int .i64 (nodeI l0 s).f0, .int .i64 (nodeI l0 s).f1, .int .i64 (nodeI l0 s).f2, .int .i64 (nodeI l0 s).f3], .bool (hasI l0 s)]) ∧ Below w.heap.size w w' :=
  laminaref25_Find.calls 2000 A0 c0 l0 A1 c1 l1 A2 c2 l2 r s _ _ _ _ _ w hr.r0 hr.h0 hr.r1 hr.h1 hr.r2 hr.h2 (Find_is ho hn s _ (by decide))
theorem f52_calls (A0 : Option Addr) (c0 : Nat) (l0 : List S41) (A1 : Option Addr) (c1 : Nat) (l1 : List S86) (A2 : Option Addr) (c2 : Nat) (l2 : List S86) (r : Int) (s : Int) (w : World) (hr : HV w A0 c0 l0 A1 c1 l1 A2 c2 l2) (ho : okI l0) (hn : l0.length ≤ 1000) :
    Calls Try.prog 52 #[.agg #[.slice A0 l0.length c0, .slice A1 l1.length c1, .slice A2 l2.length c2, .int .i64 r], .int .i64 s] w fun e w' => e = .returned (.bool (hasI l0 s)) ∧ Below w.heap.size w w' :=
  laminaref25_there.calls 2000 A0 c0 l0 A1 c1 l1 A2 c2 l2 r s _ w hr.r0 hr.h0 hr.r1 hr.h1 hr.r2 hr.h2 (there_is ho hn s _ (by decide))
theorem f41_calls (A : Option Addr) (c : Nat) (l : List S86) (s : ByteArray) (id : Int) (w : World) (hr : Kd.C k86 w A l.length l) (hc : l.length ≤ c) (ho : okS l) (hn : l.length ≤ 1000) :
    Calls Try.prog 41 #[.slice A l.length c, .string s, .int .i64 id] w fun e w' => ∃ v, e = .returned v ∧ Kd.R k86 86 w' w.heap.size (fun _ => True) v (putS l s id) ∧ Below w.heap.size w w' :=
  laminaref25_with.calls 2000 A c l s id _ w hr hc (with_is ho hn s id _ (by decide))
theorem f42_calls (A : Option Addr) (c : Nat) (l : List S86) (s : ByteArray) (w : World) (hr : Kd.C k86 w A l.length l) (hc : l.length ≤ c) (ho : okS l) (hn : l.length ≤ 1000) :
    Calls Try.prog 42 #[.slice A l.length c, .string s] w fun e w' => ∃ v, e = .returned v ∧ Kd.R k86 86 w' w.heap.size (fun _ => True) v (if hasS l s = true then dropS l s else l) ∧ Below w.heap.size w w' :=
  laminaref25_without.calls 2000 A c l s _ w hr hc (without_is ho hn s _ (by decide))
theorem nodeI_no {l : List S41} {s : Int} (h : hasI l s = false) : nodeI l s = z41 := by unfold nodeI; rw [h]; rfl
theorem take_succ41 (l : List S41) (i : Nat) (h : i < l.length) : l.take (i + 1) = l.take i ++ [(⟨(rd_T41 l i).f0, (rd_T41 l i).f1, (rd_T41 l i).f2, (rd_T41 l i).f3⟩ : S41)] := by
  rw [List.take_succ_eq_append_getElem h, rd41_get l i h]
set_option maxHeartbeats 8000000 in
set_option maxRecDepth 100000 in
theorem f39_calls (A0 : Option Addr) (c0 : Nat) (l0 : List S41) (A1 : Option Addr) (c1 : Nat) (l1 : List S86) (A2 : Option Addr) (c2 : Nat) (l2 : List S86) (r : Int) (x0 x1 x2 x3 x4 : Int) (x5 : ByteArray) (w : World) (hr : HV w A0 c0 l0 A1 c1 l1 A2 c2 l2) (ho : OkH l0 l1 l2) (hx4 : 0 ≤ x4) (ok : Nat → Prop) (hx : HF w ok A0 l0 A1 l1 A2 l2) :
    Calls Try.prog 39 #[.agg #[.slice A0 l0.length c0, .slice A1 l1.length c1, .slice A2 l2.length c2, .int .i64 r], .agg #[.int .i64 x0, .int .i64 x1, .int .i64 x2, .int .i64 x3, .int .i64 x4, .string x5]] w fun e w' => ∃ v0 v1 v2, e = .returned (.tuple #[.agg #[v0, v1, v2, .int .i64 (commitS ⟨l0, l1, l2, r⟩ x1 x2 x3 x4 x5).1.f3], .int .i64 (commitS ⟨l0, l1, l2, r⟩ x1 x2 x3 x4 x5).2]) ∧ HW w' (fun k => ok k ∨ w.heap.size ≤ k) v0 v1 v2 (commitS ⟨l0, l1, l2, r⟩ x1 x2 x3 x4 x5).1 ∧ Below w.heap.size w w' := by
  have hb0 : Below w.heap.size w (((w.alloc (.cells #[.slice A0 l0.length c0, .slice A1 l1.length c1, .slice A2 l2.length c2, .int .i64 r] 27)).alloc (.cells #[.int .i64 x0, .int .i64 x1, .int .i64 x2, .int .i64 x3, .int .i64 x4, .string x5] 32)).alloc (.cells #[.slice none 0 0, .slice none 0 0, .slice none 0 0, .int .i64 0] 27)) := (((Below.refl w.heap.size w).alloc (Nat.le_refl _) (.cells #[.slice A0 l0.length c0, .slice A1 l1.length c1, .slice A2 l2.length c2, .int .i64 r] 27)).alloc (by simp) (.cells #[.int .i64 x0, .int .i64 x1, .int .i64 x2, .int .i64 x3, .int .i64 x4, .string x5] 32)).alloc (by simp; omega) (.cells #[.slice none 0 0, .slice none 0 0, .slice none 0 0, .int .i64 0] 27)
  have HB0 := Aside0.mk hb0
  have HR := Aside0.mk hr
  have HO := Aside0.mk ho
  have HX4 := Aside0.mk hx4
  have HX : Aside0 (HF w (fun k => ok k ∧ k < w.heap.size) A0 l0 A1 l1 A2 l2) := ⟨⟨Kd.F_bound hx.f0, Kd.F_bound hx.f1, Kd.F_bound hx.f2⟩⟩
  clear hx hx4
  have hn0 := ho.n0
  have hn1 := ho.n1
  have hal := alloc3 w (.cells #[.slice A0 l0.length c0, .slice A1 l1.length c1, .slice A2 l2.length c2, .int .i64 r] 27) (.cells #[.int .i64 x0, .int .i64 x1, .int .i64 x2, .int .i64 x3, .int .i64 x4, .string x5] 32) (.cells #[.slice none 0 0, .slice none 0 0, .slice none 0 0, .int .i64 0] 27)
  have HAL := Aside0.mk hal
  clear hr hb0 ho hal
  go_enter Try.func39, Try.ntmps39
  go_upto_region 2 with (fail)
  go_cut [29] (fun v29 wc => v29 = .bool (lateB l0 x1) ∧ Aside0 (Below ((((w.alloc (.cells #[.slice A0 l0.length c0, .slice A1 l1.length c1, .slice A2 l2.length c2, .int .i64 r] 27)).alloc (.cells #[.int .i64 x0, .int .i64 x1, .int .i64 x2, .int .i64 x3, .int .i64 x4, .string x5] 32)).alloc (.cells #[.slice none 0 0, .slice none 0 0, .slice none 0 0, .int .i64 0] 27))).heap.size (((w.alloc (.cells #[.slice A0 l0.length c0, .slice A1 l1.length c1, .slice A2 l2.length c2, .int .i64 r] 27)).alloc (.cells #[.int .i64 x0, .int .i64 x1, .int .i64 x2, .int .i64 x3, .int .i64 x4, .string x5] 32)).alloc (.cells #[.slice none 0 0, .slice none 0 0, .slice none 0 0, .int .i64 0] 27)) wc))
  case first =>
    have hs0 : w.heap.size < ((((w.alloc (.cells #[.slice A0 l0.length c0, .slice A1 l1.length c1, .slice A2 l2.length c2, .int .i64 r] 27)).alloc (.cells #[.int .i64 x0, .int .i64 x1, .int .i64 x2, .int .i64 x3, .int .i64 x4, .string x5] 32)).alloc (.cells #[.slice none 0 0, .slice none 0 0, .slice none 0 0, .int .i64 0] 27))).heap.size := by simp; omega
    by_cases hp : 0 < l0.length
    · obtain ⟨ad, rfl, hx0, hx1, hx2, hx3⟩ := at_T41 HR.out.r0 ((l0.length - 1 : Nat) : Int) (by omega) (by omega)
      rw [Int.toNat_natCast] at hx0 hx1 hx2 hx3
      have hx0 := (HB0.out.cell (World.block_lt_of_cell? w _ hx0)).trans hx0
      have hix : (l0.length : Int) - 1 = ((l0.length - 1 : Nat) : Int) := by omega
      have hd : decide (0 < l0.length) = true := decide_eq_true hp
      have hl : lateB l0 x1 = decide (x1 ≤ (rd_T41 l0 ((l0.length - 1 : Nat) : Int)).f0) := by unfold lateB; rw [hd]; rfl
      have HL := Aside0.mk hl
      clear hl hx1 hx2 hx3
      repeat (go_quiet (fail); try go_wp2)
      go_meet
      case rel => exact ⟨by rw [HL.out], ⟨pw_below_drewN (Below.refl _ _) _⟩⟩
    · have hd : decide (0 < l0.length) = false := decide_eq_false hp
      have hl : lateB l0 x1 = false := by unfold lateB; rw [hd]; rfl
      have HL := Aside0.mk hl
      clear hl
      repeat (go_quiet (fail); try go_wp2)
      go_meet
      case rel => exact ⟨by rw [HL.out], ⟨pw_below_drewN (Below.refl _ _) _⟩⟩
  case rest =>
    obtain ⟨rfl, HY⟩ := hcut
    obtain ⟨fb, hfb⟩ : ∃ b, hasS l1 x5 = b := ⟨_, rfl⟩
    have HF := Aside0.mk hfb
    clear hfb
    obtain ⟨hi, hhi⟩ : ∃ b, hasI l0 x2 = b := ⟨_, rfl⟩
    have HI := Aside0.mk hhi
    clear hhi
    cases hL : lateB l0 x1 with
    | true =>
      have HL := Aside0.mk hL
      clear hL
      have hv : commitS ⟨l0, l1, l2, r⟩ x1 x2 x3 x4 x5 = (eS27, 6) := by unfold commitS; simp only [HL.out, Bool.false_eq_true, if_false, if_true]
      have HV := Aside0.mk hv
      clear hv
      obtain ⟨⟨u0, u1, u2, u3⟩, q0, q1, q2, q3⟩ := blk4 ((HY.out.block _ (by simp)).trans HAL.out.2.2)
      go_wp2
      refine bodyPost_ret (v := .tuple #[.agg #[.slice none 0 0, .slice none 0 0, .slice none 0 0, .int .i64 0], .int .i64 6]) (by simp [results, Try.results39, go_sem, u0, u1, u2, u3]) rfl ?_
      rw [HV.out]
      exact ⟨_, _, _, rfl, HW.nil _ _, ((((HB0.out.trans (HY.out.mono (by first | (simp; done) | (simp; omega)))).setCell (by first | (simp; done) | (simp; omega)) _).setCell (by first | (simp; done) | (simp; omega)) _).setCell (by first | (simp; done) | (simp; omega)) _).setCell (by first | (simp; done) | (simp; omega)) _⟩
    | false =>
      have HL := Aside0.mk hL
      clear hL
      obtain ⟨⟨a0, a1, a2, a3⟩, p0, p1, p2, p3⟩ := blk4 ((HY.out.block _ (by simp; omega)).trans HAL.out.1)
      obtain ⟨b0, b1, b2, b3, b4, b5⟩ := blk6 ((HY.out.block _ (by simp)).trans HAL.out.2.1)
      go_upto_region 5 with ((go_at_call 26; have H26 := f26_calls A0 c0 l0 A1 c1 l1 A2 c2 l2 r x5 wc (HR.out.below (HB0.out.trans (HY.out.mono (by first | (simp; done) | (simp; omega))))) HO.out.o1 HO.out.n1; rw [HF.out] at H26; refine H26.mono ?_; clear H26; rintro e w1 ⟨rfl, hb⟩; have HY1 := Aside0.mk (HY.out.trans (hb.mono HY.out.size)); clear hb))
      clear a0 a1 a2 a3 p0 p1 p2 p3 b0 b1 b2 b3 b4 b5
      go_cut [44] (fun v44 wd => v44 = .bool (confB l1 x5 x2) ∧ Aside0 (Below ((((w.alloc (.cells #[.slice A0 l0.length c0, .slice A1 l1.length c1, .slice A2 l2.length c2, .int .i64 r] 27)).alloc (.cells #[.int .i64 x0, .int .i64 x1, .int .i64 x2, .int .i64 x3, .int .i64 x4, .string x5] 32)).alloc (.cells #[.slice none 0 0, .slice none 0 0, .slice none 0 0, .int .i64 0] 27))).heap.size (((w.alloc (.cells #[.slice A0 l0.length c0, .slice A1 l1.length c1, .slice A2 l2.length c2, .int .i64 r] 27)).alloc (.cells #[.int .i64 x0, .int .i64 x1, .int .i64 x2, .int .i64 x3, .int .i64 x4, .string x5] 32)).alloc (.cells #[.slice none 0 0, .slice none 0 0, .slice none 0 0, .int .i64 0] 27)) wd))
      case first =>
        obtain ⟨⟨a0, a1, a2, a3⟩, p0, p1, p2, p3⟩ := blk4 ((HY1.out.block _ (by simp; omega)).trans HAL.out.1)
        obtain ⟨b0, b1, b2, b3, b4, b5⟩ := blk6 ((HY1.out.block _ (by simp)).trans HAL.out.2.1)
        cases fb with
        | true =>
          have HL2 : Aside0 (confB l1 x5 x2 = (x2 != valS l1 x5)) := ⟨by unfold confB; rw [HF.out, Bool.true_and]; simp only [bne]; rw [Bool.beq_comm]⟩
          go_wp2
          go_meet
          case rel => exact ⟨by rw [HL2.out], HY1⟩
        | false =>
          have HL2 : Aside0 (confB l1 x5 x2 = false) := ⟨by unfold confB; rw [HF.out]; rfl⟩
          go_wp2
          go_meet
          case rel => exact ⟨by rw [HL2.out], HY1⟩
      case rest =>
        obtain ⟨rfl, HY2⟩ := hcut
        cases hC : confB l1 x5 x2 with
        | true =>
          have HC := Aside0.mk hC
          clear hC
          have hv : commitS ⟨l0, l1, l2, r⟩ x1 x2 x3 x4 x5 = (eS27, 14) := by unfold commitS; simp only [HL.out, HC.out, Bool.false_eq_true, if_false, if_true]
          have HV := Aside0.mk hv
          clear hv
          obtain ⟨⟨u0, u1, u2, u3⟩, q0, q1, q2, q3⟩ := blk4 ((HY2.out.block _ (by simp)).trans HAL.out.2.2)
          go_wp2
          refine bodyPost_ret (v := .tuple #[.agg #[.slice none 0 0, .slice none 0 0, .slice none 0 0, .int .i64 0], .int .i64 14]) (by simp [results, Try.results39, go_sem, u0, u1, u2, u3]) rfl ?_
          rw [HV.out]
          exact ⟨_, _, _, rfl, HW.nil _ _, ((((HB0.out.trans (HY2.out.mono (by first | (simp; done) | (simp; omega)))).setCell (by first | (simp; done) | (simp; omega)) _).setCell (by first | (simp; done) | (simp; omega)) _).setCell (by first | (simp; done) | (simp; omega)) _).setCell (by first | (simp; done) | (simp; omega)) _⟩
        | false =>
          have HC := Aside0.mk hC
          clear hC
          obtain ⟨⟨a0, a1, a2, a3⟩, p0, p1, p2, p3⟩ := blk4 ((HY2.out.block _ (by simp; omega)).trans HAL.out.1)
          obtain ⟨b0, b1, b2, b3, b4, b5⟩ := blk6 ((HY2.out.block _ (by simp)).trans HAL.out.2.1)
          go_upto_region 7 with (fail)
          go_cut [52] (fun v52 wd => v52 = .bool (nameB l1 x5 x2) ∧ Aside0 (Below ((((w.alloc (.cells #[.slice A0 l0.length c0, .slice A1 l1.length c1, .slice A2 l2.length c2, .int .i64 r] 27)).alloc (.cells #[.int .i64 x0, .int .i64 x1, .int .i64 x2, .int .i64 x3, .int .i64 x4, .string x5] 32)).alloc (.cells #[.slice none 0 0, .slice none 0 0, .slice none 0 0, .int .i64 0] 27))).heap.size (((w.alloc (.cells #[.slice A0 l0.length c0, .slice A1 l1.length c1, .slice A2 l2.length c2, .int .i64 r] 27)).alloc (.cells #[.int .i64 x0, .int .i64 x1, .int .i64 x2, .int .i64 x3, .int .i64 x4, .string x5] 32)).alloc (.cells #[.slice none 0 0, .slice none 0 0, .slice none 0 0, .int .i64 0] 27)) wd))
          case first =>
            cases fb with
            | true =>
              have HL2 : Aside0 (nameB l1 x5 x2 = false) := ⟨by unfold nameB; rw [HF.out]; rfl⟩
              go_wp2
              go_meet
              case rel => exact ⟨by rw [HL2.out], HY2⟩
            | false =>
              have HL2 : Aside0 (nameB l1 x5 x2 = (x2 != 0)) := ⟨by unfold nameB; rw [HF.out]; rfl⟩
              go_wp2
              go_meet
              case rel => exact ⟨by rw [HL2.out], HY2⟩
          case rest =>
            obtain ⟨rfl, HY3⟩ := hcut
            clear a0 a1 a2 a3 p0 p1 p2 p3 b0 b1 b2 b3 b4 b5
            cases hN : nameB l1 x5 x2 with
            | true =>
              have HN := Aside0.mk hN
              clear hN
              have hv : commitS ⟨l0, l1, l2, r⟩ x1 x2 x3 x4 x5 = (eS27, 8) := by unfold commitS; simp only [HL.out, HC.out, HN.out, Bool.false_eq_true, if_false, if_true]
              have HV := Aside0.mk hv
              clear hv
              obtain ⟨⟨u0, u1, u2, u3⟩, q0, q1, q2, q3⟩ := blk4 ((HY3.out.block _ (by simp)).trans HAL.out.2.2)
              go_wp2
              refine bodyPost_ret (v := .tuple #[.agg #[.slice none 0 0, .slice none 0 0, .slice none 0 0, .int .i64 0], .int .i64 8]) (by simp [results, Try.results39, go_sem, u0, u1, u2, u3]) rfl ?_
              rw [HV.out]
              exact ⟨_, _, _, rfl, HW.nil _ _, ((((HB0.out.trans (HY3.out.mono (by first | (simp; done) | (simp; omega)))).setCell (by first | (simp; done) | (simp; omega)) _).setCell (by first | (simp; done) | (simp; omega)) _).setCell (by first | (simp; done) | (simp; omega)) _).setCell (by first | (simp; done) | (simp; omega)) _⟩
            | false =>
              have HN := Aside0.mk hN
              clear hN
              obtain ⟨⟨a0, a1, a2, a3⟩, p0, p1, p2, p3⟩ := blk4 ((HY3.out.block _ (by simp; omega)).trans HAL.out.1)
              obtain ⟨b0, b1, b2, b3, b4, b5⟩ := blk6 ((HY3.out.block _ (by simp)).trans HAL.out.2.1)
              go_upto_region 9 with (fail)
              go_cut [61] (fun v61 wd => v61 = .bool (fullB l1 x5) ∧ Aside0 (Below ((((w.alloc (.cells #[.slice A0 l0.length c0, .slice A1 l1.length c1, .slice A2 l2.length c2, .int .i64 r] 27)).alloc (.cells #[.int .i64 x0, .int .i64 x1, .int .i64 x2, .int .i64 x3, .int .i64 x4, .string x5] 32)).alloc (.cells #[.slice none 0 0, .slice none 0 0, .slice none 0 0, .int .i64 0] 27))).heap.size (((w.alloc (.cells #[.slice A0 l0.length c0, .slice A1 l1.length c1, .slice A2 l2.length c2, .int .i64 r] 27)).alloc (.cells #[.int .i64 x0, .int .i64 x1, .int .i64 x2, .int .i64 x3, .int .i64 x4, .string x5] 32)).alloc (.cells #[.slice none 0 0, .slice none 0 0, .slice none 0 0, .int .i64 0] 27)) wd))
              case first =>
                cases fb with
                | true =>
                  have HL2 : Aside0 (fullB l1 x5 = false) := ⟨by unfold fullB; rw [HF.out]; rfl⟩
                  go_wp2
                  go_meet
                  case rel => exact ⟨by rw [HL2.out], HY3⟩
                | false =>
                  have HL2 : Aside0 (fullB l1 x5 = decide (64 ≤ (l1.length : Int))) := ⟨by unfold fullB; rw [HF.out]; simp only [Bool.not_false, Bool.true_and, decide_eq_decide]; omega⟩
                  go_wp2
                  go_meet
                  case rel => exact ⟨by rw [HL2.out], HY3⟩
              case rest =>
                obtain ⟨rfl, HY4⟩ := hcut
                clear a0 a1 a2 a3 p0 p1 p2 p3 b0 b1 b2 b3 b4 b5
                cases hU : fullB l1 x5 with
                | true =>
                  have HU := Aside0.mk hU
                  clear hU
                  have hv : commitS ⟨l0, l1, l2, r⟩ x1 x2 x3 x4 x5 = (eS27, 12) := by unfold commitS; simp only [HL.out, HC.out, HN.out, HU.out, Bool.false_eq_true, if_false, if_true]
                  have HV := Aside0.mk hv
                  clear hv
                  obtain ⟨⟨u0, u1, u2, u3⟩, q0, q1, q2, q3⟩ := blk4 ((HY4.out.block _ (by simp)).trans HAL.out.2.2)
                  go_wp2
                  refine bodyPost_ret (v := .tuple #[.agg #[.slice none 0 0, .slice none 0 0, .slice none 0 0, .int .i64 0], .int .i64 12]) (by simp [results, Try.results39, go_sem, u0, u1, u2, u3]) rfl ?_
                  rw [HV.out]
                  exact ⟨_, _, _, rfl, HW.nil _ _, ((((HB0.out.trans (HY4.out.mono (by first | (simp; done) | (simp; omega)))).setCell (by first | (simp; done) | (simp; omega)) _).setCell (by first | (simp; done) | (simp; omega)) _).setCell (by first | (simp; done) | (simp; omega)) _).setCell (by first | (simp; done) | (simp; omega)) _⟩
                | false =>
                  have HU := Aside0.mk hU
                  clear hU
                  obtain ⟨⟨a0, a1, a2, a3⟩, p0, p1, p2, p3⟩ := blk4 ((HY4.out.block _ (by simp; omega)).trans HAL.out.1)
                  obtain ⟨b0, b1, b2, b3, b4, b5⟩ := blk6 ((HY4.out.block _ (by simp)).trans HAL.out.2.1)
                  go_upto_region 11 with (fail)
                  have HH := Aside0.mk (HB0.out.trans (HY4.out.mono (by first | (simp; done) | (simp; omega))))
                  go_cut [84] (fun v84 wd => v84 = .bool (goneB l0 x2 || goneB l0 x3) ∧ Aside0 (Below ((((w.alloc (.cells #[.slice A0 l0.length c0, .slice A1 l1.length c1, .slice A2 l2.length c2, .int .i64 r] 27)).alloc (.cells #[.int .i64 x0, .int .i64 x1, .int .i64 x2, .int .i64 x3, .int .i64 x4, .string x5] 32)).alloc (.cells #[.slice none 0 0, .slice none 0 0, .slice none 0 0, .int .i64 0] 27))).heap.size (((w.alloc (.cells #[.slice A0 l0.length c0, .slice A1 l1.length c1, .slice A2 l2.length c2, .int .i64 r] 27)).alloc (.cells #[.int .i64 x0, .int .i64 x1, .int .i64 x2, .int .i64 x3, .int .i64 x4, .string x5] 32)).alloc (.cells #[.slice none 0 0, .slice none 0 0, .slice none 0 0, .int .i64 0] 27)) wd))
                  case first =>
                    have hq2 := f52_calls A0 c0 l0 A1 c1 l1 A2 c2 l2 r x2 wc (HR.out.below HH.out) HO.out.o0 HO.out.n0
                    rw [HI.out] at hq2
                    have H51a := Aside0.mk hq2
                    have H51b := Aside0.mk (f52_calls A0 c0 l0 A1 c1 l1 A2 c2 l2 r x3 wc (HR.out.below HH.out) HO.out.o0 HO.out.n0)
                    clear hq2
                    by_cases h2 : x2 = 0
                    · have hd2 : (x2 != 0) = false := by simp [h2]
                      have hd2b : (x2 == 0) = true := by simp [h2]
                      by_cases h3 : x3 = 0
                      · have hd3 : (x3 != 0) = false := by simp [h3]
                        have HL2 : Aside0 ((goneB l0 x2 || goneB l0 x3) = false) := ⟨by unfold goneB; rw [hd2, hd3]; rfl⟩
                        clear h2 h3 hd2b
                        go_wp2
                        go_meet
                        case rel => exact ⟨by rw [HL2.out], HY4⟩
                      · have hd3 : (x3 != 0) = true := by simp [h3]
                        have HL2 : Aside0 ((goneB l0 x2 || goneB l0 x3) = !hasI l0 x3) := ⟨by unfold goneB; rw [hd2, hd3]; rfl⟩
                        clear h2 h3 hd2b
                        go_wp2_with (go_at_call 52; refine H51b.out.mono ?_; rintro e w2 ⟨rfl, hb⟩; have HY5 := Aside0.mk (HY4.out.trans (hb.mono HY4.out.size)); clear hb)
                        go_meet
                        case rel => exact ⟨by rw [HL2.out], HY5⟩
                    · have hd2 : (x2 != 0) = true := by simp [h2]
                      cases hi with
                      | false =>
                        have HL2 : Aside0 ((goneB l0 x2 || goneB l0 x3) = true) := ⟨by unfold goneB; rw [hd2, HI.out]; rfl⟩
                        clear h2
                        go_wp2_with (go_at_call 52; refine H51a.out.mono ?_; rintro e w2 ⟨rfl, hb⟩; have HY5 := Aside0.mk (HY4.out.trans (hb.mono HY4.out.size)); clear hb)
                        go_meet
                        case rel => exact ⟨by rw [HL2.out], HY5⟩
                      | true =>
                        by_cases h3 : x3 = 0
                        · have hd3 : (x3 != 0) = false := by simp [h3]
                          have HL2 : Aside0 ((goneB l0 x2 || goneB l0 x3) = false) := ⟨by unfold goneB; rw [hd2, hd3, HI.out]; rfl⟩
                          clear h2 h3
                          go_wp2_with (go_at_call 52; refine H51a.out.mono ?_; clear a0 a1 a2 a3 p0 p1 p2 p3 b0 b1 b2 b3 b4 b5; rintro e w2 ⟨rfl, hb⟩; have HY5 := Aside0.mk (HY4.out.trans (hb.mono HY4.out.size)); obtain ⟨⟨a0, a1, a2, a3⟩, p0, p1, p2, p3⟩ := blk4 ((HY5.out.block _ (by simp; omega)).trans HAL.out.1); obtain ⟨b0, b1, b2, b3, b4, b5⟩ := blk6 ((HY5.out.block _ (by simp)).trans HAL.out.2.1); clear hb)
                          go_meet
                          case rel => exact ⟨by rw [HL2.out], HY5⟩
                        · have hd3 : (x3 != 0) = true := by simp [h3]
                          have HL2 : Aside0 ((goneB l0 x2 || goneB l0 x3) = !hasI l0 x3) := ⟨by unfold goneB; rw [hd2, hd3, HI.out]; rfl⟩
                          clear h2 h3 H51b
                          go_wp2_with (first
                            | (go_at_call 52; refine H51a.out.mono ?_; clear H51a a0 a1 a2 a3 p0 p1 p2 p3 b0 b1 b2 b3 b4 b5; rintro e w2 ⟨rfl, hb⟩; have HY5 := Aside0.mk (HY4.out.trans (hb.mono HY4.out.size)); obtain ⟨⟨a0, a1, a2, a3⟩, p0, p1, p2, p3⟩ := blk4 ((HY5.out.block _ (by simp; omega)).trans HAL.out.1); obtain ⟨b0, b1, b2, b3, b4, b5⟩ := blk6 ((HY5.out.block _ (by simp)).trans HAL.out.2.1); have H51b := Aside0.mk (f52_calls A0 c0 l0 A1 c1 l1 A2 c2 l2 r x3 w2 (HR.out.below (HB0.out.trans (HY5.out.mono (by first | (simp; done) | (simp; omega))))) HO.out.o0 HO.out.n0); clear hb)
                            | (go_at_call 52; refine H51b.out.mono ?_; rintro e w3 ⟨rfl, hb⟩; have HY6 := Aside0.mk (HY5.out.trans (hb.mono HY5.out.size)); clear hb))
                          go_meet
                          case rel => exact ⟨by rw [HL2.out], HY6⟩
                  case rest =>
                    obtain ⟨rfl, HY7⟩ := hcut
                    clear a0 a1 a2 a3 p0 p1 p2 p3 b0 b1 b2 b3 b4 b5
                    clear HH
                    cases hG : (goneB l0 x2 || goneB l0 x3) with
                    | true =>
                      have HG := Aside0.mk hG
                      clear hG
                      have hv : commitS ⟨l0, l1, l2, r⟩ x1 x2 x3 x4 x5 = (eS27, 15) := by unfold commitS; simp only [HL.out, HC.out, HN.out, HU.out, HG.out, Bool.false_eq_true, if_false, if_true]
                      have HV := Aside0.mk hv
                      clear hv
                      obtain ⟨⟨u0, u1, u2, u3⟩, q0, q1, q2, q3⟩ := blk4 ((HY7.out.block _ (by simp)).trans HAL.out.2.2)
                      go_wp2
                      refine bodyPost_ret (v := .tuple #[.agg #[.slice none 0 0, .slice none 0 0, .slice none 0 0, .int .i64 0], .int .i64 15]) (by simp [results, Try.results39, go_sem, u0, u1, u2, u3]) rfl ?_
                      rw [HV.out]
                      exact ⟨_, _, _, rfl, HW.nil _ _, ((((HB0.out.trans (HY7.out.mono (by first | (simp; done) | (simp; omega)))).setCell (by first | (simp; done) | (simp; omega)) _).setCell (by first | (simp; done) | (simp; omega)) _).setCell (by first | (simp; done) | (simp; omega)) _).setCell (by first | (simp; done) | (simp; omega)) _⟩
                    | false =>
                      have HG := Aside0.mk hG
                      clear hG
                      obtain ⟨⟨a0, a1, a2, a3⟩, p0, p1, p2, p3⟩ := blk4 ((HY7.out.block _ (by simp; omega)).trans HAL.out.1)
                      obtain ⟨b0, b1, b2, b3, b4, b5⟩ := blk6 ((HY7.out.block _ (by simp)).trans HAL.out.2.1)
                      have hq2 := f20_calls A0 c0 l0 A1 c1 l1 A2 c2 l2 r x2 wc (HR.out.below (HB0.out.trans (HY7.out.mono (by first | (simp; done) | (simp; omega))))) HO.out.o0 HO.out.n0
                      have H16 := Aside0.mk hq2
                      clear hq2
                      have HL2 : Aside0 (timeB l0 x2 x4 = decide (x4 < (nodeI l0 x2).f3)) := ⟨by
                        unfold timeB
                        cases h_ : hasI l0 x2 with
                        | true => rfl
                        | false => rw [nodeI_no h_, Bool.false_and]; exact (decide_eq_false (by have := HX4.out; show ¬ x4 < 0; omega)).symm⟩
                      go_upto_region 14 with (go_at_call 20; refine H16.out.mono ?_; clear a0 a1 a2 a3 p0 p1 p2 p3 b0 b1 b2 b3 b4 b5; rintro e w1 ⟨rfl, hb⟩; have HY8 := Aside0.mk (HY7.out.trans (hb.mono HY7.out.size)); obtain ⟨⟨a0, a1, a2, a3⟩, p0, p1, p2, p3⟩ := blk4 ((HY8.out.block _ (by simp; omega)).trans HAL.out.1); obtain ⟨b0, b1, b2, b3, b4, b5⟩ := blk6 ((HY8.out.block _ (by simp)).trans HAL.out.2.1); have hlt0 : w.heap.size < w1.heap.size := (by have := HY8.out.size; simp at this; omega); have hlt1 : w.heap.size + 1 < w1.heap.size := (by have := HY8.out.size; simp at this; omega); clear hb)
                      go_cut [97] (fun v97 wd => v97 = .bool (timeB l0 x2 x4) ∧ Aside0 (Below ((((w.alloc (.cells #[.slice A0 l0.length c0, .slice A1 l1.length c1, .slice A2 l2.length c2, .int .i64 r] 27)).alloc (.cells #[.int .i64 x0, .int .i64 x1, .int .i64 x2, .int .i64 x3, .int .i64 x4, .string x5] 32)).alloc (.cells #[.slice none 0 0, .slice none 0 0, .slice none 0 0, .int .i64 0] 27))).heap.size (((w.alloc (.cells #[.slice A0 l0.length c0, .slice A1 l1.length c1, .slice A2 l2.length c2, .int .i64 r] 27)).alloc (.cells #[.int .i64 x0, .int .i64 x1, .int .i64 x2, .int .i64 x3, .int .i64 x4, .string x5] 32)).alloc (.cells #[.slice none 0 0, .slice none 0 0, .slice none 0 0, .int .i64 0] 27)) wd))
                      case first =>
                        go_wp2
                        go_meet
                        case rel => exact ⟨by rw [HL2.out], ⟨HY8.out.alloc HY8.out.size _⟩⟩
                      case rest =>
                        obtain ⟨rfl, HY9⟩ := hcut
                        clear a0 a1 a2 a3 p0 p1 p2 p3 b0 b1 b2 b3 b4 b5
                        clear HY HY1 HY2 HY3 HY4 HY7 HY8
                        cases hT : timeB l0 x2 x4 with
                        | true =>
                          have HT := Aside0.mk hT
                          clear hT
                          have hv : commitS ⟨l0, l1, l2, r⟩ x1 x2 x3 x4 x5 = (eS27, 6) := by unfold commitS; simp only [HL.out, HC.out, HN.out, HU.out, HG.out, HT.out, Bool.false_eq_true, if_false, if_true]
                          have HV := Aside0.mk hv
                          clear hv
                          obtain ⟨⟨u0, u1, u2, u3⟩, q0, q1, q2, q3⟩ := blk4 ((HY9.out.block _ (by simp)).trans HAL.out.2.2)
                          go_wp2
                          refine bodyPost_ret (v := .tuple #[.agg #[.slice none 0 0, .slice none 0 0, .slice none 0 0, .int .i64 0], .int .i64 6]) (by simp [results, Try.results39, go_sem, u0, u1, u2, u3]) rfl ?_
                          rw [HV.out]
                          exact ⟨_, _, _, rfl, HW.nil _ _, ((((HB0.out.trans (HY9.out.mono (by first | (simp; done) | (simp; omega)))).setCell (by first | (simp; done) | (simp; omega)) _).setCell (by first | (simp; done) | (simp; omega)) _).setCell (by first | (simp; done) | (simp; omega)) _).setCell (by first | (simp; done) | (simp; omega)) _⟩
                        | false =>
                          have HT := Aside0.mk hT
                          clear hT
                          have HV : Aside0 (commitS ⟨l0, l1, l2, r⟩ x1 x2 x3 x4 x5 = (⟨l0 ++ [⟨x1, x2, x3, x4⟩], putS l1 x5 x1, l2, r⟩, 0)) := ⟨by unfold commitS; simp only [HL.out, HC.out, HN.out, HU.out, HG.out, HT.out, Bool.false_eq_true, if_false]⟩
                          have HL6 : Aside0 ((l0 ++ [(⟨x1, x2, x3, x4⟩ : S41)]).length = l0.length + 1) := ⟨by simp⟩
                          have hzc := HY9.out.size
                          simp only [World.size_alloc] at hzc
                          go_upto_region 17 with (fail)
                          go_wp2
                          go_loopg [11, 12] l0.length (fun kq v11 v12 w' => ∃ i : Nat, v12 = .int .i64 i ∧ i ≤ l0.length ∧ Aside0 (kq + i = l0.length) ∧ Aside0 (Kd.R k41 41 w' wc.heap.size (fun _ => True) v11 (l0.take i)) ∧ Aside0 (Below wc.heap.size wc w'))
                          case atStart => exact ⟨0, rfl, Nat.zero_le _, ⟨by omega⟩, ⟨Kd.R_nil _ _ _ _ _⟩, ⟨Below.refl _ _⟩⟩
                          case round =>
                            obtain ⟨i, rfl, hi, HK, HOx, HBx⟩ := hrel
                            have HYx := Aside0.mk (HY9.out.trans (HBx.out.mono HY9.out.size))
                            obtain ⟨⟨a0, a1, a2, a3⟩, p0, p1, p2, p3⟩ := blk4 ((HYx.out.block _ (by simp; omega)).trans HAL.out.1)
                            obtain ⟨b0, b1, b2, b3, b4, b5⟩ := blk6 ((HYx.out.block _ (by simp)).trans HAL.out.2.1)
                            by_cases hl : i < l0.length
                            · cases gk with
                              | zero => exact absurd HK.out (by omega)
                              | succ k1 =>
                                obtain ⟨ad, rfl, hx0, hx1, hx2, hx3⟩ := at_T41 HR.out.r0 (i : Int) (by omega) (by omega)
                                rw [Int.toNat_natCast] at hx0 hx1 hx2 hx3
                                have HBw := Aside0.mk (HB0.out.trans (HYx.out.mono (by first | (simp; done) | (simp; omega))))
                                replace hx0 := (HBw.out.cell (World.block_lt_of_cell? w _ hx0)).trans hx0
                                replace hx1 := (HBw.out.cell (World.block_lt_of_cell? w _ hx1)).trans hx1
                                replace hx2 := (HBw.out.cell (World.block_lt_of_cell? w _ hx2)).trans hx2
                                replace hx3 := (HBw.out.cell (World.block_lt_of_cell? w _ hx3)).trans hx3
                                go_wp2_with ((with_reducible refine gate_builtin (b := .append) (xs := #[.tmp 106, .tmp 112]) rfl ?_); at_builtin; refine Kd.R_append k41 (w0 := wc) wc.heap.size rfl (.tmp 106) (.tmp 112) 24 41 (.agg #[(.int .i64 0), (.int .i64 0), (.int .i64 0), (.int .i64 0)]) 32 rfl Try.underlying24 info41 rfl (by decide) (by omega) u11 (l0.take i) (⟨(rd_T41 l0 i).f0, (rd_T41 l0 i).f1, (rd_T41 l0 i).f2, (rd_T41 l0 i).f3⟩ : S41) [.int .i64 (rd_T41 l0 i).f0, .int .i64 (rd_T41 l0 i).f1, .int .i64 (rd_T41 l0 i).f2, .int .i64 (rd_T41 l0 i).f3] (fun _ => True) (fun _ => False) rfl rfl ?aP (fun _ hk => hk.elim) ?aF ?aO ?aB ?aS ?aL ?_; (case aP => exact k41_mkM _ _ _ (⟨(rd_T41 l0 i).f0, (rd_T41 l0 i).f1, (rd_T41 l0 i).f2, (rd_T41 l0 i).f3⟩ : S41)); (case aB => exact (by repeat (first | (with_reducible first | exact HBx.out | apply below_alloc | apply pw_below_drewN | apply below_drew1) | exact HBx.out))); (case aF => exact (fun _ _ => trivial)); (case aO => exact (by (with_reducible repeat (first | apply Kd.R_alloc | apply Kd.R_drewN | apply Kd.R_drew)); exact HOx.out)); (case aS => exact (below_size (by repeat (first | (with_reducible first | exact HBx.out | apply below_alloc | apply pw_below_drewN | apply below_drew1) | exact HBx.out)))); (case aL => (rw [List.length_take]; omega)); intro v121 w7 ho hb hg hat; have HO7 := Aside0.mk ho; have HB7 := Aside0.mk hb; clear ho hb hg hat)
                                go_roundg k1
                                case measure => omega
                                case rel => exact ⟨i + 1, int_eq (by omega), by omega, ⟨by have := HK.out; omega⟩, ⟨by rw [take_succ41 l0 i hl]; exact HO7.out⟩, HB7⟩
                            · obtain rfl : i = l0.length := by omega
                              have HT : Aside0 (l0.take l0.length ++ [(⟨x1, x2, x3, x4⟩ : S41)] = l0 ++ [⟨x1, x2, x3, x4⟩]) := ⟨by rw [List.take_length]⟩
                              go_wp2_with (first
                                | ((with_reducible refine gate_builtin (b := .append) (xs := #[.tmp 114, .tmp 124]) rfl ?_); at_builtin; refine Kd.R_append k41 (w0 := wc) wc.heap.size rfl (.tmp 114) (.tmp 124) 24 41 (.agg #[(.int .i64 0), (.int .i64 0), (.int .i64 0), (.int .i64 0)]) 32 rfl Try.underlying24 info41 rfl (by decide) (by omega) u11 (l0.take l0.length) (⟨x1, x2, x3, x4⟩ : S41) [.int .i64 x1, .int .i64 x2, .int .i64 x3, .int .i64 x4] (fun _ => True) (fun _ => False) rfl rfl ?aP (fun _ hk => hk.elim) ?aF ?aO ?aB ?aS ?aL ?_; (case aP => exact k41_mkM _ _ _ (⟨x1, x2, x3, x4⟩ : S41)); (case aB => exact (by repeat (first | (with_reducible first | exact HBx.out | apply below_alloc | apply pw_below_drewN | apply below_drew1) | exact HBx.out))); (case aF => exact (fun _ _ => trivial)); (case aO => exact (by (with_reducible repeat (first | apply Kd.R_alloc | apply Kd.R_drewN | apply Kd.R_drew)); exact HOx.out)); (case aS => exact (below_size (by repeat (first | (with_reducible first | exact HBx.out | apply below_alloc | apply pw_below_drewN | apply below_drew1) | exact HBx.out)))); (case aL => (rw [List.length_take]; omega)); intro v121 w7 ho hb hg hat; rw [HT.out] at ho; have hsz_ := hb.size; have HO7 := Aside0.mk (Kd.R_V (base' := 0) (Kd.R_mono (Kd.R_bound ho) (ok' := fun k => wc.heap.size ≤ k) (fun k hk => hk.2.1))); obtain ⟨A7, c7, e7⟩ := Kd.R_slice ho; rw [HL6.out] at e7; subst e7; have HY10 := Aside0.mk (HY9.out.trans (hb.mono HY9.out.size)); have HB10 := Aside0.mk (HB0.out.trans (HY10.out.mono (by first | (simp; done) | (simp; omega)))); clear a0 a1 a2 a3 p0 p1 p2 p3 b0 b1 b2 b3 b4 b5; have BK7 := Aside0.mk ((HY10.out.block _ (by first | (simp; done) | (simp; omega))).trans HAL.out.1); have BX7 := Aside0.mk ((HY10.out.block _ (by first | (simp; done) | (simp; omega))).trans HAL.out.2.1); have BZ7 := Aside0.mk ((HY10.out.block _ (by first | (simp; done) | (simp; omega))).trans HAL.out.2.2); obtain ⟨⟨a0, a1, a2, a3⟩, p0, p1, p2, p3⟩ := blk4 BK7.out; obtain ⟨b0, b1, b2, b3, b4, b5⟩ := blk6 BX7.out; have hz7 := HY10.out.size; simp only [World.size_alloc] at hz7; clear ho hb hg hat; have HS7 := Aside0.mk (show wc.heap.size ≤ w7.heap.size by assumption))
                                | (go_at_call 41; refine (f41_calls A1 c1 l1 x5 x1 (w7.setCell ⟨w.heap.size, 0, none⟩ (.slice A7 (l0.length + 1) c7)) (Kd.C_below HR.out.r1 (HB10.out.setCell (Nat.le_refl _) _)) HR.out.h1 HO.out.o1 hn1).mono ?_; clear a0 a1 a2 a3 p0 p1 p2 p3 b0 b1 b2 b3 b4 b5; rintro e w8 ⟨v8, rfl, ho8, hb8⟩; have HB8 := Aside0.mk ((HB10.out.setCell (p := ⟨w.heap.size, 0, none⟩) (Nat.le_refl _) (.slice A7 (l0.length + 1) c7)).trans (hb8.mono (by simp; omega))); have BK8 := Aside0.mk ((hb8.block _ (by simp; omega)).trans (blk_put BK7.out 0 (.slice A7 (l0.length + 1) c7) rfl)); have BZ8 := Aside0.mk ((hb8.block _ (by simp; omega)).trans (blk_far (p := ⟨w.heap.size, 0, none⟩) BZ7.out (by simp; omega) (.slice A7 (l0.length + 1) c7))); obtain ⟨⟨a0, a1, a2, a3⟩, p0, p1, p2, p3⟩ := blk4 BK8.out; obtain ⟨⟨u0, u1, u2, u3⟩, q0, q1, q2, q3⟩ := blk4 BZ8.out; have HN0 := Aside0.mk (Kd.V_below (Kd.V_far (p := ⟨w.heap.size, 0, none⟩) HO7.out (fun k hk => by simp; omega) (.slice A7 (l0.length + 1) c7)) hb8); have HN1 := Aside0.mk (Kd.R_V (base' := 0) (Kd.R_mono (Kd.R_bound ho8) (ok' := fun k => wc.heap.size ≤ k) (fun k hk => by have h_ := hk.2.1; simp at h_; have := HS7.out; omega))); have HN2 : Aside0 (Kd.V k86 86 w8 0 (fun k => ok k ∧ k < w.heap.size) (.slice A2 l2.length c2) l2) := ⟨Kd.V_mk HR.out.h2 (Kd.F_below HX.out.f2 HB8.out)⟩; obtain ⟨A8, c8, rfl⟩ := Kd.R_slice ho8; clear ho8 hb8))
                              refine bodyPost_ret (v := .tuple #[.agg #[.slice A7 (l0.length + 1) c7, .slice A8 (putS l1 x5 x1).length c8, .slice A2 l2.length c2, .int .i64 r], .int .i64 0]) (by simp [results, Try.results39, go_sem, u0, u1, u2, u3, a0, a1, a2, a3]) rfl ?_
                              rw [HV.out]
                              refine ⟨_, _, _, rfl, ⟨?_, ?_, ?_⟩, (by repeat (first | (with_reducible exact HB8.out) | ((with_reducible refine Below.setCell ?_ ?_ _); rotate_left; (first | exact Nat.le_refl _ | (simp; done) | (simp; omega)))))⟩
                              · (try dsimp only)
                                refine Kd.V_mono (ok := fun k => wc.heap.size ≤ k) (by repeat (first | (with_reducible exact HN0.out) | ((with_reducible refine Kd.V_far ?_ ?_ _); rotate_left; (intro k hk; first | (simp; omega) | (rcases hk with hk | hk <;> simp <;> omega))))) (fun k hk => ?_)
                                exact .inr (by omega)
                              · (try dsimp only)
                                refine Kd.V_mono (ok := fun k => wc.heap.size ≤ k) (by repeat (first | (with_reducible exact HN1.out) | ((with_reducible refine Kd.V_far ?_ ?_ _); rotate_left; (intro k hk; first | (simp; omega) | (rcases hk with hk | hk <;> simp <;> omega))))) (fun k hk => ?_)
                                exact .inr (by omega)
                              · (try dsimp only)
                                refine Kd.V_mono (ok := fun k => ok k ∧ k < w.heap.size) (by repeat (first | (with_reducible exact HN2.out) | ((with_reducible refine Kd.V_far ?_ ?_ _); rotate_left; (intro k hk; first | (simp; omega) | (rcases hk with hk | hk <;> simp <;> omega))))) (fun k hk => ?_)
                                exact .inl hk.1
end Go.Proofs.Ytjeoabjccbinhaa.P
