/- awake: the chapter's examples hold. No condition. -/
import Derived.Test.YtjeoabjccbinhaaK0
import Derived.Test.YtjeoabjccbinhaaH18
import Derived.Test.YtjeoabjccbinhaaR3
namespace Go.Proofs.Ytjeoabjccbinhaa.P
open Go.RowKit Go.Proofs.YtjeoabjccbinhaaW.PrintWords Go.Proofs.YtjeoabjccbinhaaW.PrintLast Go.Proofs.YtjeoabjccbinhaaW.PrintMore
set_option linter.unusedVariables false
set_option linter.unusedSimpArgs false
def sMain : ByteArray := ⟨#[109, 97, 105, 110]⟩
def sW : ByteArray := ⟨#[119]⟩
def awL : List S32 := [⟨1, 1, 0, 0, 0, sMain⟩, ⟨1, 2, 1, 0, 0, sMain⟩, ⟨2, 1, 0, 0, 0, sW⟩, ⟨1, 3, 1, 0, 0, sW⟩]
def awH : S27 := ⟨[⟨1, 0, 0, 0⟩, ⟨2, 1, 0, 0⟩, ⟨3, 1, 0, 0⟩], [⟨sMain, 2⟩, ⟨sW, 3⟩], [], 0⟩
theorem id_main : identB sMain = true := by decide
theorem id_w : identB sW = true := by decide
theorem tl_main : sMain.toList = [109, 97, 105, 110] := by rw [Lib.toList_data]; rfl
theorem tl_w : sW.toList = [119] := by rw [Lib.toList_data]; rfl
theorem aw1 : applyE eS27 ⟨1, 1, 0, 0, 0, sMain⟩ = (⟨[⟨1, 0, 0, 0⟩], [⟨sMain, 1⟩], [], 0⟩, 0) := by
  simp [applyE, applyS, wfB, id_main, commitS, eS27, lateB, confB, nameB, fullB, goneB, timeB, hasS, hasI, posS, posI, putS, insS]
theorem aw2 : applyE ⟨[⟨1, 0, 0, 0⟩], [⟨sMain, 1⟩], [], 0⟩ ⟨1, 2, 1, 0, 0, sMain⟩ = (⟨[⟨1, 0, 0, 0⟩, ⟨2, 1, 0, 0⟩], [⟨sMain, 2⟩], [], 0⟩, 0) := by
  simp [applyE, applyS, wfB, id_main, commitS, eS27, lateB, confB, nameB, fullB, goneB, timeB, hasS, hasI, posS, posI, putS, insS, rd_T86, rd_T41, valS, nodeI, cmpS, cmpI, tl_main, Op.bytesLess, List.takeWhile]
theorem aw3 : applyE ⟨[⟨1, 0, 0, 0⟩, ⟨2, 1, 0, 0⟩], [⟨sMain, 2⟩], [], 0⟩ ⟨2, 1, 0, 0, 0, sW⟩ = (⟨[⟨1, 0, 0, 0⟩, ⟨2, 1, 0, 0⟩], [⟨sMain, 2⟩, ⟨sW, 1⟩], [], 0⟩, 0) := by
  simp [applyE, applyS, wfB, bareB, id_w, addS, hasS, hasI, posS, posI, insS, rd_T86, rd_T41, cmpS, cmpI, tl_main, tl_w, Op.bytesLess, List.takeWhile]
theorem aw4 : applyE ⟨[⟨1, 0, 0, 0⟩, ⟨2, 1, 0, 0⟩], [⟨sMain, 2⟩, ⟨sW, 1⟩], [], 0⟩ ⟨1, 3, 1, 0, 0, sW⟩ = (awH, 0) := by
  simp [awH, applyE, applyS, wfB, id_w, commitS, eS27, lateB, confB, nameB, fullB, goneB, timeB, hasS, hasI, posS, posI, putS, insS, rd_T86, rd_T41, valS, nodeI, cmpS, cmpI, tl_main, tl_w, Op.bytesLess, List.takeWhile]
theorem awR : replayS eS27 awL = (awH, 0) := by
  simp only [awL, replayS, aw1, aw2, aw3, aw4, if_true]
theorem aw5 : applyE awH ⟨1, 4, 1, 0, 0, sMain⟩ = (eS27, 14) := by
  simp [awH, applyE, applyS, wfB, id_main, commitS, eS27, lateB, confB, nameB, fullB, goneB, timeB, hasS, hasI, posS, posI, putS, insS, rd_T86, rd_T41, valS, nodeI, cmpS, cmpI, tl_main, tl_w, Op.bytesLess, List.takeWhile]
theorem awB : valS awH.f1 sW = 3 ∧ hasS awH.f1 sW = true := by
  simp [awH, valS, hasS, posS, rd_T86, cmpS, tl_main, tl_w, Op.bytesLess, List.takeWhile]
theorem awC : Chain awH.f0 3 [3, 1] := by
  have h3 : hasI awH.f0 3 = true := by simp [awH, hasI, posI, rd_T41, cmpI, List.takeWhile]
  have n3 : nodeI awH.f0 3 = ⟨3, 1, 0, 0⟩ := by simp [awH, nodeI, hasI, posI, rd_T41, cmpI, List.takeWhile]
  have h1 : hasI awH.f0 1 = true := by simp [awH, hasI, posI, rd_T41, cmpI, List.takeWhile]
  have n1 : nodeI awH.f0 1 = ⟨1, 0, 0, 0⟩ := by simp [awH, nodeI, hasI, posI, rd_T41, cmpI, List.takeWhile]
  have h0 : hasI awH.f0 0 = false := by simp [awH, hasI, posI, rd_T41, cmpI, List.takeWhile]
  have := Chain.step h3 (by rw [n3]; have := Chain.step h1 (by rw [n1]; exact Chain.stop h0); rw [n1] at this; exact this)
  rw [n3] at this
  exact this
theorem awOk : OkN 4 awH := by
  have h := applyE_okN (applyE_okN (applyE_okN (applyE_okN (OkN.nil 0) ⟨1, 1, 0, 0, 0, sMain⟩) ⟨1, 2, 1, 0, 0, sMain⟩) ⟨2, 1, 0, 0, 0, sW⟩) ⟨1, 3, 1, 0, 0, sW⟩
  rw [aw1] at h
  simp only [aw2, aw3, aw4] at h
  exact h
end Go.Proofs.Ytjeoabjccbinhaa.P

namespace Go.Proofs.Ytjeoabjccbinhaa.P
open Go.RowKit Go.Proofs.YtjeoabjccbinhaaW.PrintWords Go.Proofs.YtjeoabjccbinhaaW.PrintLast Go.Proofs.YtjeoabjccbinhaaW.PrintMore
set_option linter.unusedVariables false
set_option linter.unusedSimpArgs false
theorem awM : mbS awH.f0 2 3 = (1, true) := by simp [mbS, ancS, ancL, awH, rd_T41]
theorem awWf : WfI awH.f0 := by
  intro i hi
  have : i = 0 ∨ i = 1 ∨ i = 2 := by simp [awH] at hi; omega
  rcases this with rfl | rfl | rfl <;> simp [awH, rd_T41] <;> decide
theorem awRow {W : World} {b : Nat} (h : W.heap[b]? = some (.cells #[.int .i64 1, .int .i64 1, .int .i64 0, .int .i64 0, .int .i64 0, .string sMain, .int .i64 1, .int .i64 2, .int .i64 1, .int .i64 0, .int .i64 0, .string sMain, .int .i64 2, .int .i64 1, .int .i64 0, .int .i64 0, .int .i64 0, .string sW, .int .i64 1, .int .i64 3, .int .i64 1, .int .i64 0, .int .i64 0, .string sW] 32 (0, 0))) : Kd.C k32 W (some ⟨b, 0, none⟩) awL.length awL := by
  refine ⟨rfl, by decide, fun _ => ⟨⟨b, 0, none⟩, rfl, ?_⟩⟩
  have hc : ∀ k, W.cell? ((⟨b, 0, none⟩ : Addr).add k) = (#[.int .i64 1, .int .i64 1, .int .i64 0, .int .i64 0, .int .i64 0, .string sMain, .int .i64 1, .int .i64 2, .int .i64 1, .int .i64 0, .int .i64 0, .string sMain, .int .i64 2, .int .i64 1, .int .i64 0, .int .i64 0, .int .i64 0, .string sW, .int .i64 1, .int .i64 3, .int .i64 1, .int .i64 0, .int .i64 0, .string sW] : Array Value)[k]? := fun k => by
    rw [Addr.add_lit]; exact (blk_cell h (0 + k)).trans (by rw [Nat.zero_add])
  intro j p hj
  match j, hj with
  | 0, hj => obtain rfl := Option.some.inj hj; exact ⟨_, rfl, k32_mk W _, fun i u hi => by rw [hc]; rcases i with _ | _ | _ | _ | _ | _ | i <;> first | (have h_ := Option.some.inj hi; subst h_; rfl) | (simp at hi)⟩
  | 1, hj => obtain rfl := Option.some.inj hj; exact ⟨_, rfl, k32_mk W _, fun i u hi => by rw [hc]; rcases i with _ | _ | _ | _ | _ | _ | i <;> first | (have h_ := Option.some.inj hi; subst h_; rfl) | (simp at hi)⟩
  | 2, hj => obtain rfl := Option.some.inj hj; exact ⟨_, rfl, k32_mk W _, fun i u hi => by rw [hc]; rcases i with _ | _ | _ | _ | _ | _ | i <;> first | (have h_ := Option.some.inj hi; subst h_; rfl) | (simp at hi)⟩
  | 3, hj => obtain rfl := Option.some.inj hj; exact ⟨_, rfl, k32_mk W _, fun i u hi => by rw [hc]; rcases i with _ | _ | _ | _ | _ | _ | i <;> first | (have h_ := Option.some.inj hi; subst h_; rfl) | (simp at hi)⟩
  | j + 4, hj => simp [awL] at hj
set_option maxHeartbeats 4000000 in
set_option maxRecDepth 100000 in
theorem f9_calls (w : World) : Calls Try.prog 9 #[] w fun e w' => e = .returned (.bool true) ∧ Below w.heap.size w w' := by
  have hb0 : Below w.heap.size w (w.alloc (.cells #[.int .i64 1, .int .i64 1, .int .i64 0, .int .i64 0, .int .i64 0, .string sMain, .int .i64 1, .int .i64 2, .int .i64 1, .int .i64 0, .int .i64 0, .string sMain, .int .i64 2, .int .i64 1, .int .i64 0, .int .i64 0, .int .i64 0, .string sW, .int .i64 1, .int .i64 3, .int .i64 1, .int .i64 0, .int .i64 0, .string sW] 32)) := (Below.refl w.heap.size w).alloc (Nat.le_refl _) _
  have H13 := f13_calls (some ⟨w.heap.size, 0, none⟩) 4 awL (w.alloc (.cells #[.int .i64 1, .int .i64 1, .int .i64 0, .int .i64 0, .int .i64 0, .string sMain, .int .i64 1, .int .i64 2, .int .i64 1, .int .i64 0, .int .i64 0, .string sMain, .int .i64 2, .int .i64 1, .int .i64 0, .int .i64 0, .int .i64 0, .string sW, .int .i64 1, .int .i64 3, .int .i64 1, .int .i64 0, .int .i64 0, .string sW] 32)) (awRow (heap_alloc_new w _)) (by decide) (by decide) (fun i h => OkN i h ∧ i ≤ 4) ⟨OkN.nil 0, by decide⟩ (fun i h hi hp _ => ⟨applyE_okN hp.1 _, by have : awL.length = 4 := rfl; omega⟩) (fun i h hp => hp.1.okH (by omega))
  rw [awR] at H13
  have HB0 := Aside0.mk hb0
  have H13 := Aside0.mk H13
  have HOK := Aside0.mk (awOk.okH (by decide))
  clear hb0
  go_enter Try.func9, Try.ntmps9
  go_wp2_with (first
    | (go_at_call 13; refine H13.out.mono ?_; rintro e w2 ⟨v0, v1, v2, rfl, hw, hb⟩; obtain ⟨A0, c0, A1, c1, A2, c2, rfl, rfl, rfl, hV, hF⟩ := HW.open hw; have HV2 := Aside0.mk hV; have HF2 := Aside0.mk hF; have HB2 := Aside0.mk (HB0.out.trans (hb.mono (by simp))); have hz2 := HB2.out.size; clear hb hw hV hF)
    | (go_at_call 25; have H25 := f25_calls A0 c0 awH.f0 A1 c1 awH.f1 A2 c2 awH.f2 0 sW (w2.alloc (.cells #[.slice A0 awH.f0.length c0, .slice A1 awH.f1.length c1, .slice A2 awH.f2.length c2, .int .i64 0] 27)) (HV2.out.below (below_alloc (Below.refl _ _) _)) HOK.out.o1 HOK.out.n1; rw [awB.1, awB.2] at H25; refine H25.mono ?_; clear H25; rintro e w3 ⟨rfl, hb⟩; have HBx3 := Aside0.mk (Below.trans (below_alloc (Below.refl w2.heap.size w2) (.cells #[.slice A0 awH.f0.length c0, .slice A1 awH.f1.length c1, .slice A2 awH.f2.length c2, .int .i64 0] 27)) (hb.mono (by simp))); have BK3 := Aside0.mk ((hb.block _ (by simp)).trans (heap_alloc_new w2 _)); have hz3 := hb.size; simp only [World.size_alloc] at hz3; obtain ⟨⟨a0, a1, a2, a3⟩, p0, p1, p2, p3⟩ := blk4 BK3.out; clear hb)
    | (go_at_call 19; have H19 := f19_calls A0 c0 awH.f0 A1 c1 awH.f1 A2 c2 awH.f2 0 2 3 (by decide) (by decide) awWf HOK.out.n0 w3 _ (HF2.out.below HBx3.out).f0; rw [awM] at H19; refine H19.mono ?_; clear H19 a0 a1 a2 a3 p0 p1 p2 p3; rintro e w4 ⟨rfl, hb⟩; have HBx4 := Aside0.mk (HBx3.out.trans (hb.mono (by omega))); have BK4 := Aside0.mk ((hb.block _ (by omega)).trans BK3.out); have hz4 := hb.size; obtain ⟨⟨a0, a1, a2, a3⟩, p0, p1, p2, p3⟩ := blk4 BK4.out; clear hb)
    | (go_at_call 10; refine (f10_E A0 c0 A1 c1 A2 c2 awH ⟨1, 4, 1, 0, 0, sMain⟩ eS27 14 w4 (HV2.out.below HBx4.out) HOK.out _ (HF2.out.below HBx4.out) aw5).mono ?_; clear a0 a1 a2 a3 p0 p1 p2 p3; rintro e w5 ⟨u0, u1, u2, rfl, hw5, hb⟩; have HBx5 := Aside0.mk (HBx4.out.trans (hb.mono (by omega))); have BK5 := Aside0.mk ((hb.block _ (by omega)).trans BK4.out); have hz5 := hb.size; have hq5 : w2.heap.size < w5.heap.size := (by omega); obtain ⟨⟨B0, d0, rfl, -, -⟩, ⟨B1, d1, rfl, -, -⟩, ⟨B2, d2, rfl, -, -⟩⟩ := hw5; obtain ⟨⟨a0, a1, a2, a3⟩, p0, p1, p2, p3⟩ := blk4 BK5.out; clear hb)
    | (go_at_call 17; refine (f17_calls A0 c0 awH.f0 A1 c1 awH.f1 A2 c2 awH.f2 0 3 [3, 1] awC (by decide) _ (HV2.out.below (below_alloc HBx5.out _)) HOK.out.o0 HOK.out.n0).mono ?_; rintro e w6 ⟨v, rfl, hr, hb⟩; have HB6 := Aside0.mk (HB2.out.trans ((below_alloc HBx5.out _).trans (hb.mono (by simp; omega)) |>.mono HB2.out.size)); obtain ⟨B3, d3, rfl⟩ := Kd.R_slice hr; clear hr hb))
  go_ret
  exact ⟨rfl, HB6.out⟩
end Go.Proofs.Ytjeoabjccbinhaa.P
