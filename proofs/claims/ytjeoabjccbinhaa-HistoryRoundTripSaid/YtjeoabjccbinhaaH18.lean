/- history.FirstParents. Conditions: the hypotheses that stand at each theorem. -/
import Derived.Test.YtjeoabjccbinhaaH17
namespace Go.Proofs.Ytjeoabjccbinhaa.P
open Go.RowKit Go.Proofs.YtjeoabjccbinhaaW.PrintWords Go.Proofs.YtjeoabjccbinhaaW.PrintLast Go.Proofs.YtjeoabjccbinhaaW.PrintMore
set_option linter.unusedVariables false
set_option linter.unusedSimpArgs false
/-- The chain of first parents. -/
inductive Chain (l : List S41) : Int → List Int → Prop
  | stop {id : Int} : hasI l id = false → Chain l id []
  | step {id : Int} {xs : List Int} : hasI l id = true → Chain l (nodeI l id).f1 xs → Chain l id ((nodeI l id).f0 :: xs)
set_option maxHeartbeats 4000000 in
set_option maxRecDepth 100000 in
theorem f17_calls (A0 : Option Addr) (c0 : Nat) (l0 : List S41) (A1 : Option Addr) (c1 : Nat) (l1 : List S86) (A2 : Option Addr) (c2 : Nat) (l2 : List S86) (r : Int) (id : Int) (xs : List Int) (hc : Chain l0 id xs) (hlen : xs.length ≤ 1000) (w : World) (hr : HV w A0 c0 l0 A1 c1 l1 A2 c2 l2) (ho : okI l0) (hn : l0.length ≤ 1000) :
    Calls Try.prog 17 #[.agg #[.slice A0 l0.length c0, .slice A1 l1.length c1, .slice A2 l2.length c2, .int .i64 r], .int .i64 id] w fun e w' => ∃ v, e = .returned v ∧ Kd.R (Kd.int .i64) 2 w' w.heap.size (fun _ => True) v xs ∧ Below w.heap.size w w' := by
  have HB0 : Aside0 (Below w.heap.size w (w.alloc (.cells #[.slice A0 l0.length c0, .slice A1 l1.length c1, .slice A2 l2.length c2, .int .i64 r] 27))) := ⟨(Below.refl w.heap.size w).alloc (Nat.le_refl _) _⟩
  have HAL := Aside0.mk (heap_alloc_new w (.cells #[.slice A0 l0.length c0, .slice A1 l1.length c1, .slice A2 l2.length c2, .int .i64 r] 27))
  have HR := Aside0.mk hr
  have HO := Aside0.mk ho
  have HC := Aside0.mk hc
  have H16 := Aside0.mk (f16_calls A0 c0 l0 A1 c1 l1 A2 c2 l2 r id _ (hr.below HB0.out) ho hn)
  clear hr ho hc
  go_enter Try.func17, Try.ntmps17
  go_wp2_with (go_at_call 16; refine H16.out.mono ?_; rintro e w1 ⟨rfl, hb⟩; have HY := Aside0.mk hb; have hz1 := hb.size; simp only [World.size_alloc] at hz1; have HB1 := Aside0.mk (HB0.out.trans (hb.mono (by simp))); clear hb)
  go_loopg [5, 6, 7] xs.length (fun kq v5 v6 v7 w' => ∃ (acc rest : List Int) (c : S41) (okb : Bool) (cb : Nat), v6 = .pointer (some ⟨cb, 0, none⟩) ∧ v7 = .bool okb ∧ w.heap.size < cb ∧ Aside0 (kq = rest.length) ∧ Aside0 (xs = acc ++ rest) ∧ Aside0 ((okb = false ∧ rest = []) ∨ (okb = true ∧ ∃ rest', rest = c.f0 :: rest' ∧ Chain l0 c.f1 rest')) ∧ Aside0 (w'.heap[w.heap.size]? = some (.cells #[.slice A0 l0.length c0, .slice A1 l1.length c1, .slice A2 l2.length c2, .int .i64 r] 27 (0, 0))) ∧ Aside0 (w'.heap[cb]? = some (.cells #[.int .i64 c.f0, .int .i64 c.f1, .int .i64 c.f2, .int .i64 c.f3] 41 (0, 0))) ∧ Aside0 (Kd.R (Kd.int .i64) 2 w' (w.heap.size + 1) (fun _ => True) v5 acc) ∧ Aside0 (Below (w.heap.size + 1) (w.alloc (.cells #[.slice A0 l0.length c0, .slice A1 l1.length c1, .slice A2 l2.length c2, .int .i64 r] 27)) w'))
  case atStart =>
    refine ⟨[], xs, nodeI l0 id, hasI l0 id, w1.heap.size, rfl, rfl, by omega, ⟨rfl⟩, ⟨rfl⟩, ⟨?_⟩, ⟨?_⟩, ⟨heap_alloc_new _ _⟩, ⟨Kd.R_nil _ _ _ _ _⟩, ⟨?_⟩⟩
    · cases HC.out with
      | stop h => exact .inl ⟨h, rfl⟩
      | step h h2 => exact .inr ⟨h, _, rfl, h2⟩
    · exact blk_alloc ((HY.out.block _ (by simp)).trans HAL.out) _
    · exact (HY.out.mono (by simp)).alloc (by omega) _
  case round =>
    obtain ⟨acc, rest, c, okb, cb, rfl, rfl, hcb, HK, HX, HS, HBh, HBc, HOx, HBx⟩ := hrel
    obtain ⟨⟨a0, a1, a2, a3⟩, p0, p1, p2, p3⟩ := blk4 HBh.out
    obtain ⟨⟨b0, b1, b2, b3⟩, q0, q1, q2, q3⟩ := blk4 HBc.out
    have hcl := blk_lt HBc.out
    have hl := congrArg List.length HX.out
    rw [List.length_append] at hl
    cases okb with
    | false =>
      have hrest : rest = [] := by rcases HS.out with h | h; exact h.2; exact absurd h.1 (by decide)
      have HE : Aside0 (acc = xs) := ⟨by rw [HX.out, hrest, List.append_nil]⟩
      clear hrest hl
      go_wp2
      go_ret
      refine ⟨u5, rfl, ?_, HB0.out.trans (HBx.out.mono (by omega))⟩
      rw [← HE.out]
      exact Kd.R_lower HOx.out (by omega)
    | true =>
      obtain ⟨rest', hrest, hch⟩ : ∃ rest', rest = c.f0 :: rest' ∧ Chain l0 c.f1 rest' := by rcases HS.out with h | h; exact absurd h.1 (by decide); exact h.2
      subst hrest
      have HCH := Aside0.mk hch
      have hal : acc.length ≤ 1000 := by omega
      clear hch hl
      cases gk with
      | zero => exact absurd HK.out (by simp)
      | succ k1 =>
        go_wp2_with (first
          | ((with_reducible refine gate_builtin (b := .append) (xs := #[.tmp 22, .tmp 25]) rfl ?_); at_builtin; refine Kd.R_append (Kd.int .i64) (w0 := w.alloc (.cells #[.slice A0 l0.length c0, .slice A1 l1.length c1, .slice A2 l2.length c2, .int .i64 r] 27)) (w.heap.size + 1) rfl (.tmp 22) (.tmp 25) 45 2 (.int .i64 0) 8 rfl Try.underlying45 info2 rfl (by decide) (by omega) u5 acc c.f0 [.int .i64 c.f0] (fun _ => True) (fun _ => False) rfl rfl ?aP (fun _ hk => hk.elim) ?aF ?aO ?aB ?aS ?aL ?_; (case aP => rfl); (case aB => exact (by repeat (first | (with_reducible first | exact HBx.out | apply below_alloc | apply pw_below_drewN | apply below_drew1) | exact HBx.out))); (case aF => exact (fun _ _ => trivial)); (case aO => exact HOx.out); (case aS => omega); (case aL => omega); intro v7 w7 ho hb hg hat; have HO7 := Aside0.mk ho; have HB7 := Aside0.mk hb; have hz7 := hg.size; have hq7 : w.heap.size < w7.heap.size := (by omega); have hqc : cb < w7.heap.size := (by omega); have HBh7 : Aside0 (w7.heap[w.heap.size]? = some (.cells #[.slice A0 l0.length c0, .slice A1 l1.length c1, .slice A2 l2.length c2, .int .i64 r] 27 (0, 0))) := ⟨(hb.block _ (by omega)).trans HAL.out⟩; have HBc7 : Aside0 (w7.heap[cb]? = some (.cells #[.int .i64 c.f0, .int .i64 c.f1, .int .i64 c.f2, .int .i64 c.f3] 41 (0, 0))) := ⟨(hg.block cb hcl (Kd.R_ne HOx.out HBc.out (by decide))).trans HBc.out⟩; clear ho hb hg hat a0 a1 a2 a3 p0 p1 p2 p3 b0 b1 b2 b3 q0 q1 q2 q3; obtain ⟨⟨a0, a1, a2, a3⟩, p0, p1, p2, p3⟩ := blk4 HBh7.out; obtain ⟨⟨b0, b1, b2, b3⟩, q0, q1, q2, q3⟩ := blk4 HBc7.out)
          | (go_at_call 16; refine (f16_calls A0 c0 l0 A1 c1 l1 A2 c2 l2 r c.f1 (w7.alloc (.cells #[.int .i64 c.f0, .int .i64 c.f1, .int .i64 c.f2, .int .i64 c.f3] 41)) (HR.out.below (by exact (HB0.out.trans (HB7.out.mono (by omega))).alloc (by omega) _)) HO.out hn).mono ?_; clear a0 a1 a2 a3 p0 p1 p2 p3 b0 b1 b2 b3 q0 q1 q2 q3; rintro e w8 ⟨rfl, hb⟩; have HBn : Aside0 (w8.heap[w7.heap.size]? = some (.cells #[.int .i64 c.f0, .int .i64 c.f1, .int .i64 c.f2, .int .i64 c.f3] 41 (0, 0))) := ⟨(hb.block _ (by simp)).trans (heap_alloc_new _ _)⟩; have HO8 := Aside0.mk (Kd.R_below (Kd.R_alloc HO7.out (.cells #[.int .i64 c.f0, .int .i64 c.f1, .int .i64 c.f2, .int .i64 c.f3] 41)) hb); have HBh8 : Aside0 (w8.heap[w.heap.size]? = some (.cells #[.slice A0 l0.length c0, .slice A1 l1.length c1, .slice A2 l2.length c2, .int .i64 r] 27 (0, 0))) := ⟨(hb.block _ (by simp; omega)).trans (blk_alloc HBh7.out _)⟩; have HB8 : Aside0 (Below (w.heap.size + 1) (w.alloc (.cells #[.slice A0 l0.length c0, .slice A1 l1.length c1, .slice A2 l2.length c2, .int .i64 r] 27)) w8) := ⟨(HB7.out.alloc (by omega) _).trans (hb.mono (by simp; omega))⟩; have hz8 := hb.size; simp only [World.size_alloc] at hz8; have hq8 : w7.heap.size < w8.heap.size := (by omega); obtain ⟨⟨b0, b1, b2, b3⟩, q0, q1, q2, q3⟩ := blk4 HBn.out; clear hb))
        go_roundg k1
        case measure => omega
        case rel =>
          refine ⟨acc ++ [c.f0], rest', nodeI l0 c.f1, hasI l0 c.f1, w7.heap.size, rfl, rfl, by omega, ⟨by have := HK.out; simpa using this⟩, ⟨by rw [HX.out]; simp⟩, ⟨?_⟩, ⟨blk_far4 HBh8.out (by omega) _ _ _ _⟩, ⟨blk_set4 HBn.out⟩, ⟨?_⟩, ⟨below_set4 HB8.out (by omega) _ _ _ _⟩⟩
          · cases HCH.out with
            | stop h => exact .inl ⟨h, rfl⟩
            | step h h2 => exact .inr ⟨h, _, rfl, h2⟩
          · have t1 := Kd.R_set HO8.out HBn.out (by decide) 0 (.int .i64 (nodeI l0 c.f1).f0)
            have t2 := Kd.R_set t1 (blk_put HBn.out 0 _ rfl) (by decide) 1 (.int .i64 (nodeI l0 c.f1).f1)
            have t3 := Kd.R_set t2 (blk_put (blk_put HBn.out 0 _ rfl) 1 _ rfl) (by decide) 2 (.int .i64 (nodeI l0 c.f1).f2)
            exact Kd.R_set t3 (blk_put (blk_put (blk_put HBn.out 0 _ rfl) 1 _ rfl) 2 _ rfl) (by decide) 3 (.int .i64 (nodeI l0 c.f1).f3)
end Go.Proofs.Ytjeoabjccbinhaa.P
