/- What Go functions of the given program return, told as Lean functions, and the walks that show it, with plain facts on them: H56. Conditions: the hypotheses that stand at each theorem. -/
import Derived.Test.YtackcingpffidaaZv0
namespace Go.Proofs.Ytackcingpffidaa.P
open Go.RowKit Go.Proofs.YtackcingpffidaaW.PrintWords Go.Proofs.YtackcingpffidaaW.PrintLast Go.Proofs.YtackcingpffidaaW.PrintMore
set_option linter.unusedVariables false
set_option linter.unusedSimpArgs false
set_option maxHeartbeats 2000000 in
set_option maxRecDepth 100000 in
theorem f56_calls (gc : Nat) (t : TypeId) (cs : List Int) (w : World) (hcs : cs.length = 256) (hb : w.heap[gc]? = some (.cells (cs.map (Value.int .i64)).toArray t (0, 0))) :
    Calls Try.prog 56 #[.pointer (some ⟨gc, 0, none⟩)] w fun e w' => ∃ v, e = .returned v ∧ Kd.R (Kd.int .i64) 3 w' w.heap.size (fun _ => True) v cs ∧ Below w.heap.size w w' := by
  have HBK := Aside0.mk hb
  have HCS := Aside0.mk hcs
  clear hb hcs
  go_enter Try.func56, Try.ntmps56
  go_wp2
  go_loopg [3, 5] 4 (fun kq v3 v5 w' => ∃ i : Nat, v5 = .int .i64 i ∧ i ≤ 4 ∧ Aside0 (kq + i = 4) ∧ Aside0 (Kd.R (Kd.int .i64) 3 w' w.heap.size (fun _ => True) v3 (cs.take (i * 64))) ∧ Aside0 (Below w.heap.size w w'))
  case atStart => exact ⟨0, rfl, by omega, ⟨rfl⟩, ⟨by rw [Nat.zero_mul, List.take_zero]; exact Kd.R_nil _ _ _ _ _⟩, ⟨Below.refl _ _⟩⟩
  case round =>
    obtain ⟨i, rfl, hi, HK, HR, HB⟩ := hrel
    by_cases h4 : i < 4
    · cases gk with
      | zero => exact absurd HK.out (by omega)
      | succ k1 =>
        have hd1 : decide ((i : Int) < 4) = true := decide_eq_true (by omega)
        have hw2 : IntKind.i64.wrap ((i : Int) + 1) = ((i + 1 : Nat) : Int) := by rw [i64_w]; unfold wrap64; omega
        obtain ⟨A3, c3, rfl⟩ := Kd.R_slice HR.out
        have hlt : (i : Int) < 4 := by omega
        have HC : Aside0 (Kd.C (Kd.int .i64) wr (some ⟨gc, i * 64, none⟩) 64 ((cs.drop (i * 64)).take 64)) := ⟨by
          have hl : ((cs.drop (i * 64)).take 64).length = 64 := by rw [List.length_take, List.length_drop]; have := HCS.out; omega
          have hbk := blk_below HBK.out HB.out
          refine Kd.C_of_reads (enc := Value.int .i64) (d := (0 : Int)) (h1 := fun _ => rfl) ⟨hl, by decide, fun _ => ⟨_, rfl, fun j hj => ?_⟩⟩
          have hj2 : j < 64 := by omega
          have hcs := HCS.out
          rw [show (⟨gc, i * 64, none⟩ : Addr).add j = ⟨gc, i * 64 + j, none⟩ from by unfold Addr.add; split <;> simp_all, blk_cell hbk]
          simp [hj2, show i * 64 + j < cs.length by omega]⟩
        have HN := Aside0.mk (show (cs.take (i * 64)).length = i * 64 from by rw [List.length_take]; have := HCS.out; omega)
        have hn := HN.out
        have hz := below_size HB.out
        have HT : Aside0 (cs.take (i * 64) ++ (cs.drop (i * 64)).take 64 = cs.take ((i + 1) * 64)) := ⟨by rw [Nat.add_mul, Nat.one_mul, List.take_add]⟩
        go_wp2_with ((with_reducible refine gate_dst (N := 14) rfl ?_); refine Kd.R_append_row (Value.int .i64) 0 (h1 := fun _ => rfl) (w0 := w) (W := wr) w.heap.size rfl (.tmp 8) (.tmp 13) 23 3 (.int .i64 0) 8 rfl Try.underlying23 info3 rfl (by decide) _ (cs.take (i * 64)) ((cs.drop (i * 64)).take 64) _ 64 64 (fun _ => True) rfl rfl (fun _ _ => trivial) HR.out HC.out HB.out hz (by omega) ?_; intro v1 w1 hR1 hB1 _ _; have HR1 := Aside0.mk hR1; have HB1 := Aside0.mk hB1; clear hR1 hB1)
        go_roundg k1
        case measure => omega
        case rel => exact ⟨i + 1, int_eq (by omega), by omega, ⟨by have := HK.out; omega⟩, ⟨by rw [← HT.out]; exact HR1.out⟩, HB1⟩
    · obtain rfl : i = 4 := by omega
      cases gk with
      | succ k1 => exact absurd HK.out (by omega)
      | zero =>
        have hd1 : decide ((4 : Int) < 4) = false := rfl
        go_wp2
        go_ret
        refine ⟨_, rfl, ?_, HB.out⟩
        have h_ := HR.out
        rwa [List.take_of_length_le (by have := HCS.out; omega)] at h_
end Go.Proofs.Ytackcingpffidaa.P
