/- What Go functions of the given program return, told as Lean functions, and the walks that show it, with plain facts on them: laminaref04_Hash, laminaref16_hashed, laminaref16_span, laminaref04_sign, laminaref04_Compare, laminaref04_Valid, laminaref04_Equal, U2, value_Hash, sketch_cell. Conditions: the hypotheses that stand at each theorem. -/
import Derived.Test.YtackcingpffidaaZa0
namespace Go.Proofs.Ytackcingpffidaa.P
open Go.RowKit Go.Proofs.YtackcingpffidaaW.PrintWords Go.Proofs.YtackcingpffidaaW.PrintLast Go.Proofs.YtackcingpffidaaW.PrintMore
attribute [local go_sem] max2_int min2_int max_two min_two max_three min_three max_four min_four Go.Proofs.YtackcingpffidaaQ.str_gtr Go.Proofs.YtackcingpffidaaQ.str_leq Go.Proofs.YtackcingpffidaaQ.str_geq   -- for this text's walks alone
set_option linter.unusedVariables false
set_option linter.unusedSimpArgs false
/-! ### laminaref04_Hash: function 62 -/
def laminaref04_Hash.l0 : Nat → List (S39) → Int → Int → Option (Int)
 | 0, _, _, _ => none
 | k + 1, x1, x5, x6 => if x6 < (x1.length : Int) then (if 0 ≤ x6 then (if ((rd_T39 x1 x6).f0) = 0 then ((laminaref02_Mix.f (Go.bits .xor .u64 x5 1)).bind fun t119 => (laminaref04_Hash.l0 k x1 t119 (wrap64 (x6 + 1)))) else (if ((rd_T39 x1 x6).f0) = 1 then ((laminaref02_Mix.f (Go.bits .xor .u64 x5 2)).bind fun t120 => ((laminaref02_Mix.f (Go.bits .xor .u64 t120 (IntKind.u64.wrap ((rd_T39 x1 x6).f1)))).bind fun t121 => (laminaref04_Hash.l0 k x1 t121 (wrap64 (x6 + 1))))) else (if ((rd_T39 x1 x6).f0) = 2 then ((laminaref02_Mix.f (Go.bits .xor .u64 x5 3)).bind fun t122 => ((laminaref02_Mix.f (Go.bits .xor .u64 t122 (IntKind.u64.wrap ((rd_T39 x1 x6).f1)))).bind fun t123 => (laminaref04_Hash.l0 k x1 t123 (wrap64 (x6 + 1))))) else (if ((rd_T39 x1 x6).f0) = 3 then ((laminaref02_Mix.f (Go.bits .xor .u64 x5 4)).bind fun tM => (if ((rd_T39 x1 x6).f2).size ≤ 9223372036854775807 then ((laminaref02_Hash.f k tM (bytesOf ((rd_T39 x1 x6).f2))).bind fun tH => (laminaref04_Hash.l0 k x1 tH (wrap64 (x6 + 1)))) else none)) else (laminaref04_Hash.l0 k x1 x5 (wrap64 (x6 + 1))))))) else (none)) else (some x5)
def laminaref04_Hash.f (k : Nat) (a0 : Int) (l1 : List (S39)) : Option (Int) := (laminaref02_Mix.f a0).bind fun t116 => (laminaref04_Hash.l0 k l1 t116 0)
theorem laminaref04_Hash.mono_l : ∀ k, (∀ y0 y1 y2, LeO (laminaref04_Hash.l0 k y0 y1 y2) (laminaref04_Hash.l0 (k + 1) y0 y1 y2))
 | 0 => fun _ _ _ r h => by simp [laminaref04_Hash.l0] at h
 | k + 1 => by
  have ih0 := laminaref04_Hash.mono_l k
  ·intro y0 y1 y2
   unfold laminaref04_Hash.l0
   repeat' first
   | (with_reducible exact laminaref02_Hash.mono _ _ _)
   | (with_reducible exact ih0 _ _ _)
   | (with_reducible exact LeO.refl _)
   | (with_reducible exact LeO.none _)
   | (with_reducible refine LeO.ite ?_ ?_)
   | (with_reducible refine LeO.bind ?_ (fun _ => ?_))
   | exact ih0 _ _ _
   | exact LeO.none _
   | refine LeO.ite ?_ ?_
   | refine LeO.bind ?_ (fun _ => ?_)
theorem laminaref04_Hash.mono : ∀ a0 a1 k, LeO (laminaref04_Hash.f k a0 a1) (laminaref04_Hash.f (k + 1) a0 a1) := by
 intro a0 a1 k
 have ih0 := laminaref04_Hash.mono_l k
 unfold laminaref04_Hash.f
 repeat' first
   | (with_reducible exact laminaref02_Hash.mono _ _ _)
   | (with_reducible exact ih0 _ _ _)
   | (with_reducible exact LeO.refl _)
   | (with_reducible exact LeO.none _)
   | (with_reducible refine LeO.ite ?_ ?_)
   | (with_reducible refine LeO.bind ?_ (fun _ => ?_))
   | exact ih0 _ _ _
   | exact LeO.none _
   | refine LeO.ite ?_ ?_
   | refine LeO.bind ?_ (fun _ => ?_)
set_option maxHeartbeats 8000000 in
set_option maxRecDepth 100000 in
theorem laminaref04_Hash.calls (k : Nat) (a0 : Int) (A1 : Option Addr) (c1 : Nat) (l1 : List (S39)) (r : Int) (w : World) (hr1 : Kd.C k39 w A1 l1.length l1) (hc1 : l1.length ≤ c1) (h : laminaref04_Hash.f k a0 l1 = some r) :
  Calls Try.prog 62 #[.int .u64 a0, .slice A1 l1.length c1] w fun e w' => e = .returned (.int .u64 r) ∧ Below w.heap.size w w' := by
 have hu39 := Try.underlying39
 have HR1 := Aside0.mk hr1
 have HC1 := Aside0.mk hc1
 clear hr1 hc1
 have HB := Aside0.mk (Below.refl w.heap.size w)
 have H : ((laminaref02_Mix.f a0).bind fun t116 => (laminaref04_Hash.l0 k l1 t116 0)) = some r := h
 clear h
 replace H := Option.bind_eq_some_iff.mp H
 obtain ⟨t116, A30, H⟩ := H
 replace H : (laminaref04_Hash.l0 k l1 t116 0) = some r := H
 have A3 := Aside0.mk A30
 clear A30
 have H' := Aside0.mk H
 clear H
 go_enter Try.func62, Try.ntmps62
 go_wp2_with (first | (go_at_call 105; (with_reducible refine (laminaref02_Mix.calls a0 t116 _ A3.out).mono ?_); rintro e w' ⟨rfl, ⟨nd, rfl⟩⟩; (try first | exact ⟨rfl, _, World.drewN_drewN _ _ _⟩ | exact ⟨rfl, _, Eq.trans (World.drewN_drewN _ _ _) (congrArg (World.drewN _) (Nat.add_assoc _ _ _))⟩)))
 repeat (go_quiet (first | (go_at_call 105; (with_reducible refine (laminaref02_Mix.calls a0 t116 _ A3.out).mono ?_); rintro e w' ⟨rfl, ⟨nd, rfl⟩⟩; (try first | exact ⟨rfl, _, World.drewN_drewN _ _ _⟩ | exact ⟨rfl, _, Eq.trans (World.drewN_drewN _ _ _) (congrArg (World.drewN _) (Nat.add_assoc _ _ _))⟩))); try go_wp2_with (first | (go_at_call 105; (with_reducible refine (laminaref02_Mix.calls a0 t116 _ A3.out).mono ?_); rintro e w' ⟨rfl, ⟨nd, rfl⟩⟩; (try first | exact ⟨rfl, _, World.drewN_drewN _ _ _⟩ | exact ⟨rfl, _, Eq.trans (World.drewN_drewN _ _ _) (congrArg (World.drewN _) (Nat.add_assoc _ _ _))⟩))))
 go_loopg [5, 6] k (fun kq v5 v6 w' => ∃ (x5_1 : Int) (x6_1 : Int), v5 = .int .u64 x5_1 ∧ v6 = .int .i64 x6_1 ∧ Aside0 (laminaref04_Hash.l0 kq l1 x5_1 x6_1 = some r) ∧ Aside0 (kq ≤ k) ∧ Aside0 (Below w.heap.size w w'))
 case atStart => exact ⟨(t116), (0), (by first | rfl | (simp; done) | (simp [*]; done)), (by first | rfl | (simp; done) | (simp [*]; done)), H', ⟨Nat.le_refl _⟩, ⟨(hb_ HB.out)⟩⟩
 case round =>
  clear H'
  try clear c1
  try clear p2
  obtain ⟨x5_1, x6_1, rfl, rfl, HA, HK1, HB⟩ := hrel
  cases gk with
  | zero => exact absurd HA.out (by simp [laminaref04_Hash.l0])
  | succ k1 =>
   have H := HA.out
   clear HA
   simp only [laminaref04_Hash.l0] at H
   by_cases c4 : x6_1 < (l1.length : Int)
   ·rw [if_pos c4] at H
    have c4b0 : decide (x6_1 < (l1.length : Int)) = true := decide_eq_true c4
    clear c4
    by_cases c5 : 0 ≤ x6_1
    ·rw [if_pos c5] at H
     have c5b0 : decide (0 ≤ x6_1) = true := decide_eq_true c5
     clear c5
     by_cases c6 : ((rd_T39 l1 x6_1).f0) = 0
     ·rw [if_pos c6] at H
      have c6b0 : (((rd_T39 l1 x6_1).f0) == 0) = true := beq_iff_eq.mpr c6
      have c6b1 : (((rd_T39 l1 x6_1).f0) != 0) = false := bne_eq_false_iff_eq.mpr c6
      clear c6
      replace H := Option.bind_eq_some_iff.mp H
      obtain ⟨t119, A70, H⟩ := H
      replace H : (laminaref04_Hash.l0 k1 l1 t119 (wrap64 (x6_1 + 1))) = some r := H
      have A7 := Aside0.mk A70
      clear A70
      have H' := Aside0.mk H
      clear H
      have p117 : 0 ≤ (x6_1 : Int) := of_decide_eq_true (by first | (with_reducible assumption) | assumption)
      have q117 : x6_1 < (l1.length : Int) := of_decide_eq_true (by first | (with_reducible assumption) | assumption)
      obtain ⟨ad117, e117, hx117_0, hx117_1, hx117_2⟩ := at_T39 HR1.out x6_1 p117 q117
      cases e117
      replace hx117_0 := up_ HB.out hx117_0
      replace hx117_1 := up_ HB.out hx117_1
      replace hx117_2 := up_ HB.out hx117_2
      replace p117 := eq_true p117
      replace q117 := eq_true q117
      go_wp2_with (first | ((with_reducible refine gate_dst (N := 7) rfl ?_); refine box_ 7 (cs := #[.int .i64 0, .int .i64 0, .string (⟨#[]⟩ : ByteArray)]) (t := 39) ?_; intro gb118 hg w8 hbox hb; have BK118 := Aside0.mk (hbox); have GW118 := Aside0.mk ((by rw [hg]; exact (below_size (hb_ HB.out)) : w.heap.size ≤ gb118)); have GE118 := Aside0.mk ((by rw [hg]; exact (below_size (hb_ HB.out)) : w.heap.size ≤ gb118)); replace HB := Aside0.mk (below_step (hb_ HB.out) hb); clear hb hbox hg; obtain ⟨hcz9_0, hcz9_1, hcz9_2, hfz9_0, hfz9_1, hfz9_2⟩ := bf3 BK118.out) | (go_at_call 105; (with_reducible refine (laminaref02_Mix.calls (Go.bits .xor .u64 x5_1 1) t119 _ A7.out).mono ?_); rintro e w' ⟨rfl, ⟨nd, rfl⟩⟩; (try first | exact ⟨rfl, _, World.drewN_drewN _ _ _⟩ | exact ⟨rfl, _, Eq.trans (World.drewN_drewN _ _ _) (congrArg (World.drewN _) (Nat.add_assoc _ _ _))⟩)))
      repeat (go_quiet (first | ((with_reducible refine gate_dst (N := 7) rfl ?_); refine box_ 7 (cs := #[.int .i64 0, .int .i64 0, .string (⟨#[]⟩ : ByteArray)]) (t := 39) ?_; intro gb118 hg w8 hbox hb; have BK118 := Aside0.mk (hbox); have GW118 := Aside0.mk ((by rw [hg]; exact (below_size (hb_ HB.out)) : w.heap.size ≤ gb118)); have GE118 := Aside0.mk ((by rw [hg]; exact (below_size (hb_ HB.out)) : w.heap.size ≤ gb118)); replace HB := Aside0.mk (below_step (hb_ HB.out) hb); clear hb hbox hg; obtain ⟨hcz9_0, hcz9_1, hcz9_2, hfz9_0, hfz9_1, hfz9_2⟩ := bf3 BK118.out) | (go_at_call 105; (with_reducible refine (laminaref02_Mix.calls (Go.bits .xor .u64 x5_1 1) t119 _ A7.out).mono ?_); rintro e w' ⟨rfl, ⟨nd, rfl⟩⟩; (try first | exact ⟨rfl, _, World.drewN_drewN _ _ _⟩ | exact ⟨rfl, _, Eq.trans (World.drewN_drewN _ _ _) (congrArg (World.drewN _) (Nat.add_assoc _ _ _))⟩))); try go_wp2_with (first | ((with_reducible refine gate_dst (N := 7) rfl ?_); refine box_ 7 (cs := #[.int .i64 0, .int .i64 0, .string (⟨#[]⟩ : ByteArray)]) (t := 39) ?_; intro gb118 hg w8 hbox hb; have BK118 := Aside0.mk (hbox); have GW118 := Aside0.mk ((by rw [hg]; exact (below_size (hb_ HB.out)) : w.heap.size ≤ gb118)); have GE118 := Aside0.mk ((by rw [hg]; exact (below_size (hb_ HB.out)) : w.heap.size ≤ gb118)); replace HB := Aside0.mk (below_step (hb_ HB.out) hb); clear hb hbox hg; obtain ⟨hcz9_0, hcz9_1, hcz9_2, hfz9_0, hfz9_1, hfz9_2⟩ := bf3 BK118.out) | (go_at_call 105; (with_reducible refine (laminaref02_Mix.calls (Go.bits .xor .u64 x5_1 1) t119 _ A7.out).mono ?_); rintro e w' ⟨rfl, ⟨nd, rfl⟩⟩; (try first | exact ⟨rfl, _, World.drewN_drewN _ _ _⟩ | exact ⟨rfl, _, Eq.trans (World.drewN_drewN _ _ _) (congrArg (World.drewN _) (Nat.add_assoc _ _ _))⟩))))
      go_roundg k1
      case measure => have := HK1.out; omega
      case rel => exact ⟨(t119), (wrap64 (x6_1 + 1)), (by first | rfl | (simp; done) | (simp [*]; done)), (by first | rfl | (simp; done) | (simp [*]; done)), H', ⟨by have := HK1.out; omega⟩, ⟨(hb1_ HB.out GE118.out)⟩⟩
     ·rw [if_neg c6] at H
      have c6b0 : (((rd_T39 l1 x6_1).f0) == 0) = false := beq_eq_false_iff_ne.mpr c6
      have c6b1 : (((rd_T39 l1 x6_1).f0) != 0) = true := bne_iff_ne.mpr c6
      by_cases c10 : ((rd_T39 l1 x6_1).f0) = 1
      ·rw [if_pos c10] at H
       have c10b0 : (((rd_T39 l1 x6_1).f0) == 1) = true := beq_iff_eq.mpr c10
       have c10b1 : (((rd_T39 l1 x6_1).f0) != 1) = false := bne_eq_false_iff_eq.mpr c10
       clear c10
       replace H := Option.bind_eq_some_iff.mp H
       obtain ⟨t120, A110, H⟩ := H
       replace H : ((laminaref02_Mix.f (Go.bits .xor .u64 t120 (IntKind.u64.wrap ((rd_T39 l1 x6_1).f1)))).bind fun t121 => (laminaref04_Hash.l0 k1 l1 t121 (wrap64 (x6_1 + 1)))) = some r := H
       have A11 := Aside0.mk A110
       clear A110
       replace H := Option.bind_eq_some_iff.mp H
       obtain ⟨t121, A120, H⟩ := H
       replace H : (laminaref04_Hash.l0 k1 l1 t121 (wrap64 (x6_1 + 1))) = some r := H
       have A12 := Aside0.mk A120
       clear A120
       have H' := Aside0.mk H
       clear H
       have p117 : 0 ≤ (x6_1 : Int) := of_decide_eq_true (by first | (with_reducible assumption) | assumption)
       have q117 : x6_1 < (l1.length : Int) := of_decide_eq_true (by first | (with_reducible assumption) | assumption)
       obtain ⟨ad117, e117, hx117_0, hx117_1, hx117_2⟩ := at_T39 HR1.out x6_1 p117 q117
       cases e117
       replace hx117_0 := up_ HB.out hx117_0
       replace hx117_1 := up_ HB.out hx117_1
       replace hx117_2 := up_ HB.out hx117_2
       replace p117 := eq_true p117
       replace q117 := eq_true q117
       go_wp2_with (first | ((with_reducible refine gate_dst (N := 7) rfl ?_); refine box_ 7 (cs := #[.int .i64 0, .int .i64 0, .string (⟨#[]⟩ : ByteArray)]) (t := 39) ?_; intro gb118 hg w13 hbox hb; have BK118 := Aside0.mk (hbox); have GW118 := Aside0.mk ((by rw [hg]; exact (below_size (hb_ HB.out)) : w.heap.size ≤ gb118)); have GE118 := Aside0.mk ((by rw [hg]; exact (below_size (hb_ HB.out)) : w.heap.size ≤ gb118)); replace HB := Aside0.mk (below_step (hb_ HB.out) hb); clear hb hbox hg; obtain ⟨hcz14_0, hcz14_1, hcz14_2, hfz14_0, hfz14_1, hfz14_2⟩ := bf3 BK118.out) | (go_at_call 105; (with_reducible refine (laminaref02_Mix.calls (Go.bits .xor .u64 x5_1 2) t120 _ A11.out).mono ?_); rintro e w' ⟨rfl, ⟨nd, rfl⟩⟩; (try first | exact ⟨rfl, _, World.drewN_drewN _ _ _⟩ | exact ⟨rfl, _, Eq.trans (World.drewN_drewN _ _ _) (congrArg (World.drewN _) (Nat.add_assoc _ _ _))⟩)) | (go_at_call 105; (with_reducible refine (laminaref02_Mix.calls (Go.bits .xor .u64 t120 (IntKind.u64.wrap ((rd_T39 l1 x6_1).f1))) t121 _ A12.out).mono ?_); rintro e w' ⟨rfl, ⟨nd, rfl⟩⟩; (try first | exact ⟨rfl, _, World.drewN_drewN _ _ _⟩ | exact ⟨rfl, _, Eq.trans (World.drewN_drewN _ _ _) (congrArg (World.drewN _) (Nat.add_assoc _ _ _))⟩)))
       repeat (go_quiet (first | ((with_reducible refine gate_dst (N := 7) rfl ?_); refine box_ 7 (cs := #[.int .i64 0, .int .i64 0, .string (⟨#[]⟩ : ByteArray)]) (t := 39) ?_; intro gb118 hg w13 hbox hb; have BK118 := Aside0.mk (hbox); have GW118 := Aside0.mk ((by rw [hg]; exact (below_size (hb_ HB.out)) : w.heap.size ≤ gb118)); have GE118 := Aside0.mk ((by rw [hg]; exact (below_size (hb_ HB.out)) : w.heap.size ≤ gb118)); replace HB := Aside0.mk (below_step (hb_ HB.out) hb); clear hb hbox hg; obtain ⟨hcz14_0, hcz14_1, hcz14_2, hfz14_0, hfz14_1, hfz14_2⟩ := bf3 BK118.out) | (go_at_call 105; (with_reducible refine (laminaref02_Mix.calls (Go.bits .xor .u64 x5_1 2) t120 _ A11.out).mono ?_); rintro e w' ⟨rfl, ⟨nd, rfl⟩⟩; (try first | exact ⟨rfl, _, World.drewN_drewN _ _ _⟩ | exact ⟨rfl, _, Eq.trans (World.drewN_drewN _ _ _) (congrArg (World.drewN _) (Nat.add_assoc _ _ _))⟩)) | (go_at_call 105; (with_reducible refine (laminaref02_Mix.calls (Go.bits .xor .u64 t120 (IntKind.u64.wrap ((rd_T39 l1 x6_1).f1))) t121 _ A12.out).mono ?_); rintro e w' ⟨rfl, ⟨nd, rfl⟩⟩; (try first | exact ⟨rfl, _, World.drewN_drewN _ _ _⟩ | exact ⟨rfl, _, Eq.trans (World.drewN_drewN _ _ _) (congrArg (World.drewN _) (Nat.add_assoc _ _ _))⟩))); try go_wp2_with (first | ((with_reducible refine gate_dst (N := 7) rfl ?_); refine box_ 7 (cs := #[.int .i64 0, .int .i64 0, .string (⟨#[]⟩ : ByteArray)]) (t := 39) ?_; intro gb118 hg w13 hbox hb; have BK118 := Aside0.mk (hbox); have GW118 := Aside0.mk ((by rw [hg]; exact (below_size (hb_ HB.out)) : w.heap.size ≤ gb118)); have GE118 := Aside0.mk ((by rw [hg]; exact (below_size (hb_ HB.out)) : w.heap.size ≤ gb118)); replace HB := Aside0.mk (below_step (hb_ HB.out) hb); clear hb hbox hg; obtain ⟨hcz14_0, hcz14_1, hcz14_2, hfz14_0, hfz14_1, hfz14_2⟩ := bf3 BK118.out) | (go_at_call 105; (with_reducible refine (laminaref02_Mix.calls (Go.bits .xor .u64 x5_1 2) t120 _ A11.out).mono ?_); rintro e w' ⟨rfl, ⟨nd, rfl⟩⟩; (try first | exact ⟨rfl, _, World.drewN_drewN _ _ _⟩ | exact ⟨rfl, _, Eq.trans (World.drewN_drewN _ _ _) (congrArg (World.drewN _) (Nat.add_assoc _ _ _))⟩)) | (go_at_call 105; (with_reducible refine (laminaref02_Mix.calls (Go.bits .xor .u64 t120 (IntKind.u64.wrap ((rd_T39 l1 x6_1).f1))) t121 _ A12.out).mono ?_); rintro e w' ⟨rfl, ⟨nd, rfl⟩⟩; (try first | exact ⟨rfl, _, World.drewN_drewN _ _ _⟩ | exact ⟨rfl, _, Eq.trans (World.drewN_drewN _ _ _) (congrArg (World.drewN _) (Nat.add_assoc _ _ _))⟩))))
       go_roundg k1
       case measure => have := HK1.out; omega
       case rel => exact ⟨(t121), (wrap64 (x6_1 + 1)), (by first | rfl | (simp; done) | (simp [*]; done)), (by first | rfl | (simp; done) | (simp [*]; done)), H', ⟨by have := HK1.out; omega⟩, ⟨(hb1_ HB.out GE118.out)⟩⟩
      ·rw [if_neg c10] at H
       have c10b0 : (((rd_T39 l1 x6_1).f0) == 1) = false := beq_eq_false_iff_ne.mpr c10
       have c10b1 : (((rd_T39 l1 x6_1).f0) != 1) = true := bne_iff_ne.mpr c10
       by_cases c15 : ((rd_T39 l1 x6_1).f0) = 2
       ·rw [if_pos c15] at H
        have c15b0 : (((rd_T39 l1 x6_1).f0) == 2) = true := beq_iff_eq.mpr c15
        have c15b1 : (((rd_T39 l1 x6_1).f0) != 2) = false := bne_eq_false_iff_eq.mpr c15
        clear c15
        replace H := Option.bind_eq_some_iff.mp H
        obtain ⟨t122, A160, H⟩ := H
        replace H : ((laminaref02_Mix.f (Go.bits .xor .u64 t122 (IntKind.u64.wrap ((rd_T39 l1 x6_1).f1)))).bind fun t123 => (laminaref04_Hash.l0 k1 l1 t123 (wrap64 (x6_1 + 1)))) = some r := H
        have A16 := Aside0.mk A160
        clear A160
        replace H := Option.bind_eq_some_iff.mp H
        obtain ⟨t123, A170, H⟩ := H
        replace H : (laminaref04_Hash.l0 k1 l1 t123 (wrap64 (x6_1 + 1))) = some r := H
        have A17 := Aside0.mk A170
        clear A170
        have H' := Aside0.mk H
        clear H
        have p117 : 0 ≤ (x6_1 : Int) := of_decide_eq_true (by first | (with_reducible assumption) | assumption)
        have q117 : x6_1 < (l1.length : Int) := of_decide_eq_true (by first | (with_reducible assumption) | assumption)
        obtain ⟨ad117, e117, hx117_0, hx117_1, hx117_2⟩ := at_T39 HR1.out x6_1 p117 q117
        cases e117
        replace hx117_0 := up_ HB.out hx117_0
        replace hx117_1 := up_ HB.out hx117_1
        replace hx117_2 := up_ HB.out hx117_2
        replace p117 := eq_true p117
        replace q117 := eq_true q117
        go_wp2_with (first | ((with_reducible refine gate_dst (N := 7) rfl ?_); refine box_ 7 (cs := #[.int .i64 0, .int .i64 0, .string (⟨#[]⟩ : ByteArray)]) (t := 39) ?_; intro gb118 hg w18 hbox hb; have BK118 := Aside0.mk (hbox); have GW118 := Aside0.mk ((by rw [hg]; exact (below_size (hb_ HB.out)) : w.heap.size ≤ gb118)); have GE118 := Aside0.mk ((by rw [hg]; exact (below_size (hb_ HB.out)) : w.heap.size ≤ gb118)); replace HB := Aside0.mk (below_step (hb_ HB.out) hb); clear hb hbox hg; obtain ⟨hcz19_0, hcz19_1, hcz19_2, hfz19_0, hfz19_1, hfz19_2⟩ := bf3 BK118.out) | (go_at_call 105; (with_reducible refine (laminaref02_Mix.calls (Go.bits .xor .u64 x5_1 3) t122 _ A16.out).mono ?_); rintro e w' ⟨rfl, ⟨nd, rfl⟩⟩; (try first | exact ⟨rfl, _, World.drewN_drewN _ _ _⟩ | exact ⟨rfl, _, Eq.trans (World.drewN_drewN _ _ _) (congrArg (World.drewN _) (Nat.add_assoc _ _ _))⟩)) | (go_at_call 105; (with_reducible refine (laminaref02_Mix.calls (Go.bits .xor .u64 t122 (IntKind.u64.wrap ((rd_T39 l1 x6_1).f1))) t123 _ A17.out).mono ?_); rintro e w' ⟨rfl, ⟨nd, rfl⟩⟩; (try first | exact ⟨rfl, _, World.drewN_drewN _ _ _⟩ | exact ⟨rfl, _, Eq.trans (World.drewN_drewN _ _ _) (congrArg (World.drewN _) (Nat.add_assoc _ _ _))⟩)))
        repeat (go_quiet (first | ((with_reducible refine gate_dst (N := 7) rfl ?_); refine box_ 7 (cs := #[.int .i64 0, .int .i64 0, .string (⟨#[]⟩ : ByteArray)]) (t := 39) ?_; intro gb118 hg w18 hbox hb; have BK118 := Aside0.mk (hbox); have GW118 := Aside0.mk ((by rw [hg]; exact (below_size (hb_ HB.out)) : w.heap.size ≤ gb118)); have GE118 := Aside0.mk ((by rw [hg]; exact (below_size (hb_ HB.out)) : w.heap.size ≤ gb118)); replace HB := Aside0.mk (below_step (hb_ HB.out) hb); clear hb hbox hg; obtain ⟨hcz19_0, hcz19_1, hcz19_2, hfz19_0, hfz19_1, hfz19_2⟩ := bf3 BK118.out) | (go_at_call 105; (with_reducible refine (laminaref02_Mix.calls (Go.bits .xor .u64 x5_1 3) t122 _ A16.out).mono ?_); rintro e w' ⟨rfl, ⟨nd, rfl⟩⟩; (try first | exact ⟨rfl, _, World.drewN_drewN _ _ _⟩ | exact ⟨rfl, _, Eq.trans (World.drewN_drewN _ _ _) (congrArg (World.drewN _) (Nat.add_assoc _ _ _))⟩)) | (go_at_call 105; (with_reducible refine (laminaref02_Mix.calls (Go.bits .xor .u64 t122 (IntKind.u64.wrap ((rd_T39 l1 x6_1).f1))) t123 _ A17.out).mono ?_); rintro e w' ⟨rfl, ⟨nd, rfl⟩⟩; (try first | exact ⟨rfl, _, World.drewN_drewN _ _ _⟩ | exact ⟨rfl, _, Eq.trans (World.drewN_drewN _ _ _) (congrArg (World.drewN _) (Nat.add_assoc _ _ _))⟩))); try go_wp2_with (first | ((with_reducible refine gate_dst (N := 7) rfl ?_); refine box_ 7 (cs := #[.int .i64 0, .int .i64 0, .string (⟨#[]⟩ : ByteArray)]) (t := 39) ?_; intro gb118 hg w18 hbox hb; have BK118 := Aside0.mk (hbox); have GW118 := Aside0.mk ((by rw [hg]; exact (below_size (hb_ HB.out)) : w.heap.size ≤ gb118)); have GE118 := Aside0.mk ((by rw [hg]; exact (below_size (hb_ HB.out)) : w.heap.size ≤ gb118)); replace HB := Aside0.mk (below_step (hb_ HB.out) hb); clear hb hbox hg; obtain ⟨hcz19_0, hcz19_1, hcz19_2, hfz19_0, hfz19_1, hfz19_2⟩ := bf3 BK118.out) | (go_at_call 105; (with_reducible refine (laminaref02_Mix.calls (Go.bits .xor .u64 x5_1 3) t122 _ A16.out).mono ?_); rintro e w' ⟨rfl, ⟨nd, rfl⟩⟩; (try first | exact ⟨rfl, _, World.drewN_drewN _ _ _⟩ | exact ⟨rfl, _, Eq.trans (World.drewN_drewN _ _ _) (congrArg (World.drewN _) (Nat.add_assoc _ _ _))⟩)) | (go_at_call 105; (with_reducible refine (laminaref02_Mix.calls (Go.bits .xor .u64 t122 (IntKind.u64.wrap ((rd_T39 l1 x6_1).f1))) t123 _ A17.out).mono ?_); rintro e w' ⟨rfl, ⟨nd, rfl⟩⟩; (try first | exact ⟨rfl, _, World.drewN_drewN _ _ _⟩ | exact ⟨rfl, _, Eq.trans (World.drewN_drewN _ _ _) (congrArg (World.drewN _) (Nat.add_assoc _ _ _))⟩))))
        go_roundg k1
        case measure => have := HK1.out; omega
        case rel => exact ⟨(t123), (wrap64 (x6_1 + 1)), (by first | rfl | (simp; done) | (simp [*]; done)), (by first | rfl | (simp; done) | (simp [*]; done)), H', ⟨by have := HK1.out; omega⟩, ⟨(hb1_ HB.out GE118.out)⟩⟩
       ·rw [if_neg c15] at H
        have c15b0 : (((rd_T39 l1 x6_1).f0) == 2) = false := beq_eq_false_iff_ne.mpr c15
        have c15b1 : (((rd_T39 l1 x6_1).f0) != 2) = true := bne_iff_ne.mpr c15
        by_cases c20 : ((rd_T39 l1 x6_1).f0) = 3
        ·rw [if_pos c20] at H
         have c20b0 : (((rd_T39 l1 x6_1).f0) == 3) = true := beq_iff_eq.mpr c20
         have c20b1 : (((rd_T39 l1 x6_1).f0) != 3) = false := bne_eq_false_iff_eq.mpr c20
         clear c20
         replace H := Option.bind_eq_some_iff.mp H
         obtain ⟨tM, AM0, H⟩ := H
         have AM := Aside0.mk AM0
         clear AM0
         replace H : (if ((rd_T39 l1 x6_1).f2).size ≤ 9223372036854775807 then ((laminaref02_Hash.f k1 tM (bytesOf ((rd_T39 l1 x6_1).f2))).bind fun tH => (laminaref04_Hash.l0 k1 l1 tH (wrap64 (x6_1 + 1)))) else none) = some r := H
         by_cases hsz : ((rd_T39 l1 x6_1).f2).size ≤ 9223372036854775807
         ·rw [if_pos hsz] at H
          obtain ⟨tH, AH0, H⟩ := Option.bind_eq_some_iff.mp H
          have AH := Aside0.mk AH0
          have H' := Aside0.mk H
          clear AH0 H
          have pT : 0 ≤ (x6_1 : Int) := of_decide_eq_true (by first | (with_reducible assumption) | assumption)
          have qT : x6_1 < (l1.length : Int) := of_decide_eq_true (by first | (with_reducible assumption) | assumption)
          obtain ⟨adT, eT, hxT_0, hxT_1, hxT_2⟩ := at_T39 HR1.out x6_1 pT qT
          cases eT
          replace hxT_0 := up_ HB.out hxT_0
          replace hxT_1 := up_ HB.out hxT_1
          replace hxT_2 := up_ HB.out hxT_2
          replace pT := eq_true pT
          replace qT := eq_true qT
          try go_wp2_with (first | ((with_reducible refine gate_dst (N := 7) rfl ?_); refine box_ 7 (cs := #[.int .i64 0, .int .i64 0, .string (⟨#[]⟩ : ByteArray)]) (t := 39) ?_; intro gbT hg wa hbox hb; have BKT := Aside0.mk (hbox); have GWT := Aside0.mk ((by rw [hg]; exact (below_size (hb_ HB.out)) : w.heap.size ≤ gbT)); have GET := Aside0.mk ((by rw [hg]; exact (below_size (hb_ HB.out)) : w.heap.size ≤ gbT)); replace HB := Aside0.mk (below_step (hb_ HB.out) hb); clear hb hbox hg; have hcT_0 : wa.cell? ⟨gbT, 0, none⟩ = some (.int .i64 0) := (blk_cell BKT.out 0).trans rfl; have hcT_1 : wa.cell? ⟨gbT, 1, none⟩ = some (.int .i64 0) := (blk_cell BKT.out 1).trans rfl; have hcT_2 : wa.cell? ⟨gbT, 2, none⟩ = some (.string (⟨#[]⟩ : ByteArray)) := (blk_cell BKT.out 2).trans rfl; have hfT_0 := blk_frozen BKT.out 0; have hfT_1 := blk_frozen BKT.out 1; have hfT_2 := blk_frozen BKT.out 2))
          have n0_ : Aside0 ((((wa.setCell ⟨gbT, 0, none⟩ (.int .i64 ((rd_T39 l1 x6_1).f0))).setCell ⟨gbT, 1, none⟩ (.int .i64 ((rd_T39 l1 x6_1).f1))).setCell ⟨gbT, 2, none⟩ (.string ((rd_T39 l1 x6_1).f2))).heap[gbT]? = some (.cells #[.int .i64 ((rd_T39 l1 x6_1).f0), .int .i64 ((rd_T39 l1 x6_1).f1), .string ((rd_T39 l1 x6_1).f2)] 39 (0, 0))) := ⟨by (with_reducible repeat (first | refine blk_drewN ?_ _ | refine blk_drew ?_ | refine blk_alloc ?_ _)); refine blk_put (cs := #[.int .i64 ((rd_T39 l1 x6_1).f0), .int .i64 ((rd_T39 l1 x6_1).f1), .string (⟨#[]⟩ : ByteArray)]) ?_ 2 _ rfl; (with_reducible repeat (first | refine blk_drewN ?_ _ | refine blk_drew ?_ | refine blk_alloc ?_ _)); refine blk_put (cs := #[.int .i64 ((rd_T39 l1 x6_1).f0), .int .i64 0, .string (⟨#[]⟩ : ByteArray)]) ?_ 1 _ rfl; (with_reducible repeat (first | refine blk_drewN ?_ _ | refine blk_drew ?_ | refine blk_alloc ?_ _)); refine blk_put (cs := #[.int .i64 0, .int .i64 0, .string (⟨#[]⟩ : ByteArray)]) ?_ 0 _ rfl; (with_reducible repeat (first | refine blk_drewN ?_ _ | refine blk_drew ?_ | refine blk_alloc ?_ _)); exact BKT.out⟩
          have n1_ : Aside0 (Below w.heap.size w (((wa.setCell ⟨gbT, 0, none⟩ (.int .i64 ((rd_T39 l1 x6_1).f0))).setCell ⟨gbT, 1, none⟩ (.int .i64 ((rd_T39 l1 x6_1).f1))).setCell ⟨gbT, 2, none⟩ (.string ((rd_T39 l1 x6_1).f2)))) := ⟨by repeat (first | (with_reducible first | exact HB.out | apply below_alloc | apply pw_below_drewN | apply below_drew1 | refine below_set ?_ GET.out) | exact HB.out)⟩
          (try clear BKT)
          (try clear HB)
          generalize (((wa.setCell ⟨gbT, 0, none⟩ (.int .i64 ((rd_T39 l1 x6_1).f0))).setCell ⟨gbT, 1, none⟩ (.int .i64 ((rd_T39 l1 x6_1).f1))).setCell ⟨gbT, 2, none⟩ (.string ((rd_T39 l1 x6_1).f2))) = wc at n0_ n1_ ⊢
          have BKT := n0_
          have HB := n1_
          clear n0_ n1_
          replace BKT := Aside0.mk (blk_drew BKT.out)
          replace HB := Aside0.mk (below_drew1 HB.out)
          have kb := fun W => print_bytes (P := Try.prog) 9 27 5 Try.underlying9 Try.underlying27 Try.underlying5 ((rd_T39 l1 x6_1).f2) W
          refine start_ (n := 8) (S := fun w' => w'.cell? ⟨gbT, 0, none⟩ = some (.int .i64 ((rd_T39 l1 x6_1).f0)) ∧ w'.cell? ⟨gbT, 1, none⟩ = some (.int .i64 ((rd_T39 l1 x6_1).f1)) ∧ w'.cell? ⟨gbT, 2, none⟩ = some (.string ((rd_T39 l1 x6_1).f2))) (ds := []) #[false, false, false, false, false, false, false, false] (by kernel_rfl) rfl rfl (bc3 BKT.out) (fun hHeld => ?_)
          generalize wc.drew = wd at BKT HB hHeld ⊢
          refine pure_ (i := 0) (N := some 49) (v := ?_) (a' := ?_) #[true, false, false, false, false, false, false, false] rfl rfl (by kernel_rfl) (fun _ _ _ h => h) (Or.inl ⟨by rfl, ?_⟩) ?_ ?_
          rotate_left
          ·intro w'
           go_simp
           with_reducible rfl
          rotate_left
          ·simp only [Act.put, List.setIfInBounds_toArray, List.set_cons_zero, List.set_cons_succ, i64_w, i32_w]
           rfl
          refine pure_ (i := 1) (N := some 50) (v := ?_) (a' := ?_) #[true, true, false, false, false, false, false, false] rfl rfl (by kernel_rfl) (fun _ _ _ h => h) (Or.inl ⟨by rfl, ?_⟩) ?_ ?_
          rotate_left
          ·intro w'
           go_simp
           with_reducible rfl
          rotate_left
          ·simp only [Act.put, List.setIfInBounds_toArray, List.set_cons_zero, List.set_cons_succ, i64_w, i32_w]
           rfl
          refine pure_ (i := 3) (N := some 52) (v := ?_) (a' := ?_) #[true, true, false, true, false, false, false, false] rfl rfl (by kernel_rfl) (fun _ _ _ h => h) (Or.inl ⟨by rfl, ?_⟩) ?_ ?_
          rotate_left
          ·intro w'
           go_simp
           with_reducible rfl
          rotate_left
          ·simp only [Act.put, List.setIfInBounds_toArray, List.set_cons_zero, List.set_cons_succ, i64_w, i32_w]
           rfl
          refine take_ (i := 4) (N := some 53) (v := ?_) (a' := ?_) #[true, true, false, true, true, false, false, false] rfl rfl (by kernel_rfl) (fun _ _ _ h => h) (Or.inl ⟨by rfl, ?_⟩) hHeld ?_ ?_
          rotate_left
          ·rintro w' ⟨s0, s1, s2⟩
           go_simp
           with_reducible rfl
          rotate_left
          ·simp only [Act.put, List.setIfInBounds_toArray, List.set_cons_zero, List.set_cons_succ, i64_w, i32_w]
           rfl
          refine join_ (σ := Option Addr × Nat) 2 #[true, true, true, true, true, true, false, false] (fun s_ => [(51, .int .u64 tM), (54, .slice s_.1 ((rd_T39 l1 x6_1).f2).size s_.2)]) (fun s_ w' => w'.heap[gbT]? = some (.cells #[.int .i64 ((rd_T39 l1 x6_1).f0), .int .i64 ((rd_T39 l1 x6_1).f1), .string ((rd_T39 l1 x6_1).f2)] 39 (0, 0)) ∧ Kd.C (Kd.int .u8) w' s_.1 ((rd_T39 l1 x6_1).f2).size (bytesOf ((rd_T39 l1 x6_1).f2)) ∧ ((rd_T39 l1 x6_1).f2).size ≤ s_.2 ∧ Below w.heap.size w w') ?_ ?_
          rotate_left
          ·intro hCont
           refine two_ (i := 2) (j := 5) (Ni := some 51) (Nj := some 54) #[true, true, true, true, true, false, false, false] #[true, true, false, true, true, true, false, false] rfl rfl rfl rfl (by kernel_rfl) (by decide) (by decide) (fun K hK => ?_) (fun K hK => ?_)
           ·refine goes_ Try.func105 (by kernel_rfl) rfl #[.int .u64 (Go.bits .xor .u64 x5_1 4)] (by rfl) rfl rfl (by (try simp only [List.map_toArray, List.map_cons, List.map_nil]); rfl) ?_
            with_reducible refine (laminaref02_Mix.calls (Go.bits .xor .u64 x5_1 4) tM _ AM.out).mono ?_
            rintro e w' ⟨rfl, ⟨nd, rfl⟩⟩
            refine ⟨_, rfl, ?_⟩
            refine hK.out _ _ (bc3 BKT.out) (fun hHeld => ?_)
            clear hK K
            refine nm_ (some 51) ?_
            have n0_ := Aside0.mk (show (World.drewN wd nd).heap[gbT]? = some (.cells #[.int .i64 ((rd_T39 l1 x6_1).f0), .int .i64 ((rd_T39 l1 x6_1).f1), .string ((rd_T39 l1 x6_1).f2)] 39 (0, 0)) from by (with_reducible repeat (first | refine blk_drewN ?_ _ | refine blk_drew ?_ | refine blk_alloc ?_ _)); exact BKT.out)
            have n1_ := Aside0.mk (show Below w.heap.size w (World.drewN wd nd) from by repeat (first | (with_reducible first | exact HB.out | apply below_alloc | apply pw_below_drewN | apply below_drew1 | refine below_set ?_ GET.out) | exact HB.out))
            clear BKT HB
            generalize World.drewN wd nd = wq at n0_ n1_ hHeld ⊢
            have BKT := n0_
            have HB := n1_
            clear n0_ n1_
            refine one_ (i := 5) (N := some 54) #[true, true, true, true, true, true, false, false] rfl rfl (by kernel_rfl) (by decide) (fun K hK => ?_)
            refine value_ (w1 := ?_) (v := ?_) (by rfl) rfl ?_ ?_
            rotate_left 2
            ·go_simp
             constructor
             ·rfl
             ·rfl
            have hb2_ := bytes_below (Below.refl wq.heap.size wq) (Nat.le_refl _) 5 ((rd_T39 l1 x6_1).f2)
            have HCT := Aside0.mk (Kd.C_of_reads (d := (0 : Int)) (h1 := fun _ => rfl) (bytes_reads wq 5 ((rd_T39 l1 x6_1).f2) hsz))
            have hcap_ := grownCap_ge wq ((rd_T39 l1 x6_1).f2).size 0 5
            have n0_ := Aside0.mk (blk_below (g := gbT) (o := .cells #[.int .i64 ((rd_T39 l1 x6_1).f0), .int .i64 ((rd_T39 l1 x6_1).f1), .string ((rd_T39 l1 x6_1).f2)] 39 (0, 0)) BKT.out hb2_)
            have n1_ := Aside0.mk (below_step HB.out hb2_)
            clear BKT HB hb2_
            have BKT := n0_
            have HB := n1_
            clear n0_ n1_
            refine hK.out _ _ (bc3 BKT.out) (fun hHeld => ?_)
            clear hK K
            refine nm_ (some 54) ?_
            exact norm_ (by simp only [putAll, Act.put, List.setIfInBounds_toArray, List.set_cons_zero, List.set_cons_succ]) (hCont (some ⟨wq.heap.size, 0, none⟩, grownCap wq ((rd_T39 l1 x6_1).f2).size 0 5) _ ⟨BKT.out, HCT.out, hcap_, (hb_ HB.out)⟩)
           ·refine value_ (w1 := ?_) (v := ?_) (by rfl) rfl ?_ ?_
            rotate_left 2
            ·go_simp
             constructor
             ·rfl
             ·rfl
            have hb2_ := bytes_below (Below.refl wd.heap.size wd) (Nat.le_refl _) 5 ((rd_T39 l1 x6_1).f2)
            have HCT := Aside0.mk (Kd.C_of_reads (d := (0 : Int)) (h1 := fun _ => rfl) (bytes_reads wd 5 ((rd_T39 l1 x6_1).f2) hsz))
            have hcap_ := grownCap_ge wd ((rd_T39 l1 x6_1).f2).size 0 5
            have n0_ := Aside0.mk (blk_below (g := gbT) (o := .cells #[.int .i64 ((rd_T39 l1 x6_1).f0), .int .i64 ((rd_T39 l1 x6_1).f1), .string ((rd_T39 l1 x6_1).f2)] 39 (0, 0)) BKT.out hb2_)
            have n1_ := Aside0.mk (below_step HB.out hb2_)
            clear BKT HB hb2_
            have BKT := n0_
            have HB := n1_
            clear n0_ n1_
            refine hK.out _ _ (bc3 BKT.out) (fun hHeld => ?_)
            clear hK K
            refine nm_ (some 54) ?_
            refine one_ (i := 2) (N := some 51) #[true, true, true, true, true, true, false, false] rfl rfl (by kernel_rfl) (by decide) (fun K hK => ?_)
            refine goes_ Try.func105 (by kernel_rfl) rfl #[.int .u64 (Go.bits .xor .u64 x5_1 4)] (by rfl) rfl rfl (by (try simp only [List.map_toArray, List.map_cons, List.map_nil]); rfl) ?_
            with_reducible refine (laminaref02_Mix.calls (Go.bits .xor .u64 x5_1 4) tM _ AM.out).mono ?_
            rintro e w' ⟨rfl, ⟨nd, rfl⟩⟩
            refine ⟨_, rfl, ?_⟩
            refine hK.out _ _ (bc3 BKT.out) (fun hHeld => ?_)
            clear hK K
            refine nm_ (some 51) ?_
            exact norm_ (by simp only [putAll, Act.put, List.setIfInBounds_toArray, List.set_cons_zero, List.set_cons_succ]) (hCont (some ⟨wd.heap.size, 0, none⟩, grownCap wd ((rd_T39 l1 x6_1).f2).size 0 5) _ ⟨(bk_ BKT.out), (Kd.C_drewN HCT.out nd), hcap_, (hb_ HB.out)⟩)
          clear BKT HB
          rintro ⟨A_, cc_⟩ w' ⟨hbk_, hcc_, hcl_, hbb_⟩
          have BKT := Aside0.mk hbk_
          have HB := Aside0.mk hbb_
          have HCT := Aside0.mk hcc_
          clear hbk_ hbb_ hcc_
          refine norm_ (a' := ?_) ?_ ?_
          rotate_left
          ·simp only [putAll, Act.put, List.setIfInBounds_toArray, List.set_cons_zero, List.set_cons_succ]
           rfl
          refine one_ (i := 6) (N := some 55) #[true, true, true, true, true, true, true, false] rfl rfl (by kernel_rfl) (by decide) (fun K hK => ?_)
          refine goes_ Try.func106 (by kernel_rfl) rfl #[.int .u64 tM, .slice A_ ((rd_T39 l1 x6_1).f2).size cc_] (by rfl) rfl rfl (by (try simp only [List.map_toArray, List.map_cons, List.map_nil]); rfl) ?_
          rw [← bytesOf_length ((rd_T39 l1 x6_1).f2)] at HCT hcl_ ⊢
          with_reducible refine (laminaref02_Hash.calls k1 tM A_ cc_ (bytesOf ((rd_T39 l1 x6_1).f2)) tH _ HCT.out hcl_ AH.out).mono ?_
          rintro e w' ⟨rfl, ⟨nd, rfl⟩⟩
          refine ⟨_, rfl, ?_⟩
          refine hK.out _ _ (bc3 BKT.out) (fun hHeld => ?_)
          clear hK K
          refine nm_ (some 55) ?_
          refine pure_ (i := 7) (N := some 5) (v := ?_) (a' := ?_) #[true, true, true, true, true, true, true, true] rfl rfl (by kernel_rfl) (fun _ _ _ h => h) (Or.inl ⟨by rfl, ?_⟩) ?_ ?_
          rotate_left
          ·intro w'
           go_simp
           with_reducible rfl
          rotate_left
          ·simp only [Act.put, List.setIfInBounds_toArray, List.set_cons_zero, List.set_cons_succ, i64_w, i32_w]
           rfl
          refine done_ (by kernel_rfl) ?_
          try go_wp2
          go_roundg k1
          case measure => have := HK1.out; omega
          case rel => exact ⟨tH, (wrap64 (x6_1 + 1)), (by first | rfl | (simp; done) | (simp [*]; done)), (by first | rfl | (simp; done) | (simp [*]; done)), H', ⟨by have := HK1.out; omega⟩, ⟨(hb_ HB.out)⟩⟩
         ·rw [if_neg hsz] at H
          exact absurd H (by simp)
        ·rw [if_neg c20] at H
         have c20b0 : (((rd_T39 l1 x6_1).f0) == 3) = false := beq_eq_false_iff_ne.mpr c20
         have c20b1 : (((rd_T39 l1 x6_1).f0) != 3) = true := bne_iff_ne.mpr c20
         have H' := Aside0.mk H
         clear H
         have p117 : 0 ≤ (x6_1 : Int) := of_decide_eq_true (by first | (with_reducible assumption) | assumption)
         have q117 : x6_1 < (l1.length : Int) := of_decide_eq_true (by first | (with_reducible assumption) | assumption)
         obtain ⟨ad117, e117, hx117_0, hx117_1, hx117_2⟩ := at_T39 HR1.out x6_1 p117 q117
         cases e117
         replace hx117_0 := up_ HB.out hx117_0
         replace hx117_1 := up_ HB.out hx117_1
         replace hx117_2 := up_ HB.out hx117_2
         replace p117 := eq_true p117
         replace q117 := eq_true q117
         go_wp2_with (first | ((with_reducible refine gate_dst (N := 7) rfl ?_); refine box_ 7 (cs := #[.int .i64 0, .int .i64 0, .string (⟨#[]⟩ : ByteArray)]) (t := 39) ?_; intro gb118 hg w22 hbox hb; have BK118 := Aside0.mk (hbox); have GW118 := Aside0.mk ((by rw [hg]; exact (below_size (hb_ HB.out)) : w.heap.size ≤ gb118)); have GE118 := Aside0.mk ((by rw [hg]; exact (below_size (hb_ HB.out)) : w.heap.size ≤ gb118)); replace HB := Aside0.mk (below_step (hb_ HB.out) hb); clear hb hbox hg; obtain ⟨hcz23_0, hcz23_1, hcz23_2, hfz23_0, hfz23_1, hfz23_2⟩ := bf3 BK118.out))
         repeat (go_quiet (first | ((with_reducible refine gate_dst (N := 7) rfl ?_); refine box_ 7 (cs := #[.int .i64 0, .int .i64 0, .string (⟨#[]⟩ : ByteArray)]) (t := 39) ?_; intro gb118 hg w22 hbox hb; have BK118 := Aside0.mk (hbox); have GW118 := Aside0.mk ((by rw [hg]; exact (below_size (hb_ HB.out)) : w.heap.size ≤ gb118)); have GE118 := Aside0.mk ((by rw [hg]; exact (below_size (hb_ HB.out)) : w.heap.size ≤ gb118)); replace HB := Aside0.mk (below_step (hb_ HB.out) hb); clear hb hbox hg; obtain ⟨hcz23_0, hcz23_1, hcz23_2, hfz23_0, hfz23_1, hfz23_2⟩ := bf3 BK118.out)); try go_wp2_with (first | ((with_reducible refine gate_dst (N := 7) rfl ?_); refine box_ 7 (cs := #[.int .i64 0, .int .i64 0, .string (⟨#[]⟩ : ByteArray)]) (t := 39) ?_; intro gb118 hg w22 hbox hb; have BK118 := Aside0.mk (hbox); have GW118 := Aside0.mk ((by rw [hg]; exact (below_size (hb_ HB.out)) : w.heap.size ≤ gb118)); have GE118 := Aside0.mk ((by rw [hg]; exact (below_size (hb_ HB.out)) : w.heap.size ≤ gb118)); replace HB := Aside0.mk (below_step (hb_ HB.out) hb); clear hb hbox hg; obtain ⟨hcz23_0, hcz23_1, hcz23_2, hfz23_0, hfz23_1, hfz23_2⟩ := bf3 BK118.out)))
         go_roundg k1
         case measure => have := HK1.out; omega
         case rel => exact ⟨(x5_1), (wrap64 (x6_1 + 1)), (by first | rfl | (simp; done) | (simp [*]; done)), (by first | rfl | (simp; done) | (simp [*]; done)), H', ⟨by have := HK1.out; omega⟩, ⟨(hb1_ HB.out GE118.out)⟩⟩
    ·rw [if_neg c5] at H
     exact absurd H (by simp)
   ·rw [if_neg c4] at H
    have c4b0 : decide (x6_1 < (l1.length : Int)) = false := decide_eq_false c4
    clear c4
    obtain rfl := Option.some.inj H
    go_wp2
    repeat (go_quiet (fail); try go_wp2)
    go_ret
    exact er_ ((hb_ HB.out))
/-! ### laminaref16_hashed: function 75 -/
def laminaref16_hashed.l0 : Nat → Int → Int → Int → Int → List Int → Bool → List Int → List (S39) → List Int → Option (Bool)
 | 0, _, _, _, _, _, _, _, _, _ => none
 | k + 1, x5, x6, x126000, x126001, x126002, x126003, x126004, x126005, x126006 => if x6 < (x126002.length : Int) then (if 0 ≤ x6 then (if (rd x126002 x6) = x5 then (some true) else (laminaref16_hashed.l0 k x5 (wrap64 (x6 + 1)) x126000 x126001 x126002 x126003 x126004 x126005 x126006)) else (none)) else (some false)
def laminaref16_hashed.f (k : Nat) (a0_0 : Int) (a0_1 : Int) (l0_2 : List Int) (a0_3 : Bool) (l0_4 : List Int) (l0_5 : List (S39)) (l0_6 : List Int) (a1_0 : Int) (a1_1 : Int) (a1_2 : ByteArray) : Option (Bool) := (laminaref04_Hash.f k 3 (([(⟨a1_0, a1_1, a1_2⟩ : S39)] : List (S39)))).bind fun t130 => (laminaref16_hashed.l0 k t130 0 a0_0 a0_1 l0_2 a0_3 l0_4 l0_5 l0_6)
theorem laminaref16_hashed.mono_l : ∀ k, (∀ y0 y1 y2 y3 y4 y5 y6 y7 y8, LeO (laminaref16_hashed.l0 k y0 y1 y2 y3 y4 y5 y6 y7 y8) (laminaref16_hashed.l0 (k + 1) y0 y1 y2 y3 y4 y5 y6 y7 y8))
 | 0 => fun _ _ _ _ _ _ _ _ _ r h => by simp [laminaref16_hashed.l0] at h
 | k + 1 => by
  have ih0 := laminaref16_hashed.mono_l k
  ·intro y0 y1 y2 y3 y4 y5 y6 y7 y8
   unfold laminaref16_hashed.l0
   repeat' first
   | (with_reducible exact ih0 _ _ _ _ _ _ _ _ _)
   | (with_reducible exact laminaref04_Hash.mono _ _ _)
   | (with_reducible exact LeO.refl _)
   | (with_reducible exact LeO.none _)
   | (with_reducible refine LeO.ite ?_ ?_)
   | (with_reducible refine LeO.bind ?_ (fun _ => ?_))
   | exact ih0 _ _ _ _ _ _ _ _ _
   | exact laminaref04_Hash.mono _ _ _
   | exact LeO.none _
   | refine LeO.ite ?_ ?_
   | refine LeO.bind ?_ (fun _ => ?_)
theorem laminaref16_hashed.mono : ∀ a0 a1 a2 a3 a4 a5 a6 a7 a8 a9 k, LeO (laminaref16_hashed.f k a0 a1 a2 a3 a4 a5 a6 a7 a8 a9) (laminaref16_hashed.f (k + 1) a0 a1 a2 a3 a4 a5 a6 a7 a8 a9) := by
 intro a0 a1 a2 a3 a4 a5 a6 a7 a8 a9 k
 have ih0 := laminaref16_hashed.mono_l k
 unfold laminaref16_hashed.f
 repeat' first
   | (with_reducible exact ih0 _ _ _ _ _ _ _ _ _)
   | (with_reducible exact laminaref04_Hash.mono _ _ _)
   | (with_reducible exact LeO.refl _)
   | (with_reducible exact LeO.none _)
   | (with_reducible refine LeO.ite ?_ ?_)
   | (with_reducible refine LeO.bind ?_ (fun _ => ?_))
   | exact ih0 _ _ _ _ _ _ _ _ _
   | exact laminaref04_Hash.mono _ _ _
   | exact LeO.none _
   | refine LeO.ite ?_ ?_
   | refine LeO.bind ?_ (fun _ => ?_)
set_option maxHeartbeats 8000000 in
set_option maxRecDepth 100000 in
theorem laminaref16_hashed.calls (k : Nat) (a0_0 : Int) (a0_1 : Int) (A0_2 : Option Addr) (c0_2 : Nat) (l0_2 : List Int) (a0_3 : Bool) (A0_4 : Option Addr) (c0_4 : Nat) (l0_4 : List Int) (A0_5 : Option Addr) (c0_5 : Nat) (l0_5 : List (S39)) (A0_6 : Option Addr) (c0_6 : Nat) (l0_6 : List Int) (a1_0 : Int) (a1_1 : Int) (a1_2 : ByteArray) (r : Bool) (w : World) (hr0_2 : Kd.C (Kd.int .u64) w A0_2 l0_2.length l0_2) (hc0_2 : l0_2.length ≤ c0_2) (hr0_4 : Kd.C (Kd.int .i64) w A0_4 l0_4.length l0_4) (hc0_4 : l0_4.length ≤ c0_4) (hr0_5 : Kd.C k39 w A0_5 l0_5.length l0_5) (hc0_5 : l0_5.length ≤ c0_5) (hr0_6 : Kd.C (Kd.int .i64) w A0_6 l0_6.length l0_6) (hc0_6 : l0_6.length ≤ c0_6) (h : laminaref16_hashed.f k a0_0 a0_1 l0_2 a0_3 l0_4 l0_5 l0_6 a1_0 a1_1 a1_2 = some r) :
  Calls Try.prog 75 #[.agg #[.int .i64 a0_0, .int .i64 a0_1, .slice A0_2 l0_2.length c0_2, .bool a0_3, .slice A0_4 l0_4.length c0_4, .slice A0_5 l0_5.length c0_5, .slice A0_6 l0_6.length c0_6], .agg #[.int .i64 a1_0, .int .i64 a1_1, .string a1_2]] w fun e w' => e = .returned (.bool r) ∧ Below w.heap.size w w' := by
 have hu26 := Try.underlying26
 have hu39 := Try.underlying39
 have HR0_2 := Aside0.mk hr0_2
 have HC0_2 := Aside0.mk hc0_2
 clear hr0_2 hc0_2
 have HR0_4 := Aside0.mk hr0_4
 have HC0_4 := Aside0.mk hc0_4
 clear hr0_4 hc0_4
 have HR0_5 := Aside0.mk hr0_5
 have HC0_5 := Aside0.mk hc0_5
 clear hr0_5 hc0_5
 have HR0_6 := Aside0.mk hr0_6
 have HC0_6 := Aside0.mk hc0_6
 clear hr0_6 hc0_6
 have HB := Aside0.mk (Below.refl w.heap.size w)
 have H : ((laminaref04_Hash.f k 3 (([(⟨a1_0, a1_1, a1_2⟩ : S39)] : List (S39)))).bind fun t130 => (laminaref16_hashed.l0 k t130 0 a0_0 a0_1 l0_2 a0_3 l0_4 l0_5 l0_6)) = some r := h
 clear h
 obtain ⟨y127, hy127⟩ : ∃ y_ : List (S39), y_ = (([(⟨a1_0, a1_1, a1_2⟩ : S39)] : List (S39))) := ⟨_, rfl⟩
 replace H : ((laminaref04_Hash.f k 3 y127).bind fun t130 => (laminaref16_hashed.l0 k t130 0 a0_0 a0_1 l0_2 a0_3 l0_4 l0_5 l0_6)) = some r := by first | (rw [hy127]; with_reducible exact H) | (have H2_ := (Option.bind_some _ _).symm.trans H; rw [hy127]; with_reducible exact H2_) | (have H2_ := (Option.bind_some _ _).symm.trans H; with_reducible exact H2_) | with_reducible exact H | (rw [hy127]; exact H) | exact H
 have Ny127 := Aside0.mk hy127
 clear hy127
 replace H := Option.bind_eq_some_iff.mp H
 obtain ⟨t130, A30, H⟩ := H
 replace H : (laminaref16_hashed.l0 k t130 0 a0_0 a0_1 l0_2 a0_3 l0_4 l0_5 l0_6) = some r := H
 have A3 := Aside0.mk A30
 clear A30
 have H' := Aside0.mk H
 clear H
 go_enter Try.func75, Try.ntmps75
 go_wp2_with (first | ((with_reducible refine gate_dst (N := 2) rfl ?_); refine box_ 2 (cs := #[.int .i64 a0_0, .int .i64 a0_1, .slice A0_2 l0_2.length c0_2, .bool a0_3, .slice A0_4 l0_4.length c0_4, .slice A0_5 l0_5.length c0_5, .slice A0_6 l0_6.length c0_6]) (t := 26) ?_; intro gb125 hg w4 hbox hb; have BK125 := Aside0.mk (hbox); have GW125 := Aside0.mk ((by rw [hg]; exact (below_size (hb_ HB.out)) : w.heap.size ≤ gb125)); have GE125 := Aside0.mk ((by rw [hg]; exact (below_size (hb_ HB.out)) : w.heap.size ≤ gb125)); replace HB := Aside0.mk (below_step (hb_ HB.out) hb); clear hb hbox hg) | ((with_reducible refine gate_dst (N := 3) rfl ?_); refine box_ 3 (cs := #[.int .i64 a1_0, .int .i64 a1_1, .string a1_2]) (t := 39) ?_; intro gb126 hg w5 hbox hb; have BK126 := Aside0.mk (hbox); have GW126 := Aside0.mk ((by rw [hg]; exact (below_size (hb1_ HB.out GE125.out)) : w.heap.size ≤ gb126)); have GE126 := Aside0.mk ((by rw [hg]; exact (below_size (hb1_ HB.out GE125.out)) : w.heap.size ≤ gb126)); have NB125_126 := Aside0.mk ((by rw [hg]; exact Nat.ne_of_lt (blk_lt (bk_ BK125.out)) : gb125 ≠ gb126)); have NB126_125 := Aside0.mk ((by rw [hg]; exact Nat.ne_of_gt (blk_lt (bk_ BK125.out)) : gb126 ≠ gb125)); replace BK125 := Aside0.mk (blk_below (bk_ BK125.out) hb); replace HB := Aside0.mk (below_step (hb1_ HB.out GE125.out) hb); clear hb hbox hg; have hnb6 := NB126_125.out; have hnc6 := NB125_126.out; obtain ⟨hcz7_0, hcz7_1, hcz7_2, hfz7_0, hfz7_1, hfz7_2⟩ := bf3 BK126.out) | ((with_reducible refine gate_dst (N := 8) rfl ?_); refine Kd.R_lit k39 _ 39 ?hg (N := 8) ?hd (xs := ([(⟨a1_0, a1_1, a1_2⟩ : S39)] : List (S39))) (inner := [.int .i64 a1_0, .int .i64 a1_1, .string a1_2]) (ok := fun _ => True) (okp := fun _ => True) ?hr ?hp (fun _ hk => hk) trivial (Below.refl _ _) (Nat.le_refl _) (by simp) ?_; (case hd => rfl); (case hg => rfl); (case hr => first | (go_simp; done) | (go_simp; rfl)); (case hp => exact (Reps.c3 (show Kd.M k39 _ _ _ (⟨a1_0, a1_1, a1_2⟩ : S39) [.int .i64 a1_0, .int .i64 a1_1, .string a1_2] from (k39_mkM _ _ _ (⟨a1_0, a1_1, a1_2⟩ : S39) )) (Reps.none _ _))); intro v128 w8 ho9 hb hg_ hnew_; clear hg_ hnew_; (first | rw [← Ny127.out] at ho9 | (simp only [Int.reduceToNat] at ho9; rw [← Ny127.out] at ho9)); have HO129 := Aside0.mk (Kd.R_lower (Kd.R_newB ho9 (g := gb126) (o := .cells #[.int .i64 a1_0, .int .i64 a1_1, .string a1_2] 39 (0, 0)) (bk_ BK126.out)) (below_size (hb2_ HB.out GE125.out GE126.out))); replace BK125 := Aside0.mk (blk_below (bk_ BK125.out) hb); replace BK126 := Aside0.mk (blk_below (bk_ BK126.out) hb); replace HB := Aside0.mk (below_step (hb2_ HB.out GE125.out GE126.out) hb); clear hb ho9; obtain ⟨Ao10, co10, eo10⟩ := Kd.R_slice HO129.out; subst eo10) | ((with_reducible refine gate_callee (f := 62) rfl ?_); refine goesL_ (some 9) rfl rfl Try.func62 (by kernel_rfl) rfl #[.int .u64 3, .slice Ao10 y127.length co10] rfl (by (try simp only [List.map_toArray, List.map_cons, List.map_nil]); first | done | rfl | (simp only [List.length_drop, List.length_take]; rfl) | (simp only [Int.ofNat_lt, Int.ofNat_le, gt_iff_lt, ge_iff_le]; rfl)) ?_; (with_reducible refine (laminaref04_Hash.calls k 3 _ _ y127 t130 _ ?side1 ?side2 A3.out).mono ?_); (case side1 => repeat (first | exact (Kd.R_reads' HO129.out).2.2 | (with_reducible refine Kd.C_alloc ?_ _) | (with_reducible refine Kd.C_drewN ?_ _) | (with_reducible refine Kd.C_drew ?_))); (case side2 => exact (Kd.R_reads' HO129.out).2.1); rintro e w11 ⟨rfl, hb⟩; refine ⟨_, rfl, ?_⟩; replace HO129 := Aside0.mk (Kd.R_below (ra_ HO129.out) hb); replace BK125 := Aside0.mk (blk_below (bk_ BK125.out) hb); replace BK126 := Aside0.mk (blk_below (bk_ BK126.out) hb); replace HB := Aside0.mk (below_step (hb2_ HB.out GE125.out GE126.out) hb); (try clear hb)))
 go_loopg [6] k (fun kq v6 w' => ∃ (x6_1 : Int), v6 = .int .i64 x6_1 ∧ Aside0 (laminaref16_hashed.l0 kq t130 x6_1 a0_0 a0_1 l0_2 a0_3 l0_4 l0_5 l0_6 = some r) ∧ Aside0 (kq ≤ k) ∧ Aside0 (w'.heap[gb125]? = some (.cells #[.int .i64 a0_0, .int .i64 a0_1, (.slice A0_2 l0_2.length c0_2), .bool a0_3, (.slice A0_4 l0_4.length c0_4), (.slice A0_5 l0_5.length c0_5), (.slice A0_6 l0_6.length c0_6)] 26 (0, 0))) ∧ Aside0 (w'.heap[gb126]? = some (.cells #[.int .i64 a1_0, .int .i64 a1_1, .string a1_2] 39 (0, 0))) ∧ Aside0 (Below w.heap.size w w'))
 case atStart => exact ⟨(0), (by first | rfl | (simp; done) | (simp [*]; done)), H', ⟨Nat.le_refl _⟩, ⟨by (with_reducible repeat (first | refine blk_drewN ?_ _ | refine blk_drew ?_ | refine blk_alloc ?_ _)); exact BK125.out⟩, ⟨by (with_reducible repeat (first | refine blk_drewN ?_ _ | refine blk_drew ?_ | refine blk_alloc ?_ _)); exact BK126.out⟩, ⟨(hb2_ HB.out GE125.out GE126.out)⟩⟩
 case round =>
  clear H'
  try clear p2
  try clear c3
  try clear c6
  try clear c7
  try clear hcz7_0 hcz7_1 hcz7_2 hfz7_0 hfz7_1 hfz7_2
  obtain ⟨x6_1, rfl, HA, HK1, BK125, BK126, HB⟩ := hrel
  cases gk with
  | zero => exact absurd HA.out (by simp [laminaref16_hashed.l0])
  | succ k1 =>
   have H := HA.out
   clear HA
   simp only [laminaref16_hashed.l0] at H
   by_cases c12 : x6_1 < (l0_2.length : Int)
   ·rw [if_pos c12] at H
    have c12b0 : decide (x6_1 < (l0_2.length : Int)) = true := decide_eq_true c12
    clear c12
    by_cases c13 : 0 ≤ x6_1
    ·rw [if_pos c13] at H
     have c13b0 : decide (0 ≤ x6_1) = true := decide_eq_true c13
     clear c13
     by_cases c14 : (rd l0_2 x6_1) = t130
     ·rw [if_pos c14] at H
      have c14b0 : ((rd l0_2 x6_1) == t130) = true := beq_iff_eq.mpr c14
      have c14b1 : ((rd l0_2 x6_1) != t130) = false := bne_eq_false_iff_eq.mpr c14
      clear c14
      obtain rfl := Option.some.inj H
      have hnb15 := NB125_126.out
      have hnc15 := NB126_125.out
      obtain ⟨hcz16_0, hcz16_1, hcz16_2, hcz16_3, hcz16_4, hcz16_5, hcz16_6, hfz16_0, hfz16_1, hfz16_2, hfz16_3, hfz16_4, hfz16_5, hfz16_6⟩ := bf7 BK125.out
      have p131 : 0 ≤ (x6_1 : Int) := of_decide_eq_true (by first | (with_reducible assumption) | assumption)
      have q131 : x6_1 < (l0_2.length : Int) := of_decide_eq_true (by first | (with_reducible assumption) | assumption)
      obtain ⟨ad131, e131, hx131_0⟩ := Kd.at_int HR0_2.out x6_1 p131 q131
      cases e131
      replace hx131_0 := up_ HB.out hx131_0
      replace p131 := eq_true p131
      replace q131 := eq_true q131
      go_wp2
      go_ret
      exact er_ ((hb2_ HB.out GE125.out GE126.out))
     ·rw [if_neg c14] at H
      have c14b0 : ((rd l0_2 x6_1) == t130) = false := beq_eq_false_iff_ne.mpr c14
      have c14b1 : ((rd l0_2 x6_1) != t130) = true := bne_iff_ne.mpr c14
      have H' := Aside0.mk H
      clear H
      have hnb17 := NB125_126.out
      have hnc17 := NB126_125.out
      obtain ⟨hcz18_0, hcz18_1, hcz18_2, hcz18_3, hcz18_4, hcz18_5, hcz18_6, hfz18_0, hfz18_1, hfz18_2, hfz18_3, hfz18_4, hfz18_5, hfz18_6⟩ := bf7 BK125.out
      have p131 : 0 ≤ (x6_1 : Int) := of_decide_eq_true (by first | (with_reducible assumption) | assumption)
      have q131 : x6_1 < (l0_2.length : Int) := of_decide_eq_true (by first | (with_reducible assumption) | assumption)
      obtain ⟨ad131, e131, hx131_0⟩ := Kd.at_int HR0_2.out x6_1 p131 q131
      cases e131
      replace hx131_0 := up_ HB.out hx131_0
      replace p131 := eq_true p131
      replace q131 := eq_true q131
      go_wp2
      go_roundg k1
      case measure => have := HK1.out; omega
      case rel => exact ⟨(wrap64 (x6_1 + 1)), (by first | rfl | (simp; done) | (simp [*]; done)), H', ⟨by have := HK1.out; omega⟩, ⟨by (with_reducible repeat (first | refine blk_drewN ?_ _ | refine blk_drew ?_ | refine blk_alloc ?_ _)); exact BK125.out⟩, ⟨by (with_reducible repeat (first | refine blk_drewN ?_ _ | refine blk_drew ?_ | refine blk_alloc ?_ _)); exact BK126.out⟩, ⟨(hb2_ HB.out GE125.out GE126.out)⟩⟩
    ·rw [if_neg c13] at H
     exact absurd H (by simp)
   ·rw [if_neg c12] at H
    have c12b0 : decide (x6_1 < (l0_2.length : Int)) = false := decide_eq_false c12
    clear c12
    obtain rfl := Option.some.inj H
    have hnb19 := NB125_126.out
    have hnc19 := NB126_125.out
    obtain ⟨hcz20_0, hcz20_1, hcz20_2, hcz20_3, hcz20_4, hcz20_5, hcz20_6, hfz20_0, hfz20_1, hfz20_2, hfz20_3, hfz20_4, hfz20_5, hfz20_6⟩ := bf7 BK125.out
    go_wp2
    go_ret
    exact er_ ((hb2_ HB.out GE125.out GE126.out))
/-! ### laminaref16_span: function 76 -/
def laminaref16_span.f (a0 : Int) (a1 : Int) : Option (Int × Int) := some (a0, a1)
set_option maxHeartbeats 8000000 in
set_option maxRecDepth 100000 in
theorem laminaref16_span.calls (a0 : Int) (a1 : Int) (r1 : Int) (r2 : Int) (w : World) (h : laminaref16_span.f a0 a1 = some (r1, r2)) :
  Calls Try.prog 76 #[.int .i64 a0, .int .i64 a1] w fun e w' => e = .returned (.agg #[.int .i64 r1, .int .i64 r2]) ∧ Below w.heap.size w w' := by
 have hu44 := Try.underlying44
 have HB := Aside0.mk (Below.refl w.heap.size w)
 have H : (some (a0, a1)) = some (r1, r2) := h
 clear h
 simp only [Option.some.injEq, Prod.mk.injEq] at H
 obtain ⟨rfl, rfl⟩ := H
 go_enter Try.func76, Try.ntmps76
 go_wp2_with (first | ((with_reducible refine gate_dst (N := 4) rfl ?_); refine box_ 4 (cs := #[.int .i64 0, .int .i64 0]) (t := 44) ?_; intro gb132 hg w3 hbox hb; have BK132 := Aside0.mk (hbox); have GW132 := Aside0.mk ((by rw [hg]; exact (below_size (hb_ HB.out)) : w.heap.size ≤ gb132)); have GE132 := Aside0.mk ((by rw [hg]; exact (below_size (hb_ HB.out)) : w.heap.size ≤ gb132)); replace HB := Aside0.mk (below_step (hb_ HB.out) hb); clear hb hbox hg; obtain ⟨hcz4_0, hcz4_1, hfz4_0, hfz4_1⟩ := bf2 BK132.out))
 refine bodyPost_ret (results_cell_row rfl _ _ gb132 44 #[.int .i64 a0, .int .i64 a1] (0, 0) _ rfl (by (with_reducible repeat (first | refine blk_drewN ?_ _ | refine blk_drew ?_ | refine blk_alloc ?_ _)); refine blk_put (cs := #[.int .i64 a0, .int .i64 0]) ?_ 1 _ rfl; (with_reducible repeat (first | refine blk_drewN ?_ _ | refine blk_drew ?_ | refine blk_alloc ?_ _)); refine blk_put (cs := #[.int .i64 0, .int .i64 0]) ?_ 0 _ rfl; (with_reducible repeat (first | refine blk_drewN ?_ _ | refine blk_drew ?_ | refine blk_alloc ?_ _)); exact BK132.out) Try.underlying44 rfl (by kernel_rfl)) rfl ?_
 exact er_ ((hb1_ HB.out GE132.out))
/-! ### laminaref04_sign: function 82 -/
def laminaref04_sign.f (a0 : Bool) (a1 : Bool) : Option (Int) := if a0 = true then (some (-1)) else (if a1 = true then (some 1) else (some 0))
set_option maxHeartbeats 8000000 in
set_option maxRecDepth 100000 in
theorem laminaref04_sign.calls (a0 : Bool) (a1 : Bool) (r : Int) (w : World) (h : laminaref04_sign.f a0 a1 = some r) :
  Calls Try.prog 82 #[.bool a0, .bool a1] w fun e w' => e = .returned (.int .i64 r) ∧ Drawn0 w w' := by
 have H : (if a0 = true then (some (-1)) else (if a1 = true then (some 1) else (some 0))) = some r := h
 clear h
 by_cases c3 : a0 = true
 ·subst c3
  have H1 : (some (-1)) = some r := by rw [if_pos rfl] at H; exact H
  clear H
  have H := H1
  clear H1
  obtain rfl := Option.some.inj H
  go_enter Try.func82, Try.ntmps82
  go_wp2
  go_ret
  exact ⟨by first | rfl | (simp; done) | (simp [*]; done), by repeat (first | exact Drawn0.refl _ | apply Drawn0.step)⟩
 ·replace c3 := Bool.eq_false_iff.mpr c3
  subst c3
  have H1 : (if a1 = true then (some 1) else (some 0)) = some r := by rw [if_neg (show ¬ (false = true) by decide)] at H; exact H
  clear H
  have H := H1
  clear H1
  by_cases c4 : a1 = true
  ·subst c4
   have H1 : (some 1) = some r := by rw [if_pos rfl] at H; exact H
   clear H
   have H := H1
   clear H1
   obtain rfl := Option.some.inj H
   go_enter Try.func82, Try.ntmps82
   go_wp2
   go_ret
   exact ⟨by first | rfl | (simp; done) | (simp [*]; done), by repeat (first | exact Drawn0.refl _ | apply Drawn0.step)⟩
  ·replace c4 := Bool.eq_false_iff.mpr c4
   subst c4
   have H1 : (some 0) = some r := by rw [if_neg (show ¬ (false = true) by decide)] at H; exact H
   clear H
   have H := H1
   clear H1
   obtain rfl := Option.some.inj H
   go_enter Try.func82, Try.ntmps82
   go_wp2
   go_ret
   exact ⟨by first | rfl | (simp; done) | (simp [*]; done), by repeat (first | exact Drawn0.refl _ | apply Drawn0.step)⟩
/-! ### laminaref04_Compare: function 32 -/
def laminaref04_Compare.f (a0_0 : Int) (a0_1 : Int) (a0_2 : ByteArray) (a1_0 : Int) (a1_1 : Int) (a1_2 : ByteArray) : Option (Int) := if a0_0 = a1_0 then (if a0_0 = 3 then ((laminaref04_sign.f (Op.bytesLess a0_2.toList a1_2.toList) (Op.bytesLess a1_2.toList a0_2.toList)).bind fun t136 => (some t136)) else ((laminaref04_sign.f (decide (a0_1 < a1_1)) (decide (a0_1 > a1_1))).bind fun t137 => (some t137))) else ((laminaref04_sign.f (decide (a0_0 < a1_0)) true).bind fun t135 => (some t135))
set_option maxHeartbeats 8000000 in
set_option maxRecDepth 100000 in
theorem laminaref04_Compare.calls (a0_0 : Int) (a0_1 : Int) (a0_2 : ByteArray) (a1_0 : Int) (a1_1 : Int) (a1_2 : ByteArray) (r : Int) (w : World) (h : laminaref04_Compare.f a0_0 a0_1 a0_2 a1_0 a1_1 a1_2 = some r) :
  Calls Try.prog 32 #[.agg #[.int .i64 a0_0, .int .i64 a0_1, .string a0_2], .agg #[.int .i64 a1_0, .int .i64 a1_1, .string a1_2]] w fun e w' => e = .returned (.int .i64 r) ∧ Below w.heap.size w w' := by
 have hu39 := Try.underlying39
 have HB := Aside0.mk (Below.refl w.heap.size w)
 have H : (if a0_0 = a1_0 then (if a0_0 = 3 then ((laminaref04_sign.f (Op.bytesLess a0_2.toList a1_2.toList) (Op.bytesLess a1_2.toList a0_2.toList)).bind fun t136 => (some t136)) else ((laminaref04_sign.f (decide (a0_1 < a1_1)) (decide (a0_1 > a1_1))).bind fun t137 => (some t137))) else ((laminaref04_sign.f (decide (a0_0 < a1_0)) true).bind fun t135 => (some t135))) = some r := h
 clear h
 by_cases c3 : a0_0 = a1_0
 ·rw [if_pos c3] at H
  have c3b0 : (a0_0 == a1_0) = true := beq_iff_eq.mpr c3
  have c3b1 : (a0_0 != a1_0) = false := bne_eq_false_iff_eq.mpr c3
  clear c3
  by_cases c4 : a0_0 = 3
  ·rw [if_pos c4] at H
   have c4b0 : (a0_0 == 3) = true := beq_iff_eq.mpr c4
   have c4b1 : (a0_0 != 3) = false := bne_eq_false_iff_eq.mpr c4
   clear c4
   replace H := Option.bind_eq_some_iff.mp H
   obtain ⟨t136, A50, H⟩ := H
   replace H : (some t136) = some r := H
   have A5 := Aside0.mk A50
   clear A50
   obtain rfl := Option.some.inj H
   go_enter Try.func32, Try.ntmps32
   go_wp2_with (first | ((with_reducible refine gate_dst (N := 2) rfl ?_); refine box_ 2 (cs := #[.int .i64 a0_0, .int .i64 a0_1, .string a0_2]) (t := 39) ?_; intro gb133 hg w6 hbox hb; have BK133 := Aside0.mk (hbox); have GW133 := Aside0.mk ((by rw [hg]; exact (below_size (hb_ HB.out)) : w.heap.size ≤ gb133)); have GE133 := Aside0.mk ((by rw [hg]; exact (below_size (hb_ HB.out)) : w.heap.size ≤ gb133)); replace HB := Aside0.mk (below_step (hb_ HB.out) hb); clear hb hbox hg) | ((with_reducible refine gate_dst (N := 3) rfl ?_); refine box_ 3 (cs := #[.int .i64 a1_0, .int .i64 a1_1, .string a1_2]) (t := 39) ?_; intro gb134 hg w7 hbox hb; have BK134 := Aside0.mk (hbox); have GW134 := Aside0.mk ((by rw [hg]; exact (below_size (hb1_ HB.out GE133.out)) : w.heap.size ≤ gb134)); have GE134 := Aside0.mk ((by rw [hg]; exact (below_size (hb1_ HB.out GE133.out)) : w.heap.size ≤ gb134)); have NB133_134 := Aside0.mk ((by rw [hg]; exact Nat.ne_of_lt (blk_lt (bk_ BK133.out)) : gb133 ≠ gb134)); have NB134_133 := Aside0.mk ((by rw [hg]; exact Nat.ne_of_gt (blk_lt (bk_ BK133.out)) : gb134 ≠ gb133)); replace BK133 := Aside0.mk (blk_below (bk_ BK133.out) hb); replace HB := Aside0.mk (below_step (hb1_ HB.out GE133.out) hb); clear hb hbox hg; have hnb8 := NB133_134.out; have hnc8 := NB134_133.out; obtain ⟨hcz9_0, hcz9_1, hcz9_2, hfz9_0, hfz9_1, hfz9_2⟩ := bf3 BK133.out; obtain ⟨hcz10_0, hcz10_1, hcz10_2, hfz10_0, hfz10_1, hfz10_2⟩ := bf3 BK134.out) | ((with_reducible refine gate_callee (f := 82) rfl ?_); refine goesL_ (some 29) rfl rfl Try.func82 (by kernel_rfl) rfl #[.bool (Op.bytesLess a0_2.toList a1_2.toList), .bool (Op.bytesLess a1_2.toList a0_2.toList)] rfl (by (try simp only [List.map_toArray, List.map_cons, List.map_nil]); first | done | rfl | (simp only [List.length_drop, List.length_take]; rfl) | (simp only [Int.ofNat_lt, Int.ofNat_le, gt_iff_lt, ge_iff_le]; rfl)) ?_; (with_reducible refine (laminaref04_sign.calls (Op.bytesLess a0_2.toList a1_2.toList) (Op.bytesLess a1_2.toList a0_2.toList) t136 _ A5.out).mono ?_); rintro e w' ⟨rfl, ⟨nd, rfl⟩⟩; refine ⟨_, rfl, ?_⟩))
   go_ret
   exact er_ ((hb2_ HB.out GE133.out GE134.out))
  ·rw [if_neg c4] at H
   have c4b0 : (a0_0 == 3) = false := beq_eq_false_iff_ne.mpr c4
   have c4b1 : (a0_0 != 3) = true := bne_iff_ne.mpr c4
   replace H := Option.bind_eq_some_iff.mp H
   obtain ⟨t137, A110, H⟩ := H
   replace H : (some t137) = some r := H
   have A11 := Aside0.mk A110
   clear A110
   obtain rfl := Option.some.inj H
   go_enter Try.func32, Try.ntmps32
   go_wp2_with (first | ((with_reducible refine gate_dst (N := 2) rfl ?_); refine box_ 2 (cs := #[.int .i64 a0_0, .int .i64 a0_1, .string a0_2]) (t := 39) ?_; intro gb133 hg w12 hbox hb; have BK133 := Aside0.mk (hbox); have GW133 := Aside0.mk ((by rw [hg]; exact (below_size (hb_ HB.out)) : w.heap.size ≤ gb133)); have GE133 := Aside0.mk ((by rw [hg]; exact (below_size (hb_ HB.out)) : w.heap.size ≤ gb133)); replace HB := Aside0.mk (below_step (hb_ HB.out) hb); clear hb hbox hg) | ((with_reducible refine gate_dst (N := 3) rfl ?_); refine box_ 3 (cs := #[.int .i64 a1_0, .int .i64 a1_1, .string a1_2]) (t := 39) ?_; intro gb134 hg w13 hbox hb; have BK134 := Aside0.mk (hbox); have GW134 := Aside0.mk ((by rw [hg]; exact (below_size (hb1_ HB.out GE133.out)) : w.heap.size ≤ gb134)); have GE134 := Aside0.mk ((by rw [hg]; exact (below_size (hb1_ HB.out GE133.out)) : w.heap.size ≤ gb134)); have NB133_134 := Aside0.mk ((by rw [hg]; exact Nat.ne_of_lt (blk_lt (bk_ BK133.out)) : gb133 ≠ gb134)); have NB134_133 := Aside0.mk ((by rw [hg]; exact Nat.ne_of_gt (blk_lt (bk_ BK133.out)) : gb134 ≠ gb133)); replace BK133 := Aside0.mk (blk_below (bk_ BK133.out) hb); replace HB := Aside0.mk (below_step (hb1_ HB.out GE133.out) hb); clear hb hbox hg; have hnb14 := NB133_134.out; have hnc14 := NB134_133.out; obtain ⟨hcz15_0, hcz15_1, hcz15_2, hfz15_0, hfz15_1, hfz15_2⟩ := bf3 BK133.out; obtain ⟨hcz16_0, hcz16_1, hcz16_2, hfz16_0, hfz16_1, hfz16_2⟩ := bf3 BK134.out) | ((with_reducible refine gate_callee (f := 82) rfl ?_); refine goesL_ (some 40) rfl rfl Try.func82 (by kernel_rfl) rfl #[.bool (decide (a0_1 < a1_1)), .bool (decide (a0_1 > a1_1))] rfl (by (try simp only [List.map_toArray, List.map_cons, List.map_nil]); first | done | rfl | (simp only [List.length_drop, List.length_take]; rfl) | (simp only [Int.ofNat_lt, Int.ofNat_le, gt_iff_lt, ge_iff_le]; rfl)) ?_; (with_reducible refine (laminaref04_sign.calls (decide (a0_1 < a1_1)) (decide (a0_1 > a1_1)) t137 _ A11.out).mono ?_); rintro e w' ⟨rfl, ⟨nd, rfl⟩⟩; refine ⟨_, rfl, ?_⟩))
   go_ret
   exact er_ ((hb2_ HB.out GE133.out GE134.out))
 ·rw [if_neg c3] at H
  have c3b0 : (a0_0 == a1_0) = false := beq_eq_false_iff_ne.mpr c3
  have c3b1 : (a0_0 != a1_0) = true := bne_iff_ne.mpr c3
  replace H := Option.bind_eq_some_iff.mp H
  obtain ⟨t135, A170, H⟩ := H
  replace H : (some t135) = some r := H
  have A17 := Aside0.mk A170
  clear A170
  obtain rfl := Option.some.inj H
  go_enter Try.func32, Try.ntmps32
  go_wp2_with (first | ((with_reducible refine gate_dst (N := 2) rfl ?_); refine box_ 2 (cs := #[.int .i64 a0_0, .int .i64 a0_1, .string a0_2]) (t := 39) ?_; intro gb133 hg w18 hbox hb; have BK133 := Aside0.mk (hbox); have GW133 := Aside0.mk ((by rw [hg]; exact (below_size (hb_ HB.out)) : w.heap.size ≤ gb133)); have GE133 := Aside0.mk ((by rw [hg]; exact (below_size (hb_ HB.out)) : w.heap.size ≤ gb133)); replace HB := Aside0.mk (below_step (hb_ HB.out) hb); clear hb hbox hg) | ((with_reducible refine gate_dst (N := 3) rfl ?_); refine box_ 3 (cs := #[.int .i64 a1_0, .int .i64 a1_1, .string a1_2]) (t := 39) ?_; intro gb134 hg w19 hbox hb; have BK134 := Aside0.mk (hbox); have GW134 := Aside0.mk ((by rw [hg]; exact (below_size (hb1_ HB.out GE133.out)) : w.heap.size ≤ gb134)); have GE134 := Aside0.mk ((by rw [hg]; exact (below_size (hb1_ HB.out GE133.out)) : w.heap.size ≤ gb134)); have NB133_134 := Aside0.mk ((by rw [hg]; exact Nat.ne_of_lt (blk_lt (bk_ BK133.out)) : gb133 ≠ gb134)); have NB134_133 := Aside0.mk ((by rw [hg]; exact Nat.ne_of_gt (blk_lt (bk_ BK133.out)) : gb134 ≠ gb133)); replace BK133 := Aside0.mk (blk_below (bk_ BK133.out) hb); replace HB := Aside0.mk (below_step (hb1_ HB.out GE133.out) hb); clear hb hbox hg; have hnb20 := NB133_134.out; have hnc20 := NB134_133.out; obtain ⟨hcz21_0, hcz21_1, hcz21_2, hfz21_0, hfz21_1, hfz21_2⟩ := bf3 BK133.out; obtain ⟨hcz22_0, hcz22_1, hcz22_2, hfz22_0, hfz22_1, hfz22_2⟩ := bf3 BK134.out) | ((with_reducible refine gate_callee (f := 82) rfl ?_); refine goesL_ (some 15) rfl rfl Try.func82 (by kernel_rfl) rfl #[.bool (decide (a0_0 < a1_0)), .bool true] rfl (by (try simp only [List.map_toArray, List.map_cons, List.map_nil]); first | done | rfl | (simp only [List.length_drop, List.length_take]; rfl) | (simp only [Int.ofNat_lt, Int.ofNat_le, gt_iff_lt, ge_iff_le]; rfl)) ?_; (with_reducible refine (laminaref04_sign.calls (decide (a0_0 < a1_0)) true t135 _ A17.out).mono ?_); rintro e w' ⟨rfl, ⟨nd, rfl⟩⟩; refine ⟨_, rfl, ?_⟩))
  go_ret
  exact er_ ((hb2_ HB.out GE133.out GE134.out))
/-! ### laminaref04_Valid: function 21 -/
def laminaref04_Valid.f (a0_0 : Int) (a0_1 : Int) (a0_2 : ByteArray) : Option (Bool) := if a0_0 = 0 then (if a0_1 = 0 then (some (a0_2.toList == ([] : List UInt8))) else (some false)) else (if a0_0 = 1 then (if a0_1 = 0 then (some (a0_2.toList == ([] : List UInt8))) else (if a0_1 = 1 then (some (a0_2.toList == ([] : List UInt8))) else (some false))) else (if a0_0 = 2 then (some (a0_2.toList == ([] : List UInt8))) else (if a0_0 = 3 then (if a0_1 = 0 then (some (decide ((a0_2.size : Int) ≤ 4096))) else (some false)) else (some false))))
set_option maxHeartbeats 8000000 in
set_option maxRecDepth 100000 in
theorem laminaref04_Valid.calls (a0_0 : Int) (a0_1 : Int) (a0_2 : ByteArray) (r : Bool) (w : World) (h : laminaref04_Valid.f a0_0 a0_1 a0_2 = some r) :
  Calls Try.prog 21 #[.agg #[.int .i64 a0_0, .int .i64 a0_1, .string a0_2]] w fun e w' => e = .returned (.bool r) ∧ Below w.heap.size w w' := by
 have hu39 := Try.underlying39
 have HB := Aside0.mk (Below.refl w.heap.size w)
 have H : (if a0_0 = 0 then (if a0_1 = 0 then (some (a0_2.toList == ([] : List UInt8))) else (some false)) else (if a0_0 = 1 then (if a0_1 = 0 then (some (a0_2.toList == ([] : List UInt8))) else (if a0_1 = 1 then (some (a0_2.toList == ([] : List UInt8))) else (some false))) else (if a0_0 = 2 then (some (a0_2.toList == ([] : List UInt8))) else (if a0_0 = 3 then (if a0_1 = 0 then (some (decide ((a0_2.size : Int) ≤ 4096))) else (some false)) else (some false))))) = some r := h
 clear h
 by_cases c2 : a0_0 = 0
 ·rw [if_pos c2] at H
  have c2b0 : (a0_0 == 0) = true := beq_iff_eq.mpr c2
  have c2b1 : (a0_0 != 0) = false := bne_eq_false_iff_eq.mpr c2
  clear c2
  by_cases c3 : a0_1 = 0
  ·rw [if_pos c3] at H
   have c3b0 : (a0_1 == 0) = true := beq_iff_eq.mpr c3
   have c3b1 : (a0_1 != 0) = false := bne_eq_false_iff_eq.mpr c3
   clear c3
   obtain rfl := Option.some.inj H
   go_enter Try.func21, Try.ntmps21
   go_wp2_with (first | ((with_reducible refine gate_dst (N := 1) rfl ?_); (try (refine gate_guard (by rfl) ?_; dsimp only)); refine box_ 1 (cs := #[.int .i64 a0_0, .int .i64 a0_1, .string a0_2]) (t := 39) ?_; intro gb326 hg w4 hbox hb; have BK326 := Aside0.mk (hbox); have GW326 := Aside0.mk ((by rw [hg]; exact (below_size (hb_ HB.out)) : w.heap.size ≤ gb326)); have GE326 := Aside0.mk ((by rw [hg]; exact (below_size (hb_ HB.out)) : w.heap.size ≤ gb326)); replace HB := Aside0.mk (below_step (hb_ HB.out) hb); clear hb hbox hg; obtain ⟨hcz5_0, hcz5_1, hcz5_2, hfz5_0, hfz5_1, hfz5_2⟩ := bf3 BK326.out))
   go_ret
   exact er_ ((hb1_ HB.out GE326.out))
  ·rw [if_neg c3] at H
   have c3b0 : (a0_1 == 0) = false := beq_eq_false_iff_ne.mpr c3
   have c3b1 : (a0_1 != 0) = true := bne_iff_ne.mpr c3
   obtain rfl := Option.some.inj H
   go_enter Try.func21, Try.ntmps21
   go_wp2_with (first | ((with_reducible refine gate_dst (N := 1) rfl ?_); (try (refine gate_guard (by rfl) ?_; dsimp only)); refine box_ 1 (cs := #[.int .i64 a0_0, .int .i64 a0_1, .string a0_2]) (t := 39) ?_; intro gb326 hg w6 hbox hb; have BK326 := Aside0.mk (hbox); have GW326 := Aside0.mk ((by rw [hg]; exact (below_size (hb_ HB.out)) : w.heap.size ≤ gb326)); have GE326 := Aside0.mk ((by rw [hg]; exact (below_size (hb_ HB.out)) : w.heap.size ≤ gb326)); replace HB := Aside0.mk (below_step (hb_ HB.out) hb); clear hb hbox hg; obtain ⟨hcz7_0, hcz7_1, hcz7_2, hfz7_0, hfz7_1, hfz7_2⟩ := bf3 BK326.out))
   go_ret
   exact er_ ((hb1_ HB.out GE326.out))
 ·rw [if_neg c2] at H
  have c2b0 : (a0_0 == 0) = false := beq_eq_false_iff_ne.mpr c2
  have c2b1 : (a0_0 != 0) = true := bne_iff_ne.mpr c2
  by_cases c8 : a0_0 = 1
  ·rw [if_pos c8] at H
   have c8b0 : (a0_0 == 1) = true := beq_iff_eq.mpr c8
   have c8b1 : (a0_0 != 1) = false := bne_eq_false_iff_eq.mpr c8
   clear c8
   by_cases c9 : a0_1 = 0
   ·rw [if_pos c9] at H
    have c9b0 : (a0_1 == 0) = true := beq_iff_eq.mpr c9
    have c9b1 : (a0_1 != 0) = false := bne_eq_false_iff_eq.mpr c9
    clear c9
    obtain rfl := Option.some.inj H
    go_enter Try.func21, Try.ntmps21
    go_wp2_with (first | ((with_reducible refine gate_dst (N := 1) rfl ?_); (try (refine gate_guard (by rfl) ?_; dsimp only)); refine box_ 1 (cs := #[.int .i64 a0_0, .int .i64 a0_1, .string a0_2]) (t := 39) ?_; intro gb326 hg w10 hbox hb; have BK326 := Aside0.mk (hbox); have GW326 := Aside0.mk ((by rw [hg]; exact (below_size (hb_ HB.out)) : w.heap.size ≤ gb326)); have GE326 := Aside0.mk ((by rw [hg]; exact (below_size (hb_ HB.out)) : w.heap.size ≤ gb326)); replace HB := Aside0.mk (below_step (hb_ HB.out) hb); clear hb hbox hg; obtain ⟨hcz11_0, hcz11_1, hcz11_2, hfz11_0, hfz11_1, hfz11_2⟩ := bf3 BK326.out))
    go_ret
    exact er_ ((hb1_ HB.out GE326.out))
   ·rw [if_neg c9] at H
    have c9b0 : (a0_1 == 0) = false := beq_eq_false_iff_ne.mpr c9
    have c9b1 : (a0_1 != 0) = true := bne_iff_ne.mpr c9
    by_cases c12 : a0_1 = 1
    ·rw [if_pos c12] at H
     have c12b0 : (a0_1 == 1) = true := beq_iff_eq.mpr c12
     have c12b1 : (a0_1 != 1) = false := bne_eq_false_iff_eq.mpr c12
     clear c12
     obtain rfl := Option.some.inj H
     go_enter Try.func21, Try.ntmps21
     go_wp2_with (first | ((with_reducible refine gate_dst (N := 1) rfl ?_); (try (refine gate_guard (by rfl) ?_; dsimp only)); refine box_ 1 (cs := #[.int .i64 a0_0, .int .i64 a0_1, .string a0_2]) (t := 39) ?_; intro gb326 hg w13 hbox hb; have BK326 := Aside0.mk (hbox); have GW326 := Aside0.mk ((by rw [hg]; exact (below_size (hb_ HB.out)) : w.heap.size ≤ gb326)); have GE326 := Aside0.mk ((by rw [hg]; exact (below_size (hb_ HB.out)) : w.heap.size ≤ gb326)); replace HB := Aside0.mk (below_step (hb_ HB.out) hb); clear hb hbox hg; obtain ⟨hcz14_0, hcz14_1, hcz14_2, hfz14_0, hfz14_1, hfz14_2⟩ := bf3 BK326.out))
     go_ret
     exact er_ ((hb1_ HB.out GE326.out))
    ·rw [if_neg c12] at H
     have c12b0 : (a0_1 == 1) = false := beq_eq_false_iff_ne.mpr c12
     have c12b1 : (a0_1 != 1) = true := bne_iff_ne.mpr c12
     obtain rfl := Option.some.inj H
     go_enter Try.func21, Try.ntmps21
     go_wp2_with (first | ((with_reducible refine gate_dst (N := 1) rfl ?_); (try (refine gate_guard (by rfl) ?_; dsimp only)); refine box_ 1 (cs := #[.int .i64 a0_0, .int .i64 a0_1, .string a0_2]) (t := 39) ?_; intro gb326 hg w15 hbox hb; have BK326 := Aside0.mk (hbox); have GW326 := Aside0.mk ((by rw [hg]; exact (below_size (hb_ HB.out)) : w.heap.size ≤ gb326)); have GE326 := Aside0.mk ((by rw [hg]; exact (below_size (hb_ HB.out)) : w.heap.size ≤ gb326)); replace HB := Aside0.mk (below_step (hb_ HB.out) hb); clear hb hbox hg; obtain ⟨hcz16_0, hcz16_1, hcz16_2, hfz16_0, hfz16_1, hfz16_2⟩ := bf3 BK326.out))
     go_ret
     exact er_ ((hb1_ HB.out GE326.out))
  ·rw [if_neg c8] at H
   have c8b0 : (a0_0 == 1) = false := beq_eq_false_iff_ne.mpr c8
   have c8b1 : (a0_0 != 1) = true := bne_iff_ne.mpr c8
   by_cases c17 : a0_0 = 2
   ·rw [if_pos c17] at H
    have c17b0 : (a0_0 == 2) = true := beq_iff_eq.mpr c17
    have c17b1 : (a0_0 != 2) = false := bne_eq_false_iff_eq.mpr c17
    clear c17
    obtain rfl := Option.some.inj H
    go_enter Try.func21, Try.ntmps21
    go_wp2_with (first | ((with_reducible refine gate_dst (N := 1) rfl ?_); (try (refine gate_guard (by rfl) ?_; dsimp only)); refine box_ 1 (cs := #[.int .i64 a0_0, .int .i64 a0_1, .string a0_2]) (t := 39) ?_; intro gb326 hg w18 hbox hb; have BK326 := Aside0.mk (hbox); have GW326 := Aside0.mk ((by rw [hg]; exact (below_size (hb_ HB.out)) : w.heap.size ≤ gb326)); have GE326 := Aside0.mk ((by rw [hg]; exact (below_size (hb_ HB.out)) : w.heap.size ≤ gb326)); replace HB := Aside0.mk (below_step (hb_ HB.out) hb); clear hb hbox hg; obtain ⟨hcz19_0, hcz19_1, hcz19_2, hfz19_0, hfz19_1, hfz19_2⟩ := bf3 BK326.out))
    go_ret
    exact er_ ((hb1_ HB.out GE326.out))
   ·rw [if_neg c17] at H
    have c17b0 : (a0_0 == 2) = false := beq_eq_false_iff_ne.mpr c17
    have c17b1 : (a0_0 != 2) = true := bne_iff_ne.mpr c17
    by_cases c20 : a0_0 = 3
    ·rw [if_pos c20] at H
     have c20b0 : (a0_0 == 3) = true := beq_iff_eq.mpr c20
     have c20b1 : (a0_0 != 3) = false := bne_eq_false_iff_eq.mpr c20
     clear c20
     by_cases c21 : a0_1 = 0
     ·rw [if_pos c21] at H
      have c21b0 : (a0_1 == 0) = true := beq_iff_eq.mpr c21
      have c21b1 : (a0_1 != 0) = false := bne_eq_false_iff_eq.mpr c21
      clear c21
      obtain rfl := Option.some.inj H
      go_enter Try.func21, Try.ntmps21
      go_wp2_with (first | ((with_reducible refine gate_dst (N := 1) rfl ?_); (try (refine gate_guard (by rfl) ?_; dsimp only)); refine box_ 1 (cs := #[.int .i64 a0_0, .int .i64 a0_1, .string a0_2]) (t := 39) ?_; intro gb326 hg w22 hbox hb; have BK326 := Aside0.mk (hbox); have GW326 := Aside0.mk ((by rw [hg]; exact (below_size (hb_ HB.out)) : w.heap.size ≤ gb326)); have GE326 := Aside0.mk ((by rw [hg]; exact (below_size (hb_ HB.out)) : w.heap.size ≤ gb326)); replace HB := Aside0.mk (below_step (hb_ HB.out) hb); clear hb hbox hg; obtain ⟨hcz23_0, hcz23_1, hcz23_2, hfz23_0, hfz23_1, hfz23_2⟩ := bf3 BK326.out))
      go_ret
      exact er_ ((hb1_ HB.out GE326.out))
     ·rw [if_neg c21] at H
      have c21b0 : (a0_1 == 0) = false := beq_eq_false_iff_ne.mpr c21
      have c21b1 : (a0_1 != 0) = true := bne_iff_ne.mpr c21
      obtain rfl := Option.some.inj H
      go_enter Try.func21, Try.ntmps21
      go_wp2_with (first | ((with_reducible refine gate_dst (N := 1) rfl ?_); (try (refine gate_guard (by rfl) ?_; dsimp only)); refine box_ 1 (cs := #[.int .i64 a0_0, .int .i64 a0_1, .string a0_2]) (t := 39) ?_; intro gb326 hg w24 hbox hb; have BK326 := Aside0.mk (hbox); have GW326 := Aside0.mk ((by rw [hg]; exact (below_size (hb_ HB.out)) : w.heap.size ≤ gb326)); have GE326 := Aside0.mk ((by rw [hg]; exact (below_size (hb_ HB.out)) : w.heap.size ≤ gb326)); replace HB := Aside0.mk (below_step (hb_ HB.out) hb); clear hb hbox hg; obtain ⟨hcz25_0, hcz25_1, hcz25_2, hfz25_0, hfz25_1, hfz25_2⟩ := bf3 BK326.out))
      go_ret
      exact er_ ((hb1_ HB.out GE326.out))
    ·rw [if_neg c20] at H
     have c20b0 : (a0_0 == 3) = false := beq_eq_false_iff_ne.mpr c20
     have c20b1 : (a0_0 != 3) = true := bne_iff_ne.mpr c20
     obtain rfl := Option.some.inj H
     go_enter Try.func21, Try.ntmps21
     go_wp2_with (first | ((with_reducible refine gate_dst (N := 1) rfl ?_); (try (refine gate_guard (by rfl) ?_; dsimp only)); refine box_ 1 (cs := #[.int .i64 a0_0, .int .i64 a0_1, .string a0_2]) (t := 39) ?_; intro gb326 hg w26 hbox hb; have BK326 := Aside0.mk (hbox); have GW326 := Aside0.mk ((by rw [hg]; exact (below_size (hb_ HB.out)) : w.heap.size ≤ gb326)); have GE326 := Aside0.mk ((by rw [hg]; exact (below_size (hb_ HB.out)) : w.heap.size ≤ gb326)); replace HB := Aside0.mk (below_step (hb_ HB.out) hb); clear hb hbox hg; obtain ⟨hcz27_0, hcz27_1, hcz27_2, hfz27_0, hfz27_1, hfz27_2⟩ := bf3 BK326.out))
     go_ret
     exact er_ ((hb1_ HB.out GE326.out))
/-! ### laminaref04_Equal: function 65 -/
def laminaref04_Equal.f (a0_0 : Int) (a0_1 : Int) (a0_2 : ByteArray) (a1_0 : Int) (a1_1 : Int) (a1_2 : ByteArray) : Option (Bool) := (laminaref04_Compare.f a0_0 a0_1 a0_2 a1_0 a1_1 a1_2).bind fun t329 => (some (t329 == 0))
set_option maxHeartbeats 8000000 in
set_option maxRecDepth 100000 in
theorem laminaref04_Equal.calls (a0_0 : Int) (a0_1 : Int) (a0_2 : ByteArray) (a1_0 : Int) (a1_1 : Int) (a1_2 : ByteArray) (r : Bool) (w : World) (h : laminaref04_Equal.f a0_0 a0_1 a0_2 a1_0 a1_1 a1_2 = some r) :
  Calls Try.prog 65 #[.agg #[.int .i64 a0_0, .int .i64 a0_1, .string a0_2], .agg #[.int .i64 a1_0, .int .i64 a1_1, .string a1_2]] w fun e w' => e = .returned (.bool r) ∧ Below w.heap.size w w' := by
 have hu39 := Try.underlying39
 have HB := Aside0.mk (Below.refl w.heap.size w)
 have H : ((laminaref04_Compare.f a0_0 a0_1 a0_2 a1_0 a1_1 a1_2).bind fun t329 => (some (t329 == 0))) = some r := h
 clear h
 replace H := Option.bind_eq_some_iff.mp H
 obtain ⟨t329, A30, H⟩ := H
 replace H : (some (t329 == 0)) = some r := H
 have A3 := Aside0.mk A30
 clear A30
 obtain rfl := Option.some.inj H
 go_enter Try.func65, Try.ntmps65
 go_wp2_with (first | ((with_reducible refine gate_dst (N := 2) rfl ?_); refine box_ 2 (cs := #[.int .i64 a0_0, .int .i64 a0_1, .string a0_2]) (t := 39) ?_; intro gb327 hg w4 hbox hb; have BK327 := Aside0.mk (hbox); have GW327 := Aside0.mk ((by rw [hg]; exact (below_size (hb_ HB.out)) : w.heap.size ≤ gb327)); have GE327 := Aside0.mk ((by rw [hg]; exact (below_size (hb_ HB.out)) : w.heap.size ≤ gb327)); replace HB := Aside0.mk (below_step (hb_ HB.out) hb); clear hb hbox hg) | ((with_reducible refine gate_dst (N := 3) rfl ?_); refine box_ 3 (cs := #[.int .i64 a1_0, .int .i64 a1_1, .string a1_2]) (t := 39) ?_; intro gb328 hg w5 hbox hb; have BK328 := Aside0.mk (hbox); have GW328 := Aside0.mk ((by rw [hg]; exact (below_size (hb1_ HB.out GE327.out)) : w.heap.size ≤ gb328)); have GE328 := Aside0.mk ((by rw [hg]; exact (below_size (hb1_ HB.out GE327.out)) : w.heap.size ≤ gb328)); have NB327_328 := Aside0.mk ((by rw [hg]; exact Nat.ne_of_lt (blk_lt (bk_ BK327.out)) : gb327 ≠ gb328)); have NB328_327 := Aside0.mk ((by rw [hg]; exact Nat.ne_of_gt (blk_lt (bk_ BK327.out)) : gb328 ≠ gb327)); replace BK327 := Aside0.mk (blk_below (bk_ BK327.out) hb); replace HB := Aside0.mk (below_step (hb1_ HB.out GE327.out) hb); clear hb hbox hg; have hnb6 := NB327_328.out; have hnc6 := NB328_327.out; obtain ⟨hcz7_0, hcz7_1, hcz7_2, hfz7_0, hfz7_1, hfz7_2⟩ := bf3 BK327.out; obtain ⟨hcz8_0, hcz8_1, hcz8_2, hfz8_0, hfz8_1, hfz8_2⟩ := bf3 BK328.out) | ((with_reducible refine gate_callee (f := 32) rfl ?_); refine goesL_ (some 7) rfl rfl Try.func32 (by kernel_rfl) rfl #[.agg #[.int .i64 a0_0, .int .i64 a0_1, .string a0_2], .agg #[.int .i64 a1_0, .int .i64 a1_1, .string a1_2]] rfl (by (try simp only [List.map_toArray, List.map_cons, List.map_nil]); first | done | rfl | (simp only [List.length_drop, List.length_take]; rfl) | (simp only [Int.ofNat_lt, Int.ofNat_le, gt_iff_lt, ge_iff_le]; rfl)) ?_; (with_reducible refine (laminaref04_Compare.calls a0_0 a0_1 a0_2 a1_0 a1_1 a1_2 t329 _ A3.out).mono ?_); rintro e w9 ⟨rfl, hb⟩; refine ⟨_, rfl, ?_⟩; replace BK327 := Aside0.mk (blk_below (bk_ BK327.out) hb); replace BK328 := Aside0.mk (blk_below (bk_ BK328.out) hb); replace HB := Aside0.mk (below_step (hb2_ HB.out GE327.out GE328.out) hb); (try clear hb)))
 go_ret
 exact er_ ((hb2_ HB.out GE327.out GE328.out))
end Go.Proofs.Ytackcingpffidaa.P
namespace Go.Proofs.Ytackcingpffidaa.P
open Go.RowKit Go.Proofs.YtackcingpffidaaW.PrintWords Go.Proofs.YtackcingpffidaaW.PrintLast Go.Proofs.YtackcingpffidaaW.PrintMore
def vV (x : S39) : Bool := (value_Valid.f x.f0 x.f1 x.f2).getD false
def cV (x y : S39) : Int := (value_Compare.f x.f0 x.f1 x.f2 y.f0 y.f1 y.f2).getD 0
theorem vV_is (x : S39) : value_Valid.f x.f0 x.f1 x.f2 = some (vV x) := by
  unfold vV value_Valid.f
  repeat' split
  all_goals rfl
theorem sign_some (a b : Bool) : ∃ t, value_sign.f a b = some t := by cases a <;> cases b <;> exact ⟨_, rfl⟩
theorem cV_is (x y : S39) : value_Compare.f x.f0 x.f1 x.f2 y.f0 y.f1 y.f2 = some (cV x y) := by
  have h : ∃ t, value_Compare.f x.f0 x.f1 x.f2 y.f0 y.f1 y.f2 = some t := by
    unfold value_Compare.f
    split
    · split
      · exact ⟨_, rfl⟩
      · split
        · obtain ⟨t, ht⟩ := sign_some (decide (x.f1 < y.f1)) (decide (x.f1 > y.f1)); rw [ht]; exact ⟨_, rfl⟩
        · split
          · obtain ⟨t, ht⟩ := sign_some (decide (x.f1 < y.f1)) (decide (x.f1 > y.f1)); rw [ht]; exact ⟨_, rfl⟩
          · exact ⟨_, rfl⟩
    · obtain ⟨t, ht⟩ := sign_some (decide (x.f0 < y.f0)) true; rw [ht]; exact ⟨_, rfl⟩
  obtain ⟨t, ht⟩ := h
  unfold cV
  rw [ht]
  rfl
theorem vV_calls (x : S39) (b : Bool) (h : vV x = b) (w : World) : Calls Try.prog 107 #[.agg #[.int .i64 x.f0, .int .i64 x.f1, .string x.f2]] w fun e w' => e = .returned (.bool b) ∧ Below w.heap.size w w' :=
  value_Valid.calls _ _ _ b w (by rw [vV_is, h])
theorem cV_calls (x y : S39) (c : Int) (h : cV x y = c) (w : World) : Calls Try.prog 53 #[.agg #[.int .i64 x.f0, .int .i64 x.f1, .string x.f2], .agg #[.int .i64 y.f0, .int .i64 y.f1, .string y.f2]] w fun e w' => e = .returned (.int .i64 c) ∧ Below w.heap.size w w' :=
  value_Compare.calls _ _ _ _ _ _ c w (by rw [cV_is, h])
def rvV (x : S39) : Bool := (laminaref04_Valid.f x.f0 x.f1 x.f2).getD false
def rcV (x y : S39) : Int := (laminaref04_Compare.f x.f0 x.f1 x.f2 y.f0 y.f1 y.f2).getD 0
theorem rvV_is (x : S39) : laminaref04_Valid.f x.f0 x.f1 x.f2 = some (rvV x) := by
  unfold rvV laminaref04_Valid.f
  repeat' split
  all_goals rfl
theorem rsign_some (a b : Bool) : ∃ t, laminaref04_sign.f a b = some t := by cases a <;> cases b <;> exact ⟨_, rfl⟩
theorem rcV_is (x y : S39) : laminaref04_Compare.f x.f0 x.f1 x.f2 y.f0 y.f1 y.f2 = some (rcV x y) := by
  have h : ∃ t, laminaref04_Compare.f x.f0 x.f1 x.f2 y.f0 y.f1 y.f2 = some t := by
    unfold laminaref04_Compare.f
    split
    · split
      · obtain ⟨t, ht⟩ := rsign_some (Op.bytesLess x.f2.toList y.f2.toList) (Op.bytesLess y.f2.toList x.f2.toList); rw [ht]; exact ⟨_, rfl⟩
      · obtain ⟨t, ht⟩ := rsign_some (decide (x.f1 < y.f1)) (decide (x.f1 > y.f1)); rw [ht]; exact ⟨_, rfl⟩
    · obtain ⟨t, ht⟩ := rsign_some (decide (x.f0 < y.f0)) true; rw [ht]; exact ⟨_, rfl⟩
  obtain ⟨t, ht⟩ := h
  unfold rcV
  rw [ht]
  rfl
theorem rvV_calls (x : S39) (b : Bool) (h : rvV x = b) (w : World) : Calls Try.prog 21 #[.agg #[.int .i64 x.f0, .int .i64 x.f1, .string x.f2]] w fun e w' => e = .returned (.bool b) ∧ Below w.heap.size w w' :=
  laminaref04_Valid.calls _ _ _ b w (by rw [rvV_is, h])
theorem rcV_calls (x y : S39) (c : Int) (h : rcV x y = c) (w : World) : Calls Try.prog 32 #[.agg #[.int .i64 x.f0, .int .i64 x.f1, .string x.f2], .agg #[.int .i64 y.f0, .int .i64 y.f1, .string y.f2]] w fun e w' => e = .returned (.int .i64 c) ∧ Below w.heap.size w w' :=
  laminaref04_Compare.calls _ _ _ _ _ _ c w (by rw [rcV_is, h])
def allN (p : Nat → Bool) : Nat → Nat → Bool
  | _, 0 => true
  | i, m + 1 => p i && allN p (i + 1) m
theorem allN_last (p : Nat → Bool) (i : Nat) : allN p i 0 = true := rfl
theorem allN_next (p : Nat → Bool) (i m : Nat) (h : p i = true) : allN p i (m + 1) = allN p (i + 1) m := by simp [allN, h]
theorem allN_bad (p : Nat → Bool) (i m : Nat) (h : p i = false) : allN p i (m + 1) = false := by simp [allN, h]
/-- A fence is valid, not NULL, of the first one's kind, and above the one before it. -/
def fOk (l : List S39) (i : Nat) : Bool := vV (rd_T39 l i) && !((rd_T39 l i).f0 == 0) && !((rd_T39 l i).f0 != (rd_T39 l 0).f0) && !(decide (0 < i) && decide (0 ≤ cV (rd_T39 l ((i : Int) - 1)) (rd_T39 l i)))
def rOk (r : List Int) (n : Int) (i : Nat) : Bool := !(decide (rd r i < 0)) && !(decide (n < rd r i)) && !(decide (2 ≤ i) && decide (rd r i < rd r ((i : Int) - 2)))
def tOk (r : List Int) (i : Nat) : Bool := !(decide (rd r (2 * (i : Int)) < rd r (2 * (i : Int) - 1)))
def fencesB (l : List S39) (r : List Int) (n : Int) : Bool :=
  if 17 < l.length then false else if (l.length = 0) = (n = 0) then (if r.length = 2 * l.length then allN (fOk l) 0 l.length && allN (rOk r n) 0 (2 * l.length) && allN (tOk r) 1 (l.length - 1) && (l.length == 0 || (rd r 0 == 0 && rd r (2 * (l.length : Int) - 1) == n)) else false) else false
/-- The reference's checks of a fence and of its ranks. -/
def rF (l : List S39) (i : Nat) : Bool := rvV (rd_T39 l i) && !((rd_T39 l i).f0 == 0) && !((rd_T39 l i).f0 != (rd_T39 l 0).f0) && !(decide (0 < i) && decide (0 ≤ rcV (rd_T39 l ((i : Int) - 1)) (rd_T39 l i)))
def rR (r : List Int) (n : Int) (k i : Nat) : Bool :=
  !(decide (rd r (2 * (i : Int)) < 0)) && !(decide (n < rd r (2 * (i : Int)))) && !(decide (rd r (2 * (i : Int) + 1) < 0)) && !(decide (n < rd r (2 * (i : Int) + 1))) && !(i == 0 && rd r (2 * (i : Int)) != 0) && !(i + 1 == k && rd r (2 * (i : Int) + 1) != n) &&
    !(decide (0 < i) && (decide (rd r (2 * (i : Int)) < rd r (2 * (i : Int) - 2)) || decide (rd r (2 * (i : Int) + 1) < rd r (2 * (i : Int) - 1)) || decide (rd r (2 * (i : Int)) < rd r (2 * (i : Int) - 1))))
def rfencesB (l : List S39) (r : List Int) (n : Int) : Bool :=
  if 17 < l.length then false else if (l.length = 0) = (n = 0) then (if r.length = 2 * l.length then allN (fun i => rF l i && rR r n l.length i) 0 l.length else false) else false
end Go.Proofs.Ytackcingpffidaa.P
namespace Go.Proofs.Ytackcingpffidaa.P
open Go.RowKit Go.Proofs.YtackcingpffidaaW.PrintWords Go.Proofs.YtackcingpffidaaW.PrintLast Go.Proofs.YtackcingpffidaaW.PrintMore
attribute [local go_sem] max2_int min2_int max_two min_two max_three min_three max_four min_four Go.Proofs.YtackcingpffidaaQ.str_gtr Go.Proofs.YtackcingpffidaaQ.str_leq Go.Proofs.YtackcingpffidaaQ.str_geq   -- for this text's walks alone
set_option linter.unusedVariables false
set_option linter.unusedSimpArgs false
/-! ### value_Hash: function 54 -/
def value_Hash.l0 : Nat → Int → List (S39) → Int → Int → Option (Int)
 | 0, _, _, _, _ => none
 | k + 1, x5, x10, x11, x12 => if x12 < x11 then (if 0 ≤ x12 then (if x12 < (x10.length : Int) then (if ((rd_T39 x10 x12).f0) = 0 then ((checksum_Mix.f (Go.bits .xor .u64 x5 1)).bind fun t370 => (value_Hash.l0 k t370 x10 x11 (wrap64 (x12 + 1)))) else (if ((rd_T39 x10 x12).f0) = 1 then ((checksum_Mix.f (Go.bits .xor .u64 x5 2)).bind fun t371 => ((checksum_Mix.f (Go.bits .xor .u64 t371 (IntKind.u64.wrap ((rd_T39 x10 x12).f1)))).bind fun t372 => (value_Hash.l0 k t372 x10 x11 (wrap64 (x12 + 1))))) else (if ((rd_T39 x10 x12).f0) = 2 then ((checksum_Mix.f (Go.bits .xor .u64 x5 3)).bind fun t373 => ((checksum_Mix.f (Go.bits .xor .u64 t373 (IntKind.u64.wrap ((rd_T39 x10 x12).f1)))).bind fun t374 => (value_Hash.l0 k t374 x10 x11 (wrap64 (x12 + 1))))) else (if ((rd_T39 x10 x12).f0) = 3 then ((checksum_Mix.f (Go.bits .xor .u64 x5 4)).bind fun tM => (if ((rd_T39 x10 x12).f2).size ≤ 9223372036854775807 then ((checksum_Hash.f k tM (bytesOf ((rd_T39 x10 x12).f2))).bind fun tH => (value_Hash.l0 k tH x10 x11 (wrap64 (x12 + 1)))) else none)) else (value_Hash.l0 k x5 x10 x11 (wrap64 (x12 + 1))))))) else (none)) else (none)) else (some x5)
def value_Hash.f (k : Nat) (a0 : Int) (l1 : List (S39)) : Option (Int) := (checksum_Mix.f a0).bind fun t367 => (value_Hash.l0 k t367 l1 (l1.length : Int) 0)
theorem value_Hash.mono_l : ∀ k, (∀ y0 y1 y2 y3, LeO (value_Hash.l0 k y0 y1 y2 y3) (value_Hash.l0 (k + 1) y0 y1 y2 y3))
 | 0 => fun _ _ _ _ r h => by simp [value_Hash.l0] at h
 | k + 1 => by
  have ih0 := value_Hash.mono_l k
  ·intro y0 y1 y2 y3
   unfold value_Hash.l0
   repeat' first
   | (with_reducible exact checksum_Hash.mono _ _ _)
   | (with_reducible exact ih0 _ _ _ _)
   | (with_reducible exact LeO.refl _)
   | (with_reducible exact LeO.none _)
   | (with_reducible refine LeO.ite ?_ ?_)
   | (with_reducible refine LeO.bind ?_ (fun _ => ?_))
   | exact ih0 _ _ _ _
   | exact LeO.none _
   | refine LeO.ite ?_ ?_
   | refine LeO.bind ?_ (fun _ => ?_)
theorem value_Hash.mono : ∀ a0 a1 k, LeO (value_Hash.f k a0 a1) (value_Hash.f (k + 1) a0 a1) := by
 intro a0 a1 k
 have ih0 := value_Hash.mono_l k
 unfold value_Hash.f
 repeat' first
   | (with_reducible exact checksum_Hash.mono _ _ _)
   | (with_reducible exact ih0 _ _ _ _)
   | (with_reducible exact LeO.refl _)
   | (with_reducible exact LeO.none _)
   | (with_reducible refine LeO.ite ?_ ?_)
   | (with_reducible refine LeO.bind ?_ (fun _ => ?_))
   | exact ih0 _ _ _ _
   | exact LeO.none _
   | refine LeO.ite ?_ ?_
   | refine LeO.bind ?_ (fun _ => ?_)
def value_Hash.T9 : Bool × List (List Nat × List Nat) := (true, [([], []), ([0], [0]), ([1], [1]), ([], []), ([3], [3]), ([4], [4]), ([2, 5], [2, 5]), ([6, 2], [6]), ([7, 7, 0, 1, 2, 3, 4, 5, 6, 7], [0, 7])])
def value_Hash.B9 : List Nat := [0, 1, 3, 0, 8, 24, 63, 127, 255]
theorem value_Hash.tab9 : rtab .any (opsOf Try.f54 9) = value_Hash.T9 := by kernel_rfl
theorem value_Hash.bits9 : waitsOk value_Hash.T9.2 value_Hash.B9 = true := by kernel_rfl
def value_Hash.T11 : Bool × List (List Nat × List Nat) := (true, [([], []), ([0], [0]), ([1], [1]), ([], []), ([3], [3]), ([4], [4]), ([2, 5], [2, 5]), ([6, 2], [6]), ([7, 7, 0, 1, 2, 3, 4, 5, 6, 7], [0, 7])])
def value_Hash.B11 : List Nat := [0, 1, 3, 0, 8, 24, 63, 127, 255]
theorem value_Hash.tab11 : rtab .any (opsOf Try.f54 11) = value_Hash.T11 := by kernel_rfl
theorem value_Hash.bits11 : waitsOk value_Hash.T11.2 value_Hash.B11 = true := by kernel_rfl
set_option maxHeartbeats 8000000 in
set_option maxRecDepth 100000 in
theorem value_Hash.calls (k : Nat) (a0 : Int) (A1 : Option Addr) (c1 : Nat) (l1 : List (S39)) (r : Int) (w : World) (hr1 : Kd.C k39 w A1 l1.length l1) (hc1 : l1.length ≤ c1) (h : value_Hash.f k a0 l1 = some r) :
  Calls Try.prog 54 #[.int .u64 a0, .slice A1 l1.length c1] w fun e w' => e = .returned (.int .u64 r) ∧ Below w.heap.size w w' := by
 have hu39 := Try.underlying39
 have HR1 := Aside0.mk hr1
 have HC1 := Aside0.mk hc1
 clear hr1 hc1
 have HB := Aside0.mk (Below.refl w.heap.size w)
 have H : ((checksum_Mix.f a0).bind fun t367 => (value_Hash.l0 k t367 l1 (l1.length : Int) 0)) = some r := h
 clear h
 replace H := Option.bind_eq_some_iff.mp H
 obtain ⟨t367, A30, H⟩ := H
 replace H : (value_Hash.l0 k t367 l1 (l1.length : Int) 0) = some r := H
 have A3 := Aside0.mk A30
 clear A30
 have H' := Aside0.mk H
 clear H
 go_enter Try.func54, Try.ntmps54
 go_wp2_with (first | ((with_reducible refine gate_callee (f := 101) rfl ?_); refine goesL_ (some 9) rfl rfl Try.func101 (by kernel_rfl) rfl #[.int .u64 a0] rfl (by (try simp only [List.map_toArray, List.map_cons, List.map_nil]); first | done | rfl | (simp only [List.length_drop, List.length_take]; rfl) | (simp only [Int.ofNat_lt, Int.ofNat_le, gt_iff_lt, ge_iff_le]; rfl)) ?_; (with_reducible refine (checksum_Mix.calls a0 t367 _ A3.out).mono ?_); rintro e w' ⟨rfl, ⟨nd, rfl⟩⟩; refine ⟨_, rfl, ?_⟩))
 go_loopg [5, 12] k (fun kq v5 v12 w' => ∃ (x5_1 : Int) (x12_1 : Int), v5 = .int .u64 x5_1 ∧ v12 = .int .i64 x12_1 ∧ Aside0 (value_Hash.l0 kq x5_1 l1 (l1.length : Int) x12_1 = some r) ∧ Aside0 (kq ≤ k) ∧ Aside0 (Below w.heap.size w w'))
 case atStart => exact ⟨(t367), (0), (by first | rfl | (simp; done) | (simp [*]; done)), (by first | rfl | (simp; done) | (simp [*]; done)), H', ⟨Nat.le_refl _⟩, ⟨(hb_ HB.out)⟩⟩
 case round =>
  clear H'
  try clear c1
  try clear p2
  obtain ⟨x5_1, x12_1, rfl, rfl, HA, HK1, HB⟩ := hrel
  cases gk with
  | zero => exact absurd HA.out (by simp [value_Hash.l0])
  | succ k1 =>
   have H := HA.out
   clear HA
   simp only [value_Hash.l0] at H
   by_cases c4 : x12_1 < (l1.length : Int)
   ·rw [if_pos c4] at H
    have c4b0 : decide (x12_1 < (l1.length : Int)) = true := decide_eq_true c4
    clear c4
    by_cases c5 : 0 ≤ x12_1
    ·rw [if_pos c5] at H
     have c5b0 : decide (0 ≤ x12_1) = true := decide_eq_true c5
     clear c5
     by_cases c6 : x12_1 < (l1.length : Int)
     ·rw [if_pos c6] at H
      have c6b0 : decide (x12_1 < (l1.length : Int)) = true := decide_eq_true c6
      clear c6
      by_cases c7 : ((rd_T39 l1 x12_1).f0) = 0
      ·rw [if_pos c7] at H
       have c7b0 : (((rd_T39 l1 x12_1).f0) == 0) = true := beq_iff_eq.mpr c7
       have c7b1 : (((rd_T39 l1 x12_1).f0) != 0) = false := bne_eq_false_iff_eq.mpr c7
       clear c7
       replace H := Option.bind_eq_some_iff.mp H
       obtain ⟨t370, A80, H⟩ := H
       replace H : (value_Hash.l0 k1 t370 l1 (l1.length : Int) (wrap64 (x12_1 + 1))) = some r := H
       have A8 := Aside0.mk A80
       clear A80
       have H' := Aside0.mk H
       clear H
       have p368 : 0 ≤ (x12_1 : Int) := of_decide_eq_true (by first | (with_reducible assumption) | assumption)
       have q368 : x12_1 < (l1.length : Int) := of_decide_eq_true (by first | (with_reducible assumption) | assumption)
       obtain ⟨ad368, e368, hx368_0, hx368_1, hx368_2⟩ := at_T39 HR1.out x12_1 p368 q368
       cases e368
       replace hx368_0 := up_ HB.out hx368_0
       replace hx368_1 := up_ HB.out hx368_1
       replace hx368_2 := up_ HB.out hx368_2
       replace p368 := eq_true p368
       replace q368 := eq_true q368
       go_wp2_with (first | ((with_reducible refine gate_dst (N := 7) rfl ?_); refine box_ 7 (cs := #[.int .i64 0, .int .i64 0, .string (⟨#[]⟩ : ByteArray)]) (t := 39) ?_; intro gb369 hg w9 hbox hb; have BK369 := Aside0.mk (hbox); have GW369 := Aside0.mk ((by rw [hg]; exact (below_size (hb_ HB.out)) : w.heap.size ≤ gb369)); have GE369 := Aside0.mk ((by rw [hg]; exact (below_size (hb_ HB.out)) : w.heap.size ≤ gb369)); replace HB := Aside0.mk (below_step (hb_ HB.out) hb); clear hb hbox hg; obtain ⟨hcz10_0, hcz10_1, hcz10_2, hfz10_0, hfz10_1, hfz10_2⟩ := bf3 BK369.out) | ((with_reducible refine gate_callee (f := 101) rfl ?_); refine goesL_ (some 22) rfl rfl Try.func101 (by kernel_rfl) rfl #[.int .u64 (Go.bits .xor .u64 x5_1 1)] rfl (by (try simp only [List.map_toArray, List.map_cons, List.map_nil]); first | done | rfl | (simp only [List.length_drop, List.length_take]; rfl) | (simp only [Int.ofNat_lt, Int.ofNat_le, gt_iff_lt, ge_iff_le]; rfl)) ?_; (with_reducible refine (checksum_Mix.calls (Go.bits .xor .u64 x5_1 1) t370 _ A8.out).mono ?_); rintro e w' ⟨rfl, ⟨nd, rfl⟩⟩; refine ⟨_, rfl, ?_⟩))
       go_roundg k1
       case measure => have := HK1.out; omega
       case rel => exact ⟨(t370), (wrap64 (x12_1 + 1)), (by first | rfl | (simp; done) | (simp [*]; done)), (by first | rfl | (simp; done) | (simp [*]; done)), H', ⟨by have := HK1.out; omega⟩, ⟨(hb1_ HB.out GE369.out)⟩⟩
      ·rw [if_neg c7] at H
       have c7b0 : (((rd_T39 l1 x12_1).f0) == 0) = false := beq_eq_false_iff_ne.mpr c7
       have c7b1 : (((rd_T39 l1 x12_1).f0) != 0) = true := bne_iff_ne.mpr c7
       by_cases c11 : ((rd_T39 l1 x12_1).f0) = 1
       ·rw [if_pos c11] at H
        have c11b0 : (((rd_T39 l1 x12_1).f0) == 1) = true := beq_iff_eq.mpr c11
        have c11b1 : (((rd_T39 l1 x12_1).f0) != 1) = false := bne_eq_false_iff_eq.mpr c11
        clear c11
        replace H := Option.bind_eq_some_iff.mp H
        obtain ⟨t371, A120, H⟩ := H
        replace H : ((checksum_Mix.f (Go.bits .xor .u64 t371 (IntKind.u64.wrap ((rd_T39 l1 x12_1).f1)))).bind fun t372 => (value_Hash.l0 k1 t372 l1 (l1.length : Int) (wrap64 (x12_1 + 1)))) = some r := H
        have A12 := Aside0.mk A120
        clear A120
        replace H := Option.bind_eq_some_iff.mp H
        obtain ⟨t372, A130, H⟩ := H
        replace H : (value_Hash.l0 k1 t372 l1 (l1.length : Int) (wrap64 (x12_1 + 1))) = some r := H
        have A13 := Aside0.mk A130
        clear A130
        have H' := Aside0.mk H
        clear H
        have p368 : 0 ≤ (x12_1 : Int) := of_decide_eq_true (by first | (with_reducible assumption) | assumption)
        have q368 : x12_1 < (l1.length : Int) := of_decide_eq_true (by first | (with_reducible assumption) | assumption)
        obtain ⟨ad368, e368, hx368_0, hx368_1, hx368_2⟩ := at_T39 HR1.out x12_1 p368 q368
        cases e368
        replace hx368_0 := up_ HB.out hx368_0
        replace hx368_1 := up_ HB.out hx368_1
        replace hx368_2 := up_ HB.out hx368_2
        replace p368 := eq_true p368
        replace q368 := eq_true q368
        try go_wp2_with (first | ((with_reducible refine gate_dst (N := 7) rfl ?_); refine box_ 7 (cs := #[.int .i64 0, .int .i64 0, .string (⟨#[]⟩ : ByteArray)]) (t := 39) ?_; intro gb369 hg w14 hbox hb; have BK369 := Aside0.mk (hbox); have GW369 := Aside0.mk ((by rw [hg]; exact (below_size (hb_ HB.out)) : w.heap.size ≤ gb369)); have GE369 := Aside0.mk ((by rw [hg]; exact (below_size (hb_ HB.out)) : w.heap.size ≤ gb369)); replace HB := Aside0.mk (below_step (hb_ HB.out) hb); clear hb hbox hg; obtain ⟨hcz15_0, hcz15_1, hcz15_2, hfz15_0, hfz15_1, hfz15_2⟩ := bf3 BK369.out))
        have n0_ : Aside0 ((((w14.setCell ⟨gb369, 0, none⟩ (.int .i64 ((rd_T39 l1 x12_1).f0))).setCell ⟨gb369, 1, none⟩ (.int .i64 ((rd_T39 l1 x12_1).f1))).setCell ⟨gb369, 2, none⟩ (.string ((rd_T39 l1 x12_1).f2))).heap[gb369]? = some (.cells #[.int .i64 ((rd_T39 l1 x12_1).f0), .int .i64 ((rd_T39 l1 x12_1).f1), .string ((rd_T39 l1 x12_1).f2)] 39 (0, 0))) := ⟨by (with_reducible repeat (first | refine blk_drewN ?_ _ | refine blk_drew ?_ | refine blk_alloc ?_ _)); refine blk_put (cs := #[.int .i64 ((rd_T39 l1 x12_1).f0), .int .i64 ((rd_T39 l1 x12_1).f1), .string (⟨#[]⟩ : ByteArray)]) ?_ 2 _ rfl; (with_reducible repeat (first | refine blk_drewN ?_ _ | refine blk_drew ?_ | refine blk_alloc ?_ _)); refine blk_put (cs := #[.int .i64 ((rd_T39 l1 x12_1).f0), .int .i64 0, .string (⟨#[]⟩ : ByteArray)]) ?_ 1 _ rfl; (with_reducible repeat (first | refine blk_drewN ?_ _ | refine blk_drew ?_ | refine blk_alloc ?_ _)); refine blk_put (cs := #[.int .i64 0, .int .i64 0, .string (⟨#[]⟩ : ByteArray)]) ?_ 0 _ rfl; (with_reducible repeat (first | refine blk_drewN ?_ _ | refine blk_drew ?_ | refine blk_alloc ?_ _)); exact BK369.out⟩
        have n1_ : Aside0 (Below w.heap.size w (((w14.setCell ⟨gb369, 0, none⟩ (.int .i64 ((rd_T39 l1 x12_1).f0))).setCell ⟨gb369, 1, none⟩ (.int .i64 ((rd_T39 l1 x12_1).f1))).setCell ⟨gb369, 2, none⟩ (.string ((rd_T39 l1 x12_1).f2)))) := ⟨(hb1_ HB.out GE369.out)⟩
        (try clear BK369)
        (try clear HB)
        generalize (((w14.setCell ⟨gb369, 0, none⟩ (.int .i64 ((rd_T39 l1 x12_1).f0))).setCell ⟨gb369, 1, none⟩ (.int .i64 ((rd_T39 l1 x12_1).f1))).setCell ⟨gb369, 2, none⟩ (.string ((rd_T39 l1 x12_1).f2))) = w16 at n0_ n1_ ⊢
        have BK369 := n0_
        have HB := n1_
        clear n0_ n1_
        replace BK369 := Aside0.mk (blk_drew BK369.out)
        replace HB := Aside0.mk (below_drew1 HB.out)
        refine start_ (n := 9) (S := fun w' => w'.cell? ⟨gb369, 0, none⟩ = some (.int .i64 ((rd_T39 l1 x12_1).f0)) ∧ w'.cell? ⟨gb369, 1, none⟩ = some (.int .i64 ((rd_T39 l1 x12_1).f1)) ∧ w'.cell? ⟨gb369, 2, none⟩ = some (.string ((rd_T39 l1 x12_1).f2))) (ds := []) #[false, false, false, false, false, false, false, false, false] (by kernel_rfl) rfl rfl (bc3 BK369.out) (fun hHeld => ?_); refine with_tabW value_Hash.tab9 value_Hash.bits9 (fun HT_ HW_ => ?_)
        generalize w16.drew = w17 at BK369 HB hHeld ⊢
        refine pu_ HT_ 0 (some 25) ?_
        refine pu_ HT_ 1 (some 26) ?_
        refine pu_ HT_ 3 (some 28) ?_
        refine tk_ HT_ HW_ 4 (some 29) hHeld ?_
        refine pu_ HT_ 5 (some 30) ?_
        refine on_ HT_ 2 (some 27) (fun K hK => ?_)
        refine gos_ Try.func101 #[.int .u64 (Go.bits .xor .u64 x5_1 2)] ?_
        with_reducible refine (checksum_Mix.calls (Go.bits .xor .u64 x5_1 2) t371 _ A12.out).mono ?_
        rintro e w' ⟨rfl, ⟨nd, rfl⟩⟩
        refine ⟨_, rfl, ?_⟩
        refine hK.out _ _ (bc3 BK369.out) (fun hHeld => ?_)
        clear hK K
        refine nm_ (some 27) ?_
        refine pu_ HT_ 6 (some 31) ?_
        refine on_ HT_ 7 (some 32) (fun K hK => ?_)
        refine gos_ Try.func101 #[.int .u64 (Go.bits .xor .u64 t371 (IntKind.u64.wrap ((rd_T39 l1 x12_1).f1)))] ?_
        with_reducible refine (checksum_Mix.calls (Go.bits .xor .u64 t371 (IntKind.u64.wrap ((rd_T39 l1 x12_1).f1))) t372 _ A13.out).mono ?_
        rintro e w' ⟨rfl, ⟨nd, rfl⟩⟩
        refine ⟨_, rfl, ?_⟩
        refine hK.out _ _ (bc3 BK369.out) (fun hHeld => ?_)
        clear hK K
        refine nm_ (some 32) ?_
        refine pu_ HT_ 8 (some 5) ?_
        refine done_ (done_of HT_.out (by kernel_rfl)) ?_
        try go_wp2
        go_roundg k1
        case measure => have := HK1.out; omega
        case rel => exact ⟨(t372), (wrap64 (x12_1 + 1)), (by first | rfl | (simp; done) | (simp [*]; done)), (by first | rfl | (simp; done) | (simp [*]; done)), H', ⟨by have := HK1.out; omega⟩, ⟨(hb1_ HB.out GE369.out)⟩⟩
       ·rw [if_neg c11] at H
        have c11b0 : (((rd_T39 l1 x12_1).f0) == 1) = false := beq_eq_false_iff_ne.mpr c11
        have c11b1 : (((rd_T39 l1 x12_1).f0) != 1) = true := bne_iff_ne.mpr c11
        by_cases c18 : ((rd_T39 l1 x12_1).f0) = 2
        ·rw [if_pos c18] at H
         have c18b0 : (((rd_T39 l1 x12_1).f0) == 2) = true := beq_iff_eq.mpr c18
         have c18b1 : (((rd_T39 l1 x12_1).f0) != 2) = false := bne_eq_false_iff_eq.mpr c18
         clear c18
         replace H := Option.bind_eq_some_iff.mp H
         obtain ⟨t373, A190, H⟩ := H
         replace H : ((checksum_Mix.f (Go.bits .xor .u64 t373 (IntKind.u64.wrap ((rd_T39 l1 x12_1).f1)))).bind fun t374 => (value_Hash.l0 k1 t374 l1 (l1.length : Int) (wrap64 (x12_1 + 1)))) = some r := H
         have A19 := Aside0.mk A190
         clear A190
         replace H := Option.bind_eq_some_iff.mp H
         obtain ⟨t374, A200, H⟩ := H
         replace H : (value_Hash.l0 k1 t374 l1 (l1.length : Int) (wrap64 (x12_1 + 1))) = some r := H
         have A20 := Aside0.mk A200
         clear A200
         have H' := Aside0.mk H
         clear H
         have p368 : 0 ≤ (x12_1 : Int) := of_decide_eq_true (by first | (with_reducible assumption) | assumption)
         have q368 : x12_1 < (l1.length : Int) := of_decide_eq_true (by first | (with_reducible assumption) | assumption)
         obtain ⟨ad368, e368, hx368_0, hx368_1, hx368_2⟩ := at_T39 HR1.out x12_1 p368 q368
         cases e368
         replace hx368_0 := up_ HB.out hx368_0
         replace hx368_1 := up_ HB.out hx368_1
         replace hx368_2 := up_ HB.out hx368_2
         replace p368 := eq_true p368
         replace q368 := eq_true q368
         try go_wp2_with (first | ((with_reducible refine gate_dst (N := 7) rfl ?_); refine box_ 7 (cs := #[.int .i64 0, .int .i64 0, .string (⟨#[]⟩ : ByteArray)]) (t := 39) ?_; intro gb369 hg w21 hbox hb; have BK369 := Aside0.mk (hbox); have GW369 := Aside0.mk ((by rw [hg]; exact (below_size (hb_ HB.out)) : w.heap.size ≤ gb369)); have GE369 := Aside0.mk ((by rw [hg]; exact (below_size (hb_ HB.out)) : w.heap.size ≤ gb369)); replace HB := Aside0.mk (below_step (hb_ HB.out) hb); clear hb hbox hg; obtain ⟨hcz22_0, hcz22_1, hcz22_2, hfz22_0, hfz22_1, hfz22_2⟩ := bf3 BK369.out))
         have n0_ : Aside0 ((((w21.setCell ⟨gb369, 0, none⟩ (.int .i64 ((rd_T39 l1 x12_1).f0))).setCell ⟨gb369, 1, none⟩ (.int .i64 ((rd_T39 l1 x12_1).f1))).setCell ⟨gb369, 2, none⟩ (.string ((rd_T39 l1 x12_1).f2))).heap[gb369]? = some (.cells #[.int .i64 ((rd_T39 l1 x12_1).f0), .int .i64 ((rd_T39 l1 x12_1).f1), .string ((rd_T39 l1 x12_1).f2)] 39 (0, 0))) := ⟨by (with_reducible repeat (first | refine blk_drewN ?_ _ | refine blk_drew ?_ | refine blk_alloc ?_ _)); refine blk_put (cs := #[.int .i64 ((rd_T39 l1 x12_1).f0), .int .i64 ((rd_T39 l1 x12_1).f1), .string (⟨#[]⟩ : ByteArray)]) ?_ 2 _ rfl; (with_reducible repeat (first | refine blk_drewN ?_ _ | refine blk_drew ?_ | refine blk_alloc ?_ _)); refine blk_put (cs := #[.int .i64 ((rd_T39 l1 x12_1).f0), .int .i64 0, .string (⟨#[]⟩ : ByteArray)]) ?_ 1 _ rfl; (with_reducible repeat (first | refine blk_drewN ?_ _ | refine blk_drew ?_ | refine blk_alloc ?_ _)); refine blk_put (cs := #[.int .i64 0, .int .i64 0, .string (⟨#[]⟩ : ByteArray)]) ?_ 0 _ rfl; (with_reducible repeat (first | refine blk_drewN ?_ _ | refine blk_drew ?_ | refine blk_alloc ?_ _)); exact BK369.out⟩
         have n1_ : Aside0 (Below w.heap.size w (((w21.setCell ⟨gb369, 0, none⟩ (.int .i64 ((rd_T39 l1 x12_1).f0))).setCell ⟨gb369, 1, none⟩ (.int .i64 ((rd_T39 l1 x12_1).f1))).setCell ⟨gb369, 2, none⟩ (.string ((rd_T39 l1 x12_1).f2)))) := ⟨(hb1_ HB.out GE369.out)⟩
         (try clear BK369)
         (try clear HB)
         generalize (((w21.setCell ⟨gb369, 0, none⟩ (.int .i64 ((rd_T39 l1 x12_1).f0))).setCell ⟨gb369, 1, none⟩ (.int .i64 ((rd_T39 l1 x12_1).f1))).setCell ⟨gb369, 2, none⟩ (.string ((rd_T39 l1 x12_1).f2))) = w23 at n0_ n1_ ⊢
         have BK369 := n0_
         have HB := n1_
         clear n0_ n1_
         replace BK369 := Aside0.mk (blk_drew BK369.out)
         replace HB := Aside0.mk (below_drew1 HB.out)
         refine start_ (n := 9) (S := fun w' => w'.cell? ⟨gb369, 0, none⟩ = some (.int .i64 ((rd_T39 l1 x12_1).f0)) ∧ w'.cell? ⟨gb369, 1, none⟩ = some (.int .i64 ((rd_T39 l1 x12_1).f1)) ∧ w'.cell? ⟨gb369, 2, none⟩ = some (.string ((rd_T39 l1 x12_1).f2))) (ds := []) #[false, false, false, false, false, false, false, false, false] (by kernel_rfl) rfl rfl (bc3 BK369.out) (fun hHeld => ?_); refine with_tabW value_Hash.tab11 value_Hash.bits11 (fun HT_ HW_ => ?_)
         generalize w23.drew = w24 at BK369 HB hHeld ⊢
         refine pu_ HT_ 0 (some 35) ?_
         refine pu_ HT_ 1 (some 36) ?_
         refine pu_ HT_ 3 (some 38) ?_
         refine tk_ HT_ HW_ 4 (some 39) hHeld ?_
         refine pu_ HT_ 5 (some 40) ?_
         refine on_ HT_ 2 (some 37) (fun K hK => ?_)
         refine gos_ Try.func101 #[.int .u64 (Go.bits .xor .u64 x5_1 3)] ?_
         with_reducible refine (checksum_Mix.calls (Go.bits .xor .u64 x5_1 3) t373 _ A19.out).mono ?_
         rintro e w' ⟨rfl, ⟨nd, rfl⟩⟩
         refine ⟨_, rfl, ?_⟩
         refine hK.out _ _ (bc3 BK369.out) (fun hHeld => ?_)
         clear hK K
         refine nm_ (some 37) ?_
         refine pu_ HT_ 6 (some 41) ?_
         refine on_ HT_ 7 (some 42) (fun K hK => ?_)
         refine gos_ Try.func101 #[.int .u64 (Go.bits .xor .u64 t373 (IntKind.u64.wrap ((rd_T39 l1 x12_1).f1)))] ?_
         with_reducible refine (checksum_Mix.calls (Go.bits .xor .u64 t373 (IntKind.u64.wrap ((rd_T39 l1 x12_1).f1))) t374 _ A20.out).mono ?_
         rintro e w' ⟨rfl, ⟨nd, rfl⟩⟩
         refine ⟨_, rfl, ?_⟩
         refine hK.out _ _ (bc3 BK369.out) (fun hHeld => ?_)
         clear hK K
         refine nm_ (some 42) ?_
         refine pu_ HT_ 8 (some 5) ?_
         refine done_ (done_of HT_.out (by kernel_rfl)) ?_
         try go_wp2
         go_roundg k1
         case measure => have := HK1.out; omega
         case rel => exact ⟨(t374), (wrap64 (x12_1 + 1)), (by first | rfl | (simp; done) | (simp [*]; done)), (by first | rfl | (simp; done) | (simp [*]; done)), H', ⟨by have := HK1.out; omega⟩, ⟨(hb1_ HB.out GE369.out)⟩⟩
        ·rw [if_neg c18] at H
         have c18b0 : (((rd_T39 l1 x12_1).f0) == 2) = false := beq_eq_false_iff_ne.mpr c18
         have c18b1 : (((rd_T39 l1 x12_1).f0) != 2) = true := bne_iff_ne.mpr c18
         by_cases c25 : ((rd_T39 l1 x12_1).f0) = 3
         ·rw [if_pos c25] at H
          have c25b0 : (((rd_T39 l1 x12_1).f0) == 3) = true := beq_iff_eq.mpr c25
          have c25b1 : (((rd_T39 l1 x12_1).f0) != 3) = false := bne_eq_false_iff_eq.mpr c25
          clear c25
          replace H := Option.bind_eq_some_iff.mp H
          obtain ⟨tM, AM0, H⟩ := H
          have AM := Aside0.mk AM0
          clear AM0
          replace H : (if ((rd_T39 l1 x12_1).f2).size ≤ 9223372036854775807 then ((checksum_Hash.f k1 tM (bytesOf ((rd_T39 l1 x12_1).f2))).bind fun tH => (value_Hash.l0 k1 tH l1 (l1.length : Int) (wrap64 (x12_1 + 1)))) else none) = some r := H
          by_cases hsz : ((rd_T39 l1 x12_1).f2).size ≤ 9223372036854775807
          ·rw [if_pos hsz] at H
           obtain ⟨tH, AH0, H⟩ := Option.bind_eq_some_iff.mp H
           have AH := Aside0.mk AH0
           have H' := Aside0.mk H
           clear AH0 H
           have pT : 0 ≤ (x12_1 : Int) := of_decide_eq_true (by first | (with_reducible assumption) | assumption)
           have qT : x12_1 < (l1.length : Int) := of_decide_eq_true (by first | (with_reducible assumption) | assumption)
           obtain ⟨adT, eT, hxT_0, hxT_1, hxT_2⟩ := at_T39 HR1.out x12_1 pT qT
           cases eT
           replace hxT_0 := up_ HB.out hxT_0
           replace hxT_1 := up_ HB.out hxT_1
           replace hxT_2 := up_ HB.out hxT_2
           replace pT := eq_true pT
           replace qT := eq_true qT
           try go_wp2_with (first | ((with_reducible refine gate_dst (N := 7) rfl ?_); refine box_ 7 (cs := #[.int .i64 0, .int .i64 0, .string (⟨#[]⟩ : ByteArray)]) (t := 39) ?_; intro gbT hg wa hbox hb; have BKT := Aside0.mk (hbox); have GWT := Aside0.mk ((by rw [hg]; exact (below_size (hb_ HB.out)) : w.heap.size ≤ gbT)); have GET := Aside0.mk ((by rw [hg]; exact (below_size (hb_ HB.out)) : w.heap.size ≤ gbT)); replace HB := Aside0.mk (below_step (hb_ HB.out) hb); clear hb hbox hg; have hcT_0 : wa.cell? ⟨gbT, 0, none⟩ = some (.int .i64 0) := (blk_cell BKT.out 0).trans rfl; have hcT_1 : wa.cell? ⟨gbT, 1, none⟩ = some (.int .i64 0) := (blk_cell BKT.out 1).trans rfl; have hcT_2 : wa.cell? ⟨gbT, 2, none⟩ = some (.string (⟨#[]⟩ : ByteArray)) := (blk_cell BKT.out 2).trans rfl; have hfT_0 := blk_frozen BKT.out 0; have hfT_1 := blk_frozen BKT.out 1; have hfT_2 := blk_frozen BKT.out 2))
           have n0_ : Aside0 ((((wa.setCell ⟨gbT, 0, none⟩ (.int .i64 ((rd_T39 l1 x12_1).f0))).setCell ⟨gbT, 1, none⟩ (.int .i64 ((rd_T39 l1 x12_1).f1))).setCell ⟨gbT, 2, none⟩ (.string ((rd_T39 l1 x12_1).f2))).heap[gbT]? = some (.cells #[.int .i64 ((rd_T39 l1 x12_1).f0), .int .i64 ((rd_T39 l1 x12_1).f1), .string ((rd_T39 l1 x12_1).f2)] 39 (0, 0))) := ⟨by (with_reducible repeat (first | refine blk_drewN ?_ _ | refine blk_drew ?_ | refine blk_alloc ?_ _)); refine blk_put (cs := #[.int .i64 ((rd_T39 l1 x12_1).f0), .int .i64 ((rd_T39 l1 x12_1).f1), .string (⟨#[]⟩ : ByteArray)]) ?_ 2 _ rfl; (with_reducible repeat (first | refine blk_drewN ?_ _ | refine blk_drew ?_ | refine blk_alloc ?_ _)); refine blk_put (cs := #[.int .i64 ((rd_T39 l1 x12_1).f0), .int .i64 0, .string (⟨#[]⟩ : ByteArray)]) ?_ 1 _ rfl; (with_reducible repeat (first | refine blk_drewN ?_ _ | refine blk_drew ?_ | refine blk_alloc ?_ _)); refine blk_put (cs := #[.int .i64 0, .int .i64 0, .string (⟨#[]⟩ : ByteArray)]) ?_ 0 _ rfl; (with_reducible repeat (first | refine blk_drewN ?_ _ | refine blk_drew ?_ | refine blk_alloc ?_ _)); exact BKT.out⟩
           have n1_ : Aside0 (Below w.heap.size w (((wa.setCell ⟨gbT, 0, none⟩ (.int .i64 ((rd_T39 l1 x12_1).f0))).setCell ⟨gbT, 1, none⟩ (.int .i64 ((rd_T39 l1 x12_1).f1))).setCell ⟨gbT, 2, none⟩ (.string ((rd_T39 l1 x12_1).f2)))) := ⟨by repeat (first | (with_reducible first | exact HB.out | apply below_alloc | apply pw_below_drewN | apply below_drew1 | refine below_set ?_ GET.out) | exact HB.out)⟩
           (try clear BKT)
           (try clear HB)
           generalize (((wa.setCell ⟨gbT, 0, none⟩ (.int .i64 ((rd_T39 l1 x12_1).f0))).setCell ⟨gbT, 1, none⟩ (.int .i64 ((rd_T39 l1 x12_1).f1))).setCell ⟨gbT, 2, none⟩ (.string ((rd_T39 l1 x12_1).f2))) = wc at n0_ n1_ ⊢
           have BKT := n0_
           have HB := n1_
           clear n0_ n1_
           replace BKT := Aside0.mk (blk_drew BKT.out)
           replace HB := Aside0.mk (below_drew1 HB.out)
           have kb := fun W => print_bytes (P := Try.prog) 9 27 5 Try.underlying9 Try.underlying27 Try.underlying5 ((rd_T39 l1 x12_1).f2) W
           refine start_ (n := 8) (S := fun w' => w'.cell? ⟨gbT, 0, none⟩ = some (.int .i64 ((rd_T39 l1 x12_1).f0)) ∧ w'.cell? ⟨gbT, 1, none⟩ = some (.int .i64 ((rd_T39 l1 x12_1).f1)) ∧ w'.cell? ⟨gbT, 2, none⟩ = some (.string ((rd_T39 l1 x12_1).f2))) (ds := []) #[false, false, false, false, false, false, false, false] (by kernel_rfl) rfl rfl (bc3 BKT.out) (fun hHeld => ?_)
           generalize wc.drew = wd at BKT HB hHeld ⊢
           refine pure_ (i := 0) (N := some 45) (v := ?_) (a' := ?_) #[true, false, false, false, false, false, false, false] rfl rfl (by kernel_rfl) (fun _ _ _ h => h) (Or.inl ⟨by rfl, ?_⟩) ?_ ?_
           rotate_left
           ·intro w'
            go_simp
            with_reducible rfl
           rotate_left
           ·simp only [Act.put, List.setIfInBounds_toArray, List.set_cons_zero, List.set_cons_succ, i64_w, i32_w]
            rfl
           refine pure_ (i := 1) (N := some 46) (v := ?_) (a' := ?_) #[true, true, false, false, false, false, false, false] rfl rfl (by kernel_rfl) (fun _ _ _ h => h) (Or.inl ⟨by rfl, ?_⟩) ?_ ?_
           rotate_left
           ·intro w'
            go_simp
            with_reducible rfl
           rotate_left
           ·simp only [Act.put, List.setIfInBounds_toArray, List.set_cons_zero, List.set_cons_succ, i64_w, i32_w]
            rfl
           refine pure_ (i := 3) (N := some 48) (v := ?_) (a' := ?_) #[true, true, false, true, false, false, false, false] rfl rfl (by kernel_rfl) (fun _ _ _ h => h) (Or.inl ⟨by rfl, ?_⟩) ?_ ?_
           rotate_left
           ·intro w'
            go_simp
            with_reducible rfl
           rotate_left
           ·simp only [Act.put, List.setIfInBounds_toArray, List.set_cons_zero, List.set_cons_succ, i64_w, i32_w]
            rfl
           refine take_ (i := 4) (N := some 49) (v := ?_) (a' := ?_) #[true, true, false, true, true, false, false, false] rfl rfl (by kernel_rfl) (fun _ _ _ h => h) (Or.inl ⟨by rfl, ?_⟩) hHeld ?_ ?_
           rotate_left
           ·rintro w' ⟨s0, s1, s2⟩
            go_simp
            with_reducible rfl
           rotate_left
           ·simp only [Act.put, List.setIfInBounds_toArray, List.set_cons_zero, List.set_cons_succ, i64_w, i32_w]
            rfl
           refine join_ (σ := Option Addr × Nat) 2 #[true, true, true, true, true, true, false, false] (fun s_ => [(47, .int .u64 tM), (50, .slice s_.1 ((rd_T39 l1 x12_1).f2).size s_.2)]) (fun s_ w' => w'.heap[gbT]? = some (.cells #[.int .i64 ((rd_T39 l1 x12_1).f0), .int .i64 ((rd_T39 l1 x12_1).f1), .string ((rd_T39 l1 x12_1).f2)] 39 (0, 0)) ∧ Kd.C (Kd.int .u8) w' s_.1 ((rd_T39 l1 x12_1).f2).size (bytesOf ((rd_T39 l1 x12_1).f2)) ∧ ((rd_T39 l1 x12_1).f2).size ≤ s_.2 ∧ Below w.heap.size w w') ?_ ?_
           rotate_left
           ·intro hCont
            refine two_ (i := 2) (j := 5) (Ni := some 47) (Nj := some 50) #[true, true, true, true, true, false, false, false] #[true, true, false, true, true, true, false, false] rfl rfl rfl rfl (by kernel_rfl) (by decide) (by decide) (fun K hK => ?_) (fun K hK => ?_)
            ·refine goes_ Try.func101 (by kernel_rfl) rfl #[.int .u64 (Go.bits .xor .u64 x5_1 4)] (by rfl) rfl rfl (by (try simp only [List.map_toArray, List.map_cons, List.map_nil]); rfl) ?_
             with_reducible refine (checksum_Mix.calls (Go.bits .xor .u64 x5_1 4) tM _ AM.out).mono ?_
             rintro e w' ⟨rfl, ⟨nd, rfl⟩⟩
             refine ⟨_, rfl, ?_⟩
             refine hK.out _ _ (bc3 BKT.out) (fun hHeld => ?_)
             clear hK K
             refine nm_ (some 47) ?_
             have n0_ := Aside0.mk (show (World.drewN wd nd).heap[gbT]? = some (.cells #[.int .i64 ((rd_T39 l1 x12_1).f0), .int .i64 ((rd_T39 l1 x12_1).f1), .string ((rd_T39 l1 x12_1).f2)] 39 (0, 0)) from by (with_reducible repeat (first | refine blk_drewN ?_ _ | refine blk_drew ?_ | refine blk_alloc ?_ _)); exact BKT.out)
             have n1_ := Aside0.mk (show Below w.heap.size w (World.drewN wd nd) from by repeat (first | (with_reducible first | exact HB.out | apply below_alloc | apply pw_below_drewN | apply below_drew1 | refine below_set ?_ GET.out) | exact HB.out))
             clear BKT HB
             generalize World.drewN wd nd = wq at n0_ n1_ hHeld ⊢
             have BKT := n0_
             have HB := n1_
             clear n0_ n1_
             refine one_ (i := 5) (N := some 50) #[true, true, true, true, true, true, false, false] rfl rfl (by kernel_rfl) (by decide) (fun K hK => ?_)
             refine value_ (w1 := ?_) (v := ?_) (by rfl) rfl ?_ ?_
             rotate_left 2
             ·go_simp
              constructor
              ·rfl
              ·rfl
             have hb2_ := bytes_below (Below.refl wq.heap.size wq) (Nat.le_refl _) 5 ((rd_T39 l1 x12_1).f2)
             have HCT := Aside0.mk (Kd.C_of_reads (d := (0 : Int)) (h1 := fun _ => rfl) (bytes_reads wq 5 ((rd_T39 l1 x12_1).f2) hsz))
             have hcap_ := grownCap_ge wq ((rd_T39 l1 x12_1).f2).size 0 5
             have n0_ := Aside0.mk (blk_below (g := gbT) (o := .cells #[.int .i64 ((rd_T39 l1 x12_1).f0), .int .i64 ((rd_T39 l1 x12_1).f1), .string ((rd_T39 l1 x12_1).f2)] 39 (0, 0)) BKT.out hb2_)
             have n1_ := Aside0.mk (below_step HB.out hb2_)
             clear BKT HB hb2_
             have BKT := n0_
             have HB := n1_
             clear n0_ n1_
             refine hK.out _ _ (bc3 BKT.out) (fun hHeld => ?_)
             clear hK K
             refine nm_ (some 50) ?_
             exact norm_ (by simp only [putAll, Act.put, List.setIfInBounds_toArray, List.set_cons_zero, List.set_cons_succ]) (hCont (some ⟨wq.heap.size, 0, none⟩, grownCap wq ((rd_T39 l1 x12_1).f2).size 0 5) _ ⟨BKT.out, HCT.out, hcap_, (hb_ HB.out)⟩)
            ·refine value_ (w1 := ?_) (v := ?_) (by rfl) rfl ?_ ?_
             rotate_left 2
             ·go_simp
              constructor
              ·rfl
              ·rfl
             have hb2_ := bytes_below (Below.refl wd.heap.size wd) (Nat.le_refl _) 5 ((rd_T39 l1 x12_1).f2)
             have HCT := Aside0.mk (Kd.C_of_reads (d := (0 : Int)) (h1 := fun _ => rfl) (bytes_reads wd 5 ((rd_T39 l1 x12_1).f2) hsz))
             have hcap_ := grownCap_ge wd ((rd_T39 l1 x12_1).f2).size 0 5
             have n0_ := Aside0.mk (blk_below (g := gbT) (o := .cells #[.int .i64 ((rd_T39 l1 x12_1).f0), .int .i64 ((rd_T39 l1 x12_1).f1), .string ((rd_T39 l1 x12_1).f2)] 39 (0, 0)) BKT.out hb2_)
             have n1_ := Aside0.mk (below_step HB.out hb2_)
             clear BKT HB hb2_
             have BKT := n0_
             have HB := n1_
             clear n0_ n1_
             refine hK.out _ _ (bc3 BKT.out) (fun hHeld => ?_)
             clear hK K
             refine nm_ (some 50) ?_
             refine one_ (i := 2) (N := some 47) #[true, true, true, true, true, true, false, false] rfl rfl (by kernel_rfl) (by decide) (fun K hK => ?_)
             refine goes_ Try.func101 (by kernel_rfl) rfl #[.int .u64 (Go.bits .xor .u64 x5_1 4)] (by rfl) rfl rfl (by (try simp only [List.map_toArray, List.map_cons, List.map_nil]); rfl) ?_
             with_reducible refine (checksum_Mix.calls (Go.bits .xor .u64 x5_1 4) tM _ AM.out).mono ?_
             rintro e w' ⟨rfl, ⟨nd, rfl⟩⟩
             refine ⟨_, rfl, ?_⟩
             refine hK.out _ _ (bc3 BKT.out) (fun hHeld => ?_)
             clear hK K
             refine nm_ (some 47) ?_
             exact norm_ (by simp only [putAll, Act.put, List.setIfInBounds_toArray, List.set_cons_zero, List.set_cons_succ]) (hCont (some ⟨wd.heap.size, 0, none⟩, grownCap wd ((rd_T39 l1 x12_1).f2).size 0 5) _ ⟨(bk_ BKT.out), (Kd.C_drewN HCT.out nd), hcap_, (hb_ HB.out)⟩)
           clear BKT HB
           rintro ⟨A_, cc_⟩ w' ⟨hbk_, hcc_, hcl_, hbb_⟩
           have BKT := Aside0.mk hbk_
           have HB := Aside0.mk hbb_
           have HCT := Aside0.mk hcc_
           clear hbk_ hbb_ hcc_
           refine norm_ (a' := ?_) ?_ ?_
           rotate_left
           ·simp only [putAll, Act.put, List.setIfInBounds_toArray, List.set_cons_zero, List.set_cons_succ]
            rfl
           refine one_ (i := 6) (N := some 51) #[true, true, true, true, true, true, true, false] rfl rfl (by kernel_rfl) (by decide) (fun K hK => ?_)
           refine goes_ Try.func102 (by kernel_rfl) rfl #[.int .u64 tM, .slice A_ ((rd_T39 l1 x12_1).f2).size cc_] (by rfl) rfl rfl (by (try simp only [List.map_toArray, List.map_cons, List.map_nil]); rfl) ?_
           rw [← bytesOf_length ((rd_T39 l1 x12_1).f2)] at HCT hcl_ ⊢
           with_reducible refine (checksum_Hash.calls k1 tM A_ cc_ (bytesOf ((rd_T39 l1 x12_1).f2)) tH _ HCT.out hcl_ AH.out).mono ?_
           rintro e w6 ⟨rfl, hb⟩
           refine ⟨_, rfl, ?_⟩
           have n0_ := Aside0.mk (blk_below (g := gbT) (o := .cells #[.int .i64 ((rd_T39 l1 x12_1).f0), .int .i64 ((rd_T39 l1 x12_1).f1), .string ((rd_T39 l1 x12_1).f2)] 39 (0, 0)) BKT.out hb)
           have n1_ := Aside0.mk (below_step HB.out hb)
           clear BKT HB
           have BKT := n0_
           have HB := n1_
           clear n0_ n1_ hb
           refine hK.out _ _ (bc3 BKT.out) (fun hHeld => ?_)
           clear hK K
           refine nm_ (some 51) ?_
           refine pure_ (i := 7) (N := some 5) (v := ?_) (a' := ?_) #[true, true, true, true, true, true, true, true] rfl rfl (by kernel_rfl) (fun _ _ _ h => h) (Or.inl ⟨by rfl, ?_⟩) ?_ ?_
           rotate_left
           ·intro w'
            go_simp
            with_reducible rfl
           rotate_left
           ·simp only [Act.put, List.setIfInBounds_toArray, List.set_cons_zero, List.set_cons_succ, i64_w, i32_w]
            rfl
           refine done_ (by kernel_rfl) ?_
           try go_wp2
           go_roundg k1
           case measure => have := HK1.out; omega
           case rel => exact ⟨tH, (wrap64 (x12_1 + 1)), (by first | rfl | (simp; done) | (simp [*]; done)), (by first | rfl | (simp; done) | (simp [*]; done)), H', ⟨by have := HK1.out; omega⟩, ⟨(hb_ HB.out)⟩⟩
          ·rw [if_neg hsz] at H
           exact absurd H (by simp)
         ·rw [if_neg c25] at H
          have c25b0 : (((rd_T39 l1 x12_1).f0) == 3) = false := beq_eq_false_iff_ne.mpr c25
          have c25b1 : (((rd_T39 l1 x12_1).f0) != 3) = true := bne_iff_ne.mpr c25
          have H' := Aside0.mk H
          clear H
          have p368 : 0 ≤ (x12_1 : Int) := of_decide_eq_true (by first | (with_reducible assumption) | assumption)
          have q368 : x12_1 < (l1.length : Int) := of_decide_eq_true (by first | (with_reducible assumption) | assumption)
          obtain ⟨ad368, e368, hx368_0, hx368_1, hx368_2⟩ := at_T39 HR1.out x12_1 p368 q368
          cases e368
          replace hx368_0 := up_ HB.out hx368_0
          replace hx368_1 := up_ HB.out hx368_1
          replace hx368_2 := up_ HB.out hx368_2
          replace p368 := eq_true p368
          replace q368 := eq_true q368
          go_wp2_with (first | ((with_reducible refine gate_dst (N := 7) rfl ?_); refine box_ 7 (cs := #[.int .i64 0, .int .i64 0, .string (⟨#[]⟩ : ByteArray)]) (t := 39) ?_; intro gb369 hg w27 hbox hb; have BK369 := Aside0.mk (hbox); have GW369 := Aside0.mk ((by rw [hg]; exact (below_size (hb_ HB.out)) : w.heap.size ≤ gb369)); have GE369 := Aside0.mk ((by rw [hg]; exact (below_size (hb_ HB.out)) : w.heap.size ≤ gb369)); replace HB := Aside0.mk (below_step (hb_ HB.out) hb); clear hb hbox hg; obtain ⟨hcz28_0, hcz28_1, hcz28_2, hfz28_0, hfz28_1, hfz28_2⟩ := bf3 BK369.out))
          go_roundg k1
          case measure => have := HK1.out; omega
          case rel => exact ⟨(x5_1), (wrap64 (x12_1 + 1)), (by first | rfl | (simp; done) | (simp [*]; done)), (by first | rfl | (simp; done) | (simp [*]; done)), H', ⟨by have := HK1.out; omega⟩, ⟨(hb1_ HB.out GE369.out)⟩⟩
     ·rw [if_neg c6] at H
      exact absurd H (by simp)
    ·rw [if_neg c5] at H
     exact absurd H (by simp)
   ·rw [if_neg c4] at H
    have c4b0 : decide (x12_1 < (l1.length : Int)) = false := decide_eq_false c4
    clear c4
    obtain rfl := Option.some.inj H
    go_wp2
    go_ret
    exact er_ ((hb_ HB.out))
/-! ### sketch_cell: function 55 -/
def sketch_cell.f (k : Nat) (a0 : Int) (a1_0 : Int) (a1_1 : Int) (a1_2 : ByteArray) : Option (Int) := (value_Hash.f k (IntKind.u64.wrap (wrap64 (4 + a0))) (([(⟨a1_0, a1_1, a1_2⟩ : S39)] : List (S39)))).bind fun t428 => (some (wrap64 (Int.tmod t428 64)))
theorem sketch_cell.mono : ∀ a0 a1 a2 a3 k, LeO (sketch_cell.f k a0 a1 a2 a3) (sketch_cell.f (k + 1) a0 a1 a2 a3) := by
 intro a0 a1 a2 a3 k
 unfold sketch_cell.f
 repeat' first
   | (with_reducible exact value_Hash.mono _ _ _)
   | (with_reducible exact LeO.refl _)
   | (with_reducible exact LeO.none _)
   | (with_reducible refine LeO.ite ?_ ?_)
   | (with_reducible refine LeO.bind ?_ (fun _ => ?_))
   | exact value_Hash.mono _ _ _
   | exact LeO.none _
   | refine LeO.ite ?_ ?_
   | refine LeO.bind ?_ (fun _ => ?_)
set_option maxHeartbeats 8000000 in
set_option maxRecDepth 100000 in
theorem sketch_cell.calls (k : Nat) (a0 : Int) (a1_0 : Int) (a1_1 : Int) (a1_2 : ByteArray) (r : Int) (w : World) (h : sketch_cell.f k a0 a1_0 a1_1 a1_2 = some r) :
  Calls Try.prog 55 #[.int .i64 a0, .agg #[.int .i64 a1_0, .int .i64 a1_1, .string a1_2]] w fun e w' => e = .returned (.int .i64 r) ∧ Below w.heap.size w w' := by
 have hu39 := Try.underlying39
 have HB := Aside0.mk (Below.refl w.heap.size w)
 have H : ((value_Hash.f k (IntKind.u64.wrap (wrap64 (4 + a0))) (([(⟨a1_0, a1_1, a1_2⟩ : S39)] : List (S39)))).bind fun t428 => (some (wrap64 (Int.tmod t428 64)))) = some r := h
 clear h
 obtain ⟨y425, hy425⟩ : ∃ y_ : List (S39), y_ = (([(⟨a1_0, a1_1, a1_2⟩ : S39)] : List (S39))) := ⟨_, rfl⟩
 replace H : ((value_Hash.f k (IntKind.u64.wrap (wrap64 (4 + a0))) y425).bind fun t428 => (some (wrap64 (Int.tmod t428 64)))) = some r := by first | (rw [hy425]; with_reducible exact H) | (have H2_ := (Option.bind_some _ _).symm.trans H; rw [hy425]; with_reducible exact H2_) | (have H2_ := (Option.bind_some _ _).symm.trans H; with_reducible exact H2_) | with_reducible exact H | (rw [hy425]; exact H) | exact H
 have Ny425 := Aside0.mk hy425
 clear hy425
 replace H := Option.bind_eq_some_iff.mp H
 obtain ⟨t428, A30, H⟩ := H
 replace H : (some (wrap64 (Int.tmod t428 64))) = some r := H
 have A3 := Aside0.mk A30
 clear A30
 obtain rfl := Option.some.inj H
 go_enter Try.func55, Try.ntmps55
 go_wp2_with (first | ((with_reducible refine gate_dst (N := 3) rfl ?_); refine box_ 3 (cs := #[.int .i64 a1_0, .int .i64 a1_1, .string a1_2]) (t := 39) ?_; intro gb424 hg w4 hbox hb; have BK424 := Aside0.mk (hbox); have GW424 := Aside0.mk ((by rw [hg]; exact (below_size (hb_ HB.out)) : w.heap.size ≤ gb424)); have GE424 := Aside0.mk ((by rw [hg]; exact (below_size (hb_ HB.out)) : w.heap.size ≤ gb424)); replace HB := Aside0.mk (below_step (hb_ HB.out) hb); clear hb hbox hg; obtain ⟨hcz5_0, hcz5_1, hcz5_2, hfz5_0, hfz5_1, hfz5_2⟩ := bf3 BK424.out) | ((with_reducible refine gate_dst (N := 9) rfl ?_); refine Kd.R_lit k39 _ 39 ?hg (N := 9) ?hd (xs := ([(⟨a1_0, a1_1, a1_2⟩ : S39)] : List (S39))) (inner := [.int .i64 a1_0, .int .i64 a1_1, .string a1_2]) (ok := fun _ => True) (okp := fun _ => True) ?hr ?hp (fun _ hk => hk) trivial (Below.refl _ _) (Nat.le_refl _) (by simp) ?_; (case hd => rfl); (case hg => rfl); (case hr => first | (go_simp; done) | (go_simp; rfl)); (case hp => exact (Reps.c3 (show Kd.M k39 _ _ _ (⟨a1_0, a1_1, a1_2⟩ : S39) [.int .i64 a1_0, .int .i64 a1_1, .string a1_2] from (k39_mkM _ _ _ (⟨a1_0, a1_1, a1_2⟩ : S39) )) (Reps.none _ _))); intro v426 w6 ho7 hb hg_ hnew_; clear hg_ hnew_; (first | rw [← Ny425.out] at ho7 | (simp only [Int.reduceToNat] at ho7; rw [← Ny425.out] at ho7)); have HO427 := Aside0.mk (Kd.R_lower (Kd.R_newB ho7 (g := gb424) (o := .cells #[.int .i64 a1_0, .int .i64 a1_1, .string a1_2] 39 (0, 0)) (bk_ BK424.out)) (below_size (hb1_ HB.out GE424.out))); replace BK424 := Aside0.mk (blk_below (bk_ BK424.out) hb); replace HB := Aside0.mk (below_step (hb1_ HB.out GE424.out) hb); clear hb ho7; obtain ⟨Ao8, co8, eo8⟩ := Kd.R_slice HO427.out; subst eo8) | ((with_reducible refine gate_callee (f := 54) rfl ?_); refine goesL_ (some 10) rfl rfl Try.func54 (by kernel_rfl) rfl #[.int .u64 (IntKind.u64.wrap (wrap64 (4 + a0))), .slice Ao8 y425.length co8] rfl (by (try simp only [List.map_toArray, List.map_cons, List.map_nil]); first | done | rfl | (simp only [List.length_drop, List.length_take]; rfl) | (simp only [Int.ofNat_lt, Int.ofNat_le, gt_iff_lt, ge_iff_le]; rfl)) ?_; (with_reducible refine (value_Hash.calls k (IntKind.u64.wrap (wrap64 (4 + a0))) _ _ y425 t428 _ ?side1 ?side2 A3.out).mono ?_); (case side1 => repeat (first | exact (Kd.R_reads' HO427.out).2.2 | (with_reducible refine Kd.C_alloc ?_ _) | (with_reducible refine Kd.C_drewN ?_ _) | (with_reducible refine Kd.C_drew ?_))); (case side2 => exact (Kd.R_reads' HO427.out).2.1); rintro e w9 ⟨rfl, hb⟩; refine ⟨_, rfl, ?_⟩; replace HO427 := Aside0.mk (Kd.R_below (ra_ HO427.out) hb); replace BK424 := Aside0.mk (blk_below (bk_ BK424.out) hb); replace HB := Aside0.mk (below_step (hb1_ HB.out GE424.out) hb); (try clear hb)))
 go_ret
 exact er_ ((hb1_ HB.out GE424.out))
end Go.Proofs.Ytackcingpffidaa.P
