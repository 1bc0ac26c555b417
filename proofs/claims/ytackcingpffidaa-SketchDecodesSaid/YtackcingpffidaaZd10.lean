/- What Go functions of the given program return, told as Lean functions, and the walks that show it, with plain facts on them: H36, H16, slices_BinarySearch_uint64_uint64, laminalaw16_integer, U5, H72. Conditions: the hypotheses that stand at each theorem. -/
import Derived.Test.YtackcingpffidaaZd0
import Derived.Test.YtackcingpffidaaZd1
import Derived.Test.YtackcingpffidaaZd2
import Derived.Test.YtackcingpffidaaZd3
import Derived.Test.YtackcingpffidaaZd8
import Derived.Test.YtackcingpffidaaZd9
namespace Go.Proofs.Ytackcingpffidaa.P
open Go.RowKit Go.Proofs.YtackcingpffidaaW.PrintWords Go.Proofs.YtackcingpffidaaW.PrintLast Go.Proofs.YtackcingpffidaaW.PrintMore
set_option linter.unusedVariables false
set_option linter.unusedSimpArgs false
def f36_T17 : Bool × List (List Nat × List Nat) := (true, [([], []), ([0], [0]), ([], []), ([2], [2]), ([3], [3]), ([1, 4, 3], [1, 4]), ([0, 1, 2, 3, 4, 5], []), ([6, 5, 5, 0, 1, 2, 3, 4, 5], [5, 6])])
def f36_B17 : List Nat := [0, 1, 0, 4, 12, 31, 63, 127]
set_option maxRecDepth 100000 in
theorem f36_tab17 : rtab .any (opsOf Try.f36 17) = f36_T17 := by kernel_rfl
theorem f36_bits17 : waitsOk f36_T17.2 f36_B17 = true := by kernel_rfl
def f36_T22 : Bool × List (List Nat × List Nat) := (true, [([], []), ([0], [0]), ([], []), ([2], [2]), ([3], [3]), ([1, 4, 3], [1, 4]), ([0, 1, 2, 3, 4, 5], []), ([6, 5, 5, 0, 1, 2, 3, 4, 5], [5, 6])])
def f36_B22 : List Nat := [0, 1, 0, 4, 12, 31, 63, 127]
set_option maxRecDepth 100000 in
theorem f36_tab22 : rtab .any (opsOf Try.f36 22) = f36_T22 := by kernel_rfl
theorem f36_bits22 : waitsOk f36_T22.2 f36_B22 = true := by kernel_rfl
def f36_T23 : Bool × List (List Nat × List Nat) := (true, [([], []), ([0], [0]), ([], []), ([2], [2]), ([3], [3]), ([1, 4, 3], [1, 4]), ([0, 1, 2, 3, 4, 5], []), ([6, 5, 5, 0, 1, 2, 3, 4, 5], [5, 6])])
def f36_B23 : List Nat := [0, 1, 0, 4, 12, 31, 63, 127]
set_option maxRecDepth 100000 in
theorem f36_tab23 : rtab .any (opsOf Try.f36 23) = f36_T23 := by kernel_rfl
theorem f36_bits23 : waitsOk f36_T23.2 f36_B23 = true := by kernel_rfl
def f36_T24 : Bool × List (List Nat × List Nat) := (true, [([], []), ([0], [0]), ([], []), ([2], [2]), ([3], [3]), ([1, 4, 3], [1, 4]), ([0, 1, 2, 3, 4, 5], []), ([6, 5, 5, 0, 1, 2, 3, 4, 5], [5, 6])])
def f36_B24 : List Nat := [0, 1, 0, 4, 12, 31, 63, 127]
set_option maxRecDepth 100000 in
theorem f36_tab24 : rtab .any (opsOf Try.f36 24) = f36_T24 := by kernel_rfl
theorem f36_bits24 : waitsOk f36_T24.2 f36_B24 = true := by kernel_rfl
def f36_T28 : Bool × List (List Nat × List Nat) := (true, [([], []), ([], []), ([1], [1]), ([2], [2]), ([3], [3]), ([0, 0], [0]), ([5, 0, 5], []), ([4, 6, 0, 1, 2, 3, 4, 5, 6], [4])])
def f36_B28 : List Nat := [0, 0, 2, 6, 14, 1, 33, 127]
set_option maxRecDepth 100000 in
theorem f36_tab28 : rtab .any (opsOf Try.f36 28) = f36_T28 := by kernel_rfl
theorem f36_bits28 : waitsOk f36_T28.2 f36_B28 = true := by kernel_rfl
def f36_T29 : Bool × List (List Nat × List Nat) := (true, [([], []), ([], []), ([1], [1]), ([2], [2]), ([3], [3]), ([0, 0], [0]), ([4, 5, 0, 1, 2, 3, 4, 5], [4]), ([6, 0, 1, 2, 3, 4, 5, 6], [])])
def f36_B29 : List Nat := [0, 0, 2, 6, 14, 1, 63, 127]
set_option maxRecDepth 100000 in
theorem f36_tab29 : rtab .any (opsOf Try.f36 29) = f36_T29 := by kernel_rfl
theorem f36_bits29 : waitsOk f36_T29.2 f36_B29 = true := by kernel_rfl
set_option maxHeartbeats 8000000 in
set_option maxRecDepth 100000 in
theorem laminaref16_Decode.calls0 (k : Nat) (A : Option Addr) (c : Nat) (l : List Int) (off : Int) (a0 a1 : Int) (M : List Int) (b : Bool) (C : List Int) (F : List S39) (R : List Int) (t e : Int) (w : World) (hA : Kd.C (Kd.int .u8) w A l.length l) (hc : l.length ≤ c) (h : laminaref16_Decode.f k l off = some (a0, a1, M, b, C, F, R, t, e)) :
  Calls Try.prog 36 #[.slice A l.length c, .int .i64 off] w fun x w' => ∃ A2 c2 A4 c4 A5 c5 A6 c6, x = .returned (.tuple #[.agg #[.int .i64 a0, .int .i64 a1, .slice A2 M.length c2, .bool b, .slice A4 C.length c4, .slice A5 F.length c5, .slice A6 R.length c6], .int .i64 t, .int .i64 e]) ∧ SK w' A2 c2 M A4 c4 C A5 c5 F A6 c6 R ∧ Below w.heap.size w w' := by
 have HA := Aside0.mk hA
 have hl : l.length ≤ 9223372036854775807 := hA.2.1
 clear hA
 have HH := Aside0.mk h
 clear h
 go_enter Try.func36, Try.ntmps36
 go_upto_region 1 with (refine box_ 4 (cs := #[.int .i64 0, .int .i64 0, .slice none 0 0, .bool false, .slice none 0 0, .slice none 0 0, .slice none 0 0]) (t := 26) (fun g4 hg_ V BB hb => ?_); have hg4 : w.heap.size ≤ g4 := (by omega); have B4 := Aside0.mk BB; have HB := Aside0.mk hb; clear hb hg_ BB)
 have hg4l : g4 < V.heap.size := blk_lt B4.out
 by_cases ho : off < 0 ∨ (l.length : Int) < off
 ·have hh := HH.out
  unfold laminaref16_Decode.f at hh
  rw [if_pos ho] at hh
  clear HH
  simp only [Option.some.injEq, Prod.mk.injEq] at hh
  obtain ⟨rfl, rfl, rfl, rfl, rfl, rfl, rfl, rfl, rfl⟩ := hh
  obtain ⟨f0, f1, f2, f3, f4, f5, f6, z0, z1, z2, z3, z4, z5, z6⟩ := bf7 B4.out
  by_cases h1 : off < 0
  ·have d1 := decide_eq_true h1
   clear h1 ho
   go_wp2
   refine ret7_ (p := fun W => bodyPost _ _ _ _ _ W) B4.out HB.out hg4 (.int .i64 0) (.int .i64 0) (.slice none 0 0) (.bool false) (.slice none 0 0) (.slice none 0 0) (.slice none 0 0) (fun W hW d0 d1 d2 d3 d4 d5 d6 rB => ?_)
   exact bodyPost_ret (v := .tuple #[.agg #[.int .i64 0, .int .i64 0, .slice none 0 0, .bool false, .slice none 0 0, .slice none 0 0, .slice none 0 0], .int .i64 0, .int .i64 1]) (by simp [results, Try.results36, go_sem, d0, d1, d2, d3, d4, d5, d6]) rfl ⟨none, 0, none, 0, none, 0, none, 0, rfl, SK_nil _, rB⟩
  ·have d1 := decide_eq_false h1
   have d2 : decide ((l.length : Int) < off) = true := decide_eq_true (by omega)
   clear h1 ho
   go_wp2
   refine ret7_ (p := fun W => bodyPost _ _ _ _ _ W) B4.out HB.out hg4 (.int .i64 0) (.int .i64 0) (.slice none 0 0) (.bool false) (.slice none 0 0) (.slice none 0 0) (.slice none 0 0) (fun W hW d0 d1 d2 d3 d4 d5 d6 rB => ?_)
   exact bodyPost_ret (v := .tuple #[.agg #[.int .i64 0, .int .i64 0, .slice none 0 0, .bool false, .slice none 0 0, .slice none 0 0, .slice none 0 0], .int .i64 0, .int .i64 1]) (by simp [results, Try.results36, go_sem, d0, d1, d2, d3, d4, d5, d6]) rfl ⟨none, 0, none, 0, none, 0, none, 0, rfl, SK_nil _, rB⟩
 obtain ⟨m1, t1, e1, m2, t2, e2, m3, t3, e3, M', t4, e4, b', t5, e5, C', t6, e6, m7, t7, e7, F', R', t8, e8, h1, h2, h3, h4, h5, h6, h7, h8, hh⟩ := rdec_parts ho HH.out
 have hm3 : m3 ≤ 32 := ccountS_le (by decide) h3
 have hm7 : m7 ≤ 17 := ccountS_le (by decide) h7
 have H1 := Aside0.mk h1
 have H2 := Aside0.mk h2
 have H3 := Aside0.mk h3
 have H4 := Aside0.mk h4
 have H5 := Aside0.mk h5
 have H6 := Aside0.mk h6
 have H7 := Aside0.mk h7
 have H8 := Aside0.mk h8
 have H9 := Aside0.mk hh
 clear HH hh h1 h2 h3 h4 h5 h6 h7 h8
 have ho1 : decide (off < 0) = false := decide_eq_false (by omega)
 have ho2 : decide ((l.length : Int) < off) = false := decide_eq_false (by omega)
 clear ho
 go_upto_region 4 with (refine box_ 27 (cs := #[.slice A l.length c, .int .i64 off, .int .i64 0]) (t := 106) (fun g7 hg_ W BB hb => ?_); have hg7 : w.heap.size ≤ g7 := (by rw [hg_]; exact below_size HB.out); have hn4 : g4 ≠ g7 := (by omega); replace B4 := Aside0.mk (blk_below B4.out hb); replace HB := Aside0.mk (HB.out.trans (hb.mono (below_size HB.out))); have B7 := Aside0.mk BB; clear hb hg_ BB)
 have hg7l : g7 < W.heap.size := blk_lt B7.out
 have hg4W : g4 < W.heap.size := blk_lt B4.out
 clear ho1 ho2
 go_upto_region 5 with (first | (go_at_call 85; refine (f85_calls k w _ g7 A c l off 0 m1 t1 e1 HA.out hc HB.out hg7 B7.out H1.out).mono ?_; rintro x w1 ⟨rfl, hp⟩; replace B4 := Aside0.mk (hp.2.2.blk B4.out hn4 (by simp)); replace B7 := Aside0.mk hp.1; replace HB := Aside0.mk hp.2.1; have hgs := hp.2.2.1; clear hp) | (refine box_ 8 (cs := #[.int .i64 0, .int .i64 0, .slice none 0 0, .bool false, .slice none 0 0, .slice none 0 0, .slice none 0 0]) (t := 26) (fun g8 hg_ W8 BB hb => ?_); have hg8 : w.heap.size ≤ g8 := (by rw [hg_]; exact below_size HB.out); have hn8 : g8 ≠ g7 := (by have := HB.out.size; omega); have hn48 : g4 ≠ g8 := (by omega); replace B4 := Aside0.mk (blk_below B4.out hb); replace B7 := Aside0.mk (blk_below B7.out hb); replace HB := Aside0.mk (HB.out.trans (hb.mono (below_size HB.out))); have B8 := Aside0.mk BB; clear hb hg_ BB; obtain ⟨f0, f1, f2, f3, f4, f5, f6, z0, z1, z2, z3, z4, z5, z6⟩ := bf7 B8.out))
 have HS : Aside0 (DS 106 w (put7 W8 g8 (.int .i64 m1) (.int .i64 0) (.slice none 0 0) (.bool false) (.slice none 0 0) (.slice none 0 0) (.slice none 0 0)) g4 g7 g8 A c l t1 e1 m1 0 (.slice none 0 0) [] false (.slice none 0 0) [] (.slice none 0 0) [] (.slice none 0 0) []) := ⟨DS.start B4.out B7.out B8.out HB.out hg7 hg8 hg4 hn4 hn8 hn48⟩
 clear f0 f1 f2 f3 f4 f5 f6 z0 z1 z2 z3 z4 z5 z6 B4 B7 B8 HB H1
 unfold put7 at HS
 generalize ((((((W8.setCell ⟨g8, 0, none⟩ (.int .i64 m1)).setCell ⟨g8, 1, none⟩ (.int .i64 0)).setCell ⟨g8, 2, none⟩ (.slice none 0 0)).setCell ⟨g8, 3, none⟩ (.bool false)).setCell ⟨g8, 4, none⟩ (.slice none 0 0)).setCell ⟨g8, 5, none⟩ (.slice none 0 0)).setCell ⟨g8, 6, none⟩ (.slice none 0 0) = U at HS ⊢
 go_upto_region 6 with (go_at_call 85; refine (f85_calls k w _ g7 A c l t1 e1 m2 t2 e2 HA.out hc HS.out.B hg7 HS.out.G7 H2.out).mono ?_; rintro x w9 ⟨rfl, hp⟩; replace HS := Aside0.mk (HS.out.read (.inr rfl) hp); clear hp; have q1 : w9.cell? ⟨g8, 1, none⟩ = some (.int .i64 0) := (blk_cell HS.out.G8 1).trans rfl; have z1 := blk_frozen HS.out.G8 1)
 clear q1 z1 H2
 replace HS := Aside0.mk (HS.out.cell1 m2)
 generalize w9.setCell ⟨g8, 1, none⟩ (.int .i64 m2) = U at HS ⊢
 go_upto_block 0 with (go_at_call 86; refine (f86_calls k 32 w _ g7 A c l t2 e2 m3 t3 e3 HA.out hc HS.out.B hg7 HS.out.G7 H3.out).mono ?_; rintro x w9 ⟨rfl, hp⟩; replace HS := Aside0.mk (HS.out.read (.inr rfl) hp); clear hp)
 go_cut [10, 11] (fun v10 v11 W => ∃ A2 c2, Aside0 (DS 106 w W g4 g7 g8 A c l t4 e4 m1 m2 (.slice A2 M'.length c2) M' false (.slice none 0 0) [] (.slice none 0 0) [] (.slice none 0 0) []))
 case first =>
  go_wp2
  go_loopg [10, 11] m3.toNat (fun kq v10 v11 W => ∃ (i : Nat) (last t e : Int) (A2 : Option Addr) (c2 : Nat) (P S : List Int), v11 = .int .i64 i ∧ v10 = .int .u64 last ∧ i ≤ m3.toNat ∧ Aside0 (kq + i = m3.toNat) ∧ Aside0 (DS 106 w W g4 g7 g8 A c l t e m1 m2 (.slice A2 P.length c2) P false (.slice none 0 0) [] (.slice none 0 0) [] (.slice none 0 0) []) ∧ Aside0 (cM k l kq last t e = some (S, t4, e4)) ∧ Aside0 (P ++ S = M') ∧ Aside0 (P.length = i))
  case atStart => exact ⟨0, 0, t3, e3, none, 0, [], M', rfl, rfl, Nat.zero_le _, ⟨rfl⟩, HS, H4, ⟨rfl⟩, ⟨rfl⟩⟩
  case round =>
   clear HS H4
   obtain ⟨i, last, t_, e_, A2, c2, P, S, rfl, rfl, hi, HK2, HS, HM, HQ, HL⟩ := hrel
   by_cases hr : i < m3.toNat
   ·cases gk with
    | zero => exact absurd HK2.out (by omega)
    | succ k2 =>
     obtain ⟨n, ta, ea, S2, hn, hs, rfl⟩ := cM_succ HM.out
     obtain ⟨q, hq⟩ : ∃ q, IntKind.u64.wrap (last + n) = q := ⟨_, rfl⟩
     rw [hq] at hs HQ
     have HN := Aside0.mk hn
     replace HM := Aside0.mk hs
     have hid : decide ((i : Int) < m3) = true := decide_eq_true (by omega)
     have hwi : IntKind.i64.wrap ((i : Int) + 1) = ((i + 1 : Nat) : Int) := by rw [i64_w]; unfold wrap64; omega
     clear hn hs
     go_upto_region 12 with (go_at_call 87; refine (f87_calls k w _ g7 A c l t_ e_ n ta ea HA.out hc HS.out.B hg7 HS.out.G7 HN.out).mono ?_; rintro x w9 ⟨rfl, hp⟩; replace HS := Aside0.mk (HS.out.read (.inr rfl) hp); clear hp)
     have q2 : w9.cell? ⟨g8, 2, none⟩ = some (.slice A2 P.length c2) := (blk_cell HS.out.G8 2).trans rfl
     go_wp2_with ((with_reducible refine gate_builtin (b := .append) (xs := #[.tmp 46, .tmp 48]) rfl ?_); at_builtin; refine Kd.R_append (Kd.int .u64) (w0 := w) w.heap.size rfl (.tmp 46) (.tmp 48) 22 53 (.int .u64 0) 8 rfl Try.underlying22 info53 rfl (by decide) (by decide) (.slice A2 P.length c2) P q [.int .u64 q] (fun _ => True) (fun _ => False) rfl rfl ?aP1 (fun _ hk => hk.elim) ?aF1 ?aO1 ?aB1 ?aS1 ?aL1 ?_; (case aP1 => exact rfl); (case aF1 => exact fun _ _ => trivial); (case aO1 => exact HS.out.O2); (case aB1 => exact HS.out.B); (case aS1 => exact below_size HS.out.B); (case aL1 => (have := HL.out; omega)); intro v8 w7 ho hb hg hat; have HG := HS.out.grow2 (.inr rfl) ho hb hg; obtain ⟨P2, hP2⟩ : ∃ x, P ++ [q] = x := ⟨_, rfl⟩; rw [hP2] at ho HG; obtain ⟨A8, c8, rfl⟩ := Kd.R_slice ho; have p2 := (blk_cell HG.1 2).trans rfl; have z2 := blk_frozen HG.1 2; replace HG := Aside0.mk HG.2; have HQ7 : Aside0 (P2 ++ S2 = M') := ⟨by rw [← hP2, List.append_assoc]; exact HQ.out⟩; have HL7 : Aside0 (P2.length = i + 1) := ⟨by rw [← hP2, List.length_append, HL.out]; rfl⟩; clear ho hb hg hat hP2)
     go_roundg k2
     case measure => omega
     case rel => exact ⟨i + 1, q, ta, ea, _, _, P2, S2, int_eq (by omega), rfl, by omega, ⟨by have := HK2.out; omega⟩, HG, HM, HQ7, HL7⟩
   ·have hid : decide ((i : Int) < m3) = false := decide_eq_false (by omega)
    obtain rfl : gk = 0 := by have := HK2.out; omega
    have hS := HM.out
    unfold cM at hS
    obtain ⟨rfl, hS2⟩ := Prod.mk.inj (Option.some.inj hS)
    obtain ⟨rfl, rfl⟩ := Prod.mk.inj hS2
    have hq := HQ.out
    rw [List.append_nil] at hq
    subst hq
    clear hS hS2
    go_wp2
    go_meet
    case rel => exact ⟨_, _, HS⟩
 case rest =>
 clear HS H4
 obtain ⟨A2, c2, HS⟩ := hcut
 go_upto_region 14 with (first | (go_at_call 88; refine (f88_calls w _ g7 A c l t4 e4 b' t5 e5 HA.out HS.out.B hg7 HS.out.G7 H5.out).mono ?_; rintro x w9 ⟨rfl, hp⟩; replace HS := Aside0.mk (HS.out.read (.inr rfl) hp); clear hp; have q3 : w9.cell? ⟨g8, 3, none⟩ = some (.bool false) := (blk_cell HS.out.G8 3).trans rfl; have z3 := blk_frozen HS.out.G8 3) | fail)
 clear q3 z3
 replace HS := Aside0.mk (HS.out.flag b')
 generalize w9.setCell ⟨g8, 3, none⟩ (.bool b') = U at HS ⊢
 go_upto_block 2 with (fail)
 go_cut [12] (fun v12 W => ∃ A4 c4, Aside0 (DS 106 w W g4 g7 g8 A c l t6 e6 m1 m2 (.slice A2 M'.length c2) M' b' (.slice A4 C'.length c4) C' (.slice none 0 0) [] (.slice none 0 0) []))
 case first =>
  go_wp2
  go_loopg [12] 256 (fun kq v12 W => ∃ (i : Nat) (t e : Int) (A4 : Option Addr) (c4 : Nat) (P S : List Int), v12 = .int .i64 i ∧ Aside0 (kq + i = 256) ∧ Aside0 (DS 106 w W g4 g7 g8 A c l t e m1 m2 (.slice A2 M'.length c2) M' b' (.slice A4 P.length c4) P (.slice none 0 0) [] (.slice none 0 0) []) ∧ Aside0 (cC k l kq t e = some (S, t6, e6)) ∧ Aside0 (P ++ S = C') ∧ Aside0 (P.length = i))
  case atStart => exact ⟨0, t5, e5, none, 0, [], C', rfl, ⟨rfl⟩, HS, H6, ⟨rfl⟩, ⟨rfl⟩⟩
  case round =>
   clear HS H6
   obtain ⟨i, t_, e_, A4, c4, P, S, rfl, HK2, HS, HM, HQ, HL⟩ := hrel
   by_cases hr : i < 256
   ·cases gk with
    | zero => exact absurd HK2.out (by omega)
    | succ k2 =>
     have hid : decide ((i : Int) < 256) = true := decide_eq_true (by omega)
     obtain ⟨q0, q1, q2⟩ := bc3 HS.out.G7
     by_cases he : e_ = 0
     ·subst he
      obtain ⟨n, ta, ea, S2, hn, hs, rfl⟩ := cC_succ HM.out
      have HN := Aside0.mk hn
      replace HM := Aside0.mk hs
      have hwi : IntKind.i64.wrap ((i : Int) + 1) = ((i + 1 : Nat) : Int) := by rw [i64_w]; unfold wrap64; omega
      clear hn hs
      go_upto_region 17 with (fail)
      clear q0 q1 q2
      replace HS := Aside0.mk (HS.out.below (below_drew1 (Below.refl _ _)))
      refine start_ (n := 8) (S := fun W => W.cell? ⟨g8, 4, none⟩ = some (.slice A4 P.length c4)) (ds := [7]) #[false, false, false, false, false, false, false, false] (by kernel_rfl) rfl rfl ((blk_cell HS.out.G8 4).trans rfl) (fun hHeld => ?_)
      refine with_tabW f36_tab17 f36_bits17 (fun HT_ HW_ => ?_)
      generalize World.drew _ = wd at HS hHeld ⊢
      refine pu_ HT_ 0 (some 65) ?_
      refine tk_ HT_ HW_ 1 (some 66) hHeld ?_
      refine pu_ HT_ 2 (some 67) ?_
      refine on_ HT_ 3 (some 68) (fun K hK => ?_)
      refine goes_ Try.func85 (by kernel_rfl) rfl #[.pointer (some ⟨g7, 0, none⟩)] (by rfl) rfl rfl (by first | done | rfl | (simp only [List.map_toArray, List.map_cons, List.map_nil]; rfl)) ?_
      refine (f85_calls k w _ g7 A c l t_ 0 n ta ea HA.out hc HS.out.B hg7 HS.out.G7 HN.out).mono ?_
      rintro x w20 ⟨rfl, hp⟩
      refine ⟨_, rfl, ?_⟩
      replace HS := Aside0.mk (HS.out.read (.inr rfl) hp)
      clear hp
      refine hK.out _ _ ((blk_cell HS.out.G8 4).trans rfl) (fun hHeld => ?_)
      clear hK K
      refine nm_ (some 68) ?_
      refine on_ HT_ 4 (some 69) (fun K hK => ?_)
      refine value_ (w1 := w20.alloc (.cells #[.int .i64 n] 3)) (v := .slice (some ⟨w20.heap.size, 0, none⟩) 1 1) (by rfl) rfl ?_ ?_
      ·go_simp
      refine hK.out _ _ ((blk_cell (blk_alloc HS.out.G8 _) 4).trans rfl) (fun hHeld => ?_)
      clear hK K
      refine nm_ (some 69) ?_
      refine on_ HT_ 5 (some 70) (fun K hK => ?_)
      refine Kd.R_append_step (Kd.int .i64) (w0 := w) (W := w20) w.heap.size (by rfl) (.tmp 66) (.tmp 69) 23 3 (.int .i64 0) 8 rfl Try.underlying23 info3 rfl (by decide) (by decide) (.slice A4 P.length c4) P n [.int .i64 n] (fun _ => True) (fun _ => False) rfl rfl ?aP (fun _ hk => hk.elim) ?aF ?aO ?aB ?aS ?aL ?_
      (case aP => exact rfl)
      (case aF => exact fun _ _ => trivial)
      (case aO => exact HS.out.O4)
      (case aB => exact HS.out.B)
      (case aS => exact below_size HS.out.B)
      (case aL => (have := HL.out; omega))
      intro v8 w7 ho hb hg hat
      have HG := HS.out.grow4 (.inr rfl) ho hb hg
      obtain ⟨P2, hP2⟩ : ∃ x, P ++ [n] = x := ⟨_, rfl⟩
      rw [hP2] at ho HG
      obtain ⟨A8, c8, rfl⟩ := Kd.R_slice ho
      have p4 := (blk_cell HG.1 4).trans rfl
      have z4 := blk_frozen HG.1 4
      replace HG := Aside0.mk HG.2
      have HQ7 : Aside0 (P2 ++ S2 = C') := ⟨by rw [← hP2, List.append_assoc]; exact HQ.out⟩
      have HL7 : Aside0 (P2.length = i + 1) := ⟨by rw [← hP2, List.length_append, HL.out]; rfl⟩
      clear ho hb hg hat hP2
      refine hK.out _ _ p4 (fun hHeld => ?_)
      clear hK K
      refine nm_ (some 70) ?_
      refine pu_ HT_ 6 (some 71) ?_
      refine last_ (i := 7) (N := none) #[true, true, true, true, true, true, true, true] rfl rfl (one_of HT_.out (by kernel_rfl)) (by decide) (fun K hK => ?_)
      refine skip_ (w1 := w7.setCell ⟨g8, 4, none⟩ (.slice A8 P2.length c8)) (by rfl) rfl ?_ ?_
      ·go_simp
      refine hK.out _ _ ?_
      clear hK K p4 z4 hHeld
      refine done_ (done_of HT_.out (by kernel_rfl)) ?_
      clear HT_ HW_ HS
      have HS := HG
      clear HG
      generalize w7.setCell ⟨g8, 4, none⟩ (.slice A8 P2.length c8) = U at HS ⊢
      go_wp2
      go_roundg k2
      case measure => omega
      case rel => exact ⟨i + 1, ta, ea, _, _, P2, S2, int_eq (by omega), ⟨by have := HK2.out; omega⟩, HS, HM, HQ7, HL7⟩
     ·obtain ⟨rfl, rfl, rfl⟩ := cC_err he HM.out
      have hb : (e_ == 0) = false := by simp [he]
      have hq := HQ.out
      rw [List.append_nil] at hq
      subst hq
      go_wp2
      go_meet
      case rel => exact ⟨_, _, HS⟩
   ·have hid : decide ((i : Int) < 256) = false := decide_eq_false (by omega)
    obtain rfl : gk = 0 := by have := HK2.out; omega
    have hS := HM.out
    unfold cC at hS
    obtain ⟨rfl, hS2⟩ := Prod.mk.inj (Option.some.inj hS)
    obtain ⟨rfl, rfl⟩ := Prod.mk.inj hS2
    have hq := HQ.out
    rw [List.append_nil] at hq
    subst hq
    clear hS hS2
    go_wp2
    go_meet
    case rel => exact ⟨_, _, HS⟩
 case rest =>
 clear HS H6 H5
 obtain ⟨A4, c4, HS⟩ := hcut
 go_upto_block 4 with (go_at_call 86; refine (f86_calls k 17 w _ g7 A c l t6 e6 m7 t7 e7 HA.out hc HS.out.B hg7 HS.out.G7 H7.out).mono ?_; rintro x w9 ⟨rfl, hp⟩; replace HS := Aside0.mk (HS.out.read (.inr rfl) hp); clear hp)
 go_cut [14] (fun v14 W => ∃ A5 c5 A6 c6, Aside0 (DS 106 w W g4 g7 g8 A c l t8 e8 m1 m2 (.slice A2 M'.length c2) M' b' (.slice A4 C'.length c4) C' (.slice A5 F'.length c5) F' (.slice A6 R'.length c6) R'))
 case first =>
  go_wp2
  go_loopg [14] m7.toNat (fun kq v14 W => ∃ (i : Nat) (t e : Int) (A5 : Option Addr) (c5 : Nat) (A6 : Option Addr) (c6 : Nat) (P : List S39) (Q : List Int) (S : List S39) (T : List Int), v14 = .int .i64 i ∧ i ≤ m7.toNat ∧ Aside0 (kq + i = m7.toNat) ∧ Aside0 (DS 106 w W g4 g7 g8 A c l t e m1 m2 (.slice A2 M'.length c2) M' b' (.slice A4 C'.length c4) C' (.slice A5 P.length c5) P (.slice A6 Q.length c6) Q) ∧ Aside0 (cF k l kq t e = some (S, T, t8, e8)) ∧ Aside0 (P ++ S = F') ∧ Aside0 (Q ++ T = R') ∧ Aside0 (P.length = i) ∧ Aside0 (Q.length = 2 * i))
  case atStart => exact ⟨0, t7, e7, none, 0, none, 0, [], [], F', R', rfl, Nat.zero_le _, ⟨rfl⟩, HS, H8, ⟨rfl⟩, ⟨rfl⟩, ⟨rfl⟩, ⟨rfl⟩⟩
  case round =>
   clear HS H8
   obtain ⟨i, t_, e_, A5, c5, A6, c6, P, Q, S, T, rfl, hi, HK2, HS, HM, HQ, HR, HL, HLR⟩ := hrel
   by_cases hr : i < m7.toNat
   ·cases gk with
    | zero => exact absurd HK2.out (by omega)
    | succ k2 =>
     have hid : decide ((i : Int) < m7) = true := decide_eq_true (by omega)
     obtain ⟨f, ta, ea, n, tb, eb, n2, tc, ec, S2, T2, hv, hn, hn2, hs, rfl, rfl⟩ := cF_succ HM.out
     have HV := Aside0.mk hv
     have HN := Aside0.mk hn
     have HN2 := Aside0.mk hn2
     replace HM := Aside0.mk hs
     have hwi : IntKind.i64.wrap ((i : Int) + 1) = ((i + 1 : Nat) : Int) := by rw [i64_w]; unfold wrap64; omega
     clear hn hn2 hs hv
     go_upto_region 22 with (fail)
     replace HS := Aside0.mk (HS.out.below (below_drew1 (Below.refl _ _)))
     refine start_ (n := 8) (S := fun W => W.cell? ⟨g8, 5, none⟩ = some (.slice A5 P.length c5)) (ds := [7]) #[false, false, false, false, false, false, false, false] (by kernel_rfl) rfl rfl ((blk_cell HS.out.G8 5).trans rfl) (fun hHeld => ?_)
     refine with_tabW f36_tab22 f36_bits22 (fun HT_ HW_ => ?_)
     generalize World.drew _ = wd at HS hHeld ⊢
     refine pu_ HT_ 0 (some 79) ?_
     refine tk_ HT_ HW_ 1 (some 80) hHeld ?_
     refine pu_ HT_ 2 (some 81) ?_
     refine on_ HT_ 3 (some 82) (fun K hK => ?_)
     refine goes_ Try.func89 (by kernel_rfl) rfl #[.pointer (some ⟨g7, 0, none⟩)] (by rfl) rfl rfl (by first | done | rfl | (simp only [List.map_toArray, List.map_cons, List.map_nil]; rfl)) ?_
     refine (f89_calls k w _ g7 A c l t_ e_ f ta ea HA.out hc HS.out.B hg7 HS.out.G7 HV.out).mono ?_
     rintro x w20 ⟨rfl, hp⟩
     refine ⟨_, rfl, ?_⟩
     replace HS := Aside0.mk (HS.out.read (.inr rfl) hp)
     clear hp
     refine hK.out _ _ ((blk_cell HS.out.G8 5).trans rfl) (fun hHeld => ?_)
     clear hK K
     refine nm_ (some 82) ?_
     refine on_ HT_ 4 (some 83) (fun K hK => ?_)
     refine value_ (w1 := w20.alloc (.cells #[.int .i64 f.f0, .int .i64 f.f1, .string f.f2] 39)) (v := .slice (some ⟨w20.heap.size, 0, none⟩) 1 1) (by rfl) rfl ?_ ?_
     ·go_simp
     refine hK.out _ _ ((blk_cell (blk_alloc HS.out.G8 _) 5).trans rfl) (fun hHeld => ?_)
     clear hK K
     refine nm_ (some 83) ?_
     refine on_ HT_ 5 (some 84) (fun K hK => ?_)
     refine Kd.R_append_step k39 (w0 := w) (W := w20) w.heap.size (by rfl) (.tmp 80) (.tmp 83) 24 39 (.agg #[(.int .i64 0), (.int .i64 0), (.string ⟨#[]⟩)]) 32 rfl Try.underlying24 info39 rfl (by decide) (by decide) (.slice A5 P.length c5) P f [.int .i64 f.f0, .int .i64 f.f1, .string f.f2] (fun _ => True) (fun _ => False) rfl rfl ?aP (fun _ hk => hk.elim) ?aF ?aO ?aB ?aS ?aL ?_
     (case aP => exact k39_mkM _ _ _ f)
     (case aF => exact fun _ _ => trivial)
     (case aO => exact HS.out.O5)
     (case aB => exact HS.out.B)
     (case aS => exact below_size HS.out.B)
     (case aL => (have := HL.out; omega))
     intro v8 w7 ho hb hg hat
     have HG := HS.out.grow5 (.inr rfl) ho hb hg
     obtain ⟨P2, hP2⟩ : ∃ x, P ++ [f] = x := ⟨_, rfl⟩
     rw [hP2] at ho HG
     obtain ⟨A8, c8, rfl⟩ := Kd.R_slice ho
     have p5 := (blk_cell HG.1 5).trans rfl
     have z5 := blk_frozen HG.1 5
     replace HG := Aside0.mk HG.2
     have HQ7 : Aside0 (P2 ++ S2 = F') := ⟨by rw [← hP2, List.append_assoc]; exact HQ.out⟩
     have HL7 : Aside0 (P2.length = i + 1) := ⟨by rw [← hP2, List.length_append, HL.out]; rfl⟩
     clear ho hb hg hat hP2
     refine hK.out _ _ p5 (fun hHeld => ?_)
     clear hK K
     refine nm_ (some 84) ?_
     refine pu_ HT_ 6 (some 85) ?_
     refine last_ (i := 7) (N := none) #[true, true, true, true, true, true, true, true] rfl rfl (one_of HT_.out (by kernel_rfl)) (by decide) (fun K hK => ?_)
     refine skip_ (w1 := w7.setCell ⟨g8, 5, none⟩ (.slice A8 P2.length c8)) (by rfl) rfl ?_ ?_
     ·go_simp
     refine hK.out _ _ ?_
     clear hK K p5 z5 hHeld
     refine done_ (done_of HT_.out (by kernel_rfl)) ?_
     clear HT_ HW_ HS
     have HS := HG
     clear HG
     generalize w7.setCell ⟨g8, 5, none⟩ (.slice A8 P2.length c8) = U at HS ⊢
     go_upto_region 23 with (fail)
     replace HS := Aside0.mk (HS.out.below (below_drew1 (Below.refl _ _)))
     refine start_ (n := 8) (S := fun W => W.cell? ⟨g8, 6, none⟩ = some (.slice A6 Q.length c6)) (ds := [7]) #[false, false, false, false, false, false, false, false] (by kernel_rfl) rfl rfl ((blk_cell HS.out.G8 6).trans rfl) (fun hHeld => ?_)
     refine with_tabW f36_tab23 f36_bits23 (fun HT_ HW_ => ?_)
     generalize World.drew _ = wd at HS hHeld ⊢
     refine pu_ HT_ 0 (some 86) ?_
     refine tk_ HT_ HW_ 1 (some 87) hHeld ?_
     refine pu_ HT_ 2 (some 88) ?_
     refine on_ HT_ 3 (some 89) (fun K hK => ?_)
     refine goes_ Try.func85 (by kernel_rfl) rfl #[.pointer (some ⟨g7, 0, none⟩)] (by rfl) rfl rfl (by first | done | rfl | (simp only [List.map_toArray, List.map_cons, List.map_nil]; rfl)) ?_
     refine (f85_calls k w _ g7 A c l ta ea n tb eb HA.out hc HS.out.B hg7 HS.out.G7 HN.out).mono ?_
     rintro x w20 ⟨rfl, hp⟩
     refine ⟨_, rfl, ?_⟩
     replace HS := Aside0.mk (HS.out.read (.inr rfl) hp)
     clear hp
     refine hK.out _ _ ((blk_cell HS.out.G8 6).trans rfl) (fun hHeld => ?_)
     clear hK K
     refine nm_ (some 89) ?_
     refine on_ HT_ 4 (some 90) (fun K hK => ?_)
     refine value_ (w1 := w20.alloc (.cells #[.int .i64 n] 3)) (v := .slice (some ⟨w20.heap.size, 0, none⟩) 1 1) (by rfl) rfl ?_ ?_
     ·go_simp
     refine hK.out _ _ ((blk_cell (blk_alloc HS.out.G8 _) 6).trans rfl) (fun hHeld => ?_)
     clear hK K
     refine nm_ (some 90) ?_
     refine on_ HT_ 5 (some 91) (fun K hK => ?_)
     refine Kd.R_append_step (Kd.int .i64) (w0 := w) (W := w20) w.heap.size (by rfl) (.tmp 87) (.tmp 90) 23 3 (.int .i64 0) 8 rfl Try.underlying23 info3 rfl (by decide) (by decide) (.slice A6 Q.length c6) Q n [.int .i64 n] (fun k_ => True ∧ some k_ ≠ (Value.slice A4 C'.length c4).ownBlock) (fun _ => False) rfl rfl ?aP (fun _ hk => hk.elim) ?aF ?aO ?aB ?aS ?aL ?_
     (case aP => exact rfl)
     (case aF => exact HS.out.fresh6)
     (case aO => exact HS.out.O6)
     (case aB => exact HS.out.B)
     (case aS => exact below_size HS.out.B)
     (case aL => (have := HLR.out; omega))
     intro v8 w7 ho hb hg hat
     have HG := HS.out.grow6 (.inr rfl) ho hb hg
     obtain ⟨P2, hP2⟩ : ∃ x, Q ++ [n] = x := ⟨_, rfl⟩
     rw [hP2] at ho HG
     obtain ⟨A8, c8, rfl⟩ := Kd.R_slice ho
     have p6 := (blk_cell HG.1 6).trans rfl
     have z6 := blk_frozen HG.1 6
     replace HG := Aside0.mk HG.2
     have HR6 : Aside0 (P2 ++ (n2 :: T2) = R') := ⟨by rw [← hP2, List.append_assoc]; exact HR.out⟩
     have HLR6 : Aside0 (P2.length = 2 * i + 1) := ⟨by rw [← hP2, List.length_append, HLR.out]; rfl⟩
     clear ho hb hg hat hP2
     refine hK.out _ _ p6 (fun hHeld => ?_)
     clear hK K
     refine nm_ (some 91) ?_
     refine pu_ HT_ 6 (some 92) ?_
     refine last_ (i := 7) (N := none) #[true, true, true, true, true, true, true, true] rfl rfl (one_of HT_.out (by kernel_rfl)) (by decide) (fun K hK => ?_)
     refine skip_ (w1 := w7.setCell ⟨g8, 6, none⟩ (.slice A8 P2.length c8)) (by rfl) rfl ?_ ?_
     ·go_simp
     refine hK.out _ _ ?_
     clear hK K p6 z6 hHeld
     refine done_ (done_of HT_.out (by kernel_rfl)) ?_
     clear HT_ HW_ HS
     have HS := HG
     clear HG
     generalize w7.setCell ⟨g8, 6, none⟩ (.slice A8 P2.length c8) = U at HS ⊢
     skip
     go_upto_region 24 with (fail)
     replace HS := Aside0.mk (HS.out.below (below_drew1 (Below.refl _ _)))
     refine start_ (n := 8) (S := fun W => W.cell? ⟨g8, 6, none⟩ = some (.slice A8 P2.length c8)) (ds := [7]) #[false, false, false, false, false, false, false, false] (by kernel_rfl) rfl rfl ((blk_cell HS.out.G8 6).trans rfl) (fun hHeld => ?_)
     refine with_tabW f36_tab24 f36_bits24 (fun HT_ HW_ => ?_)
     generalize World.drew _ = wd at HS hHeld ⊢
     refine pu_ HT_ 0 (some 93) ?_
     refine tk_ HT_ HW_ 1 (some 94) hHeld ?_
     refine pu_ HT_ 2 (some 95) ?_
     refine on_ HT_ 3 (some 96) (fun K hK => ?_)
     refine goes_ Try.func85 (by kernel_rfl) rfl #[.pointer (some ⟨g7, 0, none⟩)] (by rfl) rfl rfl (by first | done | rfl | (simp only [List.map_toArray, List.map_cons, List.map_nil]; rfl)) ?_
     refine (f85_calls k w _ g7 A c l tb eb n2 tc ec HA.out hc HS.out.B hg7 HS.out.G7 HN2.out).mono ?_
     rintro x w20 ⟨rfl, hp⟩
     refine ⟨_, rfl, ?_⟩
     replace HS := Aside0.mk (HS.out.read (.inr rfl) hp)
     clear hp
     refine hK.out _ _ ((blk_cell HS.out.G8 6).trans rfl) (fun hHeld => ?_)
     clear hK K
     refine nm_ (some 96) ?_
     refine on_ HT_ 4 (some 97) (fun K hK => ?_)
     refine value_ (w1 := w20.alloc (.cells #[.int .i64 n2] 3)) (v := .slice (some ⟨w20.heap.size, 0, none⟩) 1 1) (by rfl) rfl ?_ ?_
     ·go_simp
     refine hK.out _ _ ((blk_cell (blk_alloc HS.out.G8 _) 6).trans rfl) (fun hHeld => ?_)
     clear hK K
     refine nm_ (some 97) ?_
     refine on_ HT_ 5 (some 98) (fun K hK => ?_)
     refine Kd.R_append_step (Kd.int .i64) (w0 := w) (W := w20) w.heap.size (by rfl) (.tmp 94) (.tmp 97) 23 3 (.int .i64 0) 8 rfl Try.underlying23 info3 rfl (by decide) (by decide) (.slice A8 P2.length c8) P2 n2 [.int .i64 n2] (fun k_ => True ∧ some k_ ≠ (Value.slice A4 C'.length c4).ownBlock) (fun _ => False) rfl rfl ?aP (fun _ hk => hk.elim) ?aF ?aO ?aB ?aS ?aL ?_
     (case aP => exact rfl)
     (case aF => exact HS.out.fresh6)
     (case aO => exact HS.out.O6)
     (case aB => exact HS.out.B)
     (case aS => exact below_size HS.out.B)
     (case aL => (have := HLR6.out; omega))
     intro v8 w7 ho hb hg hat
     have HG := HS.out.grow6 (.inr rfl) ho hb hg
     obtain ⟨P2, hP2⟩ : ∃ x, P2 ++ [n2] = x := ⟨_, rfl⟩
     rw [hP2] at ho HG
     obtain ⟨A8, c8, rfl⟩ := Kd.R_slice ho
     have p6 := (blk_cell HG.1 6).trans rfl
     have z6 := blk_frozen HG.1 6
     replace HG := Aside0.mk HG.2
     have HR7 : Aside0 (P2 ++ T2 = R') := ⟨by rw [← hP2, List.append_assoc]; exact HR6.out⟩
     have HLR7 : Aside0 (P2.length = 2 * (i + 1)) := ⟨by rw [← hP2, List.length_append, HLR6.out]; show 2 * i + 1 + 1 = 2 * (i + 1); omega⟩
     clear ho hb hg hat hP2
     refine hK.out _ _ p6 (fun hHeld => ?_)
     clear hK K
     refine nm_ (some 98) ?_
     refine pu_ HT_ 6 (some 99) ?_
     refine last_ (i := 7) (N := none) #[true, true, true, true, true, true, true, true] rfl rfl (one_of HT_.out (by kernel_rfl)) (by decide) (fun K hK => ?_)
     refine skip_ (w1 := w7.setCell ⟨g8, 6, none⟩ (.slice A8 P2.length c8)) (by rfl) rfl ?_ ?_
     ·go_simp
     refine hK.out _ _ ?_
     clear hK K p6 z6 hHeld
     refine done_ (done_of HT_.out (by kernel_rfl)) ?_
     clear HT_ HW_ HS
     have HS := HG
     clear HG
     generalize w7.setCell ⟨g8, 6, none⟩ (.slice A8 P2.length c8) = U at HS ⊢
     go_wp2
     go_roundg k2
     case measure => omega
     case rel => exact ⟨i + 1, tc, ec, _, _, _, _, _, _, S2, T2, int_eq (by omega), by omega, ⟨by have := HK2.out; omega⟩, HS, HM, HQ7, HR7, HL7, HLR7⟩
   ·have hid : decide ((i : Int) < m7) = false := decide_eq_false (by omega)
    obtain rfl : gk = 0 := by have := HK2.out; omega
    have hS := HM.out
    unfold cF at hS
    simp only [Option.some.injEq, Prod.mk.injEq] at hS
    obtain ⟨rfl, rfl, rfl, rfl⟩ := hS
    have hq := HQ.out
    have hq2 := HR.out
    rw [List.append_nil] at hq hq2
    subst hq
    subst hq2
    go_wp2
    go_meet
    case rel => exact ⟨_, _, _, _, HS⟩
 case rest =>
 clear HS H7 H8
 obtain ⟨A5, c5, A6, c6, HS⟩ := hcut
 obtain ⟨q0, q1, q2⟩ := bc3 HS.out.G7
 by_cases he : e8 = 0
 ·subst he
  have hh := H9.out
  rw [if_pos rfl] at hh
  obtain ⟨ok, hok, hh⟩ := Option.bind_eq_some_iff.mp hh
  have HV := Aside0.mk hok
  obtain ⟨p0, p1, p2, p3, p4, p5, p6⟩ := bc7 HS.out.G8
  clear hok H9
  cases ok with
  | false =>
   rw [if_neg (by decide)] at hh
   simp only [Option.some.injEq, Prod.mk.injEq] at hh
   obtain ⟨rfl, rfl, rfl, rfl, rfl, rfl, rfl, rfl, rfl⟩ := hh
   go_upto_region 26 with (go_at_call 11; refine (un8 (laminaref16_Valid.calls k m1 m2 _ _ _ _ _ _ _ _ _ _ _ _ _ false _) HS.out.sk HV.out).mono ?_; rintro x w9 ⟨rfl, hb⟩; replace HS := Aside0.mk (HS.out.below hb); clear hb p0 p1 p2 p3 p4 p5 p6 q0 q1 q2)
   go_upto_region 27 with (go_at_call 90; refine (f90_calls 4 w _ g7 A c l t8 0 4 HS.out.B hg7 HS.out.G7 (if_pos rfl)).mono ?_; rintro x w9 ⟨rfl, hp⟩; replace HS := Aside0.mk (HS.out.read (.inr rfl) hp); clear hp)
   obtain ⟨q0, q1, q2⟩ := bc3 HS.out.G7
   go_upto_region 28 with (fail)
   clear q0 q1 q2
   replace HS := Aside0.mk (HS.out.below (below_drew1 (Below.refl _ _)))
   refine start_ (n := 8) (S := fun W => W.cell? ⟨g7, 2, none⟩ = some (.int .i64 4)) (ds := []) #[false, false, false, false, false, false, false, false] (by kernel_rfl) rfl rfl ((blk_cell HS.out.G7 2).trans rfl) (fun hHeld => ?_)
   refine with_tabW f36_tab28 f36_bits28 (fun HT_ HW_ => ?_)
   generalize World.drew _ = wd at HS hHeld ⊢
   refine pu_ HT_ 0 (some 117) ?_
   refine pu_ HT_ 1 (some 118) ?_
   refine pu_ HT_ 2 (some 119) ?_
   refine pu_ HT_ 3 (some 120) ?_
   refine tk_ HT_ HW_ 4 (some 121) hHeld ?_
   obtain ⟨f0, f1, f2, f3, f4, f5, f6, z0, z1, z2, z3, z4, z5, z6⟩ := bf7 HS.out.G4
   refine st_ HT_ 5 (put7 wd g4 (.int .i64 0) (.int .i64 0) (.slice none 0 0) (.bool false) (.slice none 0 0) (.slice none 0 0) (.slice none 0 0)) ?_ ((blk_cell (HS.out.res7 (.int .i64 0) (.int .i64 0) (.slice none 0 0) (.bool false) (.slice none 0 0) (.slice none 0 0) (.slice none 0 0)) 2).trans rfl) (fun hHeld => ?_)
   ·unfold put7
    go_simp
   clear f0 f1 f2 f3 f4 f5 f6 z0 z1 z2 z3 z4 z5 z6
   refine pu_ HT_ 6 (some 5) ?_
   refine pu_ HT_ 7 (some 6) ?_
   refine done_ (done_of HT_.out (by kernel_rfl)) ?_
   clear HT_ HW_ hHeld
   unfold put7
   go_wp2
   refine ret7_ (p := fun W => bodyPost _ _ _ _ _ W) HS.out.G4 HS.out.B hg4 (.int .i64 0) (.int .i64 0) (.slice none 0 0) (.bool false) (.slice none 0 0) (.slice none 0 0) (.slice none 0 0) (fun W hW d0 d1 d2 d3 d4 d5 d6 rB => ?_)
   exact bodyPost_ret (v := .tuple #[.agg #[.int .i64 0, .int .i64 0, .slice none 0 0, .bool false, .slice none 0 0, .slice none 0 0, .slice none 0 0], .int .i64 0, .int .i64 4]) (by simp [results, Try.results36, go_sem, d0, d1, d2, d3, d4, d5, d6]) rfl ⟨none, 0, none, 0, none, 0, none, 0, rfl, SK_nil _, rB⟩
  | true =>
   rw [if_pos rfl] at hh
   simp only [Option.some.injEq, Prod.mk.injEq] at hh
   obtain ⟨rfl, rfl, rfl, rfl, rfl, rfl, rfl, rfl, rfl⟩ := hh
   go_upto_region 27 with (go_at_call 11; refine (un8 (laminaref16_Valid.calls k m1 m2 _ _ _ _ _ _ _ _ _ _ _ _ _ true _) HS.out.sk HV.out).mono ?_; rintro x w9 ⟨rfl, hb⟩; replace HS := Aside0.mk (HS.out.below hb); clear hb p0 p1 p2 p3 p4 p5 p6 q0 q1 q2)
   obtain ⟨q0, q1, q2⟩ := bc3 HS.out.G7
   go_upto_region 29 with (fail)
   clear q0 q1 q2
   replace HS := Aside0.mk (HS.out.below (below_drew1 (Below.refl _ _)))
   refine start_ (n := 8) (S := fun W => sk7 g8 m1 m2 A2 c2 M' b' A4 c4 C' A5 c5 F' A6 c6 R' W (W.cell? ⟨g7, 1, none⟩ = some (.int .i64 t8) ∧ True)) (ds := []) #[false, false, false, false, false, false, false, false] (by kernel_rfl) rfl rfl (sk7_of HS.out.G8 ⟨(blk_cell HS.out.G7 1).trans rfl, trivial⟩) (fun hHeld => ?_)
   refine with_tabW f36_tab29 f36_bits29 (fun HT_ HW_ => ?_)
   generalize World.drew _ = wd at HS hHeld ⊢
   refine tk_ HT_ HW_ 0 (some 122) hHeld ?_
   refine pu_ HT_ 1 (some 123) ?_
   refine pu_ HT_ 2 (some 124) ?_
   refine pu_ HT_ 3 (some 125) ?_
   refine tk_ HT_ HW_ 4 (some 126) hHeld ?_
   obtain ⟨f0, f1, f2, f3, f4, f5, f6, z0, z1, z2, z3, z4, z5, z6⟩ := bf7 HS.out.G4
   refine st_ HT_ 5 (put7 wd g4 (.int .i64 m1) (.int .i64 m2) (.slice A2 M'.length c2) (.bool b') (.slice A4 C'.length c4) (.slice A5 F'.length c5) (.slice A6 R'.length c6)) ?_ (sk7_of (HS.out.res8 (.int .i64 m1) (.int .i64 m2) (.slice A2 M'.length c2) (.bool b') (.slice A4 C'.length c4) (.slice A5 F'.length c5) (.slice A6 R'.length c6)) ⟨(blk_cell (HS.out.res7 _ _ _ _ _ _ _) 1).trans rfl, trivial⟩) (fun hHeld => ?_)
   ·unfold put7
    go_simp
   clear f0 f1 f2 f3 f4 f5 f6 z0 z1 z2 z3 z4 z5 z6
   refine pu_ HT_ 6 (some 5) ?_
   refine pu_ HT_ 7 (some 6) ?_
   refine done_ (done_of HT_.out (by kernel_rfl)) ?_
   clear HT_ HW_ hHeld
   unfold put7
   go_wp2
   refine ret7_ (p := fun W => bodyPost _ _ _ _ _ W) HS.out.G4 HS.out.B hg4 (.int .i64 m1) (.int .i64 m2) (.slice A2 M'.length c2) (.bool b') (.slice A4 C'.length c4) (.slice A5 F'.length c5) (.slice A6 R'.length c6) (fun W hW d0 d1 d2 d3 d4 d5 d6 rB => ?_)
   exact bodyPost_ret (v := .tuple #[.agg #[.int .i64 m1, .int .i64 m2, .slice A2 M'.length c2, .bool b', .slice A4 C'.length c4, .slice A5 F'.length c5, .slice A6 R'.length c6], .int .i64 t8, .int .i64 0]) (by simp [results, Try.results36, go_sem, d0, d1, d2, d3, d4, d5, d6]) rfl ⟨A2, c2, A4, c4, A5, c5, A6, c6, rfl, by rw [hW]; exact HS.out.done _ _ _ _ _ _ _, rB⟩
 ·have hh := H9.out
  rw [if_neg he] at hh
  simp only [Option.some.injEq, Prod.mk.injEq] at hh
  obtain ⟨rfl, rfl, rfl, rfl, rfl, rfl, rfl, rfl, rfl⟩ := hh
  have hb : (e8 != 0) = true := by simp [he]
  have hb2 : (e8 == 0) = false := by simp [he]
  go_upto_region 28 with (fail)
  clear q0 q1 q2
  replace HS := Aside0.mk (HS.out.below (below_drew1 (Below.refl _ _)))
  refine start_ (n := 8) (S := fun W => W.cell? ⟨g7, 2, none⟩ = some (.int .i64 e8)) (ds := []) #[false, false, false, false, false, false, false, false] (by kernel_rfl) rfl rfl ((blk_cell HS.out.G7 2).trans rfl) (fun hHeld => ?_)
  refine with_tabW f36_tab28 f36_bits28 (fun HT_ HW_ => ?_)
  generalize World.drew _ = wd at HS hHeld ⊢
  refine pu_ HT_ 0 (some 117) ?_
  refine pu_ HT_ 1 (some 118) ?_
  refine pu_ HT_ 2 (some 119) ?_
  refine pu_ HT_ 3 (some 120) ?_
  refine tk_ HT_ HW_ 4 (some 121) hHeld ?_
  obtain ⟨f0, f1, f2, f3, f4, f5, f6, z0, z1, z2, z3, z4, z5, z6⟩ := bf7 HS.out.G4
  refine st_ HT_ 5 (put7 wd g4 (.int .i64 0) (.int .i64 0) (.slice none 0 0) (.bool false) (.slice none 0 0) (.slice none 0 0) (.slice none 0 0)) ?_ ((blk_cell (HS.out.res7 (.int .i64 0) (.int .i64 0) (.slice none 0 0) (.bool false) (.slice none 0 0) (.slice none 0 0) (.slice none 0 0)) 2).trans rfl) (fun hHeld => ?_)
  ·unfold put7
   go_simp
  clear f0 f1 f2 f3 f4 f5 f6 z0 z1 z2 z3 z4 z5 z6
  refine pu_ HT_ 6 (some 5) ?_
  refine pu_ HT_ 7 (some 6) ?_
  refine done_ (done_of HT_.out (by kernel_rfl)) ?_
  clear HT_ HW_ hHeld
  unfold put7
  go_wp2
  refine ret7_ (p := fun W => bodyPost _ _ _ _ _ W) HS.out.G4 HS.out.B hg4 (.int .i64 0) (.int .i64 0) (.slice none 0 0) (.bool false) (.slice none 0 0) (.slice none 0 0) (.slice none 0 0) (fun W hW d0 d1 d2 d3 d4 d5 d6 rB => ?_)
  exact bodyPost_ret (v := .tuple #[.agg #[.int .i64 0, .int .i64 0, .slice none 0 0, .bool false, .slice none 0 0, .slice none 0 0, .slice none 0 0], .int .i64 0, .int .i64 e8]) (by simp [results, Try.results36, go_sem, d0, d1, d2, d3, d4, d5, d6]) rfl ⟨none, 0, none, 0, none, 0, none, 0, rfl, SK_nil _, rB⟩
end Go.Proofs.Ytackcingpffidaa.P
namespace Go.Proofs.Ytackcingpffidaa.P
open Go.RowKit Go.Proofs.YtackcingpffidaaW.PrintWords Go.Proofs.YtackcingpffidaaW.PrintLast Go.Proofs.YtackcingpffidaaW.PrintMore
attribute [local go_sem high] eqA39
set_option linter.unusedVariables false
set_option linter.unusedSimpArgs false
def f16_T6 : Bool × List (List Nat × List Nat) := (true, [([], []), ([0], [0]), ([], []), ([1, 2], [1, 2]), ([3], [3]), ([], []), ([5], [5]), ([], []), ([6, 7], [6, 7]), ([8], [8]), ([4, 9], [4, 9])])
def f16_B6 : List Nat := [0, 1, 0, 7, 15, 0, 32, 0, 224, 480, 1023]
set_option maxRecDepth 100000 in
theorem f16_tab6 : rtab .any (opsOf Try.f16 6) = f16_T6 := by kernel_rfl
theorem f16_bits6 : waitsOk f16_T6.2 f16_B6 = true := by kernel_rfl
def f16_T11 : Bool × List (List Nat × List Nat) := (true, [([], []), ([0], [0]), ([], []), ([1, 2], [1, 2]), ([3], [3]), ([], []), ([5], [5]), ([], []), ([6, 7], [6, 7]), ([8], [8]), ([4, 9], [4, 9])])
def f16_B11 : List Nat := [0, 1, 0, 7, 15, 0, 32, 0, 224, 480, 1023]
set_option maxRecDepth 100000 in
theorem f16_tab11 : rtab .any (opsOf Try.f16 11) = f16_T11 := by kernel_rfl
theorem f16_bits11 : waitsOk f16_T11.2 f16_B11 = true := by kernel_rfl
def f16_T16 : Bool × List (List Nat × List Nat) := (true, [([], []), ([0], [0]), ([], []), ([1, 2], [1, 2]), ([3], [3]), ([], []), ([5], [5]), ([], []), ([6, 7], [6, 7]), ([8], [8]), ([4, 9], [4, 9])])
def f16_B16 : List Nat := [0, 1, 0, 7, 15, 0, 32, 0, 224, 480, 1023]
set_option maxRecDepth 100000 in
theorem f16_tab16 : rtab .any (opsOf Try.f16 16) = f16_T16 := by kernel_rfl
theorem f16_bits16 : waitsOk f16_T16.2 f16_B16 = true := by kernel_rfl
def f16_T21 : Bool × List (List Nat × List Nat) := (true, [([], []), ([0], [0]), ([], []), ([1, 2], [1, 2]), ([3], [3]), ([], []), ([5], [5]), ([], []), ([6, 7], [6, 7]), ([8], [8]), ([4, 9], [4, 9])])
def f16_B21 : List Nat := [0, 1, 0, 7, 15, 0, 32, 0, 224, 480, 1023]
set_option maxRecDepth 100000 in
theorem f16_tab21 : rtab .any (opsOf Try.f16 21) = f16_T21 := by kernel_rfl
theorem f16_bits21 : waitsOk f16_T21.2 f16_B21 = true := by kernel_rfl
set_option maxHeartbeats 8000000 in
set_option maxRecDepth 100000 in
theorem eqSK_calls (a0 a1 : Int) (b3 : Bool) (A2 : Option Addr) (c2 : Nat) (l2 : List Int) (A4 : Option Addr) (c4 : Nat) (l4 : List Int) (A5 : Option Addr) (c5 : Nat) (l5 : List S39) (A6 : Option Addr) (c6 : Nat) (l6 : List Int) (B2 : Option Addr) (d2 : Nat) (B4 : Option Addr) (d4 : Nat) (B5 : Option Addr) (d5 : Nat) (B6 : Option Addr) (d6 : Nat) (w : World) (ha : SK w A2 c2 l2 A4 c4 l4 A5 c5 l5 A6 c6 l6) (hb : SK w B2 d2 l2 B4 d4 l4 B5 d5 l5 B6 d6 l6) :
  Calls Try.prog 16 #[.agg #[.int .i64 a0, .int .i64 a1, .slice A2 l2.length c2, .bool b3, .slice A4 l4.length c4, .slice A5 l5.length c5, .slice A6 l6.length c6], .agg #[.int .i64 a0, .int .i64 a1, .slice B2 l2.length d2, .bool b3, .slice B4 l4.length d4, .slice B5 l5.length d5, .slice B6 l6.length d6]] w fun e w' => e = .returned (.bool true) ∧ Below w.heap.size w w' := by
 have HA := Aside0.mk ha
 have HB := Aside0.mk hb
 clear ha hb
 go_enter Try.func16, Try.ntmps16
 go_upto_region 1 with (first | (refine box_ 2 (cs := #[.int .i64 a0, .int .i64 a1, .slice A2 l2.length c2, .bool b3, .slice A4 l4.length c4, .slice A5 l5.length c5, .slice A6 l6.length c6]) (t := 26) (fun g2 hg_ w1 BK2 HB1 => ?_); clear hg_; replace BK2 := Aside0.mk BK2; replace HB1 := Aside0.mk HB1) | (refine box_ 3 (cs := #[.int .i64 a0, .int .i64 a1, .slice B2 l2.length d2, .bool b3, .slice B4 l4.length d4, .slice B5 l5.length d5, .slice B6 l6.length d6]) (t := 26) (fun g3 hg_ V BK3 hb => ?_); clear hg_; replace BK2 := Aside0.mk (blk_below BK2.out hb); replace BK3 := Aside0.mk BK3; replace HB1 := Aside0.mk (HB1.out.trans (hb.mono (below_size HB1.out))); clear hb))
 have HS : Aside0 (∀ W, Below V.heap.size V W → sk7 g2 a0 a1 A2 c2 l2 b3 A4 c4 l4 A5 c5 l5 A6 c6 l6 W (sk7 g3 a0 a1 B2 d2 l2 b3 B4 d4 l4 B5 d5 l5 B6 d6 l6 W (True))) := ⟨fun W hb => sk7_of (blk_below BK2.out hb) (sk7_of (blk_below BK3.out hb) trivial)⟩
 have HBV := HB1
 clear BK2 BK3 HB1
 have HY := Aside0.mk (Below.refl V.heap.size V)
 obtain ⟨t0, t1, t2, t3, t4, t5, t6, u0, u1, u2, u3, u4, u5, u6, _⟩ := HS.out V HY.out
 have q0 : (a0 != a0) = false := by simp
 have q1 : (a1 != a1) = false := by simp
 have q2 : (b3 != b3) = false := by simp
 have q3 : ((l2.length : Int) != (l2.length : Int)) = false := by simp
 have q4 : ((l4.length : Int) != (l4.length : Int)) = false := by simp
 have q5 : ((l5.length : Int) != (l5.length : Int)) = false := by simp
 have q6 : ((l6.length : Int) != (l6.length : Int)) = false := by simp
 go_upto_region 3 with (fail)
 clear q0 q1 q2 q3 q4 q5 q6 t0 t1 t2 t3 t4 t5 t6 u0 u1 u2 u3 u4 u5 u6
 obtain ⟨t0, t1, t2, t3, t4, t5, t6, u0, u1, u2, u3, u4, u5, u6, _⟩ := HS.out _ HY.out
 go_upto_block 0 with (fail)
 clear t0 t1 t2 t3 t4 t5 t6 u0 u1 u2 u3 u4 u5 u6
 go_cut [5] (fun v5 W => Aside0 (Below V.heap.size V W))
 case first =>
  go_wp2
  go_loopg [5] l2.length (fun kq v5 W => ∃ i : Nat, v5 = .int .i64 i ∧ i ≤ l2.length ∧ Aside0 (kq + i = l2.length) ∧ Aside0 (Below V.heap.size V W))
  case atStart => exact ⟨0, rfl, Nat.zero_le _, ⟨rfl⟩, HY⟩
  case round =>
   clear HY
   obtain ⟨i, rfl, hi, HK2, HY⟩ := hrel
   have hL : l2.length ≤ 9223372036854775807 := HA.out.r2.2.1
   by_cases hr : i < l2.length
   ·cases gk with
    | zero => exact absurd HK2.out (by omega)
    | succ k2 =>
     obtain ⟨ad, rfl, hx0⟩ := Kd.at_int HA.out.r2 (i : Int) (by omega) (by omega)
     obtain ⟨bd, rfl, hy0⟩ := Kd.at_int HB.out.r2 (i : Int) (by omega) (by omega)
     rw [Int.toNat_natCast] at hx0 hy0
     obtain ⟨x, hx⟩ : ∃ x, rd l2 (i : Int) = x := ⟨_, rfl⟩
     rw [hx] at hx0 hy0
     have q0 : (x != x) = false := by simp
     have HSX : Aside0 (∀ W, Below V.heap.size V W → sk7 g2 a0 a1 (some ad) c2 l2 b3 A4 c4 l4 A5 c5 l5 A6 c6 l6 W (sk7 g3 a0 a1 (some bd) d2 l2 b3 B4 d4 l4 B5 d5 l5 B6 d6 l6 W (W.cell? (ad.add i) = some (.int .u64 x) ∧ W.cell? (bd.add i) = some (.int .u64 x)))) := ⟨fun W hb => by
      obtain ⟨t0, t1, t2, t3, t4, t5, t6, u0, u1, u2, u3, u4, u5, u6, _⟩ := HS.out W hb
      have hbw := HBV.out.trans (hb.mono (below_size HBV.out))
      exact ⟨t0, t1, t2, t3, t4, t5, t6, u0, u1, u2, u3, u4, u5, u6, up_ hbw hx0, up_ hbw hy0⟩⟩
     have hid : decide ((i : Int) < l2.length) = true := decide_eq_true (by omega)
     have hid2 : decide ((l2.length : Int) ≤ i) = false := decide_eq_false (by omega)
     have hwi : IntKind.i64.wrap ((i : Int) + 1) = ((i + 1 : Nat) : Int) := by rw [i64_w]; unfold wrap64; omega
     clear hx hx0 hy0
     obtain ⟨t0, t1, t2, t3, t4, t5, t6, u0, u1, u2, u3, u4, u5, u6, _⟩ := HS.out _ HY.out
     go_upto_region 6 with (fail)
     clear t0 t1 t2 t3 t4 t5 t6 u0 u1 u2 u3 u4 u5 u6
     replace HY := Aside0.mk (below_drew1 HY.out)
     refine start_ (n := 11) (S := fun W => sk7 g2 a0 a1 (some ad) c2 l2 b3 A4 c4 l4 A5 c5 l5 A6 c6 l6 W (sk7 g3 a0 a1 (some bd) d2 l2 b3 B4 d4 l4 B5 d5 l5 B6 d6 l6 W (W.cell? (ad.add i) = some (.int .u64 x) ∧ W.cell? (bd.add i) = some (.int .u64 x)))) (ds := []) #[false, false, false, false, false, false, false, false, false, false, false] (by kernel_rfl) rfl rfl (HSX.out _ HY.out) (fun hHeld => ?_)
     refine with_tabW f16_tab6 f16_bits6 (fun HT_ HW_ => ?_)
     generalize wr.drew = wd at HY hHeld ⊢
     refine pu_ HT_ 0 (some 71) ?_
     refine tk_ HT_ HW_ 1 (some 72) hHeld ?_
     refine pu_ HT_ 2 (some 73) ?_
     refine tk_ HT_ HW_ 3 (some 74) hHeld ?_
     refine tk_ HT_ HW_ 4 (some 75) hHeld ?_
     refine pu_ HT_ 5 (some 76) ?_
     refine tk_ HT_ HW_ 6 (some 77) hHeld ?_
     refine pu_ HT_ 7 (some 78) ?_
     refine tk_ HT_ HW_ 8 (some 79) hHeld ?_
     refine tk_ HT_ HW_ 9 (some 80) hHeld ?_
     refine pu_ HT_ 10 (some 81) ?_
     refine done_ (done_of HT_.out (by kernel_rfl)) ?_
     clear HT_ HW_ hHeld
     go_wp2
     go_roundg k2
     case measure => omega
     case rel => exact ⟨i + 1, int_eq (by omega), by omega, ⟨by have := HK2.out; omega⟩, HY⟩
   ·obtain rfl : i = l2.length := by omega
    have hid : decide ((l2.length : Int) < l2.length) = false := decide_eq_false (by omega)
    obtain ⟨t0, t1, t2, t3, t4, t5, t6, u0, u1, u2, u3, u4, u5, u6, _⟩ := HS.out _ HY.out
    go_wp2
    go_meet
    case rel => exact HY
 case rest =>
 clear HY
 have HY := hcut
 clear hcut
 obtain ⟨t0, t1, t2, t3, t4, t5, t6, u0, u1, u2, u3, u4, u5, u6, _⟩ := HS.out _ HY.out
 go_upto_block 2 with (fail)
 clear t0 t1 t2 t3 t4 t5 t6 u0 u1 u2 u3 u4 u5 u6
 go_cut [6] (fun v6 W => Aside0 (Below V.heap.size V W))
 case first =>
  go_wp2
  go_loopg [6] l4.length (fun kq v6 W => ∃ i : Nat, v6 = .int .i64 i ∧ i ≤ l4.length ∧ Aside0 (kq + i = l4.length) ∧ Aside0 (Below V.heap.size V W))
  case atStart => exact ⟨0, rfl, Nat.zero_le _, ⟨rfl⟩, HY⟩
  case round =>
   clear HY
   obtain ⟨i, rfl, hi, HK2, HY⟩ := hrel
   have hL : l4.length ≤ 9223372036854775807 := HA.out.r4.2.1
   by_cases hr : i < l4.length
   ·cases gk with
    | zero => exact absurd HK2.out (by omega)
    | succ k2 =>
     obtain ⟨ad, rfl, hx0⟩ := Kd.at_int HA.out.r4 (i : Int) (by omega) (by omega)
     obtain ⟨bd, rfl, hy0⟩ := Kd.at_int HB.out.r4 (i : Int) (by omega) (by omega)
     rw [Int.toNat_natCast] at hx0 hy0
     obtain ⟨x, hx⟩ : ∃ x, rd l4 (i : Int) = x := ⟨_, rfl⟩
     rw [hx] at hx0 hy0
     have q0 : (x != x) = false := by simp
     have HSX : Aside0 (∀ W, Below V.heap.size V W → sk7 g2 a0 a1 A2 c2 l2 b3 (some ad) c4 l4 A5 c5 l5 A6 c6 l6 W (sk7 g3 a0 a1 B2 d2 l2 b3 (some bd) d4 l4 B5 d5 l5 B6 d6 l6 W (W.cell? (ad.add i) = some (.int .i64 x) ∧ W.cell? (bd.add i) = some (.int .i64 x)))) := ⟨fun W hb => by
      obtain ⟨t0, t1, t2, t3, t4, t5, t6, u0, u1, u2, u3, u4, u5, u6, _⟩ := HS.out W hb
      have hbw := HBV.out.trans (hb.mono (below_size HBV.out))
      exact ⟨t0, t1, t2, t3, t4, t5, t6, u0, u1, u2, u3, u4, u5, u6, up_ hbw hx0, up_ hbw hy0⟩⟩
     have hid : decide ((i : Int) < l4.length) = true := decide_eq_true (by omega)
     have hid2 : decide ((l4.length : Int) ≤ i) = false := decide_eq_false (by omega)
     have hwi : IntKind.i64.wrap ((i : Int) + 1) = ((i + 1 : Nat) : Int) := by rw [i64_w]; unfold wrap64; omega
     clear hx hx0 hy0
     obtain ⟨t0, t1, t2, t3, t4, t5, t6, u0, u1, u2, u3, u4, u5, u6, _⟩ := HS.out _ HY.out
     go_upto_region 11 with (fail)
     clear t0 t1 t2 t3 t4 t5 t6 u0 u1 u2 u3 u4 u5 u6
     replace HY := Aside0.mk (below_drew1 HY.out)
     refine start_ (n := 11) (S := fun W => sk7 g2 a0 a1 A2 c2 l2 b3 (some ad) c4 l4 A5 c5 l5 A6 c6 l6 W (sk7 g3 a0 a1 B2 d2 l2 b3 (some bd) d4 l4 B5 d5 l5 B6 d6 l6 W (W.cell? (ad.add i) = some (.int .i64 x) ∧ W.cell? (bd.add i) = some (.int .i64 x)))) (ds := []) #[false, false, false, false, false, false, false, false, false, false, false] (by kernel_rfl) rfl rfl (HSX.out _ HY.out) (fun hHeld => ?_)
     refine with_tabW f16_tab11 f16_bits11 (fun HT_ HW_ => ?_)
     generalize wr.drew = wd at HY hHeld ⊢
     refine pu_ HT_ 0 (some 89) ?_
     refine tk_ HT_ HW_ 1 (some 90) hHeld ?_
     refine pu_ HT_ 2 (some 91) ?_
     refine tk_ HT_ HW_ 3 (some 92) hHeld ?_
     refine tk_ HT_ HW_ 4 (some 93) hHeld ?_
     refine pu_ HT_ 5 (some 94) ?_
     refine tk_ HT_ HW_ 6 (some 95) hHeld ?_
     refine pu_ HT_ 7 (some 96) ?_
     refine tk_ HT_ HW_ 8 (some 97) hHeld ?_
     refine tk_ HT_ HW_ 9 (some 98) hHeld ?_
     refine pu_ HT_ 10 (some 99) ?_
     refine done_ (done_of HT_.out (by kernel_rfl)) ?_
     clear HT_ HW_ hHeld
     go_wp2
     go_roundg k2
     case measure => omega
     case rel => exact ⟨i + 1, int_eq (by omega), by omega, ⟨by have := HK2.out; omega⟩, HY⟩
   ·obtain rfl : i = l4.length := by omega
    have hid : decide ((l4.length : Int) < l4.length) = false := decide_eq_false (by omega)
    obtain ⟨t0, t1, t2, t3, t4, t5, t6, u0, u1, u2, u3, u4, u5, u6, _⟩ := HS.out _ HY.out
    go_wp2
    go_meet
    case rel => exact HY
 case rest =>
 clear HY
 have HY := hcut
 clear hcut
 obtain ⟨t0, t1, t2, t3, t4, t5, t6, u0, u1, u2, u3, u4, u5, u6, _⟩ := HS.out _ HY.out
 go_upto_block 4 with (fail)
 clear t0 t1 t2 t3 t4 t5 t6 u0 u1 u2 u3 u4 u5 u6
 go_cut [7] (fun v7 W => Aside0 (Below V.heap.size V W))
 case first =>
  go_wp2
  go_loopg [7] l5.length (fun kq v7 W => ∃ i : Nat, v7 = .int .i64 i ∧ i ≤ l5.length ∧ Aside0 (kq + i = l5.length) ∧ Aside0 (Below V.heap.size V W))
  case atStart => exact ⟨0, rfl, Nat.zero_le _, ⟨rfl⟩, HY⟩
  case round =>
   clear HY
   obtain ⟨i, rfl, hi, HK2, HY⟩ := hrel
   have hL : l5.length ≤ 9223372036854775807 := HA.out.r5.2.1
   by_cases hr : i < l5.length
   ·cases gk with
    | zero => exact absurd HK2.out (by omega)
    | succ k2 =>
     obtain ⟨ad, rfl, hx0, hx1, hx2⟩ := at_T39 HA.out.r5 (i : Int) (by omega) (by omega)
     obtain ⟨bd, rfl, hy0, hy1, hy2⟩ := at_T39 HB.out.r5 (i : Int) (by omega) (by omega)
     rw [Int.toNat_natCast] at hx0 hx1 hx2 hy0 hy1 hy2
     obtain ⟨x, hx⟩ : ∃ x, rd_T39 l5 (i : Int) = x := ⟨_, rfl⟩
     rw [hx] at hx0 hx1 hx2 hy0 hy1 hy2
     have q0 : (x.f0 == x.f0) = true := by simp
     have q1 : (x.f1 == x.f1) = true := by simp
     have q2 : (x.f2.toList == x.f2.toList) = true := by simp
     have HSX : Aside0 (∀ W, Below V.heap.size V W → sk7 g2 a0 a1 A2 c2 l2 b3 A4 c4 l4 (some ad) c5 l5 A6 c6 l6 W (sk7 g3 a0 a1 B2 d2 l2 b3 B4 d4 l4 (some bd) d5 l5 B6 d6 l6 W (W.cell? (ad.add (i * 3)) = some (.int .i64 x.f0) ∧ W.cell? ⟨(ad.add (i * 3)).block, (ad.add (i * 3)).off + 1, none⟩ = some (.int .i64 x.f1) ∧ W.cell? ⟨(ad.add (i * 3)).block, (ad.add (i * 3)).off + 2, none⟩ = some (.string x.f2) ∧ W.cell? (bd.add (i * 3)) = some (.int .i64 x.f0) ∧ W.cell? ⟨(bd.add (i * 3)).block, (bd.add (i * 3)).off + 1, none⟩ = some (.int .i64 x.f1) ∧ W.cell? ⟨(bd.add (i * 3)).block, (bd.add (i * 3)).off + 2, none⟩ = some (.string x.f2)))) := ⟨fun W hb => by
      obtain ⟨t0, t1, t2, t3, t4, t5, t6, u0, u1, u2, u3, u4, u5, u6, _⟩ := HS.out W hb
      have hbw := HBV.out.trans (hb.mono (below_size HBV.out))
      exact ⟨t0, t1, t2, t3, t4, t5, t6, u0, u1, u2, u3, u4, u5, u6, up_ hbw hx0, up_ hbw hx1, up_ hbw hx2, up_ hbw hy0, up_ hbw hy1, up_ hbw hy2⟩⟩
     have hid : decide ((i : Int) < l5.length) = true := decide_eq_true (by omega)
     have hid2 : decide ((l5.length : Int) ≤ i) = false := decide_eq_false (by omega)
     have hwi : IntKind.i64.wrap ((i : Int) + 1) = ((i + 1 : Nat) : Int) := by rw [i64_w]; unfold wrap64; omega
     clear hx hx0 hx1 hx2 hy0 hy1 hy2
     obtain ⟨t0, t1, t2, t3, t4, t5, t6, u0, u1, u2, u3, u4, u5, u6, _⟩ := HS.out _ HY.out
     go_upto_region 16 with (fail)
     clear t0 t1 t2 t3 t4 t5 t6 u0 u1 u2 u3 u4 u5 u6
     replace HY := Aside0.mk (below_drew1 HY.out)
     refine start_ (n := 11) (S := fun W => sk7 g2 a0 a1 A2 c2 l2 b3 A4 c4 l4 (some ad) c5 l5 A6 c6 l6 W (sk7 g3 a0 a1 B2 d2 l2 b3 B4 d4 l4 (some bd) d5 l5 B6 d6 l6 W (W.cell? (ad.add (i * 3)) = some (.int .i64 x.f0) ∧ W.cell? ⟨(ad.add (i * 3)).block, (ad.add (i * 3)).off + 1, none⟩ = some (.int .i64 x.f1) ∧ W.cell? ⟨(ad.add (i * 3)).block, (ad.add (i * 3)).off + 2, none⟩ = some (.string x.f2) ∧ W.cell? (bd.add (i * 3)) = some (.int .i64 x.f0) ∧ W.cell? ⟨(bd.add (i * 3)).block, (bd.add (i * 3)).off + 1, none⟩ = some (.int .i64 x.f1) ∧ W.cell? ⟨(bd.add (i * 3)).block, (bd.add (i * 3)).off + 2, none⟩ = some (.string x.f2)))) (ds := []) #[false, false, false, false, false, false, false, false, false, false, false] (by kernel_rfl) rfl rfl (HSX.out _ HY.out) (fun hHeld => ?_)
     refine with_tabW f16_tab16 f16_bits16 (fun HT_ HW_ => ?_)
     generalize wr.drew = wd at HY hHeld ⊢
     refine pu_ HT_ 0 (some 107) ?_
     refine tk_ HT_ HW_ 1 (some 108) hHeld ?_
     refine pu_ HT_ 2 (some 109) ?_
     refine tk_ HT_ HW_ 3 (some 110) hHeld ?_
     refine tk_ HT_ HW_ 4 (some 111) hHeld ?_
     refine pu_ HT_ 5 (some 112) ?_
     refine tk_ HT_ HW_ 6 (some 113) hHeld ?_
     refine pu_ HT_ 7 (some 114) ?_
     refine tk_ HT_ HW_ 8 (some 115) hHeld ?_
     refine tk_ HT_ HW_ 9 (some 116) hHeld ?_
     refine pu_ HT_ 10 (some 117) ?_
     refine done_ (done_of HT_.out (by kernel_rfl)) ?_
     clear HT_ HW_ hHeld
     go_wp2
     go_roundg k2
     case measure => omega
     case rel => exact ⟨i + 1, int_eq (by omega), by omega, ⟨by have := HK2.out; omega⟩, HY⟩
   ·obtain rfl : i = l5.length := by omega
    have hid : decide ((l5.length : Int) < l5.length) = false := decide_eq_false (by omega)
    obtain ⟨t0, t1, t2, t3, t4, t5, t6, u0, u1, u2, u3, u4, u5, u6, _⟩ := HS.out _ HY.out
    go_wp2
    go_meet
    case rel => exact HY
 case rest =>
 clear HY
 have HY := hcut
 clear hcut
 obtain ⟨t0, t1, t2, t3, t4, t5, t6, u0, u1, u2, u3, u4, u5, u6, _⟩ := HS.out _ HY.out
 go_upto_block 6 with (fail)
 clear t0 t1 t2 t3 t4 t5 t6 u0 u1 u2 u3 u4 u5 u6
 go_cut [8] (fun v8 W => Aside0 (Below V.heap.size V W))
 case first =>
  go_wp2
  go_loopg [8] l6.length (fun kq v8 W => ∃ i : Nat, v8 = .int .i64 i ∧ i ≤ l6.length ∧ Aside0 (kq + i = l6.length) ∧ Aside0 (Below V.heap.size V W))
  case atStart => exact ⟨0, rfl, Nat.zero_le _, ⟨rfl⟩, HY⟩
  case round =>
   clear HY
   obtain ⟨i, rfl, hi, HK2, HY⟩ := hrel
   have hL : l6.length ≤ 9223372036854775807 := HA.out.r6.2.1
   by_cases hr : i < l6.length
   ·cases gk with
    | zero => exact absurd HK2.out (by omega)
    | succ k2 =>
     obtain ⟨ad, rfl, hx0⟩ := Kd.at_int HA.out.r6 (i : Int) (by omega) (by omega)
     obtain ⟨bd, rfl, hy0⟩ := Kd.at_int HB.out.r6 (i : Int) (by omega) (by omega)
     rw [Int.toNat_natCast] at hx0 hy0
     obtain ⟨x, hx⟩ : ∃ x, rd l6 (i : Int) = x := ⟨_, rfl⟩
     rw [hx] at hx0 hy0
     have q0 : (x != x) = false := by simp
     have HSX : Aside0 (∀ W, Below V.heap.size V W → sk7 g2 a0 a1 A2 c2 l2 b3 A4 c4 l4 A5 c5 l5 (some ad) c6 l6 W (sk7 g3 a0 a1 B2 d2 l2 b3 B4 d4 l4 B5 d5 l5 (some bd) d6 l6 W (W.cell? (ad.add i) = some (.int .i64 x) ∧ W.cell? (bd.add i) = some (.int .i64 x)))) := ⟨fun W hb => by
      obtain ⟨t0, t1, t2, t3, t4, t5, t6, u0, u1, u2, u3, u4, u5, u6, _⟩ := HS.out W hb
      have hbw := HBV.out.trans (hb.mono (below_size HBV.out))
      exact ⟨t0, t1, t2, t3, t4, t5, t6, u0, u1, u2, u3, u4, u5, u6, up_ hbw hx0, up_ hbw hy0⟩⟩
     have hid : decide ((i : Int) < l6.length) = true := decide_eq_true (by omega)
     have hid2 : decide ((l6.length : Int) ≤ i) = false := decide_eq_false (by omega)
     have hwi : IntKind.i64.wrap ((i : Int) + 1) = ((i + 1 : Nat) : Int) := by rw [i64_w]; unfold wrap64; omega
     clear hx hx0 hy0
     obtain ⟨t0, t1, t2, t3, t4, t5, t6, u0, u1, u2, u3, u4, u5, u6, _⟩ := HS.out _ HY.out
     go_upto_region 21 with (fail)
     clear t0 t1 t2 t3 t4 t5 t6 u0 u1 u2 u3 u4 u5 u6
     replace HY := Aside0.mk (below_drew1 HY.out)
     refine start_ (n := 11) (S := fun W => sk7 g2 a0 a1 A2 c2 l2 b3 A4 c4 l4 A5 c5 l5 (some ad) c6 l6 W (sk7 g3 a0 a1 B2 d2 l2 b3 B4 d4 l4 B5 d5 l5 (some bd) d6 l6 W (W.cell? (ad.add i) = some (.int .i64 x) ∧ W.cell? (bd.add i) = some (.int .i64 x)))) (ds := []) #[false, false, false, false, false, false, false, false, false, false, false] (by kernel_rfl) rfl rfl (HSX.out _ HY.out) (fun hHeld => ?_)
     refine with_tabW f16_tab21 f16_bits21 (fun HT_ HW_ => ?_)
     generalize wr.drew = wd at HY hHeld ⊢
     refine pu_ HT_ 0 (some 125) ?_
     refine tk_ HT_ HW_ 1 (some 126) hHeld ?_
     refine pu_ HT_ 2 (some 127) ?_
     refine tk_ HT_ HW_ 3 (some 128) hHeld ?_
     refine tk_ HT_ HW_ 4 (some 129) hHeld ?_
     refine pu_ HT_ 5 (some 130) ?_
     refine tk_ HT_ HW_ 6 (some 131) hHeld ?_
     refine pu_ HT_ 7 (some 132) ?_
     refine tk_ HT_ HW_ 8 (some 133) hHeld ?_
     refine tk_ HT_ HW_ 9 (some 134) hHeld ?_
     refine pu_ HT_ 10 (some 135) ?_
     refine done_ (done_of HT_.out (by kernel_rfl)) ?_
     clear HT_ HW_ hHeld
     go_wp2
     go_roundg k2
     case measure => omega
     case rel => exact ⟨i + 1, int_eq (by omega), by omega, ⟨by have := HK2.out; omega⟩, HY⟩
   ·obtain rfl : i = l6.length := by omega
    have hid : decide ((l6.length : Int) < l6.length) = false := decide_eq_false (by omega)
    obtain ⟨t0, t1, t2, t3, t4, t5, t6, u0, u1, u2, u3, u4, u5, u6, _⟩ := HS.out _ HY.out
    go_wp2
    go_meet
    case rel => exact HY
 case rest =>
 clear HY
 have HY := hcut
 clear hcut
 go_wp2
 go_ret
 exact ⟨rfl, HBV.out.trans (HY.out.mono (below_size HBV.out))⟩
end Go.Proofs.Ytackcingpffidaa.P
namespace Go.Proofs.Ytackcingpffidaa.P
open Go.RowKit Go.Proofs.YtackcingpffidaaW.PrintWords Go.Proofs.YtackcingpffidaaW.PrintLast Go.Proofs.YtackcingpffidaaW.PrintMore
attribute [local go_sem] max2_int min2_int max_two min_two max_three min_three max_four min_four Go.Proofs.YtackcingpffidaaQ.str_gtr Go.Proofs.YtackcingpffidaaQ.str_leq Go.Proofs.YtackcingpffidaaQ.str_geq   -- for this text's walks alone
set_option linter.unusedVariables false
set_option linter.unusedSimpArgs false
/-! ### slices_BinarySearch_uint64_uint64: function 69 -/
def slices_BinarySearch_uint64_uint64.l0 : Nat → List Int → Int → Int → Int → Int → Option (Int × Bool)
 | 0, _, _, _, _, _ => none
 | k + 1, x0, x1, x6, x7, x8 => if x7 < x8 then (if 0 ≤ (wrap64 ((IntKind.u64.wrap (wrap64 (x7 + x8))) / 2)) then (if (wrap64 ((IntKind.u64.wrap (wrap64 (x7 + x8))) / 2)) < (x0.length : Int) then ((cmp_Less_uint64.f (rd x0 (wrap64 ((IntKind.u64.wrap (wrap64 (x7 + x8))) / 2))) x1).bind fun t464 => (if t464 = true then (slices_BinarySearch_uint64_uint64.l0 k x0 x1 x6 (wrap64 ((wrap64 ((IntKind.u64.wrap (wrap64 (x7 + x8))) / 2)) + 1)) x8) else (slices_BinarySearch_uint64_uint64.l0 k x0 x1 x6 x7 (wrap64 ((IntKind.u64.wrap (wrap64 (x7 + x8))) / 2))))) else (none)) else (none)) else (if x7 < x6 then (if 0 ≤ x7 then (if x7 < (x0.length : Int) then (if (rd x0 x7) = x1 then (some (x7, true)) else ((slices_isNaN_uint64.f (rd x0 x7)).bind fun t467 => (if t467 = true then ((slices_isNaN_uint64.f x1).bind fun t468 => (some (x7, t468))) else (some (x7, false))))) else (none)) else (none)) else (some (x7, false)))
def slices_BinarySearch_uint64_uint64.f (k : Nat) (l0 : List Int) (a1 : Int) : Option (Int × Bool) := slices_BinarySearch_uint64_uint64.l0 k l0 a1 (l0.length : Int) 0 (l0.length : Int)
theorem slices_BinarySearch_uint64_uint64.mono_l : ∀ k, (∀ y0 y1 y2 y3 y4, LeO (slices_BinarySearch_uint64_uint64.l0 k y0 y1 y2 y3 y4) (slices_BinarySearch_uint64_uint64.l0 (k + 1) y0 y1 y2 y3 y4))
 | 0 => fun _ _ _ _ _ r h => by simp [slices_BinarySearch_uint64_uint64.l0] at h
 | k + 1 => by
  have ih0 := slices_BinarySearch_uint64_uint64.mono_l k
  ·intro y0 y1 y2 y3 y4
   unfold slices_BinarySearch_uint64_uint64.l0
   repeat' first
   | (with_reducible exact ih0 _ _ _ _ _)
   | (with_reducible exact LeO.refl _)
   | (with_reducible exact LeO.none _)
   | (with_reducible refine LeO.ite ?_ ?_)
   | (with_reducible refine LeO.bind ?_ (fun _ => ?_))
   | exact ih0 _ _ _ _ _
   | exact LeO.none _
   | refine LeO.ite ?_ ?_
   | refine LeO.bind ?_ (fun _ => ?_)
theorem slices_BinarySearch_uint64_uint64.mono : ∀ a0 a1 k, LeO (slices_BinarySearch_uint64_uint64.f k a0 a1) (slices_BinarySearch_uint64_uint64.f (k + 1) a0 a1) := by
 intro a0 a1 k
 have ih0 := slices_BinarySearch_uint64_uint64.mono_l k
 unfold slices_BinarySearch_uint64_uint64.f
 repeat' first
   | (with_reducible exact ih0 _ _ _ _ _)
   | (with_reducible exact LeO.refl _)
   | (with_reducible exact LeO.none _)
   | (with_reducible refine LeO.ite ?_ ?_)
   | (with_reducible refine LeO.bind ?_ (fun _ => ?_))
   | exact ih0 _ _ _ _ _
   | exact LeO.none _
   | refine LeO.ite ?_ ?_
   | refine LeO.bind ?_ (fun _ => ?_)
set_option maxHeartbeats 8000000 in
set_option maxRecDepth 100000 in
theorem slices_BinarySearch_uint64_uint64.calls (k : Nat) (A0 : Option Addr) (c0 : Nat) (l0 : List Int) (a1 : Int) (r1 : Int) (r2 : Bool) (w : World) (hr0 : Kd.C (Kd.int .u64) w A0 l0.length l0) (hc0 : l0.length ≤ c0) (h : slices_BinarySearch_uint64_uint64.f k l0 a1 = some (r1, r2)) :
  Calls Try.prog 69 #[.slice A0 l0.length c0, .int .u64 a1] w fun e w' => e = .returned (.tuple #[.int .i64 r1, .bool r2]) ∧ Drawn0 w w' := by
 have HR0 := Aside0.mk hr0
 have HC0 := Aside0.mk hc0
 clear hr0 hc0
 have H : (slices_BinarySearch_uint64_uint64.l0 k l0 a1 (l0.length : Int) 0 (l0.length : Int)) = some (r1, r2) := h
 clear h
 have H' := Aside0.mk H
 clear H
 go_enter Try.func69, Try.ntmps69
 go_wp2
 go_loopg [7, 8] k (fun kq v7 v8 w' => ∃ (x7_1 : Int) (x8_1 : Int), v7 = .int .i64 x7_1 ∧ v8 = .int .i64 x8_1 ∧ Aside0 (slices_BinarySearch_uint64_uint64.l0 kq l0 a1 (l0.length : Int) x7_1 x8_1 = some (r1, r2)) ∧ Aside0 (kq ≤ k) ∧ Drawn0 w w')
 case atStart => exact ⟨(0), ((l0.length : Int)), (by first | rfl | (simp; done) | (simp [*]; done)), (by first | rfl | (simp; done) | (simp [*]; done)), H', ⟨Nat.le_refl _⟩, by repeat (first | exact Drawn0.refl _ | apply Drawn0.step)⟩
 case round =>
  clear H'
  try clear p2
  obtain ⟨x7_1, x8_1, rfl, rfl, HA, HK1, ⟨m1, rfl⟩⟩ := hrel
  cases gk with
  | zero => exact absurd HA.out (by simp [slices_BinarySearch_uint64_uint64.l0])
  | succ k1 =>
   have H := HA.out
   clear HA
   simp only [slices_BinarySearch_uint64_uint64.l0] at H
   by_cases c3 : x7_1 < x8_1
   ·rw [if_pos c3] at H
    have c3b0 : decide (x7_1 < x8_1) = true := decide_eq_true c3
    clear c3
    obtain ⟨ji4, hji4⟩ : ∃ j_ : Int, (wrap64 ((IntKind.u64.wrap (wrap64 (x7_1 + x8_1))) / 2)) = j_ := ⟨_, rfl⟩
    replace H : (if 0 ≤ (ji4) then (if (ji4) < (l0.length : Int) then ((cmp_Less_uint64.f (rd l0 (ji4)) a1).bind fun t464 => (if t464 = true then (slices_BinarySearch_uint64_uint64.l0 k1 l0 a1 (l0.length : Int) (wrap64 ((ji4) + 1)) x8_1) else (slices_BinarySearch_uint64_uint64.l0 k1 l0 a1 (l0.length : Int) x7_1 ji4))) else (none)) else (none)) = some (r1, r2) := by first | (rw [hji4] at H; exact H) | (simp only [hji4] at H ⊢; exact H)
    have hji4w : (IntKind.i64.wrap ((IntKind.u64.wrap (wrap64 (x7_1 + x8_1))) / 2)) = ji4 := (i64_w _).trans hji4
    by_cases c5 : 0 ≤ (ji4)
    ·rw [if_pos c5] at H
     have c5b0 : decide (0 ≤ (ji4)) = true := decide_eq_true c5
     clear c5
     by_cases c6 : (ji4) < (l0.length : Int)
     ·rw [if_pos c6] at H
      have c6b0 : decide ((ji4) < (l0.length : Int)) = true := decide_eq_true c6
      clear c6
      replace H := Option.bind_eq_some_iff.mp H
      obtain ⟨t464, A70, H⟩ := H
      replace H : (if t464 = true then (slices_BinarySearch_uint64_uint64.l0 k1 l0 a1 (l0.length : Int) (wrap64 ((ji4) + 1)) x8_1) else (slices_BinarySearch_uint64_uint64.l0 k1 l0 a1 (l0.length : Int) x7_1 ji4)) = some (r1, r2) := H
      have A7 := Aside0.mk A70
      clear A70
      by_cases c8 : t464 = true
      ·subst c8
       have H1 : (slices_BinarySearch_uint64_uint64.l0 k1 l0 a1 (l0.length : Int) (wrap64 ((ji4) + 1)) x8_1) = some (r1, r2) := by rw [if_pos rfl] at H; exact H
       clear H
       have H := H1
       clear H1
       have H' := Aside0.mk H
       clear H
       have p463 : 0 ≤ ((ji4) : Int) := of_decide_eq_true (by first | (with_reducible assumption) | assumption)
       have q463 : (ji4) < (l0.length : Int) := of_decide_eq_true (by first | (with_reducible assumption) | assumption)
       obtain ⟨ad463, e463, hx463_0⟩ := Kd.at_int HR0.out (ji4) p463 q463
       cases e463
       replace p463 := eq_true p463
       replace q463 := eq_true q463
       go_wp2_with (first | ((with_reducible refine gate_callee (f := 108) rfl ?_); refine goesL_ (some 27) rfl rfl Try.func108 (by kernel_rfl) rfl #[.int .u64 (rd l0 (ji4)), .int .u64 a1] rfl (by (try simp only [List.map_toArray, List.map_cons, List.map_nil]); first | done | (simp only [hji4]; rfl) | rfl | (simp only [List.length_drop, List.length_take]; rfl)) ?_; (with_reducible refine (cmp_Less_uint64.calls (rd l0 (ji4)) a1 true _ A7.out).mono ?_); rintro e w' ⟨rfl, ⟨nd, rfl⟩⟩; refine ⟨_, rfl, ?_⟩))
       go_roundg k1
       case measure => have := HK1.out; omega
       case rel => exact ⟨(wrap64 ((ji4) + 1)), (x8_1), (by first | rfl | (simp; done) | (simp only [← hji4] <;> (first | rfl | simp)) | (simp [*]; done)), (by first | rfl | (simp; done) | (simp [*]; done)), H', ⟨by have := HK1.out; omega⟩, by repeat (first | exact Drawn0.refl _ | apply Drawn0.step)⟩
      ·replace c8 := Bool.eq_false_iff.mpr c8
       subst c8
       have H1 : (slices_BinarySearch_uint64_uint64.l0 k1 l0 a1 (l0.length : Int) x7_1 ji4) = some (r1, r2) := by rw [if_neg (show ¬ (false = true) by decide)] at H; exact H
       clear H
       have H := H1
       clear H1
       have H' := Aside0.mk H
       clear H
       have p463 : 0 ≤ ((ji4) : Int) := of_decide_eq_true (by first | (with_reducible assumption) | assumption)
       have q463 : (ji4) < (l0.length : Int) := of_decide_eq_true (by first | (with_reducible assumption) | assumption)
       obtain ⟨ad463, e463, hx463_0⟩ := Kd.at_int HR0.out (ji4) p463 q463
       cases e463
       replace p463 := eq_true p463
       replace q463 := eq_true q463
       go_wp2_with (first | ((with_reducible refine gate_callee (f := 108) rfl ?_); refine goesL_ (some 27) rfl rfl Try.func108 (by kernel_rfl) rfl #[.int .u64 (rd l0 (ji4)), .int .u64 a1] rfl (by (try simp only [List.map_toArray, List.map_cons, List.map_nil]); first | done | (simp only [hji4]; rfl) | rfl | (simp only [List.length_drop, List.length_take]; rfl)) ?_; (with_reducible refine (cmp_Less_uint64.calls (rd l0 (ji4)) a1 false _ A7.out).mono ?_); rintro e w' ⟨rfl, ⟨nd, rfl⟩⟩; refine ⟨_, rfl, ?_⟩))
       go_roundg k1
       case measure => have := HK1.out; omega
       case rel => exact ⟨(x7_1), (ji4), (by first | rfl | (simp; done) | (simp [*]; done)), (by first | rfl | (simp; done) | (simp only [← hji4] <;> (first | rfl | simp)) | (simp [*]; done)), H', ⟨by have := HK1.out; omega⟩, by repeat (first | exact Drawn0.refl _ | apply Drawn0.step)⟩
     ·rw [if_neg c6] at H
      exact absurd H (by simp)
    ·rw [if_neg c5] at H
     exact absurd H (by simp)
   ·rw [if_neg c3] at H
    have c3b0 : decide (x7_1 < x8_1) = false := decide_eq_false c3
    clear c3
    by_cases c9 : x7_1 < (l0.length : Int)
    ·rw [if_pos c9] at H
     have c9b0 : decide (x7_1 < (l0.length : Int)) = true := decide_eq_true c9
     clear c9
     by_cases c10 : 0 ≤ x7_1
     ·rw [if_pos c10] at H
      have c10b0 : decide (0 ≤ x7_1) = true := decide_eq_true c10
      clear c10
      by_cases c11 : x7_1 < (l0.length : Int)
      ·rw [if_pos c11] at H
       have c11b0 : decide (x7_1 < (l0.length : Int)) = true := decide_eq_true c11
       clear c11
       by_cases c12 : (rd l0 x7_1) = a1
       ·rw [if_pos c12] at H
        have c12b0 : ((rd l0 x7_1) == a1) = true := beq_iff_eq.mpr c12
        have c12b1 : ((rd l0 x7_1) != a1) = false := bne_eq_false_iff_eq.mpr c12
        clear c12
        simp only [Option.some.injEq, Prod.mk.injEq] at H
        obtain ⟨rfl, rfl⟩ := H
        have p465 : 0 ≤ (x7_1 : Int) := of_decide_eq_true (by first | (with_reducible assumption) | assumption)
        have q465 : x7_1 < (l0.length : Int) := of_decide_eq_true (by first | (with_reducible assumption) | assumption)
        obtain ⟨ad465, e465, hx465_0⟩ := Kd.at_int HR0.out x7_1 p465 q465
        cases e465
        replace p465 := eq_true p465
        replace q465 := eq_true q465
        go_wp2
        go_ret2
        exact ⟨by first | rfl | (simp; done) | (simp [*]; done), by repeat (first | exact Drawn0.refl _ | apply Drawn0.step)⟩
       ·rw [if_neg c12] at H
        have c12b0 : ((rd l0 x7_1) == a1) = false := beq_eq_false_iff_ne.mpr c12
        have c12b1 : ((rd l0 x7_1) != a1) = true := bne_iff_ne.mpr c12
        replace H := Option.bind_eq_some_iff.mp H
        obtain ⟨t467, A130, H⟩ := H
        replace H : (if t467 = true then ((slices_isNaN_uint64.f a1).bind fun t468 => (some (x7_1, t468))) else (some (x7_1, false))) = some (r1, r2) := H
        have A13 := Aside0.mk A130
        clear A130
        by_cases c14 : t467 = true
        ·subst c14
         have H1 : ((slices_isNaN_uint64.f a1).bind fun t468 => (some (x7_1, t468))) = some (r1, r2) := by rw [if_pos rfl] at H; exact H
         clear H
         have H := H1
         clear H1
         replace H := Option.bind_eq_some_iff.mp H
         obtain ⟨t468, A150, H⟩ := H
         replace H : (some (x7_1, t468)) = some (r1, r2) := H
         have A15 := Aside0.mk A150
         clear A150
         simp only [Option.some.injEq, Prod.mk.injEq] at H
         obtain ⟨rfl, rfl⟩ := H
         have p465 : 0 ≤ (x7_1 : Int) := of_decide_eq_true (by first | (with_reducible assumption) | assumption)
         have q465 : x7_1 < (l0.length : Int) := of_decide_eq_true (by first | (with_reducible assumption) | assumption)
         obtain ⟨ad465, e465, hx465_0⟩ := Kd.at_int HR0.out x7_1 p465 q465
         cases e465
         replace p465 := eq_true p465
         replace q465 := eq_true q465
         have p466 : 0 ≤ (x7_1 : Int) := of_decide_eq_true (by first | (with_reducible assumption) | assumption)
         have q466 : x7_1 < (l0.length : Int) := of_decide_eq_true (by first | (with_reducible assumption) | assumption)
         obtain ⟨ad466, e466, hx466_0⟩ := Kd.at_int HR0.out x7_1 p466 q466
         obtain rfl : ad465 = ad466 := (by injection e466)
         replace p466 := eq_true p466
         replace q466 := eq_true q466
         go_wp2_with (first | (go_at_call 109; (with_reducible refine (slices_isNaN_uint64.calls (rd l0 x7_1) true _ A13.out).mono ?_); rintro e w' ⟨rfl, ⟨nd, rfl⟩⟩) | (go_at_call 109; (with_reducible refine (slices_isNaN_uint64.calls a1 t468 _ A15.out).mono ?_); rintro e w' ⟨rfl, ⟨nd, rfl⟩⟩))
         go_ret2
         exact ⟨by first | rfl | (simp; done) | (simp [*]; done), by repeat (first | exact Drawn0.refl _ | apply Drawn0.step)⟩
        ·replace c14 := Bool.eq_false_iff.mpr c14
         subst c14
         have H1 : (some (x7_1, false)) = some (r1, r2) := by rw [if_neg (show ¬ (false = true) by decide)] at H; exact H
         clear H
         have H := H1
         clear H1
         simp only [Option.some.injEq, Prod.mk.injEq] at H
         obtain ⟨rfl, rfl⟩ := H
         have p465 : 0 ≤ (x7_1 : Int) := of_decide_eq_true (by first | (with_reducible assumption) | assumption)
         have q465 : x7_1 < (l0.length : Int) := of_decide_eq_true (by first | (with_reducible assumption) | assumption)
         obtain ⟨ad465, e465, hx465_0⟩ := Kd.at_int HR0.out x7_1 p465 q465
         cases e465
         replace p465 := eq_true p465
         replace q465 := eq_true q465
         have p466 : 0 ≤ (x7_1 : Int) := of_decide_eq_true (by first | (with_reducible assumption) | assumption)
         have q466 : x7_1 < (l0.length : Int) := of_decide_eq_true (by first | (with_reducible assumption) | assumption)
         obtain ⟨ad466, e466, hx466_0⟩ := Kd.at_int HR0.out x7_1 p466 q466
         obtain rfl : ad465 = ad466 := (by injection e466)
         replace p466 := eq_true p466
         replace q466 := eq_true q466
         go_wp2_with (first | (go_at_call 109; (with_reducible refine (slices_isNaN_uint64.calls (rd l0 x7_1) false _ A13.out).mono ?_); rintro e w' ⟨rfl, ⟨nd, rfl⟩⟩))
         go_ret2
         exact ⟨by first | rfl | (simp; done) | (simp [*]; done), by repeat (first | exact Drawn0.refl _ | apply Drawn0.step)⟩
      ·rw [if_neg c11] at H
       exact absurd H (by simp)
     ·rw [if_neg c10] at H
      exact absurd H (by simp)
    ·rw [if_neg c9] at H
     have c9b0 : decide (x7_1 < (l0.length : Int)) = false := decide_eq_false c9
     clear c9
     simp only [Option.some.injEq, Prod.mk.injEq] at H
     obtain ⟨rfl, rfl⟩ := H
     go_wp2
     go_ret2
     exact ⟨by first | rfl | (simp; done) | (simp [*]; done), by repeat (first | exact Drawn0.refl _ | apply Drawn0.step)⟩
/-! ### laminalaw16_integer: function 40 -/
def laminalaw16_integer.f (a0 : Int) : Option (Int × Int × ByteArray) := some (2, a0, (⟨#[]⟩ : ByteArray))
set_option maxHeartbeats 8000000 in
set_option maxRecDepth 100000 in
theorem laminalaw16_integer.calls (a0 : Int) (r1 : Int) (r2 : Int) (r3 : ByteArray) (w : World) (h : laminalaw16_integer.f a0 = some (r1, r2, r3)) :
  Calls Try.prog 40 #[.int .i64 a0] w fun e w' => e = .returned (.agg #[.int .i64 r1, .int .i64 r2, .string r3]) ∧ Below w.heap.size w w' := by
 have hu39 := Try.underlying39
 have HB := Aside0.mk (Below.refl w.heap.size w)
 have H : (some (2, a0, (⟨#[]⟩ : ByteArray))) = some (r1, r2, r3) := h
 clear h
 simp only [Option.some.injEq, Prod.mk.injEq] at H
 obtain ⟨rfl, rfl, rfl⟩ := H
 go_enter Try.func40, Try.ntmps40
 go_wp2_with (first | ((with_reducible refine gate_dst (N := 2) rfl ?_); refine box_ 2 (cs := #[.int .i64 0, .int .i64 0, .string (⟨#[]⟩ : ByteArray)]) (t := 39) ?_; intro gb476 hg w2 hbox hb; have BK476 := Aside0.mk (hbox); have GW476 := Aside0.mk ((by rw [hg]; exact (below_size (hb_ HB.out)) : w.heap.size ≤ gb476)); have GE476 := Aside0.mk ((by rw [hg]; exact (below_size (hb_ HB.out)) : w.heap.size ≤ gb476)); replace HB := Aside0.mk (below_step (hb_ HB.out) hb); clear hb hbox hg; obtain ⟨hcz3_0, hcz3_1, hcz3_2, hfz3_0, hfz3_1, hfz3_2⟩ := bf3 BK476.out))
 refine bodyPost_ret (results_cell_row rfl _ _ gb476 39 #[.int .i64 2, .int .i64 a0, .string (⟨#[]⟩ : ByteArray)] (0, 0) _ rfl (by (with_reducible repeat (first | refine blk_drewN ?_ _ | refine blk_drew ?_ | refine blk_alloc ?_ _)); refine blk_put (cs := #[.int .i64 2, .int .i64 a0, .string (⟨#[]⟩ : ByteArray)]) ?_ 2 _ rfl; (with_reducible repeat (first | refine blk_drewN ?_ _ | refine blk_drew ?_ | refine blk_alloc ?_ _)); refine blk_put (cs := #[.int .i64 2, .int .i64 0, .string (⟨#[]⟩ : ByteArray)]) ?_ 1 _ rfl; (with_reducible repeat (first | refine blk_drewN ?_ _ | refine blk_drew ?_ | refine blk_alloc ?_ _)); refine blk_put (cs := #[.int .i64 0, .int .i64 0, .string (⟨#[]⟩ : ByteArray)]) ?_ 0 _ rfl; (with_reducible repeat (first | refine blk_drewN ?_ _ | refine blk_drew ?_ | refine blk_alloc ?_ _)); exact BK476.out) Try.underlying39 rfl (by kernel_rfl)) rfl ?_
 exact er_ ((hb1_ HB.out GE476.out))
end Go.Proofs.Ytackcingpffidaa.P
namespace Go.Proofs.Ytackcingpffidaa.P
set_option linter.unusedVariables false
open Go.RowKit Go.Proofs.YtackcingpffidaaW.PrintWords Go.Proofs.YtackcingpffidaaW.PrintLast Go.Proofs.YtackcingpffidaaW.PrintMore
def put2 (w : World) (g : Nat) (u0 u1 : Value) : World := (w.setCell ⟨g, 0, none⟩ u0).setCell ⟨g, 1, none⟩ u1
theorem put2_blk {w : World} {g : Nat} {t : TypeId} {a0 a1 : Value} (h : w.heap[g]? = some (.cells #[a0, a1] t (0, 0))) (u0 u1 : Value) : (put2 w g u0 u1).heap[g]? = some (.cells #[u0, u1] t (0, 0)) :=
 blk_put (cs' := #[u0, u1]) (blk_put (cs' := #[u0, a1]) h 0 u0 rfl) 1 u1 rfl
theorem put2_below {b : Nat} {w0 w : World} (h : Below b w0 w) {g : Nat} (hg : b ≤ g) (u0 u1 : Value) : Below b w0 (put2 w g u0 u1) :=
 (h.setCell (p := ⟨g, 0, none⟩) hg u0).setCell (p := ⟨g, 1, none⟩) hg u1
/-- No fence is of the value's kind, or the value lies outside the fences. -/
def gateB (F : List S39) (v : S39) : Bool := v.f0 == 0 || F.length == 0 || v.f0 != (rd_T39 F 0).f0 || decide (cV v (rd_T39 F 0) < 0) || decide (0 < cV v (rd_T39 F ((F.length : Int) - 1)))
/-- How many fences are less than the value; are they the first ones. -/
def partS (F : List S39) (v : S39) : Nat := (F.filter fun x => decide (cV x v < 0)).length
def partB (F : List S39) (v : S39) : Bool := decide (F.length ≤ 1000) && allN (fun i => decide (i < partS F v) == decide (cV (rd_T39 F i) v < 0)) 0 F.length
theorem partS_le (F : List S39) (v : S39) : partS F v ≤ F.length := List.length_filter_le _ _
theorem allN_spec (p : Nat → Bool) : ∀ m i, allN p i m = true → ∀ j, i ≤ j → j < i + m → p j = true
 | 0, _, _, j, h1, h2 => by omega
 | m + 1, i, h, j, h1, h2 => by
  simp only [allN, Bool.and_eq_true] at h
  by_cases e : j = i
  ·subst e; exact h.1
  ·exact allN_spec p m (i + 1) h.2 j (by omega) (by omega)
theorem partB_spec {F : List S39} {v : S39} (h : partB F v = true) : F.length ≤ 1000 ∧ ∀ i : Nat, i < F.length → (i < partS F v ↔ cV (rd_T39 F i) v < 0) := by
 unfold partB at h
 rw [Bool.and_eq_true] at h
 refine ⟨of_decide_eq_true h.1, fun i hi => ?_⟩
 have := allN_spec _ _ _ h.2 i (Nat.zero_le _) (by omega)
 simpa using this
def lowS (F : List S39) (R : List Int) (v : S39) : Option Int :=
 if decide (partS F v < F.length) && (cV (rd_T39 F (partS F v : Nat)) v == 0) then (if 2 * partS F v + 1 < R.length then some (mx 0 (wrap64 (rd R ((2 * partS F v + 1 : Nat) : Int) - rd R ((2 * partS F v : Nat) : Int)))) else none) else some 0
def minsS (k : Nat) (v : S39) (C : List Int) : Int → Nat → Nat → Option Int
 | high, _, 0 => some high
 | high, r, m + 1 => (sketch_cell.f k r v.f0 v.f1 v.f2).bind fun c => if 0 ≤ c ∧ c < 64 ∧ r * 64 + c.toNat < C.length then minsS k v C (mn high (rd C ((r * 64 + c.toNat : Nat) : Int))) (r + 1) m else none
theorem minsS_next {k : Nat} {v : S39} {C : List Int} {high x : Int} {r m : Nat} (h : minsS k v C high r (m + 1) = some x) : ∃ c : Int, sketch_cell.f k r v.f0 v.f1 v.f2 = some c ∧ 0 ≤ c ∧ c < 64 ∧ r * 64 + c.toNat < C.length ∧ minsS k v C (mn high (rd C ((r * 64 + c.toNat : Nat) : Int))) (r + 1) m = some x := by
 unfold minsS at h
 obtain ⟨c, h1, h2⟩ := Option.bind_eq_some_iff.mp h
 by_cases hc : 0 ≤ c ∧ c < 64 ∧ r * 64 + c.toNat < C.length
 ·rw [if_pos hc] at h2
  exact ⟨c, h1, hc.1, hc.2.1, hc.2.2, h2⟩
 ·rw [if_neg hc] at h2
  exact absurd h2 (by simp)
theorem minsS.mono (k : Nat) (v : S39) (C : List Int) : ∀ m high r, LeO (minsS k v C high r m) (minsS (k + 1) v C high r m)
 | 0, _, _ => LeO.refl _
 | m + 1, high, r => LeO.bind (sketch_cell.mono _ _ _ _ _) (fun _ => LeO.ite (minsS.mono k v C m _ _) (LeO.none _))
def sketch_CountEqual.f (k : Nat) (a0_0 : Int) (a0_1 : Int) (l0_2 : List Int) (a0_3 : Bool) (l0_4 : List Int) (l0_5 : List (S39)) (l0_6 : List Int) (a1_0 : Int) (a1_1 : Int) (a1_2 : ByteArray) : Option (Int × Int) :=
 if gateB l0_5 ⟨a1_0, a1_1, a1_2⟩ then some (0, 0) else
 (value_Hash.f k 3 [(⟨a1_0, a1_1, a1_2⟩ : S39)]).bind fun h => (slices_BinarySearch_uint64_uint64.f k l0_2 h).bind fun ib => if a0_3 && !ib.2 then some (0, 0) else
 (sketch_upper.f k a0_0 a0_1 l0_2 a0_3 l0_4 l0_5 l0_6 a1_0 a1_1 a1_2 false).bind fun up => (sketch_lower.f k a0_0 a0_1 l0_2 a0_3 l0_4 l0_5 l0_6 a1_0 a1_1 a1_2 false).bind fun lo =>
 if partB l0_5 ⟨a1_0, a1_1, a1_2⟩ then (lowS l0_5 l0_6 ⟨a1_0, a1_1, a1_2⟩).bind fun low => (minsS k ⟨a1_0, a1_1, a1_2⟩ l0_4 (wrap64 (up - lo)) 0 4).bind fun high => some (low, high) else none
theorem sketch_CountEqual.mono : ∀ a0 a1 a2 a3 a4 a5 a6 a7 a8 a9 k, LeO (sketch_CountEqual.f k a0 a1 a2 a3 a4 a5 a6 a7 a8 a9) (sketch_CountEqual.f (k + 1) a0 a1 a2 a3 a4 a5 a6 a7 a8 a9) := by
 intro a0 a1 a2 a3 a4 a5 a6 a7 a8 a9 k
 unfold sketch_CountEqual.f
 refine LeO.ite (LeO.refl _) (LeO.bind (value_Hash.mono _ _ _) (fun _ => LeO.bind (slices_BinarySearch_uint64_uint64.mono _ _ _) (fun _ => LeO.ite (LeO.refl _) (LeO.bind (sketch_upper.mono _ _ _ _ _ _ _ _ _ _ _ _) (fun _ => LeO.bind (sketch_lower.mono _ _ _ _ _ _ _ _ _ _ _ _) (fun _ => LeO.ite (LeO.bind (LeO.refl _) (fun _ => LeO.bind (minsS.mono _ _ _ _ _ _) (fun _ => LeO.refl _))) (LeO.none _)))))))
end Go.Proofs.Ytackcingpffidaa.P
namespace Go.Proofs.Ytackcingpffidaa.P
open Go.RowKit Go.Proofs.YtackcingpffidaaW.PrintWords Go.Proofs.YtackcingpffidaaW.PrintLast Go.Proofs.YtackcingpffidaaW.PrintMore
set_option linter.unusedVariables false
set_option linter.unusedSimpArgs false
def f72_T5 : Bool × List (List Nat × List Nat) := (true, [([], []), ([], []), ([], []), ([1, 2], [1, 2]), ([3], [3]), ([], []), ([0, 4, 5], [0, 4, 5]), ([6], [6])])
def f72_B5 : List Nat := [0, 0, 0, 6, 14, 0, 63, 127]
set_option maxRecDepth 100000 in
theorem f72_tab5 : rtab .any (opsOf Try.f72 5) = f72_T5 := by kernel_rfl
theorem f72_bits5 : waitsOk f72_T5.2 f72_B5 = true := by kernel_rfl
def f72_T8 : Bool × List (List Nat × List Nat) := (true, [([], []), ([], []), ([], []), ([1, 2], [1, 2]), ([3], [3]), ([4], [4]), ([4], [4]), ([4], [4]), ([6, 7, 4], [4, 6, 7]), ([8, 4], [4, 8]), ([4], [4]), ([5, 9, 10, 4, 4], [4, 5, 9, 10]), ([11, 4], [4, 11]), ([4, 12], [4, 12]), ([0, 11, 0], [0]), ([13, 14, 0, 1, 2, 3, 4, 5, 6, 7, 8, 9, 10, 11, 12, 13, 14], [13])])
def f72_B8 : List Nat := [0, 0, 0, 6, 14, 30, 30, 30, 222, 478, 30, 2046, 4094, 8190, 4095, 32767]
set_option maxRecDepth 100000 in
theorem f72_tab8 : rtab .any (opsOf Try.f72 8) = f72_T8 := by kernel_rfl
theorem f72_bits8 : waitsOk f72_T8.2 f72_B8 = true := by kernel_rfl
set_option maxHeartbeats 4000000 in
set_option maxRecDepth 100000 in
theorem f72_calls (A : Option Addr) (c : Nat) (l : List S39) (s : S39) (w : World) (hr : Kd.C k39 w A l.length l) (hc : l.length ≤ c) (hlen : l.length ≤ 1000) (p : Nat) (hp : p ≤ l.length) (hlt : ∀ i : Nat, i < l.length → (i < p ↔ cV (rd_T39 l i) s < 0)) :
  Calls Try.prog 72 #[.slice A l.length c, .agg #[.int .i64 s.f0, .int .i64 s.f1, .string s.f2], .func (.func 53) #[] #[]] w fun e w' => e = .returned (.tuple #[.int .i64 p, .bool (decide (p < l.length) && cV (rd_T39 l p) s == 0)]) ∧ Below w.heap.size w w' := by
 have HR := Aside0.mk hr
 have HLT := Aside0.mk hlt
 clear hr hlt
 go_enter Try.func72, Try.ntmps72
 go_wp2_with ((with_reducible refine gate_dst (N := 4) rfl ?_); refine box_ 4 (cs := #[.int .i64 s.f0, .int .i64 s.f1, .string s.f2]) (t := 39) ?_; intro gb hg_ w1 hbox hb; have BK := Aside0.mk hbox; have HB := Aside0.mk hb; have hgb : w.heap.size ≤ gb := Nat.le_of_eq hg_.symm; clear hb hbox hg_)
 go_loopg [9, 10] l.length (fun kq v9 v10 w' => ∃ i j : Nat, v9 = .int .i64 i ∧ v10 = .int .i64 j ∧ i ≤ p ∧ p ≤ j ∧ j ≤ l.length ∧ Aside0 (j ≤ kq + i) ∧ Aside0 (w'.heap[gb]? = some (.cells #[.int .i64 s.f0, .int .i64 s.f1, .string s.f2] 39 (0, 0))) ∧ Aside0 (Below w.heap.size w w'))
 case atStart => exact ⟨0, l.length, rfl, rfl, Nat.zero_le _, hp, Nat.le_refl _, ⟨by omega⟩, BK, HB⟩
 case round =>
  clear BK HB
  obtain ⟨i, j, rfl, rfl, h1, h2, h3, HM, BK, HB⟩ := hrel
  by_cases hij : i < j
  ·cases gk with
   | zero => exact absurd HM.out (by omega)
   | succ k1 =>
    have hm0 : (0 : Int) ≤ ((i : Int) + j) / 2 := by omega
    have hm1 : ((i : Int) + j) / 2 < l.length := by omega
    obtain ⟨ad, rfl, hx0, hx1, hx2⟩ := at_T39 HR.out (((i : Int) + j) / 2) hm0 hm1
    obtain ⟨x, hxx⟩ : ∃ x, rd_T39 l (((i : Int) + j) / 2) = x := ⟨_, rfl⟩
    have hz := HLT.out (((i : Int) + j) / 2).toNat (by omega)
    rw [Int.toNat_of_nonneg hm0, hxx] at hz
    rw [hxx] at hx0 hx1 hx2
    obtain ⟨cc, hcc⟩ : ∃ c, cV x s = c := ⟨_, rfl⟩
    rw [hcc] at hz
    have HCC := Aside0.mk hcc
    clear hxx hcc
    by_cases hcm : cc < 0
    ·have hd : decide (cc < 0) = true := decide_eq_true hcm
     have hz := hz.2 hcm
     have HS : Aside0 (∀ W, Below w.heap.size w W → W.heap[gb]? = some (.cells #[.int .i64 s.f0, .int .i64 s.f1, .string s.f2] 39 (0, 0)) → (W.cell? (ad.add ((((i : Int) + j) / 2).toNat * 3)) = some (.int .i64 x.f0) ∧ W.cell? ⟨(ad.add ((((i : Int) + j) / 2).toNat * 3)).block, (ad.add ((((i : Int) + j) / 2).toNat * 3)).off + 1, none⟩ = some (.int .i64 x.f1) ∧ W.cell? ⟨(ad.add ((((i : Int) + j) / 2).toNat * 3)).block, (ad.add ((((i : Int) + j) / 2).toNat * 3)).off + 2, none⟩ = some (.string x.f2) ∧ W.cell? ⟨gb, 0, none⟩ = some (.int .i64 s.f0) ∧ W.cell? ⟨gb, 1, none⟩ = some (.int .i64 s.f1) ∧ W.cell? ⟨gb, 2, none⟩ = some (.string s.f2))) := ⟨fun W hB_ hG_ => ⟨(hB_.cell (World.block_lt_of_cell? w _ hx0)).trans hx0, (hB_.cell (World.block_lt_of_cell? w _ hx1)).trans hx1, (hB_.cell (World.block_lt_of_cell? w _ hx2)).trans hx2, (blk_cell hG_ 0).trans rfl, (blk_cell hG_ 1).trans rfl, (blk_cell hG_ 2).trans rfl⟩⟩
     clear hx0 hx1 hx2
     have HBd := Aside0.mk (below_drew1 HB.out)
     have BKd := Aside0.mk (blk_drew BK.out)
     go_upto_region 5 with (fail)
     refine start_ (n := 8) (S := fun w' => w'.cell? (ad.add ((((i : Int) + j) / 2).toNat * 3)) = some (.int .i64 x.f0) ∧ w'.cell? ⟨(ad.add ((((i : Int) + j) / 2).toNat * 3)).block, (ad.add ((((i : Int) + j) / 2).toNat * 3)).off + 1, none⟩ = some (.int .i64 x.f1) ∧ w'.cell? ⟨(ad.add ((((i : Int) + j) / 2).toNat * 3)).block, (ad.add ((((i : Int) + j) / 2).toNat * 3)).off + 2, none⟩ = some (.string x.f2) ∧ w'.cell? ⟨gb, 0, none⟩ = some (.int .i64 s.f0) ∧ w'.cell? ⟨gb, 1, none⟩ = some (.int .i64 s.f1) ∧ w'.cell? ⟨gb, 2, none⟩ = some (.string s.f2)) (ds := []) #[false, false, false, false, false, false, false, false] (by kernel_rfl) rfl rfl (HS.out _ HBd.out BKd.out) (fun hHeld => ?_)
     refine with_tabW f72_tab5 f72_bits5 (fun HT_ HW_ => ?_)
     generalize wr.drew = wd at HBd BKd hHeld ⊢
     refine pu_ HT_ 0 (some 24) ?_
     refine pu_ HT_ 1 (some 25) ?_
     refine pu_ HT_ 2 (some 26) ?_
     refine tk_ HT_ HW_ 3 (some 27) hHeld ?_
     refine tk_ HT_ HW_ 4 (some 28) hHeld ?_
     refine tk_ HT_ HW_ 5 (some 29) hHeld ?_
     refine on_ HT_ 6 (some 30) (fun K hK => ?_)
     refine call_ 53 #[.agg #[.int .i64 x.f0, .int .i64 x.f1, .string x.f2], .agg #[.int .i64 s.f0, .int .i64 s.f1, .string s.f2]] (by kernel_rfl) rfl (by go_simp; first | done | rfl) ?_
     refine (cV_calls x s cc HCC.out _).mono ?_
     rintro e w2 ⟨rfl, hb⟩
     refine ⟨_, rfl, ?_⟩
     have HB2 := Aside0.mk (HBd.out.trans (hb.mono (below_size HBd.out)))
     have BK2 := Aside0.mk (blk_below BKd.out hb)
     clear hb
     refine hK.out _ _ (HS.out _ HB2.out BK2.out) (fun hHeld => ?_)
     clear hK K
     refine nm_ (some 30) ?_
     refine pu_ HT_ 7 (some 31) ?_
     refine done_ (done_of HT_.out (by kernel_rfl)) ?_
     clear HT_ HW_ hHeld
     go_wp2
     go_roundg k1
     case measure => omega
     case rel => exact ⟨(((i : Int) + j) / 2).toNat + 1, j, int_eq (by omega), rfl, by omega, h2, h3, ⟨by have := HM.out; omega⟩, BK2, HB2⟩
    ·have hd : decide (cc < 0) = false := decide_eq_false hcm
     have hz : ¬ (((i : Int) + j) / 2).toNat < p := fun h => hcm (hz.1 h)
     have HS : Aside0 (∀ W, Below w.heap.size w W → W.heap[gb]? = some (.cells #[.int .i64 s.f0, .int .i64 s.f1, .string s.f2] 39 (0, 0)) → (W.cell? (ad.add ((((i : Int) + j) / 2).toNat * 3)) = some (.int .i64 x.f0) ∧ W.cell? ⟨(ad.add ((((i : Int) + j) / 2).toNat * 3)).block, (ad.add ((((i : Int) + j) / 2).toNat * 3)).off + 1, none⟩ = some (.int .i64 x.f1) ∧ W.cell? ⟨(ad.add ((((i : Int) + j) / 2).toNat * 3)).block, (ad.add ((((i : Int) + j) / 2).toNat * 3)).off + 2, none⟩ = some (.string x.f2) ∧ W.cell? ⟨gb, 0, none⟩ = some (.int .i64 s.f0) ∧ W.cell? ⟨gb, 1, none⟩ = some (.int .i64 s.f1) ∧ W.cell? ⟨gb, 2, none⟩ = some (.string s.f2))) := ⟨fun W hB_ hG_ => ⟨(hB_.cell (World.block_lt_of_cell? w _ hx0)).trans hx0, (hB_.cell (World.block_lt_of_cell? w _ hx1)).trans hx1, (hB_.cell (World.block_lt_of_cell? w _ hx2)).trans hx2, (blk_cell hG_ 0).trans rfl, (blk_cell hG_ 1).trans rfl, (blk_cell hG_ 2).trans rfl⟩⟩
     clear hx0 hx1 hx2
     have HBd := Aside0.mk (below_drew1 HB.out)
     have BKd := Aside0.mk (blk_drew BK.out)
     go_upto_region 5 with (fail)
     refine start_ (n := 8) (S := fun w' => w'.cell? (ad.add ((((i : Int) + j) / 2).toNat * 3)) = some (.int .i64 x.f0) ∧ w'.cell? ⟨(ad.add ((((i : Int) + j) / 2).toNat * 3)).block, (ad.add ((((i : Int) + j) / 2).toNat * 3)).off + 1, none⟩ = some (.int .i64 x.f1) ∧ w'.cell? ⟨(ad.add ((((i : Int) + j) / 2).toNat * 3)).block, (ad.add ((((i : Int) + j) / 2).toNat * 3)).off + 2, none⟩ = some (.string x.f2) ∧ w'.cell? ⟨gb, 0, none⟩ = some (.int .i64 s.f0) ∧ w'.cell? ⟨gb, 1, none⟩ = some (.int .i64 s.f1) ∧ w'.cell? ⟨gb, 2, none⟩ = some (.string s.f2)) (ds := []) #[false, false, false, false, false, false, false, false] (by kernel_rfl) rfl rfl (HS.out _ HBd.out BKd.out) (fun hHeld => ?_)
     refine with_tabW f72_tab5 f72_bits5 (fun HT_ HW_ => ?_)
     generalize wr.drew = wd at HBd BKd hHeld ⊢
     refine pu_ HT_ 0 (some 24) ?_
     refine pu_ HT_ 1 (some 25) ?_
     refine pu_ HT_ 2 (some 26) ?_
     refine tk_ HT_ HW_ 3 (some 27) hHeld ?_
     refine tk_ HT_ HW_ 4 (some 28) hHeld ?_
     refine tk_ HT_ HW_ 5 (some 29) hHeld ?_
     refine on_ HT_ 6 (some 30) (fun K hK => ?_)
     refine call_ 53 #[.agg #[.int .i64 x.f0, .int .i64 x.f1, .string x.f2], .agg #[.int .i64 s.f0, .int .i64 s.f1, .string s.f2]] (by kernel_rfl) rfl (by go_simp; first | done | rfl) ?_
     refine (cV_calls x s cc HCC.out _).mono ?_
     rintro e w2 ⟨rfl, hb⟩
     refine ⟨_, rfl, ?_⟩
     have HB2 := Aside0.mk (HBd.out.trans (hb.mono (below_size HBd.out)))
     have BK2 := Aside0.mk (blk_below BKd.out hb)
     clear hb
     refine hK.out _ _ (HS.out _ HB2.out BK2.out) (fun hHeld => ?_)
     clear hK K
     refine nm_ (some 30) ?_
     refine pu_ HT_ 7 (some 31) ?_
     refine done_ (done_of HT_.out (by kernel_rfl)) ?_
     clear HT_ HW_ hHeld
     go_wp2
     go_roundg k1
     case measure => omega
     case rel => exact ⟨i, (((i : Int) + j) / 2).toNat, rfl, int_eq (by omega), h1, by omega, by omega, ⟨by have := HM.out; omega⟩, BK2, HB2⟩
  ·obtain rfl : i = p := by omega
   by_cases hpl : i < l.length
   ·obtain ⟨ad, rfl, hx0, hx1, hx2⟩ := at_T39 HR.out (i : Int) (by omega) (by omega)
    rw [Int.toNat_natCast] at hx0 hx1 hx2
    obtain ⟨x, hxx⟩ : ∃ x, rd_T39 l (i : Int) = x := ⟨_, rfl⟩
    rw [hxx] at hx0 hx1 hx2
    obtain ⟨cc, hcc⟩ : ∃ c, cV x s = c := ⟨_, rfl⟩
    have HXX := Aside0.mk hxx
    have hil : i < l.length := hpl
    have HCC := Aside0.mk hcc
    clear hxx hcc
    have HS : Aside0 (∀ W, Below w.heap.size w W → W.heap[gb]? = some (.cells #[.int .i64 s.f0, .int .i64 s.f1, .string s.f2] 39 (0, 0)) → (W.cell? (ad.add (i * 3)) = some (.int .i64 x.f0) ∧ W.cell? ⟨(ad.add (i * 3)).block, (ad.add (i * 3)).off + 1, none⟩ = some (.int .i64 x.f1) ∧ W.cell? ⟨(ad.add (i * 3)).block, (ad.add (i * 3)).off + 2, none⟩ = some (.string x.f2) ∧ W.cell? ⟨gb, 0, none⟩ = some (.int .i64 s.f0) ∧ W.cell? ⟨gb, 1, none⟩ = some (.int .i64 s.f1) ∧ W.cell? ⟨gb, 2, none⟩ = some (.string s.f2))) := ⟨fun W hB_ hG_ => ⟨(hB_.cell (World.block_lt_of_cell? w _ hx0)).trans hx0, (hB_.cell (World.block_lt_of_cell? w _ hx1)).trans hx1, (hB_.cell (World.block_lt_of_cell? w _ hx2)).trans hx2, (blk_cell hG_ 0).trans rfl, (blk_cell hG_ 1).trans rfl, (blk_cell hG_ 2).trans rfl⟩⟩
    clear hx0 hx1 hx2
    have HBd := Aside0.mk (below_drew1 HB.out)
    have BKd := Aside0.mk (blk_drew BK.out)
    go_upto_region 8 with (fail)
    refine start_ (n := 16) (S := fun w' => w'.cell? (ad.add (i * 3)) = some (.int .i64 x.f0) ∧ w'.cell? ⟨(ad.add (i * 3)).block, (ad.add (i * 3)).off + 1, none⟩ = some (.int .i64 x.f1) ∧ w'.cell? ⟨(ad.add (i * 3)).block, (ad.add (i * 3)).off + 2, none⟩ = some (.string x.f2) ∧ w'.cell? ⟨gb, 0, none⟩ = some (.int .i64 s.f0) ∧ w'.cell? ⟨gb, 1, none⟩ = some (.int .i64 s.f1) ∧ w'.cell? ⟨gb, 2, none⟩ = some (.string s.f2)) (ds := []) #[false, false, false, false, false, false, false, false, false, false, false, false, false, false, false, false] (by kernel_rfl) rfl rfl (HS.out _ HBd.out BKd.out) (fun hHeld => ?_)
    refine with_tabW f72_tab8 f72_bits8 (fun HT_ HW_ => ?_)
    generalize wr.drew = wd at HBd BKd hHeld ⊢
    refine pu_ HT_ 0 (some 35) ?_
    refine pu_ HT_ 1 (some 36) ?_
    refine pu_ HT_ 2 (some 37) ?_
    refine pu_ HT_ 3 (some 38) ?_
    refine pu_ HT_ 4 (some 39) ?_
    refine pu_ HT_ 5 (some 40) ?_
    refine pu_ HT_ 6 (some 41) ?_
    refine pu_ HT_ 7 (some 42) ?_
    refine tk_ HT_ HW_ 8 (some 43) hHeld ?_
    refine tk_ HT_ HW_ 9 (some 44) hHeld ?_
    refine tk_ HT_ HW_ 10 (some 45) hHeld ?_
    refine on_ HT_ 11 (some 46) (fun K hK => ?_)
    refine call_ 53 #[.agg #[.int .i64 x.f0, .int .i64 x.f1, .string x.f2], .agg #[.int .i64 s.f0, .int .i64 s.f1, .string s.f2]] (by kernel_rfl) rfl (by go_simp; first | done | rfl) ?_
    refine (cV_calls x s cc HCC.out _).mono ?_
    rintro e w2 ⟨rfl, hb⟩
    refine ⟨_, rfl, ?_⟩
    have HB2 := Aside0.mk (HBd.out.trans (hb.mono (below_size HBd.out)))
    have BK2 := Aside0.mk (blk_below BKd.out hb)
    clear hb
    refine hK.out _ _ (HS.out _ HB2.out BK2.out) (fun hHeld => ?_)
    clear hK K
    refine nm_ (some 46) ?_
    refine pu_ HT_ 12 (some 47) ?_
    refine pu_ HT_ 13 (some 48) ?_
    refine pu_ HT_ 14 (some 6) ?_
    refine pu_ HT_ 15 (some 7) ?_
    refine done_ (done_of HT_.out (by kernel_rfl)) ?_
    clear HT_ HW_ hHeld
    go_wp2
    go_ret2
    exact ⟨by rw [HXX.out, HCC.out]; simp [hpl], HB2.out⟩
   ·have hil : ¬ i < l.length := hpl
    have HBd := Aside0.mk (below_drew1 HB.out)
    go_upto_region 8 with (fail)
    refine start_ (n := 16) (S := fun w' => True) (ds := []) #[false, false, false, false, false, false, false, false, false, false, false, false, false, false, false, false] (by kernel_rfl) rfl rfl trivial (fun hHeld => ?_)
    refine with_tabW f72_tab8 f72_bits8 (fun HT_ HW_ => ?_)
    generalize wr.drew = wd at HBd hHeld ⊢
    refine pu_ HT_ 0 (some 35) ?_
    refine pu_ HT_ 1 (some 36) ?_
    refine pu_ HT_ 2 (some 37) ?_
    refine pu_ HT_ 3 (some 38) ?_
    refine pu_ HT_ 4 (some 39) ?_
    refine sk_ HT_ 5 (some 40) ?_
    refine sk_ HT_ 6 (some 41) ?_
    refine sk_ HT_ 7 (some 42) ?_
    refine sk_ HT_ 8 (some 43) ?_
    refine sk_ HT_ 9 (some 44) ?_
    refine sk_ HT_ 10 (some 45) ?_
    refine sk_ HT_ 11 (some 46) ?_
    refine sk_ HT_ 12 (some 47) ?_
    refine pu_ HT_ 13 (some 48) ?_
    refine pu_ HT_ 14 (some 6) ?_
    refine pu_ HT_ 15 (some 7) ?_
    refine done_ (done_of HT_.out (by kernel_rfl)) ?_
    clear HT_ HW_ hHeld
    go_wp2
    go_ret2
    exact ⟨by simp [hpl], HBd.out⟩
end Go.Proofs.Ytackcingpffidaa.P
