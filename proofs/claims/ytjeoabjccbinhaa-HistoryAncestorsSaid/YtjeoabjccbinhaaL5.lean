/- The law HistoryAncestors returns true for every list of entries that is read: for the row. Conditions: the hypotheses that stand at each theorem. -/
import Derived.Test.YtjeoabjccbinhaaR4
import Derived.Test.YtjeoabjccbinhaaB0
namespace Go.Proofs.Ytjeoabjccbinhaa.P
open Go.RowKit Go.Proofs.YtjeoabjccbinhaaW.PrintWords Go.Proofs.YtjeoabjccbinhaaW.PrintLast Go.Proofs.YtjeoabjccbinhaaW.PrintMore
set_option linter.unusedVariables false
set_option linter.unusedSimpArgs false
theorem f18_E (A0 : Option Addr) (c0 : Nat) (A1 : Option Addr) (c1 : Nat) (A2 : Option Addr) (c2 : Nat) (h : S27) (a id : Int) (r : Bool) (he : (ancS h.f0 id).contains a = r) (hid : (Lit.int .i64 id).wf = true) (hwf : WfI h.f0) (hn0 : h.f0.length ≤ 1000) (w : World) (ok : Nat → Prop) (hF0 : Kd.F k41 w ok A0 h.f0.length h.f0) :
    Calls Try.prog 18 #[.agg #[.slice A0 h.f0.length c0, .slice A1 h.f1.length c1, .slice A2 h.f2.length c2, .int .i64 h.f3], .int .i64 a, .int .i64 id] w fun e w' => e = .returned (.bool r) ∧ Below w.heap.size w w' := by
  subst he
  exact f18_calls A0 c0 h.f0 A1 c1 h.f1 A2 c2 h.f2 h.f3 a id hid hwf hn0 w ok hF0
theorem f19_E (A0 : Option Addr) (c0 : Nat) (A1 : Option Addr) (c1 : Nat) (A2 : Option Addr) (c2 : Nat) (h : S27) (a b x : Int) (r : Bool) (he : mbS h.f0 a b = (x, r)) (ha : (Lit.int .i64 a).wf = true) (hb : (Lit.int .i64 b).wf = true) (hwf : WfI h.f0) (hn0 : h.f0.length ≤ 1000) (w : World) (ok : Nat → Prop) (hF0 : Kd.F k41 w ok A0 h.f0.length h.f0) :
    Calls Try.prog 19 #[.agg #[.slice A0 h.f0.length c0, .slice A1 h.f1.length c1, .slice A2 h.f2.length c2, .int .i64 h.f3], .int .i64 a, .int .i64 b] w fun e w' => e = .returned (.tuple #[.int .i64 x, .bool r]) ∧ Below w.heap.size w w' := by
  have := f19_calls A0 c0 h.f0 A1 c1 h.f1 A2 c2 h.f2 h.f3 a b ha hb hwf hn0 w ok hF0
  rw [he] at this
  exact this
theorem good_built (l : List S32) (hG : ∀ x ∈ l, G32 x) : ∀ i, i ≤ l.length → GoodH (builtS (l.take i))
  | 0, _ => fun c hc => absurd hc (by simp [builtS, eS27])
  | i + 1, h => by
    have ih := good_built l hG i (by omega)
    rw [builtS_snoc l i (by omega)]
    by_cases h0 : (applyE (builtS (l.take i)) l[i]).2 = 0
    · rw [if_pos h0]; exact good_apply (builtS_okN l i (by omega)) ih (hG _ (List.getElem_mem _))
    · rw [if_neg h0]; exact ih
theorem chain_head {l : List S41} {id : Int} {xs : List Int} (hc : Chain l id xs) (hh : hasI l id = true) (hi : (nodeI l id).f0 = id) : ∃ ys, xs = id :: ys := by
  cases hc with
  | stop h_ => rw [hh] at h_; cases h_
  | step _ _ => exact ⟨_, by rw [hi]⟩
theorem rd_dec {xs : List Int} (hp : xs.Pairwise (fun x y => y < x)) (n : Nat) (h0 : 0 < n) (h1 : n < xs.length) : rd xs (n : Int) < rd xs ((n : Int) - 1) := by
  have e1 : ((n : Int) - 1).toNat = n - 1 := by omega
  unfold rd
  rw [e1, Int.toNat_natCast, List.getD_eq_getElem?_getD, List.getD_eq_getElem?_getD, List.getElem?_eq_getElem h1, List.getElem?_eq_getElem (show n - 1 < xs.length by omega)]
  exact (List.pairwise_iff_getElem.1 hp) (n - 1) n (by omega) h1 (by omega)
theorem rd_mem {xs : List Int} (n : Nat) (h1 : n < xs.length) : rd xs (n : Int) ∈ xs := by
  unfold rd
  rw [Int.toNat_natCast, List.getD_eq_getElem?_getD, List.getElem?_eq_getElem h1]
  exact List.getElem_mem h1
/-- Whether one of the first n commits is an ancestor of both. -/
def fndB (l : List S41) (a b : Int) (n : Nat) : Bool := (List.range n).any fun p => (ancS l a).contains (rd_T41 l p).f0 && (ancS l b).contains (rd_T41 l p).f0
theorem fndB_succ (l : List S41) (a b : Int) (n : Nat) (x : Int) (hx : (rd_T41 l n).f0 = x) : fndB l a b (n + 1) = (fndB l a b n || ((ancS l a).contains x && (ancS l b).contains x)) := by
  unfold fndB
  rw [List.range_succ, List.any_append, ← hx]
  simp
theorem fndB_mb {l : List S41} (ho : okI l) {a b x : Int} {r : Bool} (h : mbS l a b = (x, r)) : fndB l a b l.length = r := by
  cases r with
  | true =>
    obtain ⟨h1, h2, _⟩ := mb_some ho h
    obtain ⟨p, hp, e⟩ := anc_ids l l.length _ x h1
    refine List.any_eq_true.2 ⟨p, List.mem_range.2 hp, ?_⟩
    rw [e]
    simp [h1, h2]
  | false =>
    refine List.any_eq_false.2 fun p hp => ?_
    have := mb_none h (rd_T41 l p).f0
    simp only [Bool.and_eq_true, List.contains_iff_mem, not_and]
    exact fun h1 h2 => this h2 h1

def f5_T13 : Bool × List (List Nat × List Nat) := (true, [([], []), ([0], [0]), ([1], [1]), ([2], [2]), ([2], [2]), ([3, 4, 2], [2, 3, 4]), ([5, 2], [2, 5]), ([2], [2]), ([2], [2]), ([8, 2], [2, 8]), ([7, 9, 2], [2, 7, 9]), ([10, 2], [2, 10]), ([6, 11, 2], [2, 6, 11]), ([2, 12], [2, 12]), ([13, 2], [13]), ([14], [14]), ([14], [14]), ([14], [14]), ([16, 17, 14], [14, 16, 17]), ([18, 14], [14, 18]), ([14], [14]), ([15, 19, 20, 14, 14], [14, 15, 19, 20]), ([21, 14], [14, 21]), ([14, 22], [14, 22])])
def f5_B13 : List Nat := [0, 1, 3, 7, 7, 31, 63, 7, 7, 263, 903, 1927, 4095, 8191, 16383, 32767, 32767, 32767, 229375, 491519, 32767, 2097151, 4194303, 8388607]
set_option maxRecDepth 100000 in
theorem f5_tab13 : rtab .any (opsOf Try.f5 13) = f5_T13 := by kernel_rfl
theorem f5_bits13 : waitsOk f5_T13.2 f5_B13 = true := by kernel_rfl
set_option maxHeartbeats 8000000 in
set_option maxRecDepth 100000 in
theorem f5_calls (A : Option Addr) (c : Nat) (l : List S32) (i k : Int) (w : World) (hr : Kd.C k32 w A l.length l) (hc : l.length ≤ c) (hn : l.length ≤ 9223372036854775807) (hG : ∀ x ∈ l, G32 x) :
    Calls Try.prog 5 #[.slice A l.length c, .int .i64 i, .int .i64 k] w fun e w' => e = .returned (.bool true) ∧ Below w.heap.size w w' := by
  have HR := Aside0.mk hr
  have H9 := Aside0.mk f9_calls
  have HB0 : Aside0 (Below w.heap.size w w) := ⟨Below.refl _ _⟩
  clear hr
  by_cases h200 : 200 < l.length
  · have hd : decide (200 < (l.length : Int)) = true := decide_eq_true (by omega)
    go_enter Try.func5, Try.ntmps5
    go_wp2_with (go_at_call 9; refine (H9.out _).mono ?_; rintro e w1 ⟨rfl, hb⟩)
    go_ret
    exact ⟨rfl, hb⟩
  have hd : decide (200 < (l.length : Int)) = false := decide_eq_false (by omega)
  have hl2 : l.length ≤ 200 := by omega
  have hok := builtS_okN l l.length (Nat.le_refl _)
  have hgd := good_built l hG l.length (Nat.le_refl _)
  rw [List.take_length] at hok hgd
  have H15 := Aside0.mk (f15_calls A c l w HR.out hc (by omega))
  obtain ⟨h, hh⟩ : ∃ h, builtS l = h := ⟨_, rfl⟩
  rw [hh] at hok hgd H15
  have hh0 : h.f0.length ≤ 200 := Nat.le_trans hok.n0 hl2
  have HN := Aside0.mk hok
  have HGD := Aside0.mk hgd
  clear h200 hn hok hh hgd hG
  by_cases q1 : i < 0
  · have d1 : decide (i < 0) = true := decide_eq_true q1
    clear q1
    go_enter Try.func5, Try.ntmps5
    go_wp2_with (first
      | (go_at_call 15; refine H15.out.mono ?_; rintro e w1 ⟨v0, v1, v2, rfl, hw, hb⟩; obtain ⟨A0, c0, A1, c1, A2, c2, rfl, rfl, rfl, hV, hF⟩ := HW.open hw; have HV1 := Aside0.mk hV; have HF1 := Aside0.mk hF; have HB1 := Aside0.mk hb; have hz1 := hb.size; clear hb hw hV hF)
      | (go_at_call 9; refine (H9.out _).mono ?_; rintro e w5 ⟨rfl, hb⟩; have HB5 := Aside0.mk ((HB1.out.alloc (by omega) _).trans (hb.mono (by simp; omega))); clear hb))
    go_ret
    exact ⟨rfl, HB5.out⟩
  have d1 : decide (i < 0) = false := decide_eq_false q1
  by_cases q2 : k < 0
  · have d2 : decide (k < 0) = true := decide_eq_true q2
    clear q1 q2
    go_enter Try.func5, Try.ntmps5
    go_wp2_with (first
      | (go_at_call 15; refine H15.out.mono ?_; rintro e w1 ⟨v0, v1, v2, rfl, hw, hb⟩; obtain ⟨A0, c0, A1, c1, A2, c2, rfl, rfl, rfl, hV, hF⟩ := HW.open hw; have HV1 := Aside0.mk hV; have HF1 := Aside0.mk hF; have HB1 := Aside0.mk hb; have hz1 := hb.size; clear hb hw hV hF)
      | (go_at_call 9; refine (H9.out _).mono ?_; rintro e w5 ⟨rfl, hb⟩; have HB5 := Aside0.mk ((HB1.out.alloc (by omega) _).trans (hb.mono (by simp; omega))); clear hb))
    go_ret
    exact ⟨rfl, HB5.out⟩
  have d2 : decide (k < 0) = false := decide_eq_false q2
  by_cases q3 : (h.f0.length : Int) ≤ i
  · have d3 : decide ((h.f0.length : Int) ≤ i) = true := decide_eq_true q3
    clear q1 q2 q3
    go_enter Try.func5, Try.ntmps5
    go_wp2_with (first
      | (go_at_call 15; refine H15.out.mono ?_; rintro e w1 ⟨v0, v1, v2, rfl, hw, hb⟩; obtain ⟨A0, c0, A1, c1, A2, c2, rfl, rfl, rfl, hV, hF⟩ := HW.open hw; have HV1 := Aside0.mk hV; have HF1 := Aside0.mk hF; have HB1 := Aside0.mk hb; have hz1 := hb.size; clear hb hw hV hF)
      | (go_at_call 9; refine (H9.out _).mono ?_; rintro e w5 ⟨rfl, hb⟩; have HB5 := Aside0.mk ((HB1.out.alloc (by omega) _).trans (hb.mono (by simp; omega))); clear hb))
    go_ret
    exact ⟨rfl, HB5.out⟩
  have d3 : decide ((h.f0.length : Int) ≤ i) = false := decide_eq_false q3
  by_cases q4 : (h.f0.length : Int) ≤ k
  · have d4 : decide ((h.f0.length : Int) ≤ k) = true := decide_eq_true q4
    clear q1 q2 q3 q4
    go_enter Try.func5, Try.ntmps5
    go_wp2_with (first
      | (go_at_call 15; refine H15.out.mono ?_; rintro e w1 ⟨v0, v1, v2, rfl, hw, hb⟩; obtain ⟨A0, c0, A1, c1, A2, c2, rfl, rfl, rfl, hV, hF⟩ := HW.open hw; have HV1 := Aside0.mk hV; have HF1 := Aside0.mk hF; have HB1 := Aside0.mk hb; have hz1 := hb.size; clear hb hw hV hF)
      | (go_at_call 9; refine (H9.out _).mono ?_; rintro e w5 ⟨rfl, hb⟩; have HB5 := Aside0.mk ((HB1.out.alloc (by omega) _).trans (hb.mono (by simp; omega))); clear hb))
    go_ret
    exact ⟨rfl, HB5.out⟩
  have d4 : decide ((h.f0.length : Int) ≤ k) = false := decide_eq_false q4
  obtain ⟨i, rfl⟩ := Int.eq_ofNat_of_zero_le (show 0 ≤ i by omega)
  obtain ⟨k, rfl⟩ := Int.eq_ofNat_of_zero_le (show 0 ≤ k by omega)
  have hi : i < h.f0.length := by omega
  have hk : k < h.f0.length := by omega
  clear q1 q2 q3 q4
  have hma := hasI_mem HN.out.o0 (List.getElem_mem hi)
  have hwa := (HGD.out _ (List.getElem_mem hi)).1
  have hwb := (HGD.out _ (List.getElem_mem hk)).1
  have hra := anc_refl (l := h.f0) hi
  have hrb := anc_refl (l := h.f0) hk
  rw [← rd41_get h.f0 i hi] at hma hwa
  rw [← rd41_get h.f0 k hk] at hwb
  obtain ⟨a, ha⟩ : ∃ a, (rd_T41 h.f0 (i : Int)).f0 = a := ⟨_, rfl⟩
  obtain ⟨b, hb_⟩ : ∃ b, (rd_T41 h.f0 (k : Int)).f0 = b := ⟨_, rfl⟩
  rw [ha] at hma hwa hra
  rw [hb_] at hwb hrb
  have hna : (nodeI h.f0 a).f0 = a := by rw [hma.2, ha]
  obtain ⟨xs, hch, hlen⟩ := chain_of HN.out.o0 HGD.out a
  obtain ⟨ys, hys⟩ := chain_head hch hma.1 hna
  have hx0 : 0 < xs.length := by rw [hys]; simp
  have hx1 : rd xs 0 = a := by rw [hys]; rfl
  have hca := chain_anc HN.out.o0 HGD.out hch (fun _ => hra)
  have hlx : xs.length ≤ 1000 := by omega
  obtain ⟨⟨bs, okb⟩, hmb⟩ : ∃ z, mbS h.f0 a b = z := ⟨_, rfl⟩
  have HMB := Aside0.mk hmb
  have HCH := Aside0.mk hch
  have HCA := Aside0.mk hca
  have HWA := Aside0.mk hwa
  have HWB := Aside0.mk hwb
  have HRA := Aside0.mk hra
  have HRB := Aside0.mk hrb
  have HWF := Aside0.mk (good_wf HGD.out)
  have hhN : h.f0.length ≤ 1000 := by omega
  clear hmb hch hca hwa hwb hra hrb hys ys hma hna
  go_enter Try.func5, Try.ntmps5
  go_wp2_with (go_at_call 15; refine H15.out.mono ?_; rintro e w1 ⟨v0, v1, v2, rfl, hw, hb⟩; obtain ⟨A0, c0, A1, c1, A2, c2, rfl, rfl, rfl, hV, hF⟩ := HW.open hw; have HV1 := Aside0.mk hV; have HF1 := Aside0.mk hF; have HB1 := Aside0.mk hb; have hz1 := hb.size; clear hb hw hV hF)
  obtain ⟨ad, rfl, hx, -, -, -⟩ := at_T41 (HV1.out.below (below_alloc (Below.refl _ _) (.cells #[.slice A0 h.f0.length c0, .slice A1 h.f1.length c1, .slice A2 h.f2.length c2, .int .i64 h.f3] 27))).r0 (i : Int) (by omega) (by omega)
  obtain ⟨ad2, e2, hy, -, -, -⟩ := at_T41 (HV1.out.below (below_alloc (Below.refl _ _) (.cells #[.slice (some ad) h.f0.length c0, .slice A1 h.f1.length c1, .slice A2 h.f2.length c2, .int .i64 h.f3] 27))).r0 (k : Int) (by omega) (by omega)
  cases e2
  rw [Int.toNat_natCast] at hx hy
  rw [ha] at hx
  rw [hb_] at hy
  have HX2 := Aside0.mk (heap_alloc_new w1 (.cells #[.slice (some ad) h.f0.length c0, .slice A1 h.f1.length c1, .slice A2 h.f2.length c2, .int .i64 h.f3] 27))
  obtain ⟨⟨a0, a1, a2, a3⟩, p0, p1, p2, p3⟩ := blk4 HX2.out
  go_region

  have HFx := Aside0.mk HF1.out.f0
  go_wp2_with (go_at_call 17; go_loud (refine (f17_calls (some ad) c0 h.f0 A1 c1 h.f1 A2 c2 h.f2 h.f3 a xs HCH.out hlx _ (HV1.out.below (by repeat (first | exact Below.refl _ _ | apply below_alloc | apply below_drew1 | apply pw_below_drewN))) HN.out.o0 hhN).mono ?_; clear hx hy a0 a1 a2 a3 p0 p1 p2 p3; rintro e w3 ⟨v, rfl, hR, hb⟩; obtain ⟨Ac, cc, rfl, hcl, hC⟩ := Kd.R_reads hR; have HC3 := Aside0.mk hC; have HB13 : Aside0 (Below w1.heap.size w1 w3) := ⟨Below.trans (by repeat (first | exact Below.refl _ _ | apply below_alloc | apply below_drew1 | apply pw_below_drewN)) (hb.mono (by first | exact Nat.le_refl _ | (simp; done) | (simp; omega)))⟩; have HB3 : Aside0 (Below w.heap.size w w3) := ⟨HB1.out.trans (HB13.out.mono (by omega))⟩; have BH3 : Aside0 (w3.heap[w1.heap.size]? = some (.cells #[.slice (some ad) h.f0.length c0, .slice A1 h.f1.length c1, .slice A2 h.f2.length c2, .int .i64 h.f3] 27 (0, 0))) := ⟨(hb.block _ (by simp)).trans HX2.out⟩; have hz3 : w1.heap.size < w3.heap.size := (by have h_ := hb.size; simp only [World.size_alloc, World.size_drew] at h_; omega); obtain ⟨ad3, rfl, hc0⟩ := Kd.at_int hC 0 (by omega) (by omega); rw [hx1, show (0 : Int).toNat = 0 from rfl] at hc0; have hc1 : w3.cell? ad3 = some (.int .i64 a) := (by simpa [Addr.add] using hc0); have hq : ((xs.length : Int) == 0) = false := (by rw [beq_eq_false_iff_ne]; omega); clear hR hb hC))
  have HF3 := Aside0.mk (Kd.F_below HFx.out HB13.out)
  clear hc0 hc1 hq
  go_loopg [11] xs.length (fun kq v11 w' => ∃ n : Nat, v11 = .int .i64 n ∧ n ≤ xs.length ∧ Aside0 (kq + n = xs.length) ∧ Aside0 (Below w3.heap.size w3 w'))
  case atStart => exact ⟨0, rfl, Nat.zero_le _, ⟨by omega⟩, ⟨Below.refl _ _⟩⟩
  case round =>
    obtain ⟨n, rfl, hn, HK, HB⟩ := hrel
    have hzr := HB.out.size
    obtain ⟨⟨a0, a1, a2, a3⟩, p0, p1, p2, p3⟩ := blk4 ((HB.out.block _ (by omega)).trans BH3.out)
    have hr1 : w1.heap.size < wr.heap.size := by omega
    have HFwr := Aside0.mk (Kd.F_below HF3.out HB.out)
    by_cases hl : n < xs.length
    · cases gk with
      | zero => exact absurd HK.out (by omega)
      | succ k1 =>
        obtain ⟨ad4, e4, hE⟩ := Kd.at_int (Kd.C_below HC3.out HB.out) (n : Int) (by omega) (by omega)
        cases e4
        rw [Int.toNat_natCast] at hE
        have HIA : Aside0 ((ancS h.f0 a).contains (rd xs (n : Int)) = true) := ⟨by simpa using (HCA.out.1 _ (rd_mem n hl)).1⟩
        have hw64 : IntKind.i64.wrap ((n : Int) - 1) = (n : Int) - 1 := by rw [IntKind.wrap_i64]; omega
        have hw65 : Go.RowKit.wrap64 ((n : Int) - 1) = (n : Int) - 1 := by rw [← i64_w]; exact hw64
        rcases Nat.eq_zero_or_pos n with hp | hp
        · have g1 : decide (0 < (n : Int)) = false := decide_eq_false (by omega)
          have g1n : decide (0 < n) = false := decide_eq_false (by omega)
          clear hp
          go_wp2_with fail
          refine start_ (n := 24) (S := fun w' => w'.cell? ⟨w1.heap.size, 0, none⟩ = some (.slice (some ad) h.f0.length c0) ∧ w'.cell? ⟨w1.heap.size, 1, none⟩ = some (.slice A1 h.f1.length c1) ∧ w'.cell? ⟨w1.heap.size, 2, none⟩ = some (.slice A2 h.f2.length c2) ∧ w'.cell? ⟨w1.heap.size, 3, none⟩ = some (.int .i64 h.f3) ∧ w'.cell? (ad3.add n) = some (.int .i64 (rd xs (n : Int)))) (ds := [21]) #[false, false, false, false, false, false, false, false, false, false, false, false, false, false, false, false, false, false, false, false, false, false, false, false] (by kernel_rfl) rfl rfl ⟨a0, a1, a2, a3, hE⟩ (fun hHeld => ?_)
          refine with_tabW f5_tab13 f5_bits13 (fun HT_ HW_ => ?_)
          have HBd : Aside0 (Below wr.heap.size wr wr.drew) := ⟨below_drew (Below.refl _ _)⟩
          generalize wr.drew = wd at HBd hHeld ⊢
          refine pure_ (i := 0) (N := some 76) (v := ?_) (a' := ?_) #[true, false, false, false, false, false, false, false, false, false, false, false, false, false, false, false, false, false, false, false, false, false, false, false] rfl rfl (any_of HT_.out (by kernel_rfl)) (fun _ _ _ h => h) (Or.inl ⟨by rfl, ?_⟩) ?_ ?_
          rotate_left
          · intro w'
            go_simp
            with_reducible rfl
          rotate_left
          · simp only [Act.put, List.setIfInBounds_toArray, List.set_cons_zero, List.set_cons_succ, i64_w, i32_w]
            rfl
          refine pure_ (i := 1) (N := some 77) (v := ?_) (a' := ?_) #[true, true, false, false, false, false, false, false, false, false, false, false, false, false, false, false, false, false, false, false, false, false, false, false] rfl rfl (any_of HT_.out (by kernel_rfl)) (fun _ _ _ h => h) (Or.inl ⟨by rfl, ?_⟩) ?_ ?_
          rotate_left
          · intro w'
            go_simp
            with_reducible rfl
          rotate_left
          · simp only [Act.put, List.setIfInBounds_toArray, List.set_cons_zero, List.set_cons_succ, i64_w, i32_w]
            rfl
          refine pure_ (i := 2) (N := some 78) (v := ?_) (a' := ?_) #[true, true, true, false, false, false, false, false, false, false, false, false, false, false, false, false, false, false, false, false, false, false, false, false] rfl rfl (any_of HT_.out (by kernel_rfl)) (fun _ _ _ h => h) (Or.inl ⟨by rfl, ?_⟩) ?_ ?_
          rotate_left
          · intro w'
            go_simp
            with_reducible rfl
          rotate_left
          · simp only [Act.put, List.setIfInBounds_toArray, List.set_cons_zero, List.set_cons_succ, i64_w, i32_w]
            rfl
          refine pure_ (i := 3) (N := some 79) (v := undef) (a' := ?_) #[true, true, true, true, false, false, false, false, false, false, false, false, false, false, false, false, false, false, false, false, false, false, false, false] rfl rfl (any_of HT_.out (by kernel_rfl)) (fun _ _ _ h => h) (Or.inr ⟨by rfl, rfl⟩) ?_ ?_
          rotate_left
          · simp only [Act.put, List.setIfInBounds_toArray, List.set_cons_zero, List.set_cons_succ, i64_w, i32_w]
            rfl
          refine pure_ (i := 4) (N := some 80) (v := undef) (a' := ?_) #[true, true, true, true, true, false, false, false, false, false, false, false, false, false, false, false, false, false, false, false, false, false, false, false] rfl rfl (any_of HT_.out (by kernel_rfl)) (fun _ _ _ h => h) (Or.inr ⟨by rfl, rfl⟩) ?_ ?_
          rotate_left
          · simp only [Act.put, List.setIfInBounds_toArray, List.set_cons_zero, List.set_cons_succ, i64_w, i32_w]
            rfl
          refine pure_ (i := 5) (N := some 81) (v := undef) (a' := ?_) #[true, true, true, true, true, true, false, false, false, false, false, false, false, false, false, false, false, false, false, false, false, false, false, false] rfl rfl (any_of HT_.out (by kernel_rfl)) (fun _ _ _ h => h) (Or.inr ⟨by rfl, rfl⟩) ?_ ?_
          rotate_left
          · simp only [Act.put, List.setIfInBounds_toArray, List.set_cons_zero, List.set_cons_succ, i64_w, i32_w]
            rfl
          refine pure_ (i := 6) (N := some 82) (v := undef) (a' := ?_) #[true, true, true, true, true, true, true, false, false, false, false, false, false, false, false, false, false, false, false, false, false, false, false, false] rfl rfl (any_of HT_.out (by kernel_rfl)) (fun _ _ _ h => h) (Or.inr ⟨by rfl, rfl⟩) ?_ ?_
          rotate_left
          · simp only [Act.put, List.setIfInBounds_toArray, List.set_cons_zero, List.set_cons_succ, i64_w, i32_w]
            rfl
          refine pure_ (i := 7) (N := some 83) (v := undef) (a' := ?_) #[true, true, true, true, true, true, true, true, false, false, false, false, false, false, false, false, false, false, false, false, false, false, false, false] rfl rfl (any_of HT_.out (by kernel_rfl)) (fun _ _ _ h => h) (Or.inr ⟨by rfl, rfl⟩) ?_ ?_
          rotate_left
          · simp only [Act.put, List.setIfInBounds_toArray, List.set_cons_zero, List.set_cons_succ, i64_w, i32_w]
            rfl
          refine pure_ (i := 8) (N := some 84) (v := undef) (a' := ?_) #[true, true, true, true, true, true, true, true, true, false, false, false, false, false, false, false, false, false, false, false, false, false, false, false] rfl rfl (any_of HT_.out (by kernel_rfl)) (fun _ _ _ h => h) (Or.inr ⟨by rfl, rfl⟩) ?_ ?_
          rotate_left
          · simp only [Act.put, List.setIfInBounds_toArray, List.set_cons_zero, List.set_cons_succ, i64_w, i32_w]
            rfl
          refine pure_ (i := 9) (N := some 85) (v := undef) (a' := ?_) #[true, true, true, true, true, true, true, true, true, true, false, false, false, false, false, false, false, false, false, false, false, false, false, false] rfl rfl (any_of HT_.out (by kernel_rfl)) (fun _ _ _ h => h) (Or.inr ⟨by rfl, rfl⟩) ?_ ?_
          rotate_left
          · simp only [Act.put, List.setIfInBounds_toArray, List.set_cons_zero, List.set_cons_succ, i64_w, i32_w]
            rfl
          refine pure_ (i := 10) (N := some 86) (v := undef) (a' := ?_) #[true, true, true, true, true, true, true, true, true, true, true, false, false, false, false, false, false, false, false, false, false, false, false, false] rfl rfl (any_of HT_.out (by kernel_rfl)) (fun _ _ _ h => h) (Or.inr ⟨by rfl, rfl⟩) ?_ ?_
          rotate_left
          · simp only [Act.put, List.setIfInBounds_toArray, List.set_cons_zero, List.set_cons_succ, i64_w, i32_w]
            rfl
          refine pure_ (i := 11) (N := some 87) (v := undef) (a' := ?_) #[true, true, true, true, true, true, true, true, true, true, true, true, false, false, false, false, false, false, false, false, false, false, false, false] rfl rfl (any_of HT_.out (by kernel_rfl)) (fun _ _ _ h => h) (Or.inr ⟨by rfl, rfl⟩) ?_ ?_
          rotate_left
          · simp only [Act.put, List.setIfInBounds_toArray, List.set_cons_zero, List.set_cons_succ, i64_w, i32_w]
            rfl
          refine pure_ (i := 12) (N := some 88) (v := undef) (a' := ?_) #[true, true, true, true, true, true, true, true, true, true, true, true, true, false, false, false, false, false, false, false, false, false, false, false] rfl rfl (any_of HT_.out (by kernel_rfl)) (fun _ _ _ h => h) (Or.inr ⟨by rfl, rfl⟩) ?_ ?_
          rotate_left
          · simp only [Act.put, List.setIfInBounds_toArray, List.set_cons_zero, List.set_cons_succ, i64_w, i32_w]
            rfl
          refine pure_ (i := 13) (N := some 89) (v := ?_) (a' := ?_) #[true, true, true, true, true, true, true, true, true, true, true, true, true, true, false, false, false, false, false, false, false, false, false, false] rfl rfl (any_of HT_.out (by kernel_rfl)) (fun _ _ _ h => h) (Or.inl ⟨by rfl, ?_⟩) ?_ ?_
          rotate_left
          · intro w'
            go_simp
            with_reducible rfl
          rotate_left
          · simp only [Act.put, List.setIfInBounds_toArray, List.set_cons_zero, List.set_cons_succ, i64_w, i32_w]
            rfl
          refine pure_ (i := 14) (N := some 90) (v := ?_) (a' := ?_) #[true, true, true, true, true, true, true, true, true, true, true, true, true, true, true, false, false, false, false, false, false, false, false, false] rfl rfl (any_of HT_.out (by kernel_rfl)) (fun _ _ _ h => h) (Or.inl ⟨by rfl, ?_⟩) ?_ ?_
          rotate_left
          · intro w'
            go_simp
            with_reducible rfl
          rotate_left
          · simp only [Act.put, List.setIfInBounds_toArray, List.set_cons_zero, List.set_cons_succ, i64_w, i32_w]
            rfl
          refine take_ (i := 15) (N := some 91) (v := ?_) (a' := ?_) #[true, true, true, true, true, true, true, true, true, true, true, true, true, true, true, true, false, false, false, false, false, false, false, false] rfl rfl (take_ofW HT_.out HW_.out (by kernel_rfl)) (fun _ _ _ h => h) (Or.inl ⟨by rfl, ?_⟩) hHeld ?_ ?_
          rotate_left
          · rintro w' ⟨s0, s1, s2, s3, s4⟩
            go_simp
            with_reducible rfl
          rotate_left
          · simp only [Act.put, List.setIfInBounds_toArray, List.set_cons_zero, List.set_cons_succ, i64_w, i32_w]
            rfl
          refine pure_ (i := 16) (N := some 92) (v := ?_) (a' := ?_) #[true, true, true, true, true, true, true, true, true, true, true, true, true, true, true, true, true, false, false, false, false, false, false, false] rfl rfl (any_of HT_.out (by kernel_rfl)) (fun _ _ _ h => h) (Or.inl ⟨by rfl, ?_⟩) ?_ ?_
          rotate_left
          · intro w'
            go_simp
            with_reducible rfl
          rotate_left
          · simp only [Act.put, List.setIfInBounds_toArray, List.set_cons_zero, List.set_cons_succ, i64_w, i32_w]
            rfl
          refine pure_ (i := 17) (N := some 93) (v := ?_) (a' := ?_) #[true, true, true, true, true, true, true, true, true, true, true, true, true, true, true, true, true, true, false, false, false, false, false, false] rfl rfl (any_of HT_.out (by kernel_rfl)) (fun _ _ _ h => h) (Or.inl ⟨by rfl, ?_⟩) ?_ ?_
          rotate_left
          · intro w'
            go_simp
            with_reducible rfl
          rotate_left
          · simp only [Act.put, List.setIfInBounds_toArray, List.set_cons_zero, List.set_cons_succ, i64_w, i32_w]
            rfl
          refine pure_ (i := 18) (N := some 94) (v := ?_) (a' := ?_) #[true, true, true, true, true, true, true, true, true, true, true, true, true, true, true, true, true, true, true, false, false, false, false, false] rfl rfl (any_of HT_.out (by kernel_rfl)) (fun _ _ _ h => h) (Or.inl ⟨by rfl, ?_⟩) ?_ ?_
          rotate_left
          · intro w'
            go_simp
            with_reducible rfl
          rotate_left
          · simp only [Act.put, List.setIfInBounds_toArray, List.set_cons_zero, List.set_cons_succ, i64_w, i32_w]
            rfl
          refine take_ (i := 19) (N := some 95) (v := ?_) (a' := ?_) #[true, true, true, true, true, true, true, true, true, true, true, true, true, true, true, true, true, true, true, true, false, false, false, false] rfl rfl (take_ofW HT_.out HW_.out (by kernel_rfl)) (fun _ _ _ h => h) (Or.inl ⟨by rfl, ?_⟩) hHeld ?_ ?_
          rotate_left
          · rintro w' ⟨s0, s1, s2, s3, s4⟩
            go_simp
            with_reducible rfl
          rotate_left
          · simp only [Act.put, List.setIfInBounds_toArray, List.set_cons_zero, List.set_cons_succ, i64_w, i32_w]
            rfl
          refine pure_ (i := 20) (N := some 96) (v := ?_) (a' := ?_) #[true, true, true, true, true, true, true, true, true, true, true, true, true, true, true, true, true, true, true, true, true, false, false, false] rfl rfl (any_of HT_.out (by kernel_rfl)) (fun _ _ _ h => h) (Or.inl ⟨by rfl, ?_⟩) ?_ ?_
          rotate_left
          · intro w'
            go_simp
            with_reducible rfl
          rotate_left
          · simp only [Act.put, List.setIfInBounds_toArray, List.set_cons_zero, List.set_cons_succ, i64_w, i32_w]
            rfl
          refine last_ (i := 21) (N := some 97) #[true, true, true, true, true, true, true, true, true, true, true, true, true, true, true, true, true, true, true, true, true, true, false, false] rfl rfl (one_of HT_.out (by kernel_rfl)) (by decide) (fun K hK => ?_)
          refine goes_ Try.func18 (by kernel_rfl) rfl #[.agg #[.slice (some ad) h.f0.length c0, .slice A1 h.f1.length c1, .slice A2 h.f2.length c2, .int .i64 h.f3], .int .i64 (rd xs (n : Int)), .int .i64 a] (by rfl) rfl rfl (by (try simp only [List.map_toArray, List.map_cons, List.map_nil]); first | done | rfl) ?_
          refine (f18_E (some ad) c0 A1 c1 A2 c2 h (rd xs (n : Int)) a true HIA.out HWA.out HWF.out hhN _ _ (Kd.F_below HFwr.out HBd.out)).mono ?_
          rintro e w5 ⟨rfl, hb⟩
          refine ⟨_, rfl, ?_⟩
          have HBw5 : Aside0 (Below w3.heap.size w3 w5) := ⟨HB.out.trans ((HBd.out.trans (hb.mono HBd.out.size)).mono (by omega))⟩
          clear hb
          refine hK.out _ _ ?_
          clear hK K
          refine norm_ (a' := ?_) ?_ ?_
          rotate_left
          · show Act.put _ (some 97) _ = _
            simp only [Act.put, List.setIfInBounds_toArray, List.set_cons_zero, List.set_cons_succ, i64_w, i32_w]
            rfl
          refine pure_ (i := 22) (N := some 98) (v := ?_) (a' := ?_) #[true, true, true, true, true, true, true, true, true, true, true, true, true, true, true, true, true, true, true, true, true, true, true, false] rfl rfl (any_of HT_.out (by kernel_rfl)) (fun _ _ _ h => h) (Or.inl ⟨by rfl, ?_⟩) ?_ ?_
          rotate_left
          · intro w'
            go_simp
            with_reducible rfl
          rotate_left
          · simp only [Act.put, List.setIfInBounds_toArray, List.set_cons_zero, List.set_cons_succ, i64_w, i32_w]
            rfl
          refine pure_ (i := 23) (N := some 99) (v := ?_) (a' := ?_) #[true, true, true, true, true, true, true, true, true, true, true, true, true, true, true, true, true, true, true, true, true, true, true, true] rfl rfl (any_of HT_.out (by kernel_rfl)) (fun _ _ _ h => h) (Or.inl ⟨by rfl, ?_⟩) ?_ ?_
          rotate_left
          · intro w'
            go_simp
            with_reducible rfl
          rotate_left
          · simp only [Act.put, List.setIfInBounds_toArray, List.set_cons_zero, List.set_cons_succ, i64_w, i32_w]
            rfl
          refine done_ (done_of HT_.out (by kernel_rfl)) ?_
          clear HT_ HW_ hHeld HBd
          go_wp2
          go_roundg k1
          case measure => omega
          case rel => exact ⟨n + 1, int_eq (by omega), by omega, ⟨by have := HK.out; omega⟩, HBw5⟩
        · have g1 : decide (0 < (n : Int)) = true := decide_eq_true (by omega)
          obtain ⟨ad5, e5, hE3⟩ := Kd.at_int (Kd.C_below HC3.out HB.out) ((n : Int) - 1) (by omega) (by omega)
          cases e5
          rw [show ((n : Int) - 1).toNat = n - 1 by omega] at hE3
          have hD := rd_dec HCA.out.2 n hp hl
          have g2 : decide (rd xs ((n : Int) - 1) ≤ rd xs (n : Int)) = false := decide_eq_false (by omega)
          have g1n : decide (0 < n) = true := decide_eq_true hp
          have b1 : (1 : Int) ≤ (n : Int) := by omega
          have b2 : (n : Int) - 1 < (xs.length : Int) := by omega
          have b3 : (0 : Int) ≤ (n : Int) - 1 := by omega
          clear hD
          go_wp2_with fail
          refine start_ (n := 24) (S := fun w' => w'.cell? ⟨w1.heap.size, 0, none⟩ = some (.slice (some ad) h.f0.length c0) ∧ w'.cell? ⟨w1.heap.size, 1, none⟩ = some (.slice A1 h.f1.length c1) ∧ w'.cell? ⟨w1.heap.size, 2, none⟩ = some (.slice A2 h.f2.length c2) ∧ w'.cell? ⟨w1.heap.size, 3, none⟩ = some (.int .i64 h.f3) ∧ w'.cell? (ad3.add n) = some (.int .i64 (rd xs (n : Int))) ∧ w'.cell? (ad3.add (n - 1)) = some (.int .i64 (rd xs ((n : Int) - 1)))) (ds := [21]) #[false, false, false, false, false, false, false, false, false, false, false, false, false, false, false, false, false, false, false, false, false, false, false, false] (by kernel_rfl) rfl rfl ⟨a0, a1, a2, a3, hE, hE3⟩ (fun hHeld => ?_)
          refine with_tabW f5_tab13 f5_bits13 (fun HT_ HW_ => ?_)
          have HBd : Aside0 (Below wr.heap.size wr wr.drew) := ⟨below_drew (Below.refl _ _)⟩
          generalize wr.drew = wd at HBd hHeld ⊢
          refine pure_ (i := 0) (N := some 76) (v := ?_) (a' := ?_) #[true, false, false, false, false, false, false, false, false, false, false, false, false, false, false, false, false, false, false, false, false, false, false, false] rfl rfl (any_of HT_.out (by kernel_rfl)) (fun _ _ _ h => h) (Or.inl ⟨by rfl, ?_⟩) ?_ ?_
          rotate_left
          · intro w'
            go_simp
            with_reducible rfl
          rotate_left
          · simp only [Act.put, List.setIfInBounds_toArray, List.set_cons_zero, List.set_cons_succ, i64_w, i32_w]
            rfl
          refine pure_ (i := 1) (N := some 77) (v := ?_) (a' := ?_) #[true, true, false, false, false, false, false, false, false, false, false, false, false, false, false, false, false, false, false, false, false, false, false, false] rfl rfl (any_of HT_.out (by kernel_rfl)) (fun _ _ _ h => h) (Or.inl ⟨by rfl, ?_⟩) ?_ ?_
          rotate_left
          · intro w'
            go_simp
            with_reducible rfl
          rotate_left
          · simp only [Act.put, List.setIfInBounds_toArray, List.set_cons_zero, List.set_cons_succ, i64_w, i32_w]
            rfl
          refine pure_ (i := 2) (N := some 78) (v := ?_) (a' := ?_) #[true, true, true, false, false, false, false, false, false, false, false, false, false, false, false, false, false, false, false, false, false, false, false, false] rfl rfl (any_of HT_.out (by kernel_rfl)) (fun _ _ _ h => h) (Or.inl ⟨by rfl, ?_⟩) ?_ ?_
          rotate_left
          · intro w'
            go_simp
            with_reducible rfl
          rotate_left
          · simp only [Act.put, List.setIfInBounds_toArray, List.set_cons_zero, List.set_cons_succ, i64_w, i32_w]
            rfl
          refine pure_ (i := 3) (N := some 79) (v := ?_) (a' := ?_) #[true, true, true, true, false, false, false, false, false, false, false, false, false, false, false, false, false, false, false, false, false, false, false, false] rfl rfl (any_of HT_.out (by kernel_rfl)) (fun _ _ _ h => h) (Or.inl ⟨by rfl, ?_⟩) ?_ ?_
          rotate_left
          · intro w'
            go_simp
            with_reducible rfl
          rotate_left
          · simp only [Act.put, List.setIfInBounds_toArray, List.set_cons_zero, List.set_cons_succ, i64_w, i32_w]
            rfl
          refine pure_ (i := 4) (N := some 80) (v := ?_) (a' := ?_) #[true, true, true, true, true, false, false, false, false, false, false, false, false, false, false, false, false, false, false, false, false, false, false, false] rfl rfl (any_of HT_.out (by kernel_rfl)) (fun _ _ _ h => h) (Or.inl ⟨by rfl, ?_⟩) ?_ ?_
          rotate_left
          · intro w'
            go_simp
            with_reducible rfl
          rotate_left
          · simp only [Act.put, List.setIfInBounds_toArray, List.set_cons_zero, List.set_cons_succ, i64_w, i32_w]
            rfl
          refine pure_ (i := 5) (N := some 81) (v := ?_) (a' := ?_) #[true, true, true, true, true, true, false, false, false, false, false, false, false, false, false, false, false, false, false, false, false, false, false, false] rfl rfl (any_of HT_.out (by kernel_rfl)) (fun _ _ _ h => h) (Or.inl ⟨by rfl, ?_⟩) ?_ ?_
          rotate_left
          · intro w'
            go_simp
            with_reducible rfl
          rotate_left
          · simp only [Act.put, List.setIfInBounds_toArray, List.set_cons_zero, List.set_cons_succ, i64_w, i32_w]
            rfl
          refine take_ (i := 6) (N := some 82) (v := ?_) (a' := ?_) #[true, true, true, true, true, true, true, false, false, false, false, false, false, false, false, false, false, false, false, false, false, false, false, false] rfl rfl (take_ofW HT_.out HW_.out (by kernel_rfl)) (fun _ _ _ h => h) (Or.inl ⟨by rfl, ?_⟩) hHeld ?_ ?_
          rotate_left
          · rintro w' ⟨s0, s1, s2, s3, s4, s5⟩
            go_simp
            with_reducible rfl
          rotate_left
          · simp only [Act.put, List.setIfInBounds_toArray, List.set_cons_zero, List.set_cons_succ, i64_w, i32_w]
            rfl
          refine pure_ (i := 7) (N := some 83) (v := ?_) (a' := ?_) #[true, true, true, true, true, true, true, true, false, false, false, false, false, false, false, false, false, false, false, false, false, false, false, false] rfl rfl (any_of HT_.out (by kernel_rfl)) (fun _ _ _ h => h) (Or.inl ⟨by rfl, ?_⟩) ?_ ?_
          rotate_left
          · intro w'
            go_simp
            with_reducible rfl
          rotate_left
          · simp only [Act.put, List.setIfInBounds_toArray, List.set_cons_zero, List.set_cons_succ, i64_w, i32_w]
            rfl
          refine pure_ (i := 8) (N := some 84) (v := ?_) (a' := ?_) #[true, true, true, true, true, true, true, true, true, false, false, false, false, false, false, false, false, false, false, false, false, false, false, false] rfl rfl (any_of HT_.out (by kernel_rfl)) (fun _ _ _ h => h) (Or.inl ⟨by rfl, ?_⟩) ?_ ?_
          rotate_left
          · intro w'
            go_simp
            with_reducible rfl
          rotate_left
          · simp only [Act.put, List.setIfInBounds_toArray, List.set_cons_zero, List.set_cons_succ, i64_w, i32_w]
            rfl
          refine pure_ (i := 9) (N := some 85) (v := ?_) (a' := ?_) #[true, true, true, true, true, true, true, true, true, true, false, false, false, false, false, false, false, false, false, false, false, false, false, false] rfl rfl (any_of HT_.out (by kernel_rfl)) (fun _ _ _ h => h) (Or.inl ⟨by rfl, ?_⟩) ?_ ?_
          rotate_left
          · intro w'
            go_simp
            with_reducible rfl
          rotate_left
          · simp only [Act.put, List.setIfInBounds_toArray, List.set_cons_zero, List.set_cons_succ, i64_w, i32_w]
            rfl
          refine pure_ (i := 10) (N := some 86) (v := ?_) (a' := ?_) #[true, true, true, true, true, true, true, true, true, true, true, false, false, false, false, false, false, false, false, false, false, false, false, false] rfl rfl (any_of HT_.out (by kernel_rfl)) (fun _ _ _ h => h) (Or.inl ⟨by rfl, ?_⟩) ?_ ?_
          rotate_left
          · intro w'
            go_simp
            with_reducible rfl
          rotate_left
          · simp only [Act.put, List.setIfInBounds_toArray, List.set_cons_zero, List.set_cons_succ, i64_w, i32_w]
            rfl
          refine take_ (i := 11) (N := some 87) (v := ?_) (a' := ?_) #[true, true, true, true, true, true, true, true, true, true, true, true, false, false, false, false, false, false, false, false, false, false, false, false] rfl rfl (take_ofW HT_.out HW_.out (by kernel_rfl)) (fun _ _ _ h => h) (Or.inl ⟨by rfl, ?_⟩) hHeld ?_ ?_
          rotate_left
          · rintro w' ⟨s0, s1, s2, s3, s4, s5⟩
            go_simp
            with_reducible rfl
          rotate_left
          · simp only [Act.put, List.setIfInBounds_toArray, List.set_cons_zero, List.set_cons_succ, i64_w, i32_w]
            rfl
          refine pure_ (i := 12) (N := some 88) (v := ?_) (a' := ?_) #[true, true, true, true, true, true, true, true, true, true, true, true, true, false, false, false, false, false, false, false, false, false, false, false] rfl rfl (any_of HT_.out (by kernel_rfl)) (fun _ _ _ h => h) (Or.inl ⟨by rfl, ?_⟩) ?_ ?_
          rotate_left
          · intro w'
            go_simp
            with_reducible rfl
          rotate_left
          · simp only [Act.put, List.setIfInBounds_toArray, List.set_cons_zero, List.set_cons_succ, i64_w, i32_w]
            rfl
          refine pure_ (i := 13) (N := some 89) (v := ?_) (a' := ?_) #[true, true, true, true, true, true, true, true, true, true, true, true, true, true, false, false, false, false, false, false, false, false, false, false] rfl rfl (any_of HT_.out (by kernel_rfl)) (fun _ _ _ h => h) (Or.inl ⟨by rfl, ?_⟩) ?_ ?_
          rotate_left
          · intro w'
            go_simp
            with_reducible rfl
          rotate_left
          · simp only [Act.put, List.setIfInBounds_toArray, List.set_cons_zero, List.set_cons_succ, i64_w, i32_w]
            rfl
          refine pure_ (i := 14) (N := some 90) (v := ?_) (a' := ?_) #[true, true, true, true, true, true, true, true, true, true, true, true, true, true, true, false, false, false, false, false, false, false, false, false] rfl rfl (any_of HT_.out (by kernel_rfl)) (fun _ _ _ h => h) (Or.inl ⟨by rfl, ?_⟩) ?_ ?_
          rotate_left
          · intro w'
            go_simp
            with_reducible rfl
          rotate_left
          · simp only [Act.put, List.setIfInBounds_toArray, List.set_cons_zero, List.set_cons_succ, i64_w, i32_w]
            rfl
          refine take_ (i := 15) (N := some 91) (v := ?_) (a' := ?_) #[true, true, true, true, true, true, true, true, true, true, true, true, true, true, true, true, false, false, false, false, false, false, false, false] rfl rfl (take_ofW HT_.out HW_.out (by kernel_rfl)) (fun _ _ _ h => h) (Or.inl ⟨by rfl, ?_⟩) hHeld ?_ ?_
          rotate_left
          · rintro w' ⟨s0, s1, s2, s3, s4, s5⟩
            go_simp
            with_reducible rfl
          rotate_left
          · simp only [Act.put, List.setIfInBounds_toArray, List.set_cons_zero, List.set_cons_succ, i64_w, i32_w]
            rfl
          refine pure_ (i := 16) (N := some 92) (v := ?_) (a' := ?_) #[true, true, true, true, true, true, true, true, true, true, true, true, true, true, true, true, true, false, false, false, false, false, false, false] rfl rfl (any_of HT_.out (by kernel_rfl)) (fun _ _ _ h => h) (Or.inl ⟨by rfl, ?_⟩) ?_ ?_
          rotate_left
          · intro w'
            go_simp
            with_reducible rfl
          rotate_left
          · simp only [Act.put, List.setIfInBounds_toArray, List.set_cons_zero, List.set_cons_succ, i64_w, i32_w]
            rfl
          refine pure_ (i := 17) (N := some 93) (v := ?_) (a' := ?_) #[true, true, true, true, true, true, true, true, true, true, true, true, true, true, true, true, true, true, false, false, false, false, false, false] rfl rfl (any_of HT_.out (by kernel_rfl)) (fun _ _ _ h => h) (Or.inl ⟨by rfl, ?_⟩) ?_ ?_
          rotate_left
          · intro w'
            go_simp
            with_reducible rfl
          rotate_left
          · simp only [Act.put, List.setIfInBounds_toArray, List.set_cons_zero, List.set_cons_succ, i64_w, i32_w]
            rfl
          refine pure_ (i := 18) (N := some 94) (v := ?_) (a' := ?_) #[true, true, true, true, true, true, true, true, true, true, true, true, true, true, true, true, true, true, true, false, false, false, false, false] rfl rfl (any_of HT_.out (by kernel_rfl)) (fun _ _ _ h => h) (Or.inl ⟨by rfl, ?_⟩) ?_ ?_
          rotate_left
          · intro w'
            go_simp
            with_reducible rfl
          rotate_left
          · simp only [Act.put, List.setIfInBounds_toArray, List.set_cons_zero, List.set_cons_succ, i64_w, i32_w]
            rfl
          refine take_ (i := 19) (N := some 95) (v := ?_) (a' := ?_) #[true, true, true, true, true, true, true, true, true, true, true, true, true, true, true, true, true, true, true, true, false, false, false, false] rfl rfl (take_ofW HT_.out HW_.out (by kernel_rfl)) (fun _ _ _ h => h) (Or.inl ⟨by rfl, ?_⟩) hHeld ?_ ?_
          rotate_left
          · rintro w' ⟨s0, s1, s2, s3, s4, s5⟩
            go_simp
            with_reducible rfl
          rotate_left
          · simp only [Act.put, List.setIfInBounds_toArray, List.set_cons_zero, List.set_cons_succ, i64_w, i32_w]
            rfl
          refine pure_ (i := 20) (N := some 96) (v := ?_) (a' := ?_) #[true, true, true, true, true, true, true, true, true, true, true, true, true, true, true, true, true, true, true, true, true, false, false, false] rfl rfl (any_of HT_.out (by kernel_rfl)) (fun _ _ _ h => h) (Or.inl ⟨by rfl, ?_⟩) ?_ ?_
          rotate_left
          · intro w'
            go_simp
            with_reducible rfl
          rotate_left
          · simp only [Act.put, List.setIfInBounds_toArray, List.set_cons_zero, List.set_cons_succ, i64_w, i32_w]
            rfl
          refine last_ (i := 21) (N := some 97) #[true, true, true, true, true, true, true, true, true, true, true, true, true, true, true, true, true, true, true, true, true, true, false, false] rfl rfl (one_of HT_.out (by kernel_rfl)) (by decide) (fun K hK => ?_)
          refine goes_ Try.func18 (by kernel_rfl) rfl #[.agg #[.slice (some ad) h.f0.length c0, .slice A1 h.f1.length c1, .slice A2 h.f2.length c2, .int .i64 h.f3], .int .i64 (rd xs (n : Int)), .int .i64 a] (by rfl) rfl rfl (by (try simp only [List.map_toArray, List.map_cons, List.map_nil]); first | done | rfl) ?_
          refine (f18_E (some ad) c0 A1 c1 A2 c2 h (rd xs (n : Int)) a true HIA.out HWA.out HWF.out hhN _ _ (Kd.F_below HFwr.out HBd.out)).mono ?_
          rintro e w5 ⟨rfl, hb⟩
          refine ⟨_, rfl, ?_⟩
          have HBw5 : Aside0 (Below w3.heap.size w3 w5) := ⟨HB.out.trans ((HBd.out.trans (hb.mono HBd.out.size)).mono (by omega))⟩
          clear hb
          refine hK.out _ _ ?_
          clear hK K
          refine norm_ (a' := ?_) ?_ ?_
          rotate_left
          · show Act.put _ (some 97) _ = _
            simp only [Act.put, List.setIfInBounds_toArray, List.set_cons_zero, List.set_cons_succ, i64_w, i32_w]
            rfl
          refine pure_ (i := 22) (N := some 98) (v := ?_) (a' := ?_) #[true, true, true, true, true, true, true, true, true, true, true, true, true, true, true, true, true, true, true, true, true, true, true, false] rfl rfl (any_of HT_.out (by kernel_rfl)) (fun _ _ _ h => h) (Or.inl ⟨by rfl, ?_⟩) ?_ ?_
          rotate_left
          · intro w'
            go_simp
            with_reducible rfl
          rotate_left
          · simp only [Act.put, List.setIfInBounds_toArray, List.set_cons_zero, List.set_cons_succ, i64_w, i32_w]
            rfl
          refine pure_ (i := 23) (N := some 99) (v := ?_) (a' := ?_) #[true, true, true, true, true, true, true, true, true, true, true, true, true, true, true, true, true, true, true, true, true, true, true, true] rfl rfl (any_of HT_.out (by kernel_rfl)) (fun _ _ _ h => h) (Or.inl ⟨by rfl, ?_⟩) ?_ ?_
          rotate_left
          · intro w'
            go_simp
            with_reducible rfl
          rotate_left
          · simp only [Act.put, List.setIfInBounds_toArray, List.set_cons_zero, List.set_cons_succ, i64_w, i32_w]
            rfl
          refine done_ (done_of HT_.out (by kernel_rfl)) ?_
          clear HT_ HW_ hHeld HBd
          go_wp2
          go_roundg k1
          case measure => omega
          case rel => exact ⟨n + 1, int_eq (by omega), by omega, ⟨by have := HK.out; omega⟩, HBw5⟩
    · obtain rfl : n = xs.length := by omega
      go_wp2_with (go_at_call 19; refine (f19_E (some ad) c0 A1 c1 A2 c2 h a b bs okb HMB.out HWA.out HWB.out HWF.out hhN _ _ (Kd.F_below HFwr.out (by repeat (first | exact Below.refl _ _ | apply below_alloc | apply below_drew1 | apply pw_below_drewN)))).mono ?_; rintro e w6 ⟨rfl, hb⟩; have HB6 : Aside0 (Below w3.heap.size w3 w6) := ⟨HB.out.trans ((Below.trans (by repeat (first | exact Below.refl _ _ | apply below_alloc | apply below_drew1 | apply pw_below_drewN)) (hb.mono (by first | exact Nat.le_refl _ | (simp; done) | (simp; omega))) : Below wr.heap.size wr w6).mono (by omega))⟩; have hz6 := HB6.out.size; clear hb)

      have HF6 := Aside0.mk (Kd.F_below HF3.out HB6.out)
      have BH6 : Aside0 (w6.heap[w1.heap.size]? = some (.cells #[.slice (some ad) h.f0.length c0, .slice A1 h.f1.length c1, .slice A2 h.f2.length c2, .int .i64 h.f3] 27 (0, 0))) := ⟨(HB6.out.block _ (by omega)).trans BH3.out⟩
      have HBW6 : Aside0 (Below w.heap.size w w6) := ⟨HB3.out.trans (HB6.out.mono (by omega))⟩
      clear a0 a1 a2 a3 p0 p1 p2 p3
      go_loopg [14, 15] h.f0.length (fun kq v14 v15 w' => ∃ (n2 : Nat) (fb : Bool), v14 = .bool fb ∧ v15 = .int .i64 n2 ∧ n2 ≤ h.f0.length ∧ Aside0 (fndB h.f0 a b n2 = fb) ∧ Aside0 (kq + n2 = h.f0.length) ∧ Aside0 (Below w6.heap.size w6 w'))
      case atStart => exact ⟨0, false, rfl, rfl, Nat.zero_le _, ⟨rfl⟩, ⟨by omega⟩, ⟨Below.refl _ _⟩⟩
      case round =>
        obtain ⟨n2, fb, rfl, rfl, hn2, HFB, HK2, HB2⟩ := hrel
        have hzr2 := HB2.out.size
        obtain ⟨⟨a0, a1, a2, a3⟩, p0, p1, p2, p3⟩ := blk4 ((HB2.out.block _ (by omega)).trans BH6.out)
        have hr2 : w1.heap.size < wr.heap.size := by omega
        have HFwr := Aside0.mk (Kd.F_below HF6.out HB2.out)
        by_cases hl2_ : n2 < h.f0.length
        · cases gk with
          | zero => exact absurd HK2.out (by omega)
          | succ k1 =>
            obtain ⟨ad6, e6, hx6, -, -, -⟩ := at_T41 (Kd.F_now HFwr.out) (n2 : Int) (by omega) (by omega)
            cases e6
            rw [Int.toNat_natCast] at hx6
            obtain ⟨x, hxx⟩ : ∃ x, (rd_T41 h.f0 (n2 : Int)).f0 = x := ⟨_, rfl⟩
            rw [hxx] at hx6
            have HSU := Aside0.mk (fndB_succ h.f0 a b n2 x hxx)
            obtain ⟨ba, hba⟩ : ∃ r, (ancS h.f0 a).contains x = r := ⟨_, rfl⟩
            obtain ⟨bb, hbb⟩ : ∃ r, (ancS h.f0 b).contains x = r := ⟨_, rfl⟩
            have HBA := Aside0.mk hba
            have HBB := Aside0.mk hbb
            clear hxx hba hbb
            cases ba with
            | false =>
              cases okb with
              | false =>
                cases fb with
                | false =>
                  go_wp2_with (go_at_call_of 18 a; refine (f18_E (some ad) c0 A1 c1 A2 c2 h x a false HBA.out HWA.out HWF.out hhN _ _ (Kd.F_below HFwr.out (by repeat (first | exact Below.refl _ _ | apply below_alloc | apply below_drew1 | apply pw_below_drewN)))).mono ?_; rintro e w7 ⟨rfl, hb⟩; have HBw7 : Aside0 (Below w6.heap.size w6 w7) := ⟨HB2.out.trans ((Below.trans (by repeat (first | exact Below.refl _ _ | apply below_alloc | apply below_drew1 | apply pw_below_drewN)) (hb.mono (by first | exact Nat.le_refl _ | (simp; done) | (simp; omega))) : Below wr.heap.size wr w7).mono (by omega))⟩; have hzw7 := HBw7.out.size; clear hb; have HFw7 := Aside0.mk (Kd.F_below HF6.out HBw7.out); clear a0 a1 a2 a3 p0 p1 p2 p3 hx6; obtain ⟨⟨a0, a1, a2, a3⟩, p0, p1, p2, p3⟩ := blk4 ((HBw7.out.block _ (by omega)).trans BH6.out); have hr7 : w1.heap.size < w7.heap.size := (by omega))
                  all_goals
                    go_roundg k1
                    case measure => omega
                    case rel => exact ⟨n2 + 1, _, rfl, int_eq (by omega), by omega, ⟨by rw [HSU.out, HFB.out, HBA.out, HBB.out]; rfl⟩, ⟨by have := HK2.out; omega⟩, HBw7⟩
                | true =>
                  go_wp2_with (go_at_call_of 18 a; refine (f18_E (some ad) c0 A1 c1 A2 c2 h x a false HBA.out HWA.out HWF.out hhN _ _ (Kd.F_below HFwr.out (by repeat (first | exact Below.refl _ _ | apply below_alloc | apply below_drew1 | apply pw_below_drewN)))).mono ?_; rintro e w7 ⟨rfl, hb⟩; have HBw7 : Aside0 (Below w6.heap.size w6 w7) := ⟨HB2.out.trans ((Below.trans (by repeat (first | exact Below.refl _ _ | apply below_alloc | apply below_drew1 | apply pw_below_drewN)) (hb.mono (by first | exact Nat.le_refl _ | (simp; done) | (simp; omega))) : Below wr.heap.size wr w7).mono (by omega))⟩; have hzw7 := HBw7.out.size; clear hb; have HFw7 := Aside0.mk (Kd.F_below HF6.out HBw7.out); clear a0 a1 a2 a3 p0 p1 p2 p3 hx6; obtain ⟨⟨a0, a1, a2, a3⟩, p0, p1, p2, p3⟩ := blk4 ((HBw7.out.block _ (by omega)).trans BH6.out); have hr7 : w1.heap.size < w7.heap.size := (by omega))
                  all_goals
                    go_roundg k1
                    case measure => omega
                    case rel => exact ⟨n2 + 1, _, rfl, int_eq (by omega), by omega, ⟨by rw [HSU.out, HFB.out, HBA.out, HBB.out]; rfl⟩, ⟨by have := HK2.out; omega⟩, HBw7⟩
              | true =>
                have hne : (x == bs) = false := by
                  rw [beq_eq_false_iff_ne]; rintro rfl
                  have h_ := (mb_some HN.out.o0 HMB.out).1
                  have h2_ := HBA.out
                  simp [h_] at h2_
                cases fb with
                | false =>
                  go_wp2_with (go_at_call_of 18 a; refine (f18_E (some ad) c0 A1 c1 A2 c2 h x a false HBA.out HWA.out HWF.out hhN _ _ (Kd.F_below HFwr.out (by repeat (first | exact Below.refl _ _ | apply below_alloc | apply below_drew1 | apply pw_below_drewN)))).mono ?_; rintro e w7 ⟨rfl, hb⟩; have HBw7 : Aside0 (Below w6.heap.size w6 w7) := ⟨HB2.out.trans ((Below.trans (by repeat (first | exact Below.refl _ _ | apply below_alloc | apply below_drew1 | apply pw_below_drewN)) (hb.mono (by first | exact Nat.le_refl _ | (simp; done) | (simp; omega))) : Below wr.heap.size wr w7).mono (by omega))⟩; have hzw7 := HBw7.out.size; clear hb; have HFw7 := Aside0.mk (Kd.F_below HF6.out HBw7.out); clear a0 a1 a2 a3 p0 p1 p2 p3 hx6; obtain ⟨⟨a0, a1, a2, a3⟩, p0, p1, p2, p3⟩ := blk4 ((HBw7.out.block _ (by omega)).trans BH6.out); have hr7 : w1.heap.size < w7.heap.size := (by omega))
                  all_goals
                    go_roundg k1
                    case measure => omega
                    case rel => exact ⟨n2 + 1, _, rfl, int_eq (by omega), by omega, ⟨by rw [HSU.out, HFB.out, HBA.out, HBB.out]; rfl⟩, ⟨by have := HK2.out; omega⟩, HBw7⟩
                | true =>
                  go_wp2_with (go_at_call_of 18 a; refine (f18_E (some ad) c0 A1 c1 A2 c2 h x a false HBA.out HWA.out HWF.out hhN _ _ (Kd.F_below HFwr.out (by repeat (first | exact Below.refl _ _ | apply below_alloc | apply below_drew1 | apply pw_below_drewN)))).mono ?_; rintro e w7 ⟨rfl, hb⟩; have HBw7 : Aside0 (Below w6.heap.size w6 w7) := ⟨HB2.out.trans ((Below.trans (by repeat (first | exact Below.refl _ _ | apply below_alloc | apply below_drew1 | apply pw_below_drewN)) (hb.mono (by first | exact Nat.le_refl _ | (simp; done) | (simp; omega))) : Below wr.heap.size wr w7).mono (by omega))⟩; have hzw7 := HBw7.out.size; clear hb; have HFw7 := Aside0.mk (Kd.F_below HF6.out HBw7.out); clear a0 a1 a2 a3 p0 p1 p2 p3 hx6; obtain ⟨⟨a0, a1, a2, a3⟩, p0, p1, p2, p3⟩ := blk4 ((HBw7.out.block _ (by omega)).trans BH6.out); have hr7 : w1.heap.size < w7.heap.size := (by omega))
                  all_goals
                    go_roundg k1
                    case measure => omega
                    case rel => exact ⟨n2 + 1, _, rfl, int_eq (by omega), by omega, ⟨by rw [HSU.out, HFB.out, HBA.out, HBB.out]; rfl⟩, ⟨by have := HK2.out; omega⟩, HBw7⟩
            | true =>
              cases bb with
              | false =>
                cases okb with
                | false =>
                  cases fb with
                  | false =>
                    go_wp2_with (first | (go_at_call_of 18 a; refine (f18_E (some ad) c0 A1 c1 A2 c2 h x a true HBA.out HWA.out HWF.out hhN _ _ (Kd.F_below HFwr.out (by repeat (first | exact Below.refl _ _ | apply below_alloc | apply below_drew1 | apply pw_below_drewN)))).mono ?_; rintro e w7 ⟨rfl, hb⟩; have HBw7 : Aside0 (Below w6.heap.size w6 w7) := ⟨HB2.out.trans ((Below.trans (by repeat (first | exact Below.refl _ _ | apply below_alloc | apply below_drew1 | apply pw_below_drewN)) (hb.mono (by first | exact Nat.le_refl _ | (simp; done) | (simp; omega))) : Below wr.heap.size wr w7).mono (by omega))⟩; have hzw7 := HBw7.out.size; clear hb; have HFw7 := Aside0.mk (Kd.F_below HF6.out HBw7.out); clear a0 a1 a2 a3 p0 p1 p2 p3 hx6; obtain ⟨⟨a0, a1, a2, a3⟩, p0, p1, p2, p3⟩ := blk4 ((HBw7.out.block _ (by omega)).trans BH6.out); have hr7 : w1.heap.size < w7.heap.size := (by omega)) | (go_at_call_of 18 b; refine (f18_E (some ad) c0 A1 c1 A2 c2 h x b false HBB.out HWB.out HWF.out hhN _ _ (Kd.F_below HFw7.out (by repeat (first | exact Below.refl _ _ | apply below_alloc | apply below_drew1 | apply pw_below_drewN)))).mono ?_; rintro e w8 ⟨rfl, hb⟩; have HBw8 : Aside0 (Below w6.heap.size w6 w8) := ⟨HBw7.out.trans ((Below.trans (by repeat (first | exact Below.refl _ _ | apply below_alloc | apply below_drew1 | apply pw_below_drewN)) (hb.mono (by first | exact Nat.le_refl _ | (simp; done) | (simp; omega))) : Below w7.heap.size w7 w8).mono (by omega))⟩; have hzw8 := HBw8.out.size; clear hb))
                    all_goals
                      go_roundg k1
                      case measure => omega
                      case rel => exact ⟨n2 + 1, _, rfl, int_eq (by omega), by omega, ⟨by rw [HSU.out, HFB.out, HBA.out, HBB.out]; rfl⟩, ⟨by have := HK2.out; omega⟩, HBw8⟩
                  | true =>
                    go_wp2_with (first | (go_at_call_of 18 a; refine (f18_E (some ad) c0 A1 c1 A2 c2 h x a true HBA.out HWA.out HWF.out hhN _ _ (Kd.F_below HFwr.out (by repeat (first | exact Below.refl _ _ | apply below_alloc | apply below_drew1 | apply pw_below_drewN)))).mono ?_; rintro e w7 ⟨rfl, hb⟩; have HBw7 : Aside0 (Below w6.heap.size w6 w7) := ⟨HB2.out.trans ((Below.trans (by repeat (first | exact Below.refl _ _ | apply below_alloc | apply below_drew1 | apply pw_below_drewN)) (hb.mono (by first | exact Nat.le_refl _ | (simp; done) | (simp; omega))) : Below wr.heap.size wr w7).mono (by omega))⟩; have hzw7 := HBw7.out.size; clear hb; have HFw7 := Aside0.mk (Kd.F_below HF6.out HBw7.out); clear a0 a1 a2 a3 p0 p1 p2 p3 hx6; obtain ⟨⟨a0, a1, a2, a3⟩, p0, p1, p2, p3⟩ := blk4 ((HBw7.out.block _ (by omega)).trans BH6.out); have hr7 : w1.heap.size < w7.heap.size := (by omega)) | (go_at_call_of 18 b; refine (f18_E (some ad) c0 A1 c1 A2 c2 h x b false HBB.out HWB.out HWF.out hhN _ _ (Kd.F_below HFw7.out (by repeat (first | exact Below.refl _ _ | apply below_alloc | apply below_drew1 | apply pw_below_drewN)))).mono ?_; rintro e w8 ⟨rfl, hb⟩; have HBw8 : Aside0 (Below w6.heap.size w6 w8) := ⟨HBw7.out.trans ((Below.trans (by repeat (first | exact Below.refl _ _ | apply below_alloc | apply below_drew1 | apply pw_below_drewN)) (hb.mono (by first | exact Nat.le_refl _ | (simp; done) | (simp; omega))) : Below w7.heap.size w7 w8).mono (by omega))⟩; have hzw8 := HBw8.out.size; clear hb))
                    all_goals
                      go_roundg k1
                      case measure => omega
                      case rel => exact ⟨n2 + 1, _, rfl, int_eq (by omega), by omega, ⟨by rw [HSU.out, HFB.out, HBA.out, HBB.out]; rfl⟩, ⟨by have := HK2.out; omega⟩, HBw8⟩
                | true =>
                  have hne : (x == bs) = false := by
                    rw [beq_eq_false_iff_ne]; rintro rfl
                    have h_ := (mb_some HN.out.o0 HMB.out).2.1
                    have h2_ := HBB.out
                    simp [h_] at h2_
                  cases fb with
                  | false =>
                    go_wp2_with (first | (go_at_call_of 18 a; refine (f18_E (some ad) c0 A1 c1 A2 c2 h x a true HBA.out HWA.out HWF.out hhN _ _ (Kd.F_below HFwr.out (by repeat (first | exact Below.refl _ _ | apply below_alloc | apply below_drew1 | apply pw_below_drewN)))).mono ?_; rintro e w7 ⟨rfl, hb⟩; have HBw7 : Aside0 (Below w6.heap.size w6 w7) := ⟨HB2.out.trans ((Below.trans (by repeat (first | exact Below.refl _ _ | apply below_alloc | apply below_drew1 | apply pw_below_drewN)) (hb.mono (by first | exact Nat.le_refl _ | (simp; done) | (simp; omega))) : Below wr.heap.size wr w7).mono (by omega))⟩; have hzw7 := HBw7.out.size; clear hb; have HFw7 := Aside0.mk (Kd.F_below HF6.out HBw7.out); clear a0 a1 a2 a3 p0 p1 p2 p3 hx6; obtain ⟨⟨a0, a1, a2, a3⟩, p0, p1, p2, p3⟩ := blk4 ((HBw7.out.block _ (by omega)).trans BH6.out); have hr7 : w1.heap.size < w7.heap.size := (by omega)) | (go_at_call_of 18 b; refine (f18_E (some ad) c0 A1 c1 A2 c2 h x b false HBB.out HWB.out HWF.out hhN _ _ (Kd.F_below HFw7.out (by repeat (first | exact Below.refl _ _ | apply below_alloc | apply below_drew1 | apply pw_below_drewN)))).mono ?_; rintro e w8 ⟨rfl, hb⟩; have HBw8 : Aside0 (Below w6.heap.size w6 w8) := ⟨HBw7.out.trans ((Below.trans (by repeat (first | exact Below.refl _ _ | apply below_alloc | apply below_drew1 | apply pw_below_drewN)) (hb.mono (by first | exact Nat.le_refl _ | (simp; done) | (simp; omega))) : Below w7.heap.size w7 w8).mono (by omega))⟩; have hzw8 := HBw8.out.size; clear hb))
                    all_goals
                      go_roundg k1
                      case measure => omega
                      case rel => exact ⟨n2 + 1, _, rfl, int_eq (by omega), by omega, ⟨by rw [HSU.out, HFB.out, HBA.out, HBB.out]; rfl⟩, ⟨by have := HK2.out; omega⟩, HBw8⟩
                  | true =>
                    go_wp2_with (first | (go_at_call_of 18 a; refine (f18_E (some ad) c0 A1 c1 A2 c2 h x a true HBA.out HWA.out HWF.out hhN _ _ (Kd.F_below HFwr.out (by repeat (first | exact Below.refl _ _ | apply below_alloc | apply below_drew1 | apply pw_below_drewN)))).mono ?_; rintro e w7 ⟨rfl, hb⟩; have HBw7 : Aside0 (Below w6.heap.size w6 w7) := ⟨HB2.out.trans ((Below.trans (by repeat (first | exact Below.refl _ _ | apply below_alloc | apply below_drew1 | apply pw_below_drewN)) (hb.mono (by first | exact Nat.le_refl _ | (simp; done) | (simp; omega))) : Below wr.heap.size wr w7).mono (by omega))⟩; have hzw7 := HBw7.out.size; clear hb; have HFw7 := Aside0.mk (Kd.F_below HF6.out HBw7.out); clear a0 a1 a2 a3 p0 p1 p2 p3 hx6; obtain ⟨⟨a0, a1, a2, a3⟩, p0, p1, p2, p3⟩ := blk4 ((HBw7.out.block _ (by omega)).trans BH6.out); have hr7 : w1.heap.size < w7.heap.size := (by omega)) | (go_at_call_of 18 b; refine (f18_E (some ad) c0 A1 c1 A2 c2 h x b false HBB.out HWB.out HWF.out hhN _ _ (Kd.F_below HFw7.out (by repeat (first | exact Below.refl _ _ | apply below_alloc | apply below_drew1 | apply pw_below_drewN)))).mono ?_; rintro e w8 ⟨rfl, hb⟩; have HBw8 : Aside0 (Below w6.heap.size w6 w8) := ⟨HBw7.out.trans ((Below.trans (by repeat (first | exact Below.refl _ _ | apply below_alloc | apply below_drew1 | apply pw_below_drewN)) (hb.mono (by first | exact Nat.le_refl _ | (simp; done) | (simp; omega))) : Below w7.heap.size w7 w8).mono (by omega))⟩; have hzw8 := HBw8.out.size; clear hb))
                    all_goals
                      go_roundg k1
                      case measure => omega
                      case rel => exact ⟨n2 + 1, _, rfl, int_eq (by omega), by omega, ⟨by rw [HSU.out, HFB.out, HBA.out, HBB.out]; rfl⟩, ⟨by have := HK2.out; omega⟩, HBw8⟩
              | true =>
                cases okb with
                | false =>
                  have h_ := mb_none HMB.out x (by simpa using HBB.out)
                  exact absurd (by simpa using HBA.out) h_
                | true =>
                  have hle := (mb_some HN.out.o0 HMB.out).2.2 x (by simpa using HBA.out) (by simpa using HBB.out)
                  have hlb : decide (bs < x) = false := decide_eq_false (by omega)
                  clear hle
                  cases fb with
                  | false =>
                    go_wp2_with (first | (go_at_call_of 18 a; refine (f18_E (some ad) c0 A1 c1 A2 c2 h x a true HBA.out HWA.out HWF.out hhN _ _ (Kd.F_below HFwr.out (by repeat (first | exact Below.refl _ _ | apply below_alloc | apply below_drew1 | apply pw_below_drewN)))).mono ?_; rintro e w7 ⟨rfl, hb⟩; have HBw7 : Aside0 (Below w6.heap.size w6 w7) := ⟨HB2.out.trans ((Below.trans (by repeat (first | exact Below.refl _ _ | apply below_alloc | apply below_drew1 | apply pw_below_drewN)) (hb.mono (by first | exact Nat.le_refl _ | (simp; done) | (simp; omega))) : Below wr.heap.size wr w7).mono (by omega))⟩; have hzw7 := HBw7.out.size; clear hb; have HFw7 := Aside0.mk (Kd.F_below HF6.out HBw7.out); clear a0 a1 a2 a3 p0 p1 p2 p3 hx6; obtain ⟨⟨a0, a1, a2, a3⟩, p0, p1, p2, p3⟩ := blk4 ((HBw7.out.block _ (by omega)).trans BH6.out); have hr7 : w1.heap.size < w7.heap.size := (by omega)) | (go_at_call_of 18 b; refine (f18_E (some ad) c0 A1 c1 A2 c2 h x b true HBB.out HWB.out HWF.out hhN _ _ (Kd.F_below HFw7.out (by repeat (first | exact Below.refl _ _ | apply below_alloc | apply below_drew1 | apply pw_below_drewN)))).mono ?_; rintro e w8 ⟨rfl, hb⟩; have HBw8 : Aside0 (Below w6.heap.size w6 w8) := ⟨HBw7.out.trans ((Below.trans (by repeat (first | exact Below.refl _ _ | apply below_alloc | apply below_drew1 | apply pw_below_drewN)) (hb.mono (by first | exact Nat.le_refl _ | (simp; done) | (simp; omega))) : Below w7.heap.size w7 w8).mono (by omega))⟩; have hzw8 := HBw8.out.size; clear hb))
                    all_goals
                      go_roundg k1
                      case measure => omega
                      case rel => exact ⟨n2 + 1, _, rfl, int_eq (by omega), by omega, ⟨by rw [HSU.out, HFB.out, HBA.out, HBB.out]; rfl⟩, ⟨by have := HK2.out; omega⟩, HBw8⟩
                  | true =>
                    go_wp2_with (first | (go_at_call_of 18 a; refine (f18_E (some ad) c0 A1 c1 A2 c2 h x a true HBA.out HWA.out HWF.out hhN _ _ (Kd.F_below HFwr.out (by repeat (first | exact Below.refl _ _ | apply below_alloc | apply below_drew1 | apply pw_below_drewN)))).mono ?_; rintro e w7 ⟨rfl, hb⟩; have HBw7 : Aside0 (Below w6.heap.size w6 w7) := ⟨HB2.out.trans ((Below.trans (by repeat (first | exact Below.refl _ _ | apply below_alloc | apply below_drew1 | apply pw_below_drewN)) (hb.mono (by first | exact Nat.le_refl _ | (simp; done) | (simp; omega))) : Below wr.heap.size wr w7).mono (by omega))⟩; have hzw7 := HBw7.out.size; clear hb; have HFw7 := Aside0.mk (Kd.F_below HF6.out HBw7.out); clear a0 a1 a2 a3 p0 p1 p2 p3 hx6; obtain ⟨⟨a0, a1, a2, a3⟩, p0, p1, p2, p3⟩ := blk4 ((HBw7.out.block _ (by omega)).trans BH6.out); have hr7 : w1.heap.size < w7.heap.size := (by omega)) | (go_at_call_of 18 b; refine (f18_E (some ad) c0 A1 c1 A2 c2 h x b true HBB.out HWB.out HWF.out hhN _ _ (Kd.F_below HFw7.out (by repeat (first | exact Below.refl _ _ | apply below_alloc | apply below_drew1 | apply pw_below_drewN)))).mono ?_; rintro e w8 ⟨rfl, hb⟩; have HBw8 : Aside0 (Below w6.heap.size w6 w8) := ⟨HBw7.out.trans ((Below.trans (by repeat (first | exact Below.refl _ _ | apply below_alloc | apply below_drew1 | apply pw_below_drewN)) (hb.mono (by first | exact Nat.le_refl _ | (simp; done) | (simp; omega))) : Below w7.heap.size w7 w8).mono (by omega))⟩; have hzw8 := HBw8.out.size; clear hb))
                    all_goals
                      go_roundg k1
                      case measure => omega
                      case rel => exact ⟨n2 + 1, _, rfl, int_eq (by omega), by omega, ⟨by rw [HSU.out, HFB.out, HBA.out, HBB.out]; rfl⟩, ⟨by have := HK2.out; omega⟩, HBw8⟩
        · obtain rfl : n2 = h.f0.length := by omega
          have hfo : fb = okb := HFB.out.symm.trans (fndB_mb HN.out.o0 HMB.out)
          obtain ⟨r, hr_⟩ : ∃ r, (ancS h.f0 b).contains a = r := ⟨_, rfl⟩
          have HR_ := Aside0.mk hr_
          cases fb with
          | false =>
            cases okb with
            | true => cases hfo
            | false =>
              clear hfo
              cases r with
              | true => exact absurd HRA.out (mb_none HMB.out a (by simpa using hr_))
              | false =>
                clear hr_
                go_wp2_with (first | (go_at_call_of 18 b; refine (f18_E (some ad) c0 A1 c1 A2 c2 h a b false HR_.out HWB.out HWF.out hhN _ _ (Kd.F_below HFwr.out (by repeat (first | exact Below.refl _ _ | apply below_alloc | apply below_drew1 | apply pw_below_drewN)))).mono ?_; rintro e w9 ⟨rfl, hb⟩; have HBw9 : Aside0 (Below w6.heap.size w6 w9) := ⟨HB2.out.trans ((Below.trans (by repeat (first | exact Below.refl _ _ | apply below_alloc | apply below_drew1 | apply pw_below_drewN)) (hb.mono (by first | exact Nat.le_refl _ | (simp; done) | (simp; omega))) : Below wr.heap.size wr w9).mono (by omega))⟩; have hzw9 := HBw9.out.size; clear hb) | (go_at_call 9; refine (H9.out _).mono ?_; rintro e wz ⟨rfl, hb⟩; have HBz := Aside0.mk ((HBW6.out.trans (HBw9.out.mono (by omega))).trans (hb.mono (by omega))); clear hb))
                go_ret
                exact ⟨rfl, HBz.out⟩
          | true =>
            cases okb with
            | false => cases hfo
            | true =>
              clear hfo
              cases r with
              | true =>
                have hle1 : bs ≤ a := anc_le h.f0 a (good_rd HGD.out) h.f0.length _ (Nat.le_refl _) (fun y hy => by simp at hy; omega) bs (mb_some HN.out.o0 HMB.out).1
                have hge1 : a ≤ bs := (mb_some HN.out.o0 HMB.out).2.2 a HRA.out (by simpa using hr_)
                have hqe : (bs == a) = true := by rw [beq_iff_eq]; omega
                clear hle1 hge1 hr_
                go_wp2_with (first | (go_at_call_of 18 b; refine (f18_E (some ad) c0 A1 c1 A2 c2 h a b true HR_.out HWB.out HWF.out hhN _ _ (Kd.F_below HFwr.out (by repeat (first | exact Below.refl _ _ | apply below_alloc | apply below_drew1 | apply pw_below_drewN)))).mono ?_; rintro e w9 ⟨rfl, hb⟩; have HBw9 : Aside0 (Below w6.heap.size w6 w9) := ⟨HB2.out.trans ((Below.trans (by repeat (first | exact Below.refl _ _ | apply below_alloc | apply below_drew1 | apply pw_below_drewN)) (hb.mono (by first | exact Nat.le_refl _ | (simp; done) | (simp; omega))) : Below wr.heap.size wr w9).mono (by omega))⟩; have hzw9 := HBw9.out.size; clear hb) | (go_at_call 9; refine (H9.out _).mono ?_; rintro e wz ⟨rfl, hb⟩; have HBz := Aside0.mk ((HBW6.out.trans (HBw9.out.mono (by omega))).trans (hb.mono (by omega))); clear hb))
                go_ret
                exact ⟨rfl, HBz.out⟩
              | false =>
                clear hr_
                go_wp2_with (first | (go_at_call_of 18 b; refine (f18_E (some ad) c0 A1 c1 A2 c2 h a b false HR_.out HWB.out HWF.out hhN _ _ (Kd.F_below HFwr.out (by repeat (first | exact Below.refl _ _ | apply below_alloc | apply below_drew1 | apply pw_below_drewN)))).mono ?_; rintro e w9 ⟨rfl, hb⟩; have HBw9 : Aside0 (Below w6.heap.size w6 w9) := ⟨HB2.out.trans ((Below.trans (by repeat (first | exact Below.refl _ _ | apply below_alloc | apply below_drew1 | apply pw_below_drewN)) (hb.mono (by first | exact Nat.le_refl _ | (simp; done) | (simp; omega))) : Below wr.heap.size wr w9).mono (by omega))⟩; have hzw9 := HBw9.out.size; clear hb) | (go_at_call 9; refine (H9.out _).mono ?_; rintro e wz ⟨rfl, hb⟩; have HBz := Aside0.mk ((HBW6.out.trans (HBw9.out.mono (by omega))).trans (hb.mono (by omega))); clear hb))
                go_ret
                exact ⟨rfl, HBz.out⟩
end Go.Proofs.Ytjeoabjccbinhaa.P

namespace Go.Proofs.Ytjeoabjccbinhaa.P
open Go.RowKit Go.Proofs.YtjeoabjccbinhaaW.PrintWords
theorem f5_row (A : Option Addr) (c : Nat) (l : List S32) (i k : Int) (w : World) (hr : Kd.C k32 w A l.length l) (hc : l.length ≤ c) (hg : l.length * 56 ≤ 140737488351232 ∧ ∀ y ∈ l, G32 y) :
    Calls Try.prog 5 #[.slice A l.length c, .int .i64 i, .int .i64 k] w fun e w' => e = .returned (.bool true) ∧ Below w.heap.size w w' :=
  f5_calls A c l i k w hr hc (by omega) hg.2
end Go.Proofs.Ytjeoabjccbinhaa.P
