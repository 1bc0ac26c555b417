/- What Go functions of the given program return, told as Lean functions, and the walks that show it, with plain facts on them: H18. Conditions: the hypotheses that stand at each theorem. -/
import Derived.Test.YtackcingpffidaaZe0
import Derived.Test.YtackcingpffidaaZe1
import Derived.Test.YtackcingpffidaaZe2
import Derived.Test.YtackcingpffidaaZe3
namespace Go.Proofs.Ytackcingpffidaa.P
open Go.RowKit Go.Proofs.YtackcingpffidaaW.PrintWords Go.Proofs.YtackcingpffidaaW.PrintLast Go.Proofs.YtackcingpffidaaW.PrintMore
set_option linter.unusedVariables false
set_option linter.unusedSimpArgs false
def f18_T34 : Bool × List (List Nat × List Nat) := (true, [([], []), ([0], [0]), ([], []), ([], []), ([2, 3], [2, 3]), ([4], [4]), ([5], [5]), ([1, 6], [1, 6]), ([0, 1, 2, 3, 4, 5, 6, 7], []), ([8, 7, 7, 0, 1, 2, 3, 4, 5, 6, 7], [7, 8])])
def f18_B34 : List Nat := [0, 1, 0, 0, 12, 28, 60, 127, 255, 511]
set_option maxRecDepth 100000 in
theorem f18_tab34 : rtab .any (opsOf Try.f18 34) = f18_T34 := by kernel_rfl
theorem f18_bits34 : waitsOk f18_T34.2 f18_B34 = true := by kernel_rfl
def f18_T19 : Bool × List (List Nat × List Nat) := (true, [([], []), ([], []), ([], []), ([1, 2], [1, 2]), ([0], [0]), ([4, 3], [3, 4]), ([5], [5]), ([6], [6]), ([0], [0]), ([8, 3, 0, 1, 2, 3, 4, 5, 6, 7], [3, 8]), ([9, 7, 3, 0, 1, 2, 3, 4, 5, 6, 7], [7, 9])])
def f18_B19 : List Nat := [0, 0, 0, 6, 1, 31, 63, 127, 1, 511, 1023]
set_option maxRecDepth 100000 in
theorem f18_tab19 : rtab .any (opsOf Try.f18 19) = f18_T19 := by kernel_rfl
theorem f18_bits19 : waitsOk f18_T19.2 f18_B19 = true := by kernel_rfl
def f18_T28 : Bool × List (List Nat × List Nat) := (true, [([], []), ([0], [0]), ([1], [1]), ([2], [2]), ([3, 2], [2, 3]), ([2], [2]), ([5, 2], [2, 5]), ([4, 6, 2], [2, 4, 6]), ([7, 2], [2, 7]), ([2], [2]), ([2], [2]), ([9, 10, 2], [2, 9, 10]), ([11, 2], [2, 11]), ([8, 12, 2, 2], [2, 8, 12]), ([2, 13], [2, 13])])
def f18_B28 : List Nat := [0, 1, 3, 7, 15, 7, 39, 127, 255, 7, 7, 1543, 3591, 8191, 16383]
set_option maxRecDepth 100000 in
theorem f18_tab28 : rtab .any (opsOf Try.f18 28) = f18_T28 := by kernel_rfl
theorem f18_bits28 : waitsOk f18_T28.2 f18_B28 = true := by kernel_rfl
def f18_T30 : Bool × List (List Nat × List Nat) := (true, [([], []), ([0], [0]), ([1], [1]), ([2], [2]), ([2], [2]), ([4, 2], [2, 4]), ([3, 5, 2], [2, 3, 5]), ([6, 2], [2, 6]), ([2], [2]), ([2], [2]), ([8, 9, 2], [2, 8, 9]), ([10, 2], [2, 10]), ([7, 11, 2, 2], [2, 7, 11]), ([2, 12], [2, 12])])
def f18_B30 : List Nat := [0, 1, 3, 7, 7, 23, 63, 127, 7, 7, 775, 1799, 4095, 8191]
set_option maxRecDepth 100000 in
theorem f18_tab30 : rtab .any (opsOf Try.f18 30) = f18_T30 := by kernel_rfl
theorem f18_bits30 : waitsOk f18_T30.2 f18_B30 = true := by kernel_rfl
def f18_T32 : Bool × List (List Nat × List Nat) := (true, [([], []), ([], []), ([1], [1]), ([0, 2], [0, 2]), ([3], [3]), ([4], [4]), ([4], [4]), ([5, 6, 4], [4, 5, 6]), ([7, 4], [4, 7]), ([4], [4]), ([4], [4]), ([9, 10, 4], [4, 9, 10]), ([11, 4], [4, 11]), ([8, 12, 4, 4], [4, 8, 12]), ([4, 13], [4, 13])])
def f18_B32 : List Nat := [0, 0, 2, 7, 15, 31, 31, 127, 255, 31, 31, 1567, 3615, 8191, 16383]
set_option maxRecDepth 100000 in
theorem f18_tab32 : rtab .any (opsOf Try.f18 32) = f18_T32 := by kernel_rfl
theorem f18_bits32 : waitsOk f18_T32.2 f18_B32 = true := by kernel_rfl
set_option maxHeartbeats 4000000 in
set_option maxRecDepth 100000 in
theorem f18_calls (rs : List Int → Option (List Int)) (hS : Sorts rs) (hlen : ∀ l r, rs l = some r → r.length = l.length) (k : Nat) (A : Option Addr) (c : Nat) (l : List S39) (w : World) (hr : Kd.C k39 w A l.length l) (hc : l.length ≤ c) (hn : l.length ≤ 100000)
  (T : List S39) (hs cs rr sp : List Int) (bb : Bool) (F : List S39) (R : List Int) (hT : sortV (someS l) = T) (hhs : hashS k T = some hs) (hcs : counts k T (List.replicate 256 0) = some cs) (hsm : smallS rs hs = some (rr, bb)) (hsp : sketch_spread.f k (T.length : Int) = some sp) (hF : fenceS T sp [] [] = (F, R)) (hspl : sp.length ≤ 1000) (hsr : ∀ j : Nat, j < sp.length → 0 ≤ rd sp j ∧ rd sp j < T.length) :
  Calls Try.prog 18 #[.slice A l.length c] w fun e w' => ∃ v2_ v4_ v5_ v6_ : Value, e = .returned (.agg #[.int .i64 l.length, .int .i64 ((l.length : Int) - (T.length : Int)), v2_, .bool bb, v4_, v5_, v6_]) ∧ Kd.R (Kd.int .u64) 53 w' w.heap.size (fun _ => True) v2_ rr ∧ Kd.R (Kd.int .i64) 3 w' w.heap.size (fun k_ => some k_ ≠ (v6_ : Value).ownBlock) v4_ cs ∧ Kd.R k39 39 w' w.heap.size (fun _ => True) v5_ F ∧ Kd.R (Kd.int .i64) 3 w' w.heap.size (fun k_ => some k_ ≠ (v4_ : Value).ownBlock) v6_ R ∧ Below w.heap.size w w' := by
 have HT := Aside0.mk hT
 have HHS := Aside0.mk hhs
 have HCS := Aside0.mk hcs
 have HSM := Aside0.mk hsm
 have HSP := Aside0.mk hsp
 have HF := Aside0.mk hF
 have HSR := Aside0.mk hsr
 have HSRT := Aside0.mk (And.intro hS hlen)
 clear hT hhs hcs hsm hsp hF hS hlen hsr
 have HR := Aside0.mk hr
 clear hr
 go_enter Try.func18, Try.ntmps18
 go_wp2_with ((with_reducible refine gate_dst (N := 2) rfl ?_); refine box_ 2 (cs := #[.int .i64 0, .int .i64 0, .slice none 0 0, .bool false, .slice none 0 0, .slice none 0 0, .slice none 0 0]) (t := 26) ?_; intro g2 hg_ w1 hbox hb; have B2 := Aside0.mk hbox; have HB := Aside0.mk hb; have HG2 := Aside0.mk hg_; clear hb hbox hg_)
 have HN2 : Aside0 (w.heap.size = g2) := ⟨HG2.out.symm⟩
 clear HG2
 go_loopg [3, 19] l.length (fun kq v3 v19 w' => ∃ i : Nat, v19 = .int .i64 i ∧ i ≤ l.length ∧ Aside0 (kq + i = l.length) ∧ Aside0 (Kd.R k39 39 w' w.heap.size (fun b => b ≠ g2) v3 (someS (l.take i))) ∧ Aside0 (w'.heap[g2]? = some (.cells #[.int .i64 0, .int .i64 0, .slice none 0 0, .bool false, .slice none 0 0, .slice none 0 0, .slice none 0 0] 26 (0, 0))) ∧ Aside0 (Below w.heap.size w w'))
 case atStart => exact ⟨0, rfl, Nat.zero_le _, ⟨by omega⟩, ⟨by rw [List.take_zero]; exact Kd.R_nil _ _ _ _ _⟩, B2, HB⟩
 case round =>
  clear B2 HB
  obtain ⟨i, rfl, hi, HK, HO, B2, HB⟩ := hrel
  by_cases hl : i < l.length
  ·cases gk with
   | zero => exact absurd HK.out (by omega)
   | succ k1 =>
    obtain ⟨ad, rfl, hx0, hx1, hx2⟩ := at_T39 HR.out (i : Int) (by omega) (by omega)
    rw [Int.toNat_natCast] at hx0 hx1 hx2
    replace hx0 := up_ HB.out hx0
    replace hx1 := up_ HB.out hx1
    replace hx2 := up_ HB.out hx2
    obtain ⟨x, hxx⟩ : ∃ x, rd_T39 l i = x := ⟨_, rfl⟩
    rw [hxx] at hx0 hx1 hx2
    have HTK : Aside0 (someS (l.take (i + 1)) = someS (l.take i) ++ (if x.f0 == 0 then [] else [x])) := ⟨by
     have hg : l[i] = x := by rw [← hxx]; unfold rd_T39; rw [Int.toNat_natCast, List.getD_eq_getElem?_getD, List.getElem?_eq_getElem hl]; rfl
     rw [List.take_succ_eq_append_getElem hl, hg]
     unfold someS
     rw [List.filter_append, List.filter_cons, List.filter_nil]
     cases x.f0 == 0 <;> rfl⟩
    have hd1 : decide ((i : Int) < l.length) = true := decide_eq_true (by omega)
    have hwi : IntKind.i64.wrap ((i : Int) + 1) = ((i + 1 : Nat) : Int) := by rw [i64_w]; unfold wrap64; omega
    clear hxx
    go_upto_region 5 with (fail)
    have BKa := Aside0.mk (blk_alloc B2.out (.cells #[.int .i64 x.f0, .int .i64 x.f1, .string x.f2] 39))
    have BNa := Aside0.mk (heap_alloc_new wr (.cells #[.int .i64 x.f0, .int .i64 x.f1, .string x.f2] 39))
    have HBa := Aside0.mk (below_alloc HB.out (.cells #[.int .i64 x.f0, .int .i64 x.f1, .string x.f2] 39))
    have HOa := Aside0.mk (Kd.R_alloc HO.out (.cells #[.int .i64 x.f0, .int .i64 x.f1, .string x.f2] 39))
    obtain ⟨wa, hwa⟩ : ∃ wa, wr.alloc (.cells #[.int .i64 x.f0, .int .i64 x.f1, .string x.f2] 39) = wa := ⟨_, rfl⟩
    rw [hwa] at BKa BNa HBa HOa ⊢
    clear hwa hx0 hx1 hx2 HO B2 HB
    generalize wr.heap.size = g5 at *
    have p0 : wa.cell? ⟨g5, 0, none⟩ = some (.int .i64 x.f0) := (blk_cell BNa.out 0).trans rfl
    have p1 : wa.cell? ⟨g5, 1, none⟩ = some (.int .i64 x.f1) := (blk_cell BNa.out 1).trans rfl
    have p2 : wa.cell? ⟨g5, 2, none⟩ = some (.string x.f2) := (blk_cell BNa.out 2).trans rfl
    cases hz : x.f0 == 0 with
    | true =>
     have hz2 : (x.f0 != 0) = false := by simp [bne, hz]
     have HT : Aside0 (someS (l.take (i + 1)) = someS (l.take i)) := ⟨by rw [HTK.out, hz]; simp⟩
     clear hz
     go_wp2
     go_roundg k1
     case measure => omega
     case rel => exact ⟨i + 1, int_eq (by omega), by omega, ⟨by have := HK.out; omega⟩, ⟨by rw [HT.out]; exact HOa.out⟩, BKa, HBa⟩
    | false =>
     have hz2 : (x.f0 != 0) = true := by simp [bne, hz]
     have HT : Aside0 (someS (l.take (i + 1)) = someS (l.take i) ++ [x]) := ⟨by rw [HTK.out, hz]; simp⟩
     have hsl : (someS (l.take i)).length ≤ 100000 := by
      have h1 : (someS (l.take i)).length ≤ (l.take i).length := List.length_filter_le _ _
      rw [List.length_take] at h1
      omega
     have hszb := below_size HBa.out
     have hl2 := blk_lt BKa.out
     have hN2 := HN2.out
     clear hz HTK
     go_wp2_with ((with_reducible refine gate_builtin (b := .append) (xs := #[.tmp 26, .tmp 28]) rfl ?_); at_builtin; refine Kd.R_append k39 (w0 := w) w.heap.size rfl (.tmp 26) (.tmp 28) 24 39 (.agg #[(.int .i64 0), (.int .i64 0), (.string ⟨#[]⟩)]) 32 rfl Try.underlying24 info39 rfl (by decide) (by omega) _ (someS (l.take i)) x [.int .i64 x.f0, .int .i64 x.f1, .string x.f2] (fun b => b ≠ g2) (fun _ => False) rfl rfl ?aP1 (fun _ hk => hk.elim) ?aF1 ?aO1 ?aB1 ?aS1 ?aL1 ?_; (case aP1 => exact k39_mkM _ _ _ x); (case aB1 => exact HBa.out); (case aF1 => (intro k hk; omega)); (case aO1 => exact HOa.out); (case aS1 => omega); (case aL1 => omega); intro v7 w7 ho hb hg hat; have HO7 := Aside0.mk ho; have HB7 := Aside0.mk hb; have B27 : Aside0 (w7.heap[g2]? = some (.cells #[.int .i64 0, .int .i64 0, .slice none 0 0, .bool false, .slice none 0 0, .slice none 0 0, .slice none 0 0] 26 (0, 0))) := ⟨(hg.block _ hl2 (fun h_ => HOa.out.1 g2 h_.symm rfl)).trans BKa.out⟩; clear ho hb hg hat)
     go_roundg k1
     case measure => omega
     case rel => exact ⟨i + 1, int_eq (by omega), by omega, ⟨by have := HK.out; omega⟩, ⟨by rw [HT.out]; exact HO7.out⟩, B27, HB7⟩
  ·obtain rfl : i = l.length := by omega
   cases gk with
   | succ k1 => exact absurd HK.out (by omega)
   | zero =>
   have hd1 : decide ((l.length : Int) < l.length) = false := decide_eq_false (by omega)
   rw [List.take_length] at HO
   obtain ⟨S, hS⟩ : ∃ S, someS l = S := ⟨_, rfl⟩
   rw [hS] at HO
   have hSl : S.length ≤ l.length := by rw [← hS]; exact List.length_filter_le _ _
   have HSE := Aside0.mk hS
   clear hS HK
   obtain ⟨A3, c3, rfl⟩ := Kd.R_slice HO.out
   have hg2 := blk_lt B2.out
   have hN2 := HN2.out
   go_upto_region 9 with (go_at_call 52; refine (f52_own HO.out (by omega)).mono ?_; rintro e w3 ⟨rfl, hO, hg⟩; have HO3 := Aside0.mk hO; have B23 : Aside0 (w3.heap[g2]? = some (.cells #[.int .i64 0, .int .i64 0, .slice none 0 0, .bool false, .slice none 0 0, .slice none 0 0, .slice none 0 0] 26 (0, 0))) := ⟨(hg.block _ hg2 (fun h_ => HO.out.1 g2 h_.symm rfl)).trans B2.out⟩; have HB3 := Aside0.mk (HB.out.grown hg (below_size HB.out) (fun b hb_ => Kd.R_base HO.out b hb_)); clear hO hg)
   clear HO B2 HB hg2
   have hT' : sortV S = T := by rw [← HSE.out]; exact HT.out
   rw [hT'] at HO3
   clear hT'
   have hTl : S.length = T.length := by rw [← HT.out, sortV_len, HSE.out]
   rw [hTl] at HO3 hSl ⊢
   clear hTl HT HSE S
   have hwn : IntKind.i64.wrap ((l.length : Int) - (T.length : Int)) = (l.length : Int) - (T.length : Int) := by rw [i64_w]; unfold wrap64; omega
   have hg2 := blk_lt B23.out
   go_upto_region 10 with (fail)
   have B2a := Aside0.mk (blk_alloc B23.out (.cells #[.int .i64 l.length, .int .i64 ((l.length : Int) - (T.length : Int)), .slice none 0 0, .bool false, .slice none 0 0, .slice none 0 0, .slice none 0 0] 26))
   have B6a := Aside0.mk (heap_alloc_new w3 (.cells #[.int .i64 l.length, .int .i64 ((l.length : Int) - (T.length : Int)), .slice none 0 0, .bool false, .slice none 0 0, .slice none 0 0, .slice none 0 0] 26))
   have HBa := Aside0.mk (below_alloc HB3.out (.cells #[.int .i64 l.length, .int .i64 ((l.length : Int) - (T.length : Int)), .slice none 0 0, .bool false, .slice none 0 0, .slice none 0 0, .slice none 0 0] 26))
   have HOa : Aside0 (Kd.R k39 39 (w3.alloc (.cells #[.int .i64 l.length, .int .i64 ((l.length : Int) - (T.length : Int)), .slice none 0 0, .bool false, .slice none 0 0, .slice none 0 0, .slice none 0 0] 26)) w.heap.size (fun _ => True) (.slice A3 T.length c3) T) := ⟨Kd.R_alloc (Kd.R_mono HO3.out (fun _ _ => trivial)) (.cells #[.int .i64 l.length, .int .i64 ((l.length : Int) - (T.length : Int)), .slice none 0 0, .bool false, .slice none 0 0, .slice none 0 0, .slice none 0 0] 26)⟩
   obtain ⟨wa, hwa⟩ : ∃ wa, w3.alloc (.cells #[.int .i64 l.length, .int .i64 ((l.length : Int) - (T.length : Int)), .slice none 0 0, .bool false, .slice none 0 0, .slice none 0 0, .slice none 0 0] 26) = wa := ⟨_, rfl⟩
   rw [hwa] at B2a B6a HBa HOa ⊢
   clear hwa HO3 B23 HB3
   generalize w3.heap.size = g6 at *
   go_upto_region 11 with (fail)
   have hg6 := blk_lt B6a.out
   rw [cnt_zero]
   have B2b := Aside0.mk (blk_alloc B2a.out (cntO (List.replicate 256 0)))
   have B6b := Aside0.mk (blk_alloc B6a.out (cntO (List.replicate 256 0)))
   have B7b := Aside0.mk (heap_alloc_new wa (cntO (List.replicate 256 0)))
   have HBb := Aside0.mk (below_alloc HBa.out (cntO (List.replicate 256 0)))
   have HOb := Aside0.mk (Kd.R_alloc HOa.out (cntO (List.replicate 256 0)))
   obtain ⟨wb, hwb⟩ : ∃ wb, wa.alloc (cntO (List.replicate 256 0)) = wb := ⟨_, rfl⟩
   rw [hwb] at B2b B6b B7b HBb HOb ⊢
   clear hwb HOa B2a B6a HBa
   generalize wa.heap.size = g7 at *
   clear wa
   go_wp2
   go_loopg [8, 43] T.length (fun kq v8 v43 w' => ∃ (i : Nat) (cur : List Int), v43 = .int .i64 i ∧ i ≤ T.length ∧ Aside0 (kq + i = T.length) ∧ Aside0 (Kd.R (Kd.int .u64) 53 w' w.heap.size (fun _ => True) v8 (hs.take i)) ∧ Aside0 (counts k (T.drop i) cur = some cs) ∧ Aside0 (cur.length = 256) ∧ Aside0 (w'.heap[g7]? = some (cntO cur)) ∧ Aside0 (w'.heap[g6]? = some (.cells #[.int .i64 l.length, .int .i64 ((l.length : Int) - (T.length : Int)), .slice none 0 0, .bool false, .slice none 0 0, .slice none 0 0, .slice none 0 0] 26)) ∧ Aside0 (w'.heap[g2]? = some (.cells #[.int .i64 0, .int .i64 0, .slice none 0 0, .bool false, .slice none 0 0, .slice none 0 0, .slice none 0 0] 26 (0, 0))) ∧ Aside0 (Kd.R k39 39 w' w.heap.size (fun _ => True) (.slice A3 T.length c3) T) ∧ Aside0 (Below w.heap.size w w'))
   case atStart => exact ⟨0, _, rfl, Nat.zero_le _, ⟨by omega⟩, ⟨by rw [List.take_zero]; exact Kd.R_nil _ _ _ _ _⟩, HCS, ⟨by simp⟩, B7b, B6b, B2b, HOb, HBb⟩
   case round =>
    clear B7b B6b B2b HOb HBb
    obtain ⟨i, cur, rfl, hi, HK, HH, HC, HCL, B7, B6, B2, HO, HB⟩ := hrel
    by_cases hl : i < T.length
    ·cases gk with
     | zero => exact absurd HK.out (by omega)
     | succ k1 =>
      obtain ⟨c2, hc2, hc3⟩ := counts_next hl HC.out
      have HC2 := Aside0.mk hc2
      have HC3 := Aside0.mk hc3
      have hv0 := hashS_at HHS.out i hl
      obtain ⟨ad, rfl, hx0, hx1, hx2⟩ := at_T39 (Kd.R_reads' HO.out).2.2 (i : Int) (by omega) (by omega)
      rw [Int.toNat_natCast] at hx0 hx1 hx2
      obtain ⟨x, hxx⟩ : ∃ x, rd_T39 T i = x := ⟨_, rfl⟩
      rw [hxx] at hx0 hx1 hx2 hv0 HC2
      have hdr := take_rd hs i (by rw [hashS_len HHS.out]; exact hl)
      obtain ⟨hv, hhv⟩ : ∃ v, rd hs i = v := ⟨_, rfl⟩
      rw [hhv] at hv0 hdr
      have HV := Aside0.mk hv0
      have HDR := Aside0.mk hdr
      have hd1 : decide ((i : Int) < T.length) = true := decide_eq_true (by omega)
      have hwi : IntKind.i64.wrap ((i : Int) + 1) = ((i + 1 : Nat) : Int) := by rw [i64_w]; unfold wrap64; omega
      clear hxx hhv hc2 hc3 hv0 hdr HC
      go_upto_region 15 with (fail)
      have B2a := Aside0.mk (blk_alloc B2.out (.cells #[.int .i64 x.f0, .int .i64 x.f1, .string x.f2] 39))
      have B6a := Aside0.mk (blk_alloc B6.out (.cells #[.int .i64 x.f0, .int .i64 x.f1, .string x.f2] 39))
      have B7a := Aside0.mk (blk_alloc B7.out (.cells #[.int .i64 x.f0, .int .i64 x.f1, .string x.f2] 39))
      have B10a := Aside0.mk (heap_alloc_new wr (.cells #[.int .i64 x.f0, .int .i64 x.f1, .string x.f2] 39))
      have HBa := Aside0.mk (below_alloc HB.out (.cells #[.int .i64 x.f0, .int .i64 x.f1, .string x.f2] 39))
      have HOa := Aside0.mk (Kd.R_alloc HO.out (.cells #[.int .i64 x.f0, .int .i64 x.f1, .string x.f2] 39))
      have HHa := Aside0.mk (Kd.R_alloc HH.out (.cells #[.int .i64 x.f0, .int .i64 x.f1, .string x.f2] 39))
      have hle6 := blk_lt B6.out
      have hle7 := blk_lt B7.out
      have hle2 := blk_lt B2.out
      obtain ⟨wa, hwa⟩ : ∃ wa, wr.alloc (.cells #[.int .i64 x.f0, .int .i64 x.f1, .string x.f2] 39) = wa := ⟨_, rfl⟩
      rw [hwa] at B2a B6a B7a B10a HBa HOa HHa ⊢
      clear hwa hx0 hx1 hx2 HO B2 HB B6 B7 HH
      generalize wr.heap.size = g10 at *
      have p0 : wa.cell? ⟨g10, 0, none⟩ = some (.int .i64 x.f0) := (blk_cell B10a.out 0).trans rfl
      have p1 : wa.cell? ⟨g10, 1, none⟩ = some (.int .i64 x.f1) := (blk_cell B10a.out 1).trans rfl
      have p2 : wa.cell? ⟨g10, 2, none⟩ = some (.string x.f2) := (blk_cell B10a.out 2).trans rfl
      have hs53 : (hs.take i).length ≤ 100000 := by rw [List.length_take]; omega
      obtain ⟨hp, hhp⟩ : ∃ p, hs.take i = p := ⟨_, rfl⟩
      have hdr := HDR.out
      rw [hhp] at hs53 HHa hdr
      clear HDR hhp
      have HDR := Aside0.mk hdr
      clear hdr
      have hszb := below_size HBa.out
      obtain ⟨A8, c8, rfl⟩ := Kd.R_slice HHa.out
      go_upto_region 16 with (first
       | (go_at_call 54; refine (hash1 k x hv HV.out (heap_alloc_new _ _)).mono ?_; rintro e w5 ⟨rfl, hb⟩; have B2b := Aside0.mk (blk_below (blk_alloc B2a.out _) hb); have B6b := Aside0.mk (blk_below (blk_alloc B6a.out _) hb); have B7b := Aside0.mk (blk_below (blk_alloc B7a.out _) hb); have B10b := Aside0.mk (blk_below (blk_alloc B10a.out _) hb); have HOb := Aside0.mk (Kd.R_below (Kd.R_alloc HOa.out _) hb); have HHb := Aside0.mk (Kd.R_below (Kd.R_alloc HHa.out _) hb); have HBb := Aside0.mk ((below_alloc HBa.out _).trans (hb.mono (below_size (below_alloc HBa.out _)))); have hszc := below_size HBb.out; clear hb p0 p1 p2 hszb; clear B2a B6a B7a B10a HOa HHa HBa)
       | ((with_reducible refine gate_builtin (b := .append) (xs := #[.tmp 47, .tmp 51]) rfl ?_); at_builtin; refine Kd.R_append (Kd.int .u64) (w0 := w) w.heap.size rfl (.tmp 47) (.tmp 51) 22 53 (.int .u64 0) 8 rfl Try.underlying22 info53 rfl (by decide) (by omega) (.slice A8 hp.length c8) hp hv [.int .u64 hv] (fun _ => True) (fun _ => False) rfl rfl ?aP1 (fun _ hk => hk.elim) ?aF1 ?aO1 ?aB1 ?aS1 ?aL1 ?_; (case aP1 => exact rfl); (case aB1 => exact HBb.out); (case aF1 => exact fun _ _ => trivial); (case aO1 => exact HHb.out); (case aS1 => exact hszc); (case aL1 => omega); intro v8 w7 ho hb hg hat; have HHc := Aside0.mk ho; have HBc := Aside0.mk hb; have B2c := Aside0.mk (blk_grown B2b.out hg (Kd.R_ne HHb.out B2b.out (by decide))); have B6c := Aside0.mk (blk_grown B6b.out hg (Kd.R_ne HHb.out B6b.out (by decide))); have B7c := Aside0.mk (blk_grown B7b.out hg (Kd.R_ne HHb.out B7b.out (by decide))); have B10c := Aside0.mk (blk_grown B10b.out hg (Kd.R_ne HHb.out B10b.out (by decide))); have HOc := Aside0.mk (Kd.R_over HOb.out HHb.out (by decide) hg); rw [← HDR.out] at HHc; clear ho hb hg hat B2b B6b B7b B10b HOb HHb HBb hszc))
      clear hd1 HDR HV hs53
      go_wp2
      go_loopg [53] 4 (fun kq v53 w' => ∃ (r : Nat) (cur : List Int), v53 = .int .i64 r ∧ r ≤ 4 ∧ Aside0 (kq + r = 4) ∧ Aside0 (bumps k x cur r kq = some c2) ∧ Aside0 (cur.length = 256) ∧ Aside0 (w'.heap[g7]? = some (cntO cur)) ∧ Aside0 (w'.heap[g6]? = some (.cells #[.int .i64 l.length, .int .i64 ((l.length : Int) - (T.length : Int)), .slice none 0 0, .bool false, .slice none 0 0, .slice none 0 0, .slice none 0 0] 26)) ∧ Aside0 (w'.heap[g2]? = some (.cells #[.int .i64 0, .int .i64 0, .slice none 0 0, .bool false, .slice none 0 0, .slice none 0 0, .slice none 0 0] 26 (0, 0))) ∧ Aside0 (w'.heap[g10]? = some (.cells #[.int .i64 x.f0, .int .i64 x.f1, .string x.f2] 39)) ∧ Aside0 (Kd.R k39 39 w' w.heap.size (fun _ => True) (.slice (some ad) T.length c3) T) ∧ Aside0 (Kd.R (Kd.int .u64) 53 w' w.heap.size (fun _ => True) v8 (hs.take (i + 1))) ∧ Aside0 (Below w.heap.size w w'))
      case atStart => exact ⟨0, cur, rfl, by omega, ⟨rfl⟩, HC2, HCL, B7c, B6c, B2c, B10c, HOc, HHc, HBc⟩
      case round =>
       clear HC2 HCL B7c B6c B2c B10c HOc HHc HBc
       obtain ⟨r, cur, rfl, hr4, HK2, HC2, HCL, B7, B6, B2, B10, HO, HH, HB⟩ := hrel
       by_cases hr : r < 4
       ·cases gk with
        | zero => exact absurd HK2.out (by omega)
        | succ k2 =>
         obtain ⟨cl, hcl, hc0, hc64, hbn⟩ := bumps_next HC2.out
         have HCE := Aside0.mk hcl
         have HBN := Aside0.mk hbn
         clear hcl hbn HC2
         have hri : (r : Int) < 4 := by omega
         have hrd : decide ((r : Int) < 4) = true := decide_eq_true (by omega)
         have hwr : IntKind.i64.wrap ((r : Int) + 1) = ((r + 1 : Nat) : Int) := by rw [i64_w]; unfold wrap64; omega
         obtain ⟨old, hold⟩ : ∃ v, cur.getD (r * 64 + cl.toNat) 0 = v := ⟨_, rfl⟩
         rw [hold] at HBN
         have HS : Aside0 (∀ W : World, W.heap[g7]? = some (cntO cur) → W.heap[g10]? = some (.cells #[.int .i64 x.f0, .int .i64 x.f1, .string x.f2] 39) → (W.cell? ⟨g10, 0, none⟩ = some (.int .i64 x.f0) ∧ W.cell? ⟨g10, 1, none⟩ = some (.int .i64 x.f1) ∧ W.cell? ⟨g10, 2, none⟩ = some (.string x.f2) ∧ W.cell? ⟨g7, r * 64 + cl.toNat, none⟩ = some (.int .i64 old))) := ⟨fun W h7 h10 => ⟨(blk_cell h10 0).trans rfl, (blk_cell h10 1).trans rfl, (blk_cell h10 2).trans rfl, by rw [← hold]; exact cnt_cell h7 _ (by have := HCL.out; omega)⟩⟩
         clear hold
         go_upto_region 19 with (fail)
         have B2d := Aside0.mk (blk_drew B2.out)
         have B6d := Aside0.mk (blk_drew B6.out)
         have B7d := Aside0.mk (blk_drew B7.out)
         have B10d := Aside0.mk (blk_drew B10.out)
         have HOd := Aside0.mk (Kd.R_drew HO.out)
         have HHd := Aside0.mk (Kd.R_drew HH.out)
         have HBd := Aside0.mk (below_drew1 HB.out)
         clear B2 B6 B7 B10 HO HH HB
         refine start_ (n := 11) (S := fun w' => w'.cell? ⟨g10, 0, none⟩ = some (.int .i64 x.f0) ∧ w'.cell? ⟨g10, 1, none⟩ = some (.int .i64 x.f1) ∧ w'.cell? ⟨g10, 2, none⟩ = some (.string x.f2) ∧ w'.cell? ⟨g7, r * 64 + cl.toNat, none⟩ = some (.int .i64 old)) (ds := [10]) #[false, false, false, false, false, false, false, false, false, false, false] (by kernel_rfl) rfl rfl (HS.out _ B7d.out B10d.out) (fun hHeld => ?_)
         refine with_tabW f18_tab19 f18_bits19 (fun HT_ HW_ => ?_)
         generalize wr.drew = wd at B2d B6d B7d B10d HOd HHd HBd hHeld ⊢
         refine pu_ HT_ 0 (some 56) ?_
         refine pu_ HT_ 1 (some 57) ?_
         refine tk_ HT_ HW_ 2 (some 58) hHeld ?_
         refine tk_ HT_ HW_ 4 (some 60) hHeld ?_
         refine tk_ HT_ HW_ 8 (some 64) hHeld ?_
         refine on_ HT_ 3 (some 59) (fun K hK => ?_)
         refine gos_ Try.func55 #[.int .i64 (r : Int), .agg #[.int .i64 x.f0, .int .i64 x.f1, .string x.f2]] ?_
         refine (sketch_cell.calls k r x.f0 x.f1 x.f2 cl _ HCE.out).mono ?_
         rintro e w2 ⟨rfl, hb⟩
         refine ⟨_, rfl, ?_⟩
         have B2e := Aside0.mk (blk_below B2d.out hb)
         have B6e := Aside0.mk (blk_below B6d.out hb)
         have B7e := Aside0.mk (blk_below B7d.out hb)
         have B10e := Aside0.mk (blk_below B10d.out hb)
         have HOe := Aside0.mk (Kd.R_below HOd.out hb)
         have HHe := Aside0.mk (Kd.R_below HHd.out hb)
         have HBe := Aside0.mk (HBd.out.trans (hb.mono (below_size HBd.out)))
         clear hb
         refine hK.out _ _ (HS.out _ B7e.out B10e.out) (fun hHeld => ?_)
         clear hK K
         refine nm_ (some 59) ?_
         refine tk_ HT_ HW_ 5 (some 61) hHeld ?_
         refine tk_ HT_ HW_ 6 (some 62) hHeld ?_
         refine pu_ HT_ 7 (some 63) ?_
         refine tk_ HT_ HW_ 9 (some 65) hHeld ?_
         refine last_ (i := 10) (N := none) #[true, true, true, true, true, true, true, true, true, true, true] rfl rfl (one_of HT_.out (by kernel_rfl)) (by decide) (fun K hK => ?_)
         have p7 := hHeld.2.2.2
         have z7 := blk_frozen B7e.out (r * 64 + cl.toNat)
         refine skip_ (w1 := ?_) (by rfl) rfl ?_ ?_
         rotate_left
         ·go_simp
          rfl
         refine hK.out _ _ ?_
         clear hK K p7 z7 hHeld
         refine done_ (done_of HT_.out (by kernel_rfl)) ?_
         clear HT_ HW_
         have hn27 : g2 ≠ g7 := by omega
         have hn67 : g6 ≠ g7 := by omega
         have hn107 : g10 ≠ g7 := by omega
         have B2f := Aside0.mk (blk_far (p := ⟨g7, r * 64 + cl.toNat, none⟩) B2e.out hn27 (.int .i64 (wrap64 (old + 1))))
         have B6f := Aside0.mk (blk_far (p := ⟨g7, r * 64 + cl.toNat, none⟩) B6e.out hn67 (.int .i64 (wrap64 (old + 1))))
         have B10f := Aside0.mk (blk_far (p := ⟨g7, r * 64 + cl.toNat, none⟩) B10e.out hn107 (.int .i64 (wrap64 (old + 1))))
         have B7f := Aside0.mk (cnt_put B7e.out (r * 64 + cl.toNat) (wrap64 (old + 1)))
         have HOf := Aside0.mk (Kd.R_set HOe.out B7e.out (by decide) (r * 64 + cl.toNat) (.int .i64 (wrap64 (old + 1))))
         have HHf := Aside0.mk (Kd.R_set HHe.out B7e.out (by decide) (r * 64 + cl.toNat) (.int .i64 (wrap64 (old + 1))))
         have HBf := Aside0.mk (HBe.out.setCell (p := ⟨g7, r * 64 + cl.toNat, none⟩) (by show w.heap.size ≤ g7; omega) (.int .i64 (wrap64 (old + 1))))
         clear B2e B6e B7e B10e HOe HHe HBe hn27 hn67 hn107 B2d B6d B7d B10d HOd HHd HBd
         generalize w2.setCell ⟨g7, r * 64 + cl.toNat, none⟩ (.int .i64 (wrap64 (old + 1))) = w3f at B2f B6f B7f B10f HOf HHf HBf ⊢
         go_wp2
         go_roundg k2
         case measure => omega
         case rel => exact ⟨r + 1, _, rfl, by omega, ⟨by have := HK2.out; omega⟩, HBN, ⟨by rw [List.length_set]; exact HCL.out⟩, B7f, B6f, B2f, B10f, HOf, HHf, HBf⟩
       ·obtain rfl : r = 4 := by omega
        cases gk with
        | succ k2 => exact absurd HK2.out (by omega)
        | zero =>
         obtain rfl : cur = c2 := Option.some.inj HC2.out
         have hrd : decide ((4 : Int) < 4) = false := rfl
         go_wp2
         go_roundg k1
         case measure => omega
         case rel => exact ⟨i + 1, _, int_eq (by omega), by omega, ⟨by have := HK.out; omega⟩, HH, HC3, HCL, B7, B6, B2, HO, HB⟩
    ·obtain rfl : i = T.length := by omega
     cases gk with
     | succ k1 => exact absurd HK.out (by omega)
     | zero =>
      rw [List.drop_length] at HC
      obtain rfl : cur = cs := Option.some.inj HC.out
      rw [List.take_of_length_le (by rw [hashS_len HHS.out]; exact Nat.le_refl _)] at HH
      have hd1 : decide ((T.length : Int) < T.length) = false := decide_eq_false (by omega)
      have hg7 := blk_lt B7.out
      clear HCS HC hi hl
      go_upto_region 23 with (go_at_call 56; refine (f56_calls g7 77 cur _ HCL.out B7.out).mono ?_; rintro e w2 ⟨v4, rfl, h4, hb⟩; obtain ⟨A4, c4, rfl⟩ := Kd.R_slice h4; have H4 := Aside0.mk (Kd.R_lower h4 (below_size HB.out)); have B2a := Aside0.mk (blk_below B2.out hb); have B6a := Aside0.mk (blk_below B6.out hb); have HOa := Aside0.mk (Kd.R_below HO.out hb); have HHa := Aside0.mk (Kd.R_below HH.out hb); have HBa := Aside0.mk (HB.out.trans (hb.mono (below_size HB.out))); have q4 : w2.cell? ⟨g6, 4, none⟩ = some (.slice none 0 0) := (blk_cell B6a.out 4).trans rfl; have z4 := blk_frozen B6a.out 4; clear hb h4 B2 B6 HO HH HB B7)
      clear hd1
      have B6b : Aside0 ((w2.setCell ⟨g6, 4, none⟩ (.slice A4 cur.length c4)).heap[g6]? = some (.cells #[.int .i64 l.length, .int .i64 ((l.length : Int) - (T.length : Int)), .slice none 0 0, .bool false, .slice A4 cur.length c4, .slice none 0 0, .slice none 0 0] 26 (0, 0))) := ⟨blk_put B6a.out 4 (.slice A4 cur.length c4) rfl⟩
      have B2b := Aside0.mk (blk_far (p := ⟨g6, 4, none⟩) B2a.out (Nat.ne_of_lt hg2) (.slice A4 cur.length c4))
      have HOb := Aside0.mk (Kd.R_set HOa.out B6a.out (by decide) 4 (.slice A4 cur.length c4))
      have HHb := Aside0.mk (Kd.R_set HHa.out B6a.out (by decide) 4 (.slice A4 cur.length c4))
      have H4b := Aside0.mk (Kd.R_set H4.out B6a.out (by decide) 4 (.slice A4 cur.length c4))
      have HBb := Aside0.mk (HBa.out.setCell (p := ⟨g6, 4, none⟩) (by show w.heap.size ≤ g6; omega) (.slice A4 cur.length c4))
      clear B6a B2a HOa HHa H4 HBa q4 z4
      generalize w2.setCell ⟨g6, 4, none⟩ (.slice A4 cur.length c4) = wc at B6b B2b HOb HHb H4b HBb ⊢
      clear w2
      go_upto_region 24 with (go_at_call 57; refine (f57_own rs HSRT.out.1 HSRT.out.2 w _ _ _ hs rr bb HBb.out HHb.out (by rw [hashS_len HHS.out]; omega) HSM.out).mono ?_; rintro e w2 ⟨v2, rfl, h2, hg, hv2⟩; obtain ⟨A2, c2, rfl⟩ := Kd.R_slice h2; have H2 := Aside0.mk h2; have H4a := Aside0.mk (Kd.R_over H4b.out HHb.out (by decide) hg); have B2a := Aside0.mk (blk_grown B2b.out hg (Kd.R_ne HHb.out B2b.out (by decide))); have B6a := Aside0.mk (blk_grown B6b.out hg (Kd.R_ne HHb.out B6b.out (by decide))); have HOa := Aside0.mk (Kd.R_over HOb.out HHb.out (by decide) hg); have HBa := Aside0.mk (HBb.out.grown hg (below_size HBb.out) (fun b hb_ => Kd.R_base HHb.out b hb_)); have q2 : w2.cell? ⟨g6, 2, none⟩ = some (.slice none 0 0) := (blk_cell B6a.out 2).trans rfl; have q3 : w2.cell? ⟨g6, 3, none⟩ = some (.bool false) := (blk_cell B6a.out 3).trans rfl; have z2 := blk_frozen B6a.out 2; have z3 := blk_frozen B6a.out 3; clear hg h2 hv2 B6b B2b HOb HHb H4b HBb)
      have B6h : w2.heap[g6]? = some (.cells #[.int .i64 l.length, .int .i64 ((l.length : Int) - (T.length : Int)), .slice none 0 0, .bool false, .slice A4 cur.length c4, .slice none 0 0, .slice none 0 0] 26 (0, 0)) := B6a.out
      have B6i := blk_put B6h 2 (.slice A2 rr.length c2) rfl
      have B6c := Aside0.mk (blk_put B6i 3 (.bool bb) rfl)
      have B2c := Aside0.mk (blk_far (p := ⟨g6, 3, none⟩) (blk_far (p := ⟨g6, 2, none⟩) B2a.out (Nat.ne_of_lt hg2) (.slice A2 rr.length c2)) (Nat.ne_of_lt hg2) (.bool bb))
      have HOc := Aside0.mk (Kd.R_set (Kd.R_set HOa.out B6h (by decide) 2 (.slice A2 rr.length c2)) B6i (by decide) 3 (.bool bb))
      have H2c := Aside0.mk (Kd.R_set (Kd.R_set H2.out B6h (by decide) 2 (.slice A2 rr.length c2)) B6i (by decide) 3 (.bool bb))
      have H4c := Aside0.mk (Kd.R_set (Kd.R_set H4a.out B6h (by decide) 2 (.slice A2 rr.length c2)) B6i (by decide) 3 (.bool bb))
      have HBc := Aside0.mk ((HBa.out.setCell (p := ⟨g6, 2, none⟩) (by show w.heap.size ≤ g6; omega) (.slice A2 rr.length c2)).setCell (p := ⟨g6, 3, none⟩) (by show w.heap.size ≤ g6; omega) (.bool bb))
      clear B6a B2a HOa H2 H4a HBa q2 q3 z2 z3 B6h B6i
      generalize ((w2.setCell ⟨g6, 2, none⟩ (.slice A2 rr.length c2)).setCell ⟨g6, 3, none⟩ (.bool bb)) = wd at B6c B2c HOc H2c H4c HBc ⊢
      clear w2 wc
      go_wp2_with (go_at_call 58; refine (sketch_spread.calls k _ sp _ HSP.out).mono ?_; rintro e w3 ⟨v8, rfl, h8, hb⟩; obtain ⟨A8, c8, rfl⟩ := Kd.R_slice h8; have H8 := Aside0.mk (Kd.R_lower h8 (below_size HBc.out)); have H84 := Aside0.mk (Kd.R_elder H4c.out h8 hb); have B2d := Aside0.mk (blk_below B2c.out hb); have B6d := Aside0.mk (blk_below B6c.out hb); have HOd := Aside0.mk (Kd.R_below HOc.out hb); have H2d := Aside0.mk (Kd.R_below H2c.out hb); have HBd := Aside0.mk (HBc.out.trans (hb.mono (below_size HBc.out))); clear hb h8 B6c B2c HOc H2c H4c HBc)
      go_loopg [81] sp.length (fun kq v81 w' => ∃ (j : Nat) (Fj : List S39) (Rj : List Int) (A5 A6 : Option Addr) (c5 c6 : Nat), v81 = .int .i64 j ∧ j ≤ sp.length ∧ Fj.length ≤ j ∧ Rj.length ≤ 2 * j ∧ Aside0 (kq + j = sp.length) ∧ Aside0 (fenceS T (sp.drop j) Fj Rj = (F, R)) ∧ Aside0 (w'.heap[g6]? = some (.cells #[.int .i64 l.length, .int .i64 ((l.length : Int) - (T.length : Int)), .slice A2 rr.length c2, .bool bb, .slice A4 cur.length c4, .slice A5 Fj.length c5, .slice A6 Rj.length c6] 26 (0, 0))) ∧ Aside0 (w'.heap[g2]? = some (.cells #[.int .i64 0, .int .i64 0, .slice none 0 0, .bool false, .slice none 0 0, .slice none 0 0, .slice none 0 0] 26 (0, 0))) ∧ Aside0 (Kd.R k39 39 w' w.heap.size (fun k_ => True ∧ some k_ ≠ (Value.slice A5 Fj.length c5).ownBlock) (.slice A3 T.length c3) T) ∧ Aside0 (Kd.R k39 39 w' w.heap.size (fun k_ => True ∧ some k_ ≠ (Value.slice A3 T.length c3).ownBlock) (.slice A5 Fj.length c5) Fj) ∧ Aside0 (Kd.R (Kd.int .i64) 3 w' w.heap.size (fun k_ => True ∧ some k_ ≠ (Value.slice A6 Rj.length c6).ownBlock) (.slice A4 cur.length c4) cur) ∧ Aside0 (Kd.R (Kd.int .i64) 3 w' w.heap.size (fun k_ => True ∧ some k_ ≠ (Value.slice A6 Rj.length c6).ownBlock) (.slice A8 sp.length c8) sp) ∧ Aside0 (Kd.R (Kd.int .i64) 3 w' w.heap.size (fun k_ => True ∧ some k_ ≠ (Value.slice A4 cur.length c4).ownBlock ∧ some k_ ≠ (Value.slice A8 sp.length c8).ownBlock) (.slice A6 Rj.length c6) Rj) ∧ Aside0 (Kd.R (Kd.int .u64) 53 w' w.heap.size (fun _ => True) (.slice A2 rr.length c2) rr) ∧ Aside0 (Below w.heap.size w w'))
      case atStart => exact ⟨0, [], [], none, none, 0, 0, rfl, Nat.zero_le _, Nat.le_refl _, Nat.le_refl _, ⟨by omega⟩, HF, B6d, B2d, ⟨Kd.R_apart_nil HOd.out⟩, ⟨Kd.R_nil _ _ _ _ _⟩, ⟨Kd.R_apart_nil (Kd.R_drop H84.out)⟩, ⟨Kd.R_apart_nil H8.out⟩, ⟨Kd.R_nil _ _ _ _ _⟩, H2d, HBd⟩
      case round =>
       clear B6d B2d HOd H84 H8 H2d HBd
       obtain ⟨j, Fj, Rj, A5, A6, c5, c6, rfl, hj, hFj, hRj, HK3, HFE, B6, B2, HO, H5, H4, H8, H6, H2, HB⟩ := hrel
       by_cases hl : j < sp.length
       ·cases gk with
        | zero => exact absurd HK3.out (by omega)
        | succ k3 =>
         obtain ⟨hk0, hkT⟩ := HSR.out j hl
         obtain ⟨kk, hkk⟩ : ∃ v, rd sp j = v := ⟨_, rfl⟩
         obtain ⟨ad8, rfl, hx8⟩ := Kd.at_int (Kd.R_reads' H8.out).2.2 (j : Int) (by omega) (by omega)
         rw [Int.toNat_natCast] at hx8
         rw [hkk] at hk0 hkT hx8
         have HKK := Aside0.mk hkk
         clear hkk
         obtain ⟨kn, rfl⟩ : ∃ n : Nat, kk = n := ⟨kk.toNat, by omega⟩
         have hknT : kn < T.length := by omega
         have hd1 : decide ((j : Int) < sp.length) = true := decide_eq_true (by omega)
         have hwj : IntKind.i64.wrap ((j : Int) + 1) = ((j + 1 : Nat) : Int) := by rw [i64_w]; unfold wrap64; omega
         have q5 : wr.cell? ⟨g6, 5, none⟩ = some (.slice A5 Fj.length c5) := (blk_cell B6.out 5).trans rfl
         go_upto_region 28 with (fail)
         obtain ⟨eb, heb⟩ : ∃ b, (decide (0 < Fj.length) && (cV (rd_T39 Fj ((Fj.length : Int) - 1)) (rd_T39 T (kn : Int)) == 0)) = b := ⟨_, rfl⟩
         have HEQ := Aside0.mk heb
         obtain ⟨ad3, e3, hy0, hy1, hy2⟩ := at_T39 (Kd.R_reads' HO.out).2.2 (kn : Int) (by omega) (by omega)
         obtain rfl := e3
         rw [Int.toNat_natCast] at hy0 hy1 hy2
         obtain ⟨y, hyy⟩ : ∃ y, rd_T39 T (kn : Int) = y := ⟨_, rfl⟩
         rw [hyy] at hy0 hy1 hy2 HEQ
         have HYY := Aside0.mk hyy
         have hkT2 : decide ((kn : Int) < T.length) = true := decide_eq_true (by omega)
         have hkT3 : decide ((T.length : Int) ≤ kn) = false := decide_eq_false (by omega)
         have HW0 := Aside0.mk (And.intro hx8 q5)
         clear hyy heb hx8
         go_cut [102] (fun v102 wd => v102 = .bool eb ∧ Aside0 (Below wr.heap.size wr wd))
         case first =>
          by_cases hF0 : 0 < Fj.length
          ·obtain ⟨ad5, rfl, hx0, hx1, hx2⟩ := at_T39 (Kd.R_reads' H5.out).2.2 ((Fj.length - 1 : Nat) : Int) (by omega) (by omega)
           rw [Int.toNat_natCast] at hx0 hx1 hx2
           have hwn : IntKind.i64.wrap ((Fj.length : Int) - 1) = ((Fj.length - 1 : Nat) : Int) := by rw [i64_w]; unfold wrap64; omega
           have hfn : decide (((Fj.length - 1 : Nat) : Int) < Fj.length) = true := decide_eq_true (by omega)
           have hfn2 : decide ((Fj.length : Int) ≤ ((Fj.length - 1 : Nat) : Int)) = false := decide_eq_false (by omega)
           have hfn3 : Fj.length - 1 < Fj.length := by omega
           have hFd : decide (0 < Fj.length) = true := decide_eq_true hF0
           have HEB : Aside0 ((cV (rd_T39 Fj ((Fj.length - 1 : Nat) : Int)) y == 0) = eb) := ⟨by have h_ := HEQ.out; rw [hFd, Bool.true_and, show (Fj.length : Int) - 1 = ((Fj.length - 1 : Nat) : Int) from by omega] at h_; exact h_⟩
           obtain ⟨x, hxx⟩ : ∃ x, rd_T39 Fj ((Fj.length - 1 : Nat) : Int) = x := ⟨_, rfl⟩
           rw [hxx] at hx0 hx1 hx2 HEB
           clear hxx
           have HS : Aside0 (∀ W : World, Below wr.heap.size wr W → (W.cell? ⟨g6, 5, none⟩ = some (.slice (some ad5) Fj.length c5) ∧ W.cell? (ad5.add ((Fj.length - 1) * 3)) = some (.int .i64 x.f0) ∧ W.cell? ⟨(ad5.add ((Fj.length - 1) * 3)).block, (ad5.add ((Fj.length - 1) * 3)).off + 1, none⟩ = some (.int .i64 x.f1) ∧ W.cell? ⟨(ad5.add ((Fj.length - 1) * 3)).block, (ad5.add ((Fj.length - 1) * 3)).off + 2, none⟩ = some (.string x.f2) ∧ W.cell? (ad3.add (kn * 3)) = some (.int .i64 y.f0) ∧ W.cell? ⟨(ad3.add (kn * 3)).block, (ad3.add (kn * 3)).off + 1, none⟩ = some (.int .i64 y.f1) ∧ W.cell? ⟨(ad3.add (kn * 3)).block, (ad3.add (kn * 3)).off + 2, none⟩ = some (.string y.f2))) := ⟨fun W hB_ => ⟨(hB_.cell (World.block_lt_of_cell? wr _ q5)).trans q5, (hB_.cell (World.block_lt_of_cell? wr _ hx0)).trans hx0, (hB_.cell (World.block_lt_of_cell? wr _ hx1)).trans hx1, (hB_.cell (World.block_lt_of_cell? wr _ hx2)).trans hx2, (hB_.cell (World.block_lt_of_cell? wr _ hy0)).trans hy0, (hB_.cell (World.block_lt_of_cell? wr _ hy1)).trans hy1, (hB_.cell (World.block_lt_of_cell? wr _ hy2)).trans hy2⟩⟩
           have HBd := Aside0.mk (below_drew1 (Below.refl wr.heap.size wr))
           clear q5 hx0 hx1 hx2 hy0 hy1 hy2
           refine start_ (n := 15) (S := fun w' => w'.cell? ⟨g6, 5, none⟩ = some (.slice (some ad5) Fj.length c5) ∧ w'.cell? (ad5.add ((Fj.length - 1) * 3)) = some (.int .i64 x.f0) ∧ w'.cell? ⟨(ad5.add ((Fj.length - 1) * 3)).block, (ad5.add ((Fj.length - 1) * 3)).off + 1, none⟩ = some (.int .i64 x.f1) ∧ w'.cell? ⟨(ad5.add ((Fj.length - 1) * 3)).block, (ad5.add ((Fj.length - 1) * 3)).off + 2, none⟩ = some (.string x.f2) ∧ w'.cell? (ad3.add (kn * 3)) = some (.int .i64 y.f0) ∧ w'.cell? ⟨(ad3.add (kn * 3)).block, (ad3.add (kn * 3)).off + 1, none⟩ = some (.int .i64 y.f1) ∧ w'.cell? ⟨(ad3.add (kn * 3)).block, (ad3.add (kn * 3)).off + 2, none⟩ = some (.string y.f2)) (ds := []) #[false, false, false, false, false, false, false, false, false, false, false, false, false, false, false] (by kernel_rfl) rfl rfl (HS.out _ HBd.out) (fun hHeld => ?_)
           refine with_tabW f18_tab28 f18_bits28 (fun HT_ HW_ => ?_)
           generalize wr.drew = wd at HBd hHeld ⊢
           refine pu_ HT_ 0 (some 88) ?_
           refine pu_ HT_ 1 (some 89) ?_
           refine pu_ HT_ 2 (some 90) ?_
           refine pu_ HT_ 3 (some 91) ?_
           refine tk_ HT_ HW_ 4 (some 92) hHeld ?_
           refine pu_ HT_ 5 (some 93) ?_
           refine pu_ HT_ 6 (some 94) ?_
           refine tk_ HT_ HW_ 7 (some 95) hHeld ?_
           refine tk_ HT_ HW_ 8 (some 96) hHeld ?_
           refine pu_ HT_ 9 (some 97) ?_
           refine pu_ HT_ 10 (some 98) ?_
           refine tk_ HT_ HW_ 11 (some 99) hHeld ?_
           refine tk_ HT_ HW_ 12 (some 100) hHeld ?_
           refine on_ HT_ 13 (some 101) (fun K hK => ?_)
           refine gos_ Try.func59 #[.agg #[.int .i64 x.f0, .int .i64 x.f1, .string x.f2], .agg #[.int .i64 y.f0, .int .i64 y.f1, .string y.f2]] ?_
           refine (eqV_calls x y eb HEB.out _).mono ?_
           rintro e w2 ⟨rfl, hb⟩
           refine ⟨_, rfl, ?_⟩
           have HB2 := Aside0.mk (HBd.out.trans (hb.mono (below_size HBd.out)))
           clear hb
           refine hK.out _ _ (HS.out _ HB2.out) (fun hHeld => ?_)
           clear hK K
           refine nm_ (some 101) ?_
           refine pu_ HT_ 14 (some 102) ?_
           refine done_ (done_of HT_.out (by kernel_rfl)) ?_
           clear HT_ HW_ hHeld
           try go_wp2
           go_meet
           case rel => exact ⟨rfl, HB2⟩
          ·have hFd : decide (0 < Fj.length) = false := decide_eq_false hF0
           have HEB : Aside0 (eb = false) := ⟨by have h_ := HEQ.out; rw [hFd, Bool.false_and] at h_; exact h_.symm⟩
           obtain rfl : Fj = [] := List.eq_nil_of_length_eq_zero (by omega)
           clear q5 hy0 hy1 hy2
           have HBd := Aside0.mk (below_drew1 (Below.refl wr.heap.size wr))
           refine start_ (n := 15) (S := fun w' => True) (ds := []) #[false, false, false, false, false, false, false, false, false, false, false, false, false, false, false] (by kernel_rfl) rfl rfl trivial (fun hHeld => ?_)
           refine with_tabW f18_tab28 f18_bits28 (fun HT_ HW_ => ?_)
           generalize wr.drew = wd at HBd hHeld ⊢
           refine pu_ HT_ 0 (some 88) ?_
           refine pu_ HT_ 1 (some 89) ?_
           refine pu_ HT_ 2 (some 90) ?_
           refine sk_ HT_ 3 (some 91) ?_
           refine sk_ HT_ 4 (some 92) ?_
           refine sk_ HT_ 5 (some 93) ?_
           refine sk_ HT_ 6 (some 94) ?_
           refine sk_ HT_ 7 (some 95) ?_
           refine sk_ HT_ 8 (some 96) ?_
           refine sk_ HT_ 9 (some 97) ?_
           refine sk_ HT_ 10 (some 98) ?_
           refine sk_ HT_ 11 (some 99) ?_
           refine sk_ HT_ 12 (some 100) ?_
           refine sk_ HT_ 13 (some 101) ?_
           refine pu_ HT_ 14 (some 102) ?_
           refine done_ (done_of HT_.out (by kernel_rfl)) ?_
           clear HT_ HW_ hHeld
           try go_wp2
           go_meet
           case rel => exact ⟨by rw [HEB.out], HBd⟩
         case rest =>
          obtain ⟨rfl, HY⟩ := hcut
          have B6a := Aside0.mk (blk_below B6.out HY.out)
          have B2a := Aside0.mk (blk_below B2.out HY.out)
          have HOa := Aside0.mk (Kd.R_below HO.out HY.out)
          have H5a := Aside0.mk (Kd.R_below H5.out HY.out)
          have H4a := Aside0.mk (Kd.R_below H4.out HY.out)
          have H8a := Aside0.mk (Kd.R_below H8.out HY.out)
          have H6a := Aside0.mk (Kd.R_below H6.out HY.out)
          have H2a := Aside0.mk (Kd.R_below H2.out HY.out)
          have HBa := Aside0.mk (HB.out.trans (HY.out.mono (below_size HB.out)))
          replace hy0 := (HY.out.cell (World.block_lt_of_cell? wr _ hy0)).trans hy0
          replace hy1 := (HY.out.cell (World.block_lt_of_cell? wr _ hy1)).trans hy1
          replace hy2 := (HY.out.cell (World.block_lt_of_cell? wr _ hy2)).trans hy2
          clear q5 HW0 B6 B2 HO H5 H4 H8 H6 H2 HB HY
          cases eb with
          | true =>
           have HFN : Aside0 (fenceS T (sp.drop (j + 1)) Fj Rj = (F, R)) := ⟨by
            have h_ := HEQ.out
            rw [Bool.and_eq_true] at h_
            exact fence_same HFE.out hl rfl (by rw [HKK.out]; exact HYY.out) h_.2 (of_decide_eq_true h_.1)⟩
           clear HEQ hy0 hy1 hy2
           go_wp2
           go_roundg k3
           case measure => omega
           case rel => exact ⟨j + 1, Fj, Rj, A5, A6, c5, c6, int_eq (by omega), by omega, by omega, by omega, ⟨by have := HK3.out; omega⟩, HFN, B6a, B2a, HOa, H5a, H4a, H8a, H6a, H2a, HBa⟩
          | false =>
           have HFN := Aside0.mk (fence_more HFE.out hl (by rw [HKK.out]; exact HYY.out) HEQ.out)
           rw [HKK.out, Int.toNat_natCast] at HFN
           obtain ⟨fr, hfr⟩ : ∃ n, fromS T (kn : Int) kn = n := ⟨_, rfl⟩
           obtain ⟨tt, htt⟩ : ∃ n, toS T (kn : Int) (kn + 1) (T.length - (kn + 1)) = n := ⟨_, rfl⟩
           have hfl := from_le T (kn : Int) kn
           have htl := to_le T (kn : Int) (T.length - (kn + 1)) (kn + 1)
           rw [hfr] at hfl
           rw [htt] at htl
           rw [hfr, htt] at HFN
           have HFR := Aside0.mk hfr
           have HTT := Aside0.mk htt
           have hwk : IntKind.i64.wrap ((kn : Int) + 1) = ((kn + 1 : Nat) : Int) := by rw [i64_w]; unfold wrap64; omega
           clear hfr htt HEQ HFE
           go_upto_block 8 with (fail)
           go_cut [15] (fun v15 wd => v15 = .int .i64 (fr : Nat) ∧ Aside0 (Below wc.heap.size wc wd))
           case first =>
            have HYT := Aside0.mk (And.intro hy0 (And.intro hy1 hy2))
            clear hy0 hy1 hy2
            go_wp2
            go_loopg [15] kn (fun kq v15 w' => ∃ f : Nat, v15 = .int .i64 f ∧ f ≤ kn ∧ Aside0 (kq = f) ∧ Aside0 (fromS T (kn : Int) f = fr) ∧ Aside0 (Below wc.heap.size wc w'))
            case atStart => exact ⟨kn, rfl, Nat.le_refl _, ⟨rfl⟩, HFR, ⟨Below.refl _ _⟩⟩
            case round =>
             obtain ⟨f, rfl, hf, HKF, HFS, HL⟩ := hrel
             by_cases hf0 : 0 < f
             ·cases gk with
              | zero => exact absurd HKF.out (by omega)
              | succ k4 =>
               obtain ⟨hy0, hy1, hy2⟩ := HYT.out
               obtain ⟨ad1, e1, hx0, hx1, hx2⟩ := at_T39 (Kd.R_reads' HOa.out).2.2 ((f - 1 : Nat) : Int) (by omega) (by omega)
               obtain rfl := Option.some.inj e1
               clear e1
               rw [Int.toNat_natCast] at hx0 hx1 hx2
               obtain ⟨x, hxx⟩ : ∃ x, rd_T39 T ((f - 1 : Nat) : Int) = x := ⟨_, rfl⟩
               rw [hxx] at hx0 hx1 hx2
               obtain ⟨eb, heb⟩ : ∃ b, (cV x y == 0) = b := ⟨_, rfl⟩
               have HEB := Aside0.mk heb
               have HXX := Aside0.mk hxx
               replace hx0 := (HL.out.cell (World.block_lt_of_cell? wc _ hx0)).trans hx0
               replace hx1 := (HL.out.cell (World.block_lt_of_cell? wc _ hx1)).trans hx1
               replace hx2 := (HL.out.cell (World.block_lt_of_cell? wc _ hx2)).trans hx2
               replace hy0 := (HL.out.cell (World.block_lt_of_cell? wc _ hy0)).trans hy0
               replace hy1 := (HL.out.cell (World.block_lt_of_cell? wc _ hy1)).trans hy1
               replace hy2 := (HL.out.cell (World.block_lt_of_cell? wc _ hy2)).trans hy2
               clear hxx heb
               have hwf : IntKind.i64.wrap ((f : Int) - 1) = ((f - 1 : Nat) : Int) := by rw [i64_w]; unfold wrap64; omega
               have hfn : decide (((f - 1 : Nat) : Int) < T.length) = true := decide_eq_true (by omega)
               have hfn2 : decide ((T.length : Int) ≤ ((f - 1 : Nat) : Int)) = false := decide_eq_false (by omega)
               have hfn3 : f - 1 < T.length := by omega
               go_upto_region 30 with (fail)
               have HS : Aside0 (∀ W : World, Below wr.heap.size wr W → (W.cell? (ad3.add ((f - 1) * 3)) = some (.int .i64 x.f0) ∧ W.cell? ⟨(ad3.add ((f - 1) * 3)).block, (ad3.add ((f - 1) * 3)).off + 1, none⟩ = some (.int .i64 x.f1) ∧ W.cell? ⟨(ad3.add ((f - 1) * 3)).block, (ad3.add ((f - 1) * 3)).off + 2, none⟩ = some (.string x.f2) ∧ W.cell? (ad3.add (kn * 3)) = some (.int .i64 y.f0) ∧ W.cell? ⟨(ad3.add (kn * 3)).block, (ad3.add (kn * 3)).off + 1, none⟩ = some (.int .i64 y.f1) ∧ W.cell? ⟨(ad3.add (kn * 3)).block, (ad3.add (kn * 3)).off + 2, none⟩ = some (.string y.f2))) := ⟨fun W hB_ => ⟨(hB_.cell (World.block_lt_of_cell? wr _ hx0)).trans hx0, (hB_.cell (World.block_lt_of_cell? wr _ hx1)).trans hx1, (hB_.cell (World.block_lt_of_cell? wr _ hx2)).trans hx2, (hB_.cell (World.block_lt_of_cell? wr _ hy0)).trans hy0, (hB_.cell (World.block_lt_of_cell? wr _ hy1)).trans hy1, (hB_.cell (World.block_lt_of_cell? wr _ hy2)).trans hy2⟩⟩
               have HBd := Aside0.mk (below_drew1 (Below.refl wr.heap.size wr))
               clear hx0 hx1 hx2 hy0 hy1 hy2
               refine start_ (n := 14) (S := fun w' => w'.cell? (ad3.add ((f - 1) * 3)) = some (.int .i64 x.f0) ∧ w'.cell? ⟨(ad3.add ((f - 1) * 3)).block, (ad3.add ((f - 1) * 3)).off + 1, none⟩ = some (.int .i64 x.f1) ∧ w'.cell? ⟨(ad3.add ((f - 1) * 3)).block, (ad3.add ((f - 1) * 3)).off + 2, none⟩ = some (.string x.f2) ∧ w'.cell? (ad3.add (kn * 3)) = some (.int .i64 y.f0) ∧ w'.cell? ⟨(ad3.add (kn * 3)).block, (ad3.add (kn * 3)).off + 1, none⟩ = some (.int .i64 y.f1) ∧ w'.cell? ⟨(ad3.add (kn * 3)).block, (ad3.add (kn * 3)).off + 2, none⟩ = some (.string y.f2)) (ds := []) #[false, false, false, false, false, false, false, false, false, false, false, false, false, false] (by kernel_rfl) rfl rfl (HS.out _ HBd.out) (fun hHeld => ?_)
               refine with_tabW f18_tab30 f18_bits30 (fun HT_ HW_ => ?_)
               generalize wr.drew = wd at HBd hHeld ⊢
               refine pu_ HT_ 0 (some 106) ?_
               refine pu_ HT_ 1 (some 107) ?_
               refine pu_ HT_ 2 (some 108) ?_
               refine pu_ HT_ 3 (some 109) ?_
               refine pu_ HT_ 4 (some 110) ?_
               refine pu_ HT_ 5 (some 111) ?_
               refine tk_ HT_ HW_ 6 (some 112) hHeld ?_
               refine tk_ HT_ HW_ 7 (some 113) hHeld ?_
               refine pu_ HT_ 8 (some 114) ?_
               refine pu_ HT_ 9 (some 115) ?_
               refine tk_ HT_ HW_ 10 (some 116) hHeld ?_
               refine tk_ HT_ HW_ 11 (some 117) hHeld ?_
               refine on_ HT_ 12 (some 118) (fun K hK => ?_)
               refine gos_ Try.func59 #[.agg #[.int .i64 x.f0, .int .i64 x.f1, .string x.f2], .agg #[.int .i64 y.f0, .int .i64 y.f1, .string y.f2]] ?_
               refine (eqV_calls x y eb HEB.out _).mono ?_
               rintro e w2 ⟨rfl, hb⟩
               refine ⟨_, rfl, ?_⟩
               have HB2 := Aside0.mk (HBd.out.trans (hb.mono (below_size HBd.out)))
               clear hb
               refine hK.out _ _ (HS.out _ HB2.out) (fun hHeld => ?_)
               clear hK K
               refine nm_ (some 118) ?_
               refine pu_ HT_ 13 (some 119) ?_
               refine done_ (done_of HT_.out (by kernel_rfl)) ?_
               clear HT_ HW_ hHeld
               cases eb with
               | true =>
                go_wp2
                go_roundg k4
                case measure => omega
                case rel => exact ⟨f - 1, rfl, by omega, ⟨by have := HKF.out; omega⟩, ⟨from_down (by rw [Nat.sub_add_cancel hf0]; exact HFS.out) (by rw [HXX.out, HYY.out]; exact HEB.out)⟩, ⟨HL.out.trans (HB2.out.mono HL.out.size)⟩⟩
               | false =>
                have HFF : Aside0 (f = fr) := ⟨by have h_ := from_stay (T := T) (kk := (kn : Int)) (f := f - 1) (r := fr) (by rw [Nat.sub_add_cancel hf0]; exact HFS.out) (by rw [HXX.out, HYY.out]; exact HEB.out); omega⟩
                go_wp2
                go_meet
                case rel => exact ⟨by rw [HFF.out], ⟨HL.out.trans (HB2.out.mono HL.out.size)⟩⟩
             ·obtain rfl : f = 0 := by omega
              have HFF : Aside0 (0 = fr) := ⟨HFS.out⟩
              have hz0 : decide ((0 : Int) < 0) = false := rfl
              go_upto_region 30 with (fail)
              have HBd := Aside0.mk (below_drew1 (Below.refl wr.heap.size wr))
              refine start_ (n := 14) (S := fun w' => True) (ds := []) #[false, false, false, false, false, false, false, false, false, false, false, false, false, false] (by kernel_rfl) rfl rfl trivial (fun hHeld => ?_)
              refine with_tabW f18_tab30 f18_bits30 (fun HT_ HW_ => ?_)
              generalize wr.drew = wd at HBd hHeld ⊢
              refine pu_ HT_ 0 (some 106) ?_
              refine pu_ HT_ 1 (some 107) ?_
              refine pu_ HT_ 2 (some 108) ?_
              refine sk_ HT_ 3 (some 109) ?_
              refine sk_ HT_ 4 (some 110) ?_
              refine sk_ HT_ 5 (some 111) ?_
              refine sk_ HT_ 6 (some 112) ?_
              refine sk_ HT_ 7 (some 113) ?_
              refine sk_ HT_ 8 (some 114) ?_
              refine sk_ HT_ 9 (some 115) ?_
              refine sk_ HT_ 10 (some 116) ?_
              refine sk_ HT_ 11 (some 117) ?_
              refine sk_ HT_ 12 (some 118) ?_
              refine pu_ HT_ 13 (some 119) ?_
              refine done_ (done_of HT_.out (by kernel_rfl)) ?_
              clear HT_ HW_ hHeld
              go_wp2
              go_meet
              case rel => exact ⟨by rw [← HFF.out], ⟨HL.out.trans (HBd.out.mono HL.out.size)⟩⟩
           case rest =>
            obtain ⟨rfl, HY⟩ := hcut
            have B6b := Aside0.mk (blk_below B6a.out HY.out)
            have B2b := Aside0.mk (blk_below B2a.out HY.out)
            have HOb := Aside0.mk (Kd.R_below HOa.out HY.out)
            have H5b := Aside0.mk (Kd.R_below H5a.out HY.out)
            have H4b := Aside0.mk (Kd.R_below H4a.out HY.out)
            have H8b := Aside0.mk (Kd.R_below H8a.out HY.out)
            have H6b := Aside0.mk (Kd.R_below H6a.out HY.out)
            have H2b := Aside0.mk (Kd.R_below H2a.out HY.out)
            have HBb := Aside0.mk (HBa.out.trans (HY.out.mono (below_size HBa.out)))
            replace hy0 := (HY.out.cell (World.block_lt_of_cell? _ _ hy0)).trans hy0
            replace hy1 := (HY.out.cell (World.block_lt_of_cell? _ _ hy1)).trans hy1
            replace hy2 := (HY.out.cell (World.block_lt_of_cell? _ _ hy2)).trans hy2
            clear B6a B2a HOa H5a H4a H8a H6a H2a HBa HY HFR
            go_upto_block 10 with (fail)
            go_cut [16] (fun v16 wd => v16 = .int .i64 (tt : Nat) ∧ Aside0 (Below wc.heap.size wc wd))
            case first =>
             have HYT := Aside0.mk (And.intro hy0 (And.intro hy1 hy2))
             clear hy0 hy1 hy2
             go_wp2
             go_loopg [16] (T.length - (kn + 1)) (fun kq v16 w' => ∃ t : Nat, v16 = .int .i64 t ∧ t ≤ T.length ∧ Aside0 (kq + t = T.length) ∧ Aside0 (toS T (kn : Int) t kq = tt) ∧ Aside0 (Below wc.heap.size wc w'))
             case atStart => exact ⟨kn + 1, int_eq (by omega), by omega, ⟨by omega⟩, HTT, ⟨Below.refl _ _⟩⟩
             case round =>
              obtain ⟨t, rfl, ht, HKF, HTS, HL⟩ := hrel
              by_cases hf0 : t < T.length
              ·cases gk with
               | zero => exact absurd HKF.out (by omega)
               | succ k4 =>
                obtain ⟨hy0, hy1, hy2⟩ := HYT.out
                obtain ⟨ad1, e1, hx0, hx1, hx2⟩ := at_T39 (Kd.R_reads' HOb.out).2.2 (t : Int) (by omega) (by omega)
                obtain rfl := Option.some.inj e1
                clear e1
                rw [Int.toNat_natCast] at hx0 hx1 hx2
                obtain ⟨x, hxx⟩ : ∃ x, rd_T39 T (t : Int) = x := ⟨_, rfl⟩
                rw [hxx] at hx0 hx1 hx2
                obtain ⟨eb, heb⟩ : ∃ b, (cV x y == 0) = b := ⟨_, rfl⟩
                have HEB := Aside0.mk heb
                have HXX := Aside0.mk hxx
                replace hx0 := (HL.out.cell (World.block_lt_of_cell? wc _ hx0)).trans hx0
                replace hx1 := (HL.out.cell (World.block_lt_of_cell? wc _ hx1)).trans hx1
                replace hx2 := (HL.out.cell (World.block_lt_of_cell? wc _ hx2)).trans hx2
                replace hy0 := (HL.out.cell (World.block_lt_of_cell? wc _ hy0)).trans hy0
                replace hy1 := (HL.out.cell (World.block_lt_of_cell? wc _ hy1)).trans hy1
                replace hy2 := (HL.out.cell (World.block_lt_of_cell? wc _ hy2)).trans hy2
                clear hxx heb
                have hwf : IntKind.i64.wrap ((t : Int) + 1) = ((t + 1 : Nat) : Int) := by rw [i64_w]; unfold wrap64; omega
                have hfn : decide ((t : Int) < T.length) = true := decide_eq_true (by omega)
                have hfn2 : decide ((T.length : Int) ≤ (t : Int)) = false := decide_eq_false (by omega)
                go_upto_region 32 with (fail)
                have HS : Aside0 (∀ W : World, Below wr.heap.size wr W → (W.cell? (ad3.add (t * 3)) = some (.int .i64 x.f0) ∧ W.cell? ⟨(ad3.add (t * 3)).block, (ad3.add (t * 3)).off + 1, none⟩ = some (.int .i64 x.f1) ∧ W.cell? ⟨(ad3.add (t * 3)).block, (ad3.add (t * 3)).off + 2, none⟩ = some (.string x.f2) ∧ W.cell? (ad3.add (kn * 3)) = some (.int .i64 y.f0) ∧ W.cell? ⟨(ad3.add (kn * 3)).block, (ad3.add (kn * 3)).off + 1, none⟩ = some (.int .i64 y.f1) ∧ W.cell? ⟨(ad3.add (kn * 3)).block, (ad3.add (kn * 3)).off + 2, none⟩ = some (.string y.f2))) := ⟨fun W hB_ => ⟨(hB_.cell (World.block_lt_of_cell? wr _ hx0)).trans hx0, (hB_.cell (World.block_lt_of_cell? wr _ hx1)).trans hx1, (hB_.cell (World.block_lt_of_cell? wr _ hx2)).trans hx2, (hB_.cell (World.block_lt_of_cell? wr _ hy0)).trans hy0, (hB_.cell (World.block_lt_of_cell? wr _ hy1)).trans hy1, (hB_.cell (World.block_lt_of_cell? wr _ hy2)).trans hy2⟩⟩
                have HBd := Aside0.mk (below_drew1 (Below.refl wr.heap.size wr))
                clear hx0 hx1 hx2 hy0 hy1 hy2
                refine start_ (n := 15) (S := fun w' => w'.cell? (ad3.add (t * 3)) = some (.int .i64 x.f0) ∧ w'.cell? ⟨(ad3.add (t * 3)).block, (ad3.add (t * 3)).off + 1, none⟩ = some (.int .i64 x.f1) ∧ w'.cell? ⟨(ad3.add (t * 3)).block, (ad3.add (t * 3)).off + 2, none⟩ = some (.string x.f2) ∧ w'.cell? (ad3.add (kn * 3)) = some (.int .i64 y.f0) ∧ w'.cell? ⟨(ad3.add (kn * 3)).block, (ad3.add (kn * 3)).off + 1, none⟩ = some (.int .i64 y.f1) ∧ w'.cell? ⟨(ad3.add (kn * 3)).block, (ad3.add (kn * 3)).off + 2, none⟩ = some (.string y.f2)) (ds := []) #[false, false, false, false, false, false, false, false, false, false, false, false, false, false, false] (by kernel_rfl) rfl rfl (HS.out _ HBd.out) (fun hHeld => ?_)
                refine with_tabW f18_tab32 f18_bits32 (fun HT_ HW_ => ?_)
                generalize wr.drew = wd at HBd hHeld ⊢
                refine pu_ HT_ 0 (some 122) ?_
                refine pu_ HT_ 1 (some 123) ?_
                refine pu_ HT_ 2 (some 124) ?_
                refine pu_ HT_ 3 (some 125) ?_
                refine pu_ HT_ 4 (some 126) ?_
                refine pu_ HT_ 5 (some 127) ?_
                refine pu_ HT_ 6 (some 128) ?_
                refine tk_ HT_ HW_ 7 (some 129) hHeld ?_
                refine tk_ HT_ HW_ 8 (some 130) hHeld ?_
                refine pu_ HT_ 9 (some 131) ?_
                refine pu_ HT_ 10 (some 132) ?_
                refine tk_ HT_ HW_ 11 (some 133) hHeld ?_
                refine tk_ HT_ HW_ 12 (some 134) hHeld ?_
                refine on_ HT_ 13 (some 135) (fun K hK => ?_)
                refine gos_ Try.func59 #[.agg #[.int .i64 x.f0, .int .i64 x.f1, .string x.f2], .agg #[.int .i64 y.f0, .int .i64 y.f1, .string y.f2]] ?_
                refine (eqV_calls x y eb HEB.out _).mono ?_
                rintro e w2 ⟨rfl, hb⟩
                refine ⟨_, rfl, ?_⟩
                have HB2 := Aside0.mk (HBd.out.trans (hb.mono (below_size HBd.out)))
                clear hb
                refine hK.out _ _ (HS.out _ HB2.out) (fun hHeld => ?_)
                clear hK K
                refine nm_ (some 135) ?_
                refine pu_ HT_ 14 (some 136) ?_
                refine done_ (done_of HT_.out (by kernel_rfl)) ?_
                clear HT_ HW_ hHeld
                cases eb with
                | true =>
                 go_wp2
                 go_roundg k4
                 case measure => omega
                 case rel => exact ⟨t + 1, int_eq (by omega), by omega, ⟨by have := HKF.out; omega⟩, ⟨to_up HTS.out (by rw [HXX.out, HYY.out]; exact HEB.out)⟩, ⟨HL.out.trans (HB2.out.mono HL.out.size)⟩⟩
                | false =>
                 have HFF : Aside0 (t = tt) := ⟨to_stay HTS.out (by rw [HXX.out, HYY.out]; exact HEB.out)⟩
                 go_wp2
                 go_meet
                 case rel => exact ⟨by rw [HFF.out], ⟨HL.out.trans (HB2.out.mono HL.out.size)⟩⟩
              ·obtain rfl : t = T.length := by omega
               obtain rfl : gk = 0 := by have := HKF.out; omega
               have HFF : Aside0 (T.length = tt) := ⟨HTS.out⟩
               have hz0 : decide ((T.length : Int) < T.length) = false := decide_eq_false (by omega)
               go_upto_region 32 with (fail)
               have HBd := Aside0.mk (below_drew1 (Below.refl wr.heap.size wr))
               refine start_ (n := 15) (S := fun w' => True) (ds := []) #[false, false, false, false, false, false, false, false, false, false, false, false, false, false, false] (by kernel_rfl) rfl rfl trivial (fun hHeld => ?_)
               refine with_tabW f18_tab32 f18_bits32 (fun HT_ HW_ => ?_)
               generalize wr.drew = wd at HBd hHeld ⊢
               refine pu_ HT_ 0 (some 122) ?_
               refine pu_ HT_ 1 (some 123) ?_
               refine pu_ HT_ 2 (some 124) ?_
               refine pu_ HT_ 3 (some 125) ?_
               refine pu_ HT_ 4 (some 126) ?_
               refine sk_ HT_ 5 (some 127) ?_
               refine sk_ HT_ 6 (some 128) ?_
               refine sk_ HT_ 7 (some 129) ?_
               refine sk_ HT_ 8 (some 130) ?_
               refine sk_ HT_ 9 (some 131) ?_
               refine sk_ HT_ 10 (some 132) ?_
               refine sk_ HT_ 11 (some 133) ?_
               refine sk_ HT_ 12 (some 134) ?_
               refine sk_ HT_ 13 (some 135) ?_
               refine pu_ HT_ 14 (some 136) ?_
               refine done_ (done_of HT_.out (by kernel_rfl)) ?_
               clear HT_ HW_ hHeld
               go_wp2
               go_meet
               case rel => exact ⟨by rw [← HFF.out], ⟨HL.out.trans (HBd.out.mono HL.out.size)⟩⟩
            case rest =>
             obtain ⟨rfl, HY⟩ := hcut
             have B6c := Aside0.mk (blk_below B6b.out HY.out)
             have B2c := Aside0.mk (blk_below B2b.out HY.out)
             have HOc := Aside0.mk (Kd.R_below HOb.out HY.out)
             have H5c := Aside0.mk (Kd.R_below H5b.out HY.out)
             have H4c := Aside0.mk (Kd.R_below H4b.out HY.out)
             have H8c := Aside0.mk (Kd.R_below H8b.out HY.out)
             have H6c := Aside0.mk (Kd.R_below H6b.out HY.out)
             have H2c := Aside0.mk (Kd.R_below H2b.out HY.out)
             have HBc := Aside0.mk (HBb.out.trans (HY.out.mono (below_size HBb.out)))
             replace hy0 := (HY.out.cell (World.block_lt_of_cell? _ _ hy0)).trans hy0
             replace hy1 := (HY.out.cell (World.block_lt_of_cell? _ _ hy1)).trans hy1
             replace hy2 := (HY.out.cell (World.block_lt_of_cell? _ _ hy2)).trans hy2
             clear B6b B2b HOb H5b H4b H8b H6b H2b HBb HY HTT
             go_upto_region 34 with (fail)
             have HS : Aside0 (wc.drew.cell? ⟨g6, 5, none⟩ = some (.slice A5 Fj.length c5) ∧ wc.drew.cell? (ad3.add (kn * 3)) = some (.int .i64 y.f0) ∧ wc.drew.cell? ⟨(ad3.add (kn * 3)).block, (ad3.add (kn * 3)).off + 1, none⟩ = some (.int .i64 y.f1) ∧ wc.drew.cell? ⟨(ad3.add (kn * 3)).block, (ad3.add (kn * 3)).off + 2, none⟩ = some (.string y.f2)) := ⟨⟨(blk_cell (blk_drew B6c.out) 5).trans rfl, hy0, hy1, hy2⟩⟩
             have B6d := Aside0.mk (blk_drew B6c.out)
             have B2d := Aside0.mk (blk_drew B2c.out)
             have HOd := Aside0.mk (Kd.R_drew HOc.out)
             have H5d := Aside0.mk (Kd.R_drew H5c.out)
             have H4d := Aside0.mk (Kd.R_drew H4c.out)
             have H8d := Aside0.mk (Kd.R_drew H8c.out)
             have H6d := Aside0.mk (Kd.R_drew H6c.out)
             have H2d := Aside0.mk (Kd.R_drew H2c.out)
             have HBd := Aside0.mk (below_drew1 HBc.out)
             clear B6c B2c HOc H5c H4c H8c H6c H2c HBc hy0 hy1 hy2
             refine start_ (n := 10) (S := fun w' => w'.cell? ⟨g6, 5, none⟩ = some (.slice A5 Fj.length c5) ∧ w'.cell? (ad3.add (kn * 3)) = some (.int .i64 y.f0) ∧ w'.cell? ⟨(ad3.add (kn * 3)).block, (ad3.add (kn * 3)).off + 1, none⟩ = some (.int .i64 y.f1) ∧ w'.cell? ⟨(ad3.add (kn * 3)).block, (ad3.add (kn * 3)).off + 2, none⟩ = some (.string y.f2)) (ds := [7, 9]) #[false, false, false, false, false, false, false, false, false, false] (by kernel_rfl) rfl rfl HS.out (fun hHeld => ?_)
             refine with_tabW f18_tab34 f18_bits34 (fun HT_ HW_ => ?_)
             generalize wc.drew = wd at HS B6d B2d HOd H5d H4d H8d H6d H2d HBd hHeld ⊢
             refine pu_ HT_ 0 (some 139) ?_
             refine tk_ HT_ HW_ 1 (some 140) hHeld ?_
             refine pu_ HT_ 2 (some 141) ?_
             refine pu_ HT_ 3 (some 142) ?_
             refine tk_ HT_ HW_ 4 (some 143) hHeld ?_
             refine tk_ HT_ HW_ 5 (some 144) hHeld ?_
             refine on_ HT_ 6 (some 145) (fun K hK => ?_)
             refine value_ (w1 := ?_) (v := ?_) (by rfl) rfl ?_ ?_
             rotate_left 2
             ·go_simp
              constructor
              ·rfl
              ·rfl
             refine hK.out _ _ ⟨(blk_cell (blk_alloc B6d.out _) 5).trans rfl, ((below_alloc (Below.refl wd.heap.size wd) _).cell (World.block_lt_of_cell? wd _ hHeld.2.1)).trans hHeld.2.1, ((below_alloc (Below.refl wd.heap.size wd) _).cell (World.block_lt_of_cell? wd _ hHeld.2.2.1)).trans hHeld.2.2.1, ((below_alloc (Below.refl wd.heap.size wd) _).cell (World.block_lt_of_cell? wd _ hHeld.2.2.2)).trans hHeld.2.2.2⟩ (fun hHeld => ?_)
             clear hK K
             refine nm_ (some 145) ?_
             refine last_ (i := 7) (N := some 146) #[true, true, true, true, true, true, true, true, false, false] rfl rfl (one_of HT_.out (by kernel_rfl)) (by decide) (fun K hK => ?_)
             refine Kd.R_append_step k39 (w0 := w) w.heap.size (by rfl) (.tmp 140) (.tmp 145) 24 39 (.agg #[(.int .i64 0), (.int .i64 0), (.string ⟨#[]⟩)]) 32 rfl Try.underlying24 info39 rfl (by decide) (by omega) (.slice A5 Fj.length c5) Fj y [.int .i64 y.f0, .int .i64 y.f1, .string y.f2] (fun k_ => True ∧ some k_ ≠ (Value.slice (some ad3) T.length c3).ownBlock) (fun _ => False) rfl rfl ?aP (fun _ hk => hk.elim) ?aF ?aO ?aB ?aS ?aL ?_
             (case aP => exact k39_mkM _ _ _ y)
             (case aB => exact HBd.out)
             (case aF => exact fun k_ hk_ => ⟨trivial, Kd.fresh_ok HOd.out k_ hk_⟩)
             (case aO => exact H5d.out)
             (case aS => exact below_size HBd.out)
             (case aL => omega)
             intro v5 w5 ho hb hg hat
             have hfn := HFN.out
             obtain ⟨F2, hF2⟩ : ∃ F2, Fj ++ [y] = F2 := ⟨_, rfl⟩
             have hF2l : F2.length ≤ j + 1 := by rw [← hF2]; simp; omega
             rw [hF2] at ho hfn
             clear hF2 HFN
             have HFN := Aside0.mk hfn
             clear hfn
             obtain ⟨A55, c55, rfl⟩ := Kd.R_slice ho
             have H5e := Aside0.mk ho
             have HOe := Aside0.mk (Kd.R_after HOd.out hg hat)
             have B6e := Aside0.mk (blk_grown B6d.out hg (Kd.R_ne H5d.out B6d.out (by decide)))
             have B2e := Aside0.mk (blk_grown B2d.out hg (Kd.R_ne H5d.out B2d.out (by decide)))
             have H4e := Aside0.mk (Kd.R_over H4d.out H5d.out (by decide) hg)
             have H8e := Aside0.mk (Kd.R_over H8d.out H5d.out (by decide) hg)
             have H6e := Aside0.mk (Kd.R_over H6d.out H5d.out (by decide) hg)
             have H2e := Aside0.mk (Kd.R_over H2d.out H5d.out (by decide) hg)
             have HBe := Aside0.mk hb
             clear ho hb hg hat B6d B2d HOd H5d H4d H8d H6d H2d HBd
             refine hK.out _ _ ?_
             clear hK K
             refine nm_ (some 146) ?_
             refine pu_ HT_ 8 (some 147) ?_
             refine last_ (i := 9) (N := none) #[true, true, true, true, true, true, true, true, true, true] rfl rfl (one_of HT_.out (by kernel_rfl)) (by decide) (fun K hK => ?_)
             have q5 : w5.cell? ⟨g6, 5, none⟩ = some (.slice A5 Fj.length c5) := (blk_cell B6e.out 5).trans rfl
             have z5 := blk_frozen B6e.out 5
             refine skip_ (w1 := ?_) (by rfl) rfl ?_ ?_
             rotate_left
             ·go_simp
              rfl
             refine hK.out _ _ ?_
             clear hK K q5 z5 hHeld
             refine done_ (done_of HT_.out (by kernel_rfl)) ?_
             clear HT_ HW_ HS HYY
             have H5f := Aside0.mk (Kd.R_set H5e.out B6e.out (by decide) 5 (.slice A55 F2.length c55))
             have HOf := Aside0.mk (Kd.R_set HOe.out B6e.out (by decide) 5 (.slice A55 F2.length c55))
             have H4f := Aside0.mk (Kd.R_set H4e.out B6e.out (by decide) 5 (.slice A55 F2.length c55))
             have H8f := Aside0.mk (Kd.R_set H8e.out B6e.out (by decide) 5 (.slice A55 F2.length c55))
             have H6f := Aside0.mk (Kd.R_set H6e.out B6e.out (by decide) 5 (.slice A55 F2.length c55))
             have H2f := Aside0.mk (Kd.R_set H2e.out B6e.out (by decide) 5 (.slice A55 F2.length c55))
             have B2f := Aside0.mk (blk_far (p := ⟨g6, 5, none⟩) B2e.out (Nat.ne_of_lt hg2) (.slice A55 F2.length c55))
             have B6f : Aside0 ((w5.setCell ⟨g6, 5, none⟩ (.slice A55 F2.length c55)).heap[g6]? = some (.cells #[.int .i64 l.length, .int .i64 ((l.length : Int) - (T.length : Int)), .slice A2 rr.length c2, .bool bb, .slice A4 cur.length c4, .slice A55 F2.length c55, .slice A6 Rj.length c6] 26 (0, 0))) := ⟨blk_put B6e.out 5 (.slice A55 F2.length c55) rfl⟩
             have HBf := Aside0.mk (HBe.out.setCell (p := ⟨g6, 5, none⟩) (by show w.heap.size ≤ g6; omega) (.slice A55 F2.length c55))
             clear B6e B2e HOe H5e H4e H8e H6e H2e HBe
             generalize w5.setCell ⟨g6, 5, none⟩ (.slice A55 F2.length c55) = w6 at H5f HOf H4f H8f H6f H2f B2f B6f HBf ⊢
             have q6 : w6.cell? ⟨g6, 6, none⟩ = some (.slice A6 Rj.length c6) := (blk_cell B6f.out 6).trans rfl
             go_upto_region 35 with (fail)
             have H5x := Aside0.mk (Kd.R_alloc H5f.out (.cells #[.int .i64 (fr : Int), .int .i64 (tt : Int)] 3))
             have HOx := Aside0.mk (Kd.R_alloc HOf.out (.cells #[.int .i64 (fr : Int), .int .i64 (tt : Int)] 3))
             have H4x := Aside0.mk (Kd.R_alloc H4f.out (.cells #[.int .i64 (fr : Int), .int .i64 (tt : Int)] 3))
             have H8x := Aside0.mk (Kd.R_alloc H8f.out (.cells #[.int .i64 (fr : Int), .int .i64 (tt : Int)] 3))
             have H6x := Aside0.mk (Kd.R_alloc H6f.out (.cells #[.int .i64 (fr : Int), .int .i64 (tt : Int)] 3))
             have H2x := Aside0.mk (Kd.R_alloc H2f.out (.cells #[.int .i64 (fr : Int), .int .i64 (tt : Int)] 3))
             have B2x := Aside0.mk (blk_alloc B2f.out (.cells #[.int .i64 (fr : Int), .int .i64 (tt : Int)] 3))
             have B6x := Aside0.mk (blk_alloc B6f.out (.cells #[.int .i64 (fr : Int), .int .i64 (tt : Int)] 3))
             have HBx := Aside0.mk (below_alloc HBf.out (.cells #[.int .i64 (fr : Int), .int .i64 (tt : Int)] 3))
             have C2x := Aside0.mk (C2 (heap_alloc_new w6 (.cells #[.int .i64 (fr : Int), .int .i64 (tt : Int)] 3)))
             have hszx : w.heap.size ≤ (w6.alloc (.cells #[.int .i64 (fr : Int), .int .i64 (tt : Int)] 3)).heap.size := below_size HBx.out
             have hlx : (Rj.length + 2) * 8 ≤ 140737488355328 := by omega
             have FRx : Aside0 (∀ k_, (w6.alloc (.cells #[.int .i64 (fr : Int), .int .i64 (tt : Int)] 3)).heap.size ≤ k_ → (fun k_ => True ∧ some k_ ≠ (Value.slice A4 cur.length c4).ownBlock ∧ some k_ ≠ (Value.slice (some ad8) sp.length c8).ownBlock) k_) := ⟨fun k_ hk_ => ⟨trivial, Kd.fresh_ok H4x.out k_ hk_, Kd.fresh_ok H8x.out k_ hk_⟩⟩
             clear H5f HOf H4f H8f H6f H2f B2f B6f HBf
             go_upto_region 36 with ((with_reducible refine gate_dst (N := 153) rfl ?_); refine Kd.R_append_row (Value.int .i64) 0 (h1 := fun _ => rfl) (w0 := w) (W := w6.alloc (.cells #[.int .i64 (fr : Int), .int .i64 (tt : Int)] 3)) w.heap.size rfl (.tmp 149) (.tmp 152) 23 3 (.int .i64 0) 8 rfl Try.underlying23 info3 rfl (by decide) (.slice A6 Rj.length c6) Rj [(fr : Int), (tt : Int)] (some ⟨w6.heap.size, 0, none⟩) 2 2 (fun k_ => True ∧ some k_ ≠ (Value.slice A4 cur.length c4).ownBlock ∧ some k_ ≠ (Value.slice (some ad8) sp.length c8).ownBlock) rfl rfl FRx.out H6x.out C2x.out HBx.out hszx hlx ?_; intro v6 w7 ho hb hg hat; have hfn := HFN.out; obtain ⟨R2, hR2⟩ : ∃ R2, Rj ++ [(fr : Int), (tt : Int)] = R2 := ⟨_, rfl⟩; have hR2l : R2.length ≤ 2 * (j + 1) := (by rw [← hR2]; simp; omega); rw [hR2] at ho hfn; clear hR2 HFN; have HFN := Aside0.mk hfn; obtain ⟨A66, c66, rfl⟩ := Kd.R_slice ho; have H6g := Aside0.mk ho; have H4g := Aside0.mk (Kd.R_after H4x.out hg hat); have H8g := Aside0.mk (Kd.R_after H8x.out hg hat); have HOg := Aside0.mk (Kd.R_over HOx.out H6x.out (by decide) hg); have H5g := Aside0.mk (Kd.R_over H5x.out H6x.out (by decide) hg); have H2g := Aside0.mk (Kd.R_over H2x.out H6x.out (by decide) hg); have B6g := Aside0.mk (blk_grown B6x.out hg (Kd.R_ne H6x.out B6x.out (by decide))); have B2g := Aside0.mk (blk_grown B2x.out hg (Kd.R_ne H6x.out B2x.out (by decide))); have HBg := Aside0.mk hb; have p6 : w7.cell? ⟨g6, 6, none⟩ = some (.slice A6 Rj.length c6) := (blk_cell B6g.out 6).trans rfl; have z6 := blk_frozen B6g.out 6; clear hfn ho hb hg hat H5x HOx H4x H8x H6x H2x B2x B6x HBx q6 hszx hlx FRx C2x)
             have H5z := Aside0.mk (Kd.R_set H5g.out B6g.out (by decide) 6 (.slice A66 R2.length c66))
             have HOz := Aside0.mk (Kd.R_set HOg.out B6g.out (by decide) 6 (.slice A66 R2.length c66))
             have H4z := Aside0.mk (Kd.R_set H4g.out B6g.out (by decide) 6 (.slice A66 R2.length c66))
             have H8z := Aside0.mk (Kd.R_set H8g.out B6g.out (by decide) 6 (.slice A66 R2.length c66))
             have H6z : Aside0 (Kd.R (Kd.int .i64) 3 (w7.setCell ⟨g6, 6, none⟩ (.slice A66 R2.length c66)) w.heap.size (fun k_ => True ∧ some k_ ≠ (Value.slice A4 cur.length c4).ownBlock ∧ some k_ ≠ (Value.slice (some ad8) sp.length c8).ownBlock) (.slice A66 R2.length c66) R2) := ⟨Kd.R_set H6g.out B6g.out (by decide) 6 (.slice A66 R2.length c66)⟩
             have H2z := Aside0.mk (Kd.R_set H2g.out B6g.out (by decide) 6 (.slice A66 R2.length c66))
             have B2z := Aside0.mk (blk_far (p := ⟨g6, 6, none⟩) B2g.out (Nat.ne_of_lt hg2) (.slice A66 R2.length c66))
             have B6z := Aside0.mk (blk_put B6g.out 6 (.slice A66 R2.length c66) rfl)
             have HBz := Aside0.mk (HBg.out.setCell (p := ⟨g6, 6, none⟩) (by show w.heap.size ≤ g6; omega) (.slice A66 R2.length c66))
             clear H5g HOg H4g H8g H6g H2g B2g B6g HBg p6 z6
             generalize w7.setCell ⟨g6, 6, none⟩ (.slice A66 R2.length c66) = w8 at H5z HOz H4z H8z H6z H2z B2z B6z HBz ⊢
             go_wp2
             go_roundg k3
             case measure => omega
             case rel => exact ⟨j + 1, F2, R2, A55, A66, c55, c66, int_eq (by omega), by omega, by omega, by omega, ⟨by have := HK3.out; omega⟩, HFN, B6z, B2z, HOz, H5z, H4z, H8z, H6z, H2z, HBz⟩
       ·obtain rfl : j = sp.length := by omega
        cases gk with
        | succ k3 => exact absurd HK3.out (by omega)
        | zero =>
         have hfe := HFE.out
         rw [List.drop_length] at hfe
         obtain ⟨rfl, rfl⟩ := Prod.mk.inj hfe
         clear hfe HFE
         have hd1 : decide ((sp.length : Int) < sp.length) = false := decide_eq_false (by omega)
         have q0 : wr.cell? ⟨g6, 0, none⟩ = some (.int .i64 l.length) := (blk_cell B6.out 0).trans rfl
         have q1 : wr.cell? ⟨g6, 1, none⟩ = some (.int .i64 ((l.length : Int) - (T.length : Int))) := (blk_cell B6.out 1).trans rfl
         have q2 : wr.cell? ⟨g6, 2, none⟩ = some (.slice A2 rr.length c2) := (blk_cell B6.out 2).trans rfl
         have q3 : wr.cell? ⟨g6, 3, none⟩ = some (.bool bb) := (blk_cell B6.out 3).trans rfl
         have q4 : wr.cell? ⟨g6, 4, none⟩ = some (.slice A4 cur.length c4) := (blk_cell B6.out 4).trans rfl
         have q5 : wr.cell? ⟨g6, 5, none⟩ = some (.slice A5 Fj.length c5) := (blk_cell B6.out 5).trans rfl
         have q6 : wr.cell? ⟨g6, 6, none⟩ = some (.slice A6 Rj.length c6) := (blk_cell B6.out 6).trans rfl
         have e0 := blk_cell B2.out 0
         have e1 := blk_cell B2.out 1
         have e2 := blk_cell B2.out 2
         have e3 := blk_cell B2.out 3
         have e4 := blk_cell B2.out 4
         have e5 := blk_cell B2.out 5
         have e6 := blk_cell B2.out 6
         have f0 := blk_frozen B2.out 0
         have f1 := blk_frozen B2.out 1
         have f2 := blk_frozen B2.out 2
         have f3 := blk_frozen B2.out 3
         have f4 := blk_frozen B2.out 4
         have f5 := blk_frozen B2.out 5
         have f6 := blk_frozen B2.out 6
         go_wp2
         have P2 := put7_blk B2.out (.int .i64 l.length) (.int .i64 ((l.length : Int) - (T.length : Int))) (.slice A2 rr.length c2) (.bool bb) (.slice A4 cur.length c4) (.slice A5 Fj.length c5) (.slice A6 Rj.length c6)
         have r2 := put7_R B2.out (.int .i64 l.length) (.int .i64 ((l.length : Int) - (T.length : Int))) (.slice A2 rr.length c2) (.bool bb) (.slice A4 cur.length c4) (.slice A5 Fj.length c5) (.slice A6 Rj.length c6) H2.out (by decide)
         have r4 := put7_R B2.out (.int .i64 l.length) (.int .i64 ((l.length : Int) - (T.length : Int))) (.slice A2 rr.length c2) (.bool bb) (.slice A4 cur.length c4) (.slice A5 Fj.length c5) (.slice A6 Rj.length c6) H4.out (by decide)
         have r5 := put7_R B2.out (.int .i64 l.length) (.int .i64 ((l.length : Int) - (T.length : Int))) (.slice A2 rr.length c2) (.bool bb) (.slice A4 cur.length c4) (.slice A5 Fj.length c5) (.slice A6 Rj.length c6) H5.out (by decide)
         have r6 := put7_R B2.out (.int .i64 l.length) (.int .i64 ((l.length : Int) - (T.length : Int))) (.slice A2 rr.length c2) (.bool bb) (.slice A4 cur.length c4) (.slice A5 Fj.length c5) (.slice A6 Rj.length c6) H6.out (by decide)
         have rB := put7_below HB.out (Nat.le_of_eq hN2) (.int .i64 l.length) (.int .i64 ((l.length : Int) - (T.length : Int))) (.slice A2 rr.length c2) (.bool bb) (.slice A4 cur.length c4) (.slice A5 Fj.length c5) (.slice A6 Rj.length c6)
         show bodyPost _ _ _ _ _ (put7 wr g2 (.int .i64 l.length) (.int .i64 ((l.length : Int) - (T.length : Int))) (.slice A2 rr.length c2) (.bool bb) (.slice A4 cur.length c4) (.slice A5 Fj.length c5) (.slice A6 Rj.length c6))
         generalize put7 wr g2 (.int .i64 l.length) (.int .i64 ((l.length : Int) - (T.length : Int))) (.slice A2 rr.length c2) (.bool bb) (.slice A4 cur.length c4) (.slice A5 Fj.length c5) (.slice A6 Rj.length c6) = wz at P2 r2 r4 r5 r6 rB ⊢
         have d0 : wz.cell? ⟨g2, 0, none⟩ = some (.int .i64 l.length) := (blk_cell P2 0).trans rfl
         have d1 : wz.cell? ⟨g2, 1, none⟩ = some (.int .i64 ((l.length : Int) - (T.length : Int))) := (blk_cell P2 1).trans rfl
         have d2 : wz.cell? ⟨g2, 2, none⟩ = some (.slice A2 rr.length c2) := (blk_cell P2 2).trans rfl
         have d3 : wz.cell? ⟨g2, 3, none⟩ = some (.bool bb) := (blk_cell P2 3).trans rfl
         have d4 : wz.cell? ⟨g2, 4, none⟩ = some (.slice A4 cur.length c4) := (blk_cell P2 4).trans rfl
         have d5 : wz.cell? ⟨g2, 5, none⟩ = some (.slice A5 Fj.length c5) := (blk_cell P2 5).trans rfl
         have d6 : wz.cell? ⟨g2, 6, none⟩ = some (.slice A6 Rj.length c6) := (blk_cell P2 6).trans rfl
         clear P2
         refine bodyPost_ret (v := .agg #[.int .i64 l.length, .int .i64 ((l.length : Int) - (T.length : Int)), .slice A2 rr.length c2, .bool bb, .slice A4 cur.length c4, .slice A5 Fj.length c5, .slice A6 Rj.length c6]) (by simp [results, Try.results18, go_sem, d0, d1, d2, d3, d4, d5, d6]) rfl ?_
         exact ⟨_, _, _, _, rfl, r2, Kd.R_mono r4 (fun _ hk => hk.2), Kd.R_mono r5 (fun _ _ => trivial), Kd.R_mono r6 (fun _ hk => hk.2.1), rB⟩
end Go.Proofs.Ytackcingpffidaa.P
