/- What Go functions of the given program return, told as Lean functions, and the walks that show it; written by a program of this session (the print of the kit, turned). Conditions: the hypotheses that stand at each theorem. -/
import Derived.Test.YtiklldjfcdblbaaPx0
namespace Go.Proofs.Ytiklldjfcdblbaa.P
open Go.RowKit Go.Proofs.YtiklldjfcdblbaaW.PrintWords Go.Proofs.YtiklldjfcdblbaaW.PrintLast Go.Proofs.YtiklldjfcdblbaaW.PrintMore
attribute [local go_sem] max2_int min2_int max_two min_two max_three min_three max_four min_four Go.Proofs.YtiklldjfcdblbaaQ.str_gtr Go.Proofs.YtiklldjfcdblbaaQ.str_leq Go.Proofs.YtiklldjfcdblbaaQ.str_geq   -- for this text's walks alone
set_option linter.unusedVariables false
set_option linter.unusedSimpArgs false

/-! ### checksum_Mix: function 75 -/
def checksum_Mix.f (a0 : Int) : Option (Int) := some (Go.bits .xor .u64 (IntKind.u64.wrap ((Go.bits .xor .u64 (IntKind.u64.wrap ((Go.bits .xor .u64 a0 (a0 / 1073741824)) * 13787848793156543929)) ((IntKind.u64.wrap ((Go.bits .xor .u64 a0 (a0 / 1073741824)) * 13787848793156543929)) / 134217728)) * 10723151780598845931)) ((IntKind.u64.wrap ((Go.bits .xor .u64 (IntKind.u64.wrap ((Go.bits .xor .u64 a0 (a0 / 1073741824)) * 13787848793156543929)) ((IntKind.u64.wrap ((Go.bits .xor .u64 a0 (a0 / 1073741824)) * 13787848793156543929)) / 134217728)) * 10723151780598845931)) / 2147483648))
set_option maxHeartbeats 8000000 in
set_option maxRecDepth 100000 in
theorem checksum_Mix.calls (a0 : Int) (r : Int) (w : World) (h : checksum_Mix.f a0 = some r) :
    Calls Try.prog 75 #[.int .u64 a0] w fun e w' => e = .returned (.int .u64 r) ∧ Drawn0 w w' := by
  have H : (some (Go.bits .xor .u64 (IntKind.u64.wrap ((Go.bits .xor .u64 (IntKind.u64.wrap ((Go.bits .xor .u64 a0 (a0 / 1073741824)) * 13787848793156543929)) ((IntKind.u64.wrap ((Go.bits .xor .u64 a0 (a0 / 1073741824)) * 13787848793156543929)) / 134217728)) * 10723151780598845931)) ((IntKind.u64.wrap ((Go.bits .xor .u64 (IntKind.u64.wrap ((Go.bits .xor .u64 a0 (a0 / 1073741824)) * 13787848793156543929)) ((IntKind.u64.wrap ((Go.bits .xor .u64 a0 (a0 / 1073741824)) * 13787848793156543929)) / 134217728)) * 10723151780598845931)) / 2147483648))) = some r := h
  clear h
  obtain rfl := Option.some.inj H
  go_enter Try.func75, Try.ntmps75
  go_wp2
  go_ret
  exact ⟨by first | rfl | (simp; done) | (simp [*]; done), by repeat (first | exact Drawn0.refl _ | apply Drawn0.step)⟩

/-! ### checksum_Hash: function 76 -/
/-- The eight bytes of a group, with zeros behind what there is. -/
def checksum_Hash.pad (x : List Int) : List Int := x ++ List.replicate (8 - x.length) 0
/-- A group as a number, i bytes of it. -/
def checksum_Hash.word (g : List Int) : Nat → Int
  | 0 => 0
  | i + 1 => Go.bits .or .u64 (checksum_Hash.word g i) (IntKind.u64.wrap (IntKind.u64.wrap (rd g (i : Int)) * 2 ^ (8 * i)))
def checksum_Hash.l0 : Nat → List Int → Int → Int → Option Int
  | 0, _, _, _ => none
  | k + 1, l, h, n => if n < (l.length : Int) then (if 0 ≤ n then (checksum_Mix.f (Go.bits .xor .u64 h (checksum_Hash.word (checksum_Hash.pad ((l.take (if (l.length : Int) < wrap64 (n + 8) then (l.length : Int) else wrap64 (n + 8)).toNat).drop n.toNat)) 8))).bind fun t => checksum_Hash.l0 k l t (wrap64 (n + 8)) else none) else some h
def checksum_Hash.f (k : Nat) (a0 : Int) (l1 : List Int) : Option (Int) := if l1.length ≤ 140737488351232 then (checksum_Mix.f (Go.bits .xor .u64 a0 (l1.length : Int))).bind fun t => checksum_Hash.l0 k l1 t 0 else none
theorem checksum_Hash.mono_l : ∀ k, ∀ l h n, LeO (checksum_Hash.l0 k l h n) (checksum_Hash.l0 (k + 1) l h n)
  | 0 => fun _ _ _ r h => by simp [checksum_Hash.l0] at h
  | k + 1 => fun l h n => by
    have ih := checksum_Hash.mono_l k
    unfold checksum_Hash.l0
    exact LeO.ite (LeO.ite (LeO.bind (LeO.refl _) (fun _ => ih _ _ _)) (LeO.none _)) (LeO.refl _)
theorem checksum_Hash.mono : ∀ a0 a1 k, LeO (checksum_Hash.f k a0 a1) (checksum_Hash.f (k + 1) a0 a1) := by
  intro a0 a1 k
  unfold checksum_Hash.f
  exact LeO.ite (LeO.bind (LeO.refl _) (fun _ => checksum_Hash.mono_l k _ _ _)) (LeO.none _)
set_option maxHeartbeats 1000000 in
set_option maxRecDepth 100000 in
theorem checksum_Hash.calls (k : Nat) (a0 : Int) (A1 : Option Addr) (c1 : Nat) (l1 : List Int) (r : Int) (w : World) (hr1 : Kd.C (Kd.int .u8) w A1 l1.length l1) (hc1 : l1.length ≤ c1) (h : checksum_Hash.f k a0 l1 = some r) :
    Calls Try.prog 76 #[.int .u64 a0, .slice A1 l1.length c1] w fun e w' => e = .returned (.int .u64 r) ∧ Below w.heap.size w w' := by
  have HR1 := Aside0.mk hr1
  have HC1 := Aside0.mk hc1
  clear hr1 hc1
  have HB := Aside0.mk (Below.refl w.heap.size w)
  unfold checksum_Hash.f at h
  by_cases hl : l1.length ≤ 140737488351232
  · rw [if_pos hl] at h
    obtain ⟨t, h1, h2⟩ := Option.bind_eq_some_iff.mp h
    have A1_ := Aside0.mk h1
    have H' := Aside0.mk h2
    clear h h1 h2
    go_enter Try.func76, Try.ntmps76
    go_wp2_with (first | ((with_reducible refine gate_callee (f := 75) rfl ?_); refine goesL_ (some 15) rfl rfl Try.func75 (by kernel_rfl) rfl #[.int .u64 (Go.bits .xor .u64 a0 (l1.length : Int))] rfl (by (try simp only [List.map_toArray, List.map_cons, List.map_nil]); rfl) ?_; (with_reducible refine (checksum_Mix.calls _ t _ A1_.out).mono ?_); rintro e w' ⟨rfl, ⟨nd, rfl⟩⟩; refine ⟨_, rfl, ?_⟩))
    go_loopg [5, 6] k (fun kq v5 v6 w' => ∃ (h_ n_ : Int), v5 = .int .u64 h_ ∧ v6 = .int .i64 n_ ∧ Aside0 (checksum_Hash.l0 kq l1 h_ n_ = some r) ∧ Aside0 (kq ≤ k) ∧ Aside0 (Below w.heap.size w w'))
    case atStart => exact ⟨t, 0, rfl, rfl, H', ⟨Nat.le_refl _⟩, ⟨by repeat (first | (with_reducible first | exact HB.out | apply below_alloc | apply pw_below_drewN | apply below_drew1) | exact HB.out)⟩⟩
    case round =>
      clear H'
      obtain ⟨h_, n_, rfl, rfl, HA, HK1, HB⟩ := hrel
      cases gk with
      | zero => exact absurd HA.out (by simp [checksum_Hash.l0])
      | succ k1 =>
        have H := HA.out
        clear HA
        simp only [checksum_Hash.l0] at H
        by_cases c2 : n_ < (l1.length : Int)
        · rw [if_pos c2] at H
          have c2b0 : decide (n_ < (l1.length : Int)) = true := decide_eq_true c2
          by_cases c3 : 0 ≤ n_
          · rw [if_pos c3] at H
            have hw8 : wrap64 (n_ + 8) = n_ + 8 := by unfold wrap64; omega
            obtain ⟨m_, hm⟩ : ∃ m_ : Int, m_ = (if (l1.length : Int) < wrap64 (n_ + 8) then (l1.length : Int) else wrap64 (n_ + 8)) := ⟨_, rfl⟩
            rw [← hm] at H
            have hm1 : n_ ≤ m_ := by rw [hm]; split <;> omega
            have hm2 : m_ ≤ (l1.length : Int) := by rw [hm]; split <;> omega
            have hm8 : m_ ≤ n_ + 8 := by rw [hm]; split <;> omega
            obtain ⟨t2, h3, h4⟩ := Option.bind_eq_some_iff.mp H
            have A2_ := Aside0.mk h3
            have H' := Aside0.mk h4
            clear H h3 h4
            obtain ⟨i025, hi025, _, hsz25, _⟩ := info_parts info5
            obtain ⟨A25, hcut25, hA25, hC25⟩ := print_mid_of (P := Try.prog) (Value.int .u8) 0 26 5 .i64 .i64 Try.underlying26 hi025 hsz25 A1 c1 l1 n_ m_ c3 hm1 hm2 HC1.out
            obtain ⟨x_, hx⟩ : ∃ x_ : List Int, x_ = (l1.take m_.toNat).drop n_.toNat := ⟨_, rfl⟩
            rw [← hx] at hcut25 hA25 hC25 A2_
            have hxl : x_.length ≤ 8 := by rw [hx, List.length_drop, List.length_take]; omega
            have hxm : x_.length = m_.toNat - n_.toNat := by rw [hx, List.length_drop, List.length_take]; omega
            have HXe := Aside0.mk hx
            clear hx
            have HX := Aside0.mk (hA25 _ (Kd.reads_of_C (Kd.C_below HR1.out HB.out)))
            clear hA25
            have hmin : (if (l1.length : Int) < IntKind.i64.wrap (n_ + 8) then (l1.length : Int) else IntKind.i64.wrap (n_ + 8)) = m_ := by rw [hm, i64_w]
            clear hm hw8
            go_wp2_with fail
            have BK := Aside0.mk (blk_new wr (.cells #[.int .u8 0, .int .u8 0, .int .u8 0, .int .u8 0, .int .u8 0, .int .u8 0, .int .u8 0, .int .u8 0] 87))
            have HX2 := Aside0.mk (ReadsOf.below HX.out (below_alloc (Below.refl _ _) (.cells #[.int .u8 0, .int .u8 0, .int .u8 0, .int .u8 0, .int .u8 0, .int .u8 0, .int .u8 0, .int .u8 0] 87)))
            have hge0 := below_size HB.out
            have hgs : wr.heap.size < (wr.alloc (.cells #[.int .u8 0, .int .u8 0, .int .u8 0, .int .u8 0, .int .u8 0, .int .u8 0, .int .u8 0, .int .u8 0] 87)).heap.size := by simp
            have HB2 := Aside0.mk (below_alloc HB.out (.cells #[.int .u8 0, .int .u8 0, .int .u8 0, .int .u8 0, .int .u8 0, .int .u8 0, .int .u8 0, .int .u8 0] 87))
            clear HB HX
            have HB := HB2
            clear HB2
            have hge := below_size HB.out
            generalize wr.alloc (.cells #[.int .u8 0, .int .u8 0, .int .u8 0, .int .u8 0, .int .u8 0, .int .u8 0, .int .u8 0, .int .u8 0] 87) = w2 at *
            have hsrc : 0 < x_.length → ∃ ad, A25 = some ad ∧ ∀ j v, (x_.map (Value.int .u8))[j]? = some v → w2.drew.cell? (ad.add j) = some v := by
              intro hp
              obtain ⟨ad, e, hc⟩ := HX2.out.2.2 hp
              refine ⟨ad, e, fun j v hj => ?_⟩
              rw [List.getElem?_map] at hj
              obtain ⟨y, hy, rfl⟩ := Option.map_eq_some_iff.1 hj
              obtain ⟨hjl, hy2⟩ := List.getElem?_eq_some_iff.1 hy
              have := hc j hjl
              rw [List.getD_eq_getElem?_getD, hy] at this
              exact this
            have hsrc := Aside0.mk hsrc
            go_region_law (refine step_copy_splice rfl (.tmp 22) (.tmp 30) 26 26 rfl 5 Try.underlying26 (by rw [hi025]; simp [hsz25]) (some ⟨wr.heap.size, 0, none⟩) A25 8 8 (m_.toNat - n_.toNat) (c1 - n_.toNat) (by simp [Act.eval, Act.put]) (by simp [Act.eval, Act.put]) wr.heap.size 0 [.int .u8 0, .int .u8 0, .int .u8 0, .int .u8 0, .int .u8 0, .int .u8 0, .int .u8 0, .int .u8 0] 87 (blk_drew BK.out) (x_.map (Value.int .u8)) (by rw [List.length_map, hxm]; exact (Nat.min_eq_left (by omega)).symm) (fun hp => ⟨rfl, hsrc.out (by rw [List.length_map] at hp; exact hp)⟩) (by rw [List.length_map]; simp; omega) (by intro u hu; obtain ⟨_, _, rfl⟩ := List.mem_map.1 hu; rfl) wr.heap.size w2 (below_drew1 (Below.refl _ _)) (by omega) ?_; intro w4 hg4 hb4)
            have hsp : splice [.int .u8 0, .int .u8 0, .int .u8 0, .int .u8 0, .int .u8 0, .int .u8 0, .int .u8 0, .int .u8 0] 0 (x_.map (Value.int .u8)) = (checksum_Hash.pad x_).map (Value.int .u8) := by
              unfold splice checksum_Hash.pad
              rw [List.map_append, List.map_replicate, List.take_zero, List.nil_append, Nat.zero_add, List.length_map]
              congr 1
              exact List.drop_replicate (n := 8) (a := Value.int .u8 0) (i := x_.length)
            have HG := Aside0.mk (show w4.heap[wr.heap.size]? = some (.cells ((checksum_Hash.pad x_).map (Value.int .u8)).toArray 87 (0, 0)) from by have h_ := hg4; unfold Hid at h_; rw [hsp] at h_; exact h_)
            have HB4 := Aside0.mk (HB.out.trans (hb4.mono hge0))
            clear hg4 hsp hsrc HX2 BK
            clear HB hb4 hgs hge
            have HB := HB4
            clear HB4
            generalize wr.heap.size = g_ at *
            go_wp2
            go_loopg [8, 32] 8 (fun kq v8 v32 w' => ∃ (i_ : Nat), kq + i_ = 8 ∧ v8 = .int .u64 (checksum_Hash.word (checksum_Hash.pad x_) i_) ∧ v32 = .int .i64 (i_ : Int) ∧ Aside0 (w'.heap[g_]? = some (.cells ((checksum_Hash.pad x_).map (Value.int .u8)).toArray 87 (0, 0))) ∧ Aside0 (Below w.heap.size w w'))
            case atStart => exact ⟨0, rfl, rfl, rfl, HG, HB⟩
            case round =>
              clear HG HB
              obtain ⟨i_, hgi, rfl, rfl, HG, HB⟩ := hrel
              have hpl : (checksum_Hash.pad x_).length = 8 := by unfold checksum_Hash.pad; rw [List.length_append, List.length_replicate]; omega
              by_cases ci : i_ < 8
              · cases gk with
                | zero => exact absurd hgi (by omega)
                | succ k2 =>
                  have cib : decide ((i_ : Int) < 8) = true := decide_eq_true (by omega)
                  have hcell : wr.cell? ⟨g_, i_, none⟩ = some (.int .u8 (rd (checksum_Hash.pad x_) (i_ : Int))) := by
                    have hget : (checksum_Hash.pad x_)[i_]? = some (rd (checksum_Hash.pad x_) (i_ : Int)) := by
                      unfold rd
                      rw [Int.toNat_natCast, List.getD_eq_getElem?_getD, List.getElem?_eq_getElem (by omega)]
                      rfl
                    simp [World.cell?, HG.out, hget]
                  have p1 : (0 : Int) ≤ (i_ : Int) := by omega
                  have p2 : (i_ : Int) < 8 := by omega
                  have hw1 : wrap64 (8 * (i_ : Int)) = ((8 * i_ : Nat) : Int) := by unfold wrap64; omega
                  have hw2 : ((8 * i_ : Nat) : Int) ≤ 64 := by omega
                  go_wp2
                  go_roundg k2
                  case measure => omega
                  case rel => exact ⟨i_ + 1, by omega, rfl, by first | rfl | (congr 1; omega), HG, HB⟩
              · have cib : decide ((i_ : Int) < 8) = false := decide_eq_false (by omega)
                obtain rfl : i_ = 8 := by omega
                go_wp2_with (first | ((with_reducible refine gate_callee (f := 75) rfl ?_); refine goesL_ (some 49) rfl rfl Try.func75 (by kernel_rfl) rfl #[.int .u64 (Go.bits .xor .u64 h_ (checksum_Hash.word (checksum_Hash.pad x_) 8))] rfl (by (try simp only [List.map_toArray, List.map_cons, List.map_nil]); rfl) ?_; (with_reducible refine (checksum_Mix.calls _ t2 _ A2_.out).mono ?_); rintro e w' ⟨rfl, ⟨nd, rfl⟩⟩; refine ⟨_, rfl, ?_⟩))
                go_roundg k1
                case measure => have := HK1.out; omega
                case rel => exact ⟨t2, wrap64 (n_ + 8), rfl, by congr 1; unfold wrap64; omega, H', ⟨by have := HK1.out; omega⟩, ⟨by repeat (first | (with_reducible first | exact HB.out | apply below_alloc | apply pw_below_drewN | apply below_drew1) | exact HB.out)⟩⟩
          · rw [if_neg c3] at H
            exact absurd H (by simp)
        · rw [if_neg c2] at H
          have c2b0 : decide (n_ < (l1.length : Int)) = false := decide_eq_false c2
          clear c2
          obtain rfl := Option.some.inj H
          go_wp2
          go_ret
          exact ⟨rfl, by repeat (first | (with_reducible first | exact HB.out | apply below_alloc | apply pw_below_drewN | apply below_drew1) | exact HB.out)⟩
  · rw [if_neg hl] at h
    exact absurd h (by simp)


end Go.Proofs.Ytiklldjfcdblbaa.P
