/- history.add. Conditions: the hypotheses that stand at each theorem. -/
import Derived.Test.YtjeoabjccbinhaaH6
namespace Go.Proofs.Ytjeoabjccbinhaa.P
open Go.RowKit Go.Proofs.YtjeoabjccbinhaaW.PrintWords Go.Proofs.YtjeoabjccbinhaaW.PrintLast Go.Proofs.YtjeoabjccbinhaaW.PrintMore
set_option linter.unusedVariables false
set_option linter.unusedSimpArgs false
theorem bcellB {B : Nat} {W w1 : World} (hb : Below B W w1) : (∀ b o, b < B → w1.cell? ⟨b, o, none⟩ = W.cell? ⟨b, o, none⟩) ∧ (∀ b o, b < B → w1.frozen? ⟨b, o, none⟩ = W.frozen? ⟨b, o, none⟩) :=
  ⟨fun b o h => hb.cell (p := ⟨b, o, none⟩) h, fun b o h => hb.frozen (p := ⟨b, o, none⟩) h⟩
set_option maxHeartbeats 1000000 in
set_option maxRecDepth 100000 in
theorem f61_calls (a : ByteArray) (n : Int) (b : Nat) (id : Int) (w : World) (hb : w.cell? ⟨b, 0, none⟩ = some (.int .i64 id)) :
    Calls Try.prog 61 #[.agg #[.string a, .int .i64 n], .pointer (some ⟨b, 0, none⟩)] w fun e w' => e = .returned (.bool (n == id)) ∧ Below w.heap.size w w' := by
  have hbl := World.block_lt_of_cell? w _ hb
  have hb0 := (Below.refl w.heap.size w).alloc (Nat.le_refl _) (.cells #[.string a, .int .i64 n] 86)
  have hb1 := (hb0.cell hbl).trans hb
  have HB := Aside0.mk hb0
  clear hb hb0
  go_enter Try.func61, Try.ntmps61
  go_wp2
  go_ret
  exact ⟨rfl, HB.out⟩
/-- Where an ID is referred to first; -1: nowhere. -/
def fi (l : List S86) (id : Int) : Int := if (l.any fun r => r.f1 == id) = true then (l.findIdx fun r => r.f1 == id) else -1
set_option maxHeartbeats 1000000 in
set_option maxRecDepth 100000 in
theorem f75_calls (A : Option Addr) (c : Nat) (l : List S86) (b : Nat) (id : Int) (w : World) (hr : Kd.C k86 w A l.length l) (hn : l.length ≤ 1000) (hb : w.cell? ⟨b, 0, none⟩ = some (.int .i64 id)) :
    Calls Try.prog 75 #[.slice A l.length c, .func (.func 61) #[] #[.pointer (some ⟨b, 0, none⟩)]] w fun e w' => e = .returned (.int .i64 (fi l id)) ∧ Below w.heap.size w w' := by
  have HR := Aside0.mk hr
  have HX := Aside0.mk hb
  clear hr hb
  go_enter Try.func75, Try.ntmps75
  go_wp2
  go_loopg [8] l.length (fun kq v8 w' => ∃ i : Nat, v8 = .int .i64 i ∧ i ≤ l.length ∧ Aside0 (kq + i = l.length) ∧ Aside0 (∀ r ∈ l.take i, (r.f1 == id) = false) ∧ Aside0 (Below w.heap.size w w'))
  case atStart => exact ⟨0, rfl, Nat.zero_le _, ⟨by omega⟩, ⟨by simp⟩, ⟨Below.refl _ _⟩⟩
  case round =>
    obtain ⟨i, rfl, hi, HK, HN, HB⟩ := hrel
    by_cases hl : i < l.length
    · cases gk with
      | zero => exact absurd HK.out (by omega)
      | succ k1 =>
        obtain ⟨ad, rfl, hx0, hx1⟩ := at_T86 HR.out (i : Int) (by omega) (by omega)
        rw [Int.toNat_natCast] at hx0 hx1
        replace hx0 := (HB.out.cell (World.block_lt_of_cell? w _ hx0)).trans hx0
        replace hx1 := (HB.out.cell (World.block_lt_of_cell? w _ hx1)).trans hx1
        have hc1 := (HB.out.cell (World.block_lt_of_cell? w _ HX.out)).trans HX.out
        have H61 := Aside0.mk (f61_calls (rd_T86 l i).f0 (rd_T86 l i).f1 b id wr hc1)
        clear hc1
        have hrd := rd86_get l i hl
        cases he : (rd_T86 l i).f1 == id with
        | true =>
          rw [he] at H61
          have hf : fi l id = i := by
            have hfi : l.findIdx (fun r => r.f1 == id) = i := by
              refine (List.findIdx_eq hl).2 ⟨by rw [← hrd]; exact he, fun j hj => ?_⟩
              exact HN.out _ (by rw [List.mem_take_iff_getElem]; exact ⟨j, by omega, rfl⟩)
            unfold fi
            rw [if_pos (List.any_eq_true.2 ⟨l[i], List.getElem_mem hl, by rw [← hrd]; exact he⟩), hfi]
          have HF := Aside0.mk hf
          clear he hrd hf
          go_wp2_with (go_at_call 61; refine H61.out.mono ?_; rintro e w' ⟨rfl, hb⟩)
          go_ret
          exact ⟨by rw [HF.out]; rfl, HB.out.trans (hb.mono (below_size HB.out))⟩
        | false =>
          rw [he] at H61
          rw [hrd] at he
          have HE := Aside0.mk he
          clear he hrd
          go_wp2_with (go_at_call 61; refine H61.out.mono ?_; rintro e w' ⟨rfl, hb⟩)
          go_roundg k1
          case measure => omega
          case rel => exact ⟨i + 1, int_eq (by omega), by omega, ⟨by have := HK.out; omega⟩, ⟨by
            intro r hr
            rw [List.take_succ_eq_append_getElem hl] at hr
            rcases List.mem_append.1 hr with h | h
            · exact HN.out r h
            · simp at h; subst h; exact HE.out⟩, ⟨HB.out.trans (hb.mono (below_size HB.out))⟩⟩
    · obtain rfl : i = l.length := by omega
      have hf : fi l id = -1 := by
        unfold fi
        rw [if_neg]
        intro h
        obtain ⟨r, hr, he⟩ := List.any_eq_true.1 h
        have := HN.out r (by rw [List.take_length]; exact hr)
        rw [this] at he
        exact absurd he (by decide)
      have HF := Aside0.mk hf
      clear hf
      go_wp2
      go_ret
      exact ⟨by rw [HF.out]; rfl, HB.out⟩
set_option maxHeartbeats 1000000 in
set_option maxRecDepth 100000 in
theorem f62_calls (A : Option Addr) (c : Nat) (l : List S86) (b : Nat) (id : Int) (w : World) (hr : Kd.C k86 w A l.length l) (hn : l.length ≤ 1000) (hb : w.cell? ⟨b, 0, none⟩ = some (.int .i64 id)) :
    Calls Try.prog 62 #[.slice A l.length c, .func (.func 61) #[] #[.pointer (some ⟨b, 0, none⟩)]] w fun e w' => e = .returned (.bool (l.any fun r => r.f1 == id)) ∧ Below w.heap.size w w' := by
  have H := Aside0.mk (f75_calls A c l b id w hr hn hb)
  clear hr hb
  go_enter Try.func62, Try.ntmps62
  go_wp2_with (go_at_call 75; refine H.out.mono ?_; rintro e w' ⟨rfl, hb⟩)
  go_ret
  have : decide (0 ≤ fi l id) = l.any fun r => r.f1 == id := by
    unfold fi
    cases h : (l.any fun r => r.f1 == id) with
    | true => simp
    | false => simp
  exact ⟨by rw [← this]; rfl, hb⟩
/-- References without one. -/
def dropS (l : List S86) (s : ByteArray) : List S86 := l.take (posS l s) ++ l.drop (posS l s + 1)
set_option maxHeartbeats 1000000 in
set_option maxRecDepth 100000 in
theorem f37_calls (A : Option Addr) (c : Nat) (l : List S86) (s : ByteArray) (w : World) (hr : Kd.C k86 w A l.length l) (hc : l.length ≤ c) (ho : okS l) (hn : l.length ≤ 1000) :
    Calls Try.prog 37 #[.slice A l.length c, .string s] w fun e w' => ∃ v, e = .returned (.tuple #[v, .int .i64 (if hasS l s = true then 0 else 8)]) ∧ Kd.R k86 86 w' w.heap.size (fun _ => True) v (if hasS l s = true then dropS l s else []) ∧ Below w.heap.size w w' := by
  have H := Aside0.mk (f57_calls A c l s w hr hc ho hn)
  cases hh : hasS l s with
  | false =>
    rw [hh] at H
    clear hr ho hh
    rw [if_neg (by decide), if_neg (by decide)]
    go_enter Try.func37, Try.ntmps37
    go_wp2_with (go_at_call 57; refine H.out.mono ?_; rintro e w' ⟨rfl, hb⟩)
    go_ret2
    exact ⟨_, rfl, Kd.R_nil _ _ _ _ _, hb⟩
  | true =>
    have hp : posS l s < l.length := by unfold hasS at hh; simp at hh; exact hh.1
    rw [hh] at H
    have HR := Aside0.mk hr
    clear hr ho hh
    rw [if_pos rfl, if_pos rfl]
    go_enter Try.func37, Try.ntmps37
    go_wp2_with (first
      | (go_at_call 57; refine H.out.mono ?_; rintro e w1 ⟨rfl, hb1⟩; have hz1 := hb1.size)
      | (go_at_call 59; refine (f59_calls _ _ l _ (Kd.C_below HR.out hb1) hc hn).mono ?_; rintro e w2 ⟨v2, rfl, ho2, hb2⟩; have HB2 := Aside0.mk (hb1.trans (hb2.mono hb1.size)); have hz2 := HB2.out.size; have HO2 := Aside0.mk (own_weaken ho2 hz1); clear ho2 hb2; obtain ⟨A2, c2, rfl⟩ := (R86_of HO2.out).2.reads.imp fun A2 h => h.imp fun c2 h => h.1)
      | (go_at_call 64; refine (f64_calls w.heap.size _ _ _ l _ HO2.out hz2 hp hn).mono ?_; rintro e w3 ⟨v3, rfl, ho3, hb3⟩))
    go_ret2
    have hl : (dropS l s).length = l.length - 1 := by unfold dropS; simp; omega
    exact ⟨v3, rfl, R86_of (by rw [hl]; exact ho3), HB2.out.trans hb3⟩
/-- A slice that is read, by its value. -/
def Vw {α : Type} (d : Kd α) (w : World) (v : Value) (xs : List α) : Prop := ∃ A c, v = .slice A xs.length c ∧ xs.length ≤ c ∧ Kd.C d w A xs.length xs
theorem Vw.below {α : Type} {d : Kd α} {w w' : World} {v : Value} {xs : List α} (h : Vw d w v xs) (hb : Below w.heap.size w w') : Vw d w' v xs := by
  obtain ⟨A, c, e, hl, hc⟩ := h
  exact ⟨A, c, e, hl, Kd.C_below hc hb⟩
theorem Vw.of_R {α : Type} {d : Kd α} {e : Nat} {w : World} {base : Nat} {ok : Nat → Prop} {v : Value} {xs : List α} (h : Kd.R d e w base ok v xs) : Vw d w v xs := Kd.R_reads h
theorem Vw.nil {α : Type} (d : Kd α) (w : World) : Vw d w (.slice none 0 0) [] := ⟨none, 0, rfl, Nat.le_refl _, rfl, Nat.zero_le _, fun h => absurd h (Nat.not_lt_zero _)⟩
/-- What is read of a history's three slices lies in blocks of ok. -/
structure HF (w : World) (ok : Nat → Prop) (A0 : Option Addr) (l0 : List S41) (A1 : Option Addr) (l1 : List S86) (A2 : Option Addr) (l2 : List S86) : Prop where
  f0 : Kd.F k41 w ok A0 l0.length l0
  f1 : Kd.F k86 w ok A1 l1.length l1
  f2 : Kd.F k86 w ok A2 l2.length l2
theorem HF.below {w w' : World} {ok : Nat → Prop} {A0 : Option Addr} {l0 : List S41} {A1 : Option Addr} {l1 : List S86} {A2 : Option Addr} {l2 : List S86} (h : HF w ok A0 l0 A1 l1 A2 l2) (hb : Below w.heap.size w w') : HF w' ok A0 l0 A1 l1 A2 l2 :=
  ⟨Kd.F_below h.f0 hb, Kd.F_below h.f1 hb, Kd.F_below h.f2 hb⟩
/-- A row of the call's own as a view. -/
theorem Vof {α : Type} {d : Kd α} {e : Nat} {w : World} {base : Nat} {ok0 ok : Nat → Prop} {v : Value} {xs : List α} (h : Kd.R d e w base ok0 v xs) (hb : ∀ k, base ≤ k → ok k) : Kd.V d e w 0 ok v xs := Kd.V_mono (Kd.R_V (Kd.R_bound h)) (fun k hk => hb k hk.2.1)
/-- A history's three slices, by their values; they lie in blocks of ok. -/
def HW (w : World) (ok : Nat → Prop) (v0 v1 v2 : Value) (h : S27) : Prop := Kd.V k41 41 w 0 ok v0 h.f0 ∧ Kd.V k86 86 w 0 ok v1 h.f1 ∧ Kd.V k86 86 w 0 ok v2 h.f2
def eS27 : S27 := ⟨[], [], [], 0⟩
theorem HW.nil (w : World) (ok : Nat → Prop) : HW w ok (.slice none 0 0) (.slice none 0 0) (.slice none 0 0) eS27 := ⟨Kd.V_nil _ _ _ _ _, Kd.V_nil _ _ _ _ _, Kd.V_nil _ _ _ _ _⟩
theorem blk4 {W : World} {g : Nat} {a b c d : Value} {t : TypeId} (h : W.heap[g]? = some (.cells #[a, b, c, d] t (0, 0))) :
    (W.cell? ⟨g, 0, none⟩ = some a ∧ W.cell? ⟨g, 1, none⟩ = some b ∧ W.cell? ⟨g, 2, none⟩ = some c ∧ W.cell? ⟨g, 3, none⟩ = some d) ∧ (W.frozen? ⟨g, 0, none⟩ = false ∧ W.frozen? ⟨g, 1, none⟩ = false ∧ W.frozen? ⟨g, 2, none⟩ = false ∧ W.frozen? ⟨g, 3, none⟩ = false) :=
  ⟨⟨(blk_cell h 0).trans rfl, (blk_cell h 1).trans rfl, (blk_cell h 2).trans rfl, (blk_cell h 3).trans rfl⟩, blk_frozen h 0, blk_frozen h 1, blk_frozen h 2, blk_frozen h 3⟩
theorem alloc3 (w : World) (a b c : Obj) : (((w.alloc a).alloc b).alloc c).heap[w.heap.size]? = some a ∧ (((w.alloc a).alloc b).alloc c).heap[w.heap.size + 1]? = some b ∧ (((w.alloc a).alloc b).alloc c).heap[w.heap.size + 1 + 1]? = some c := by
  have h0 := heap_alloc_new w a
  have h1 := heap_alloc_new (w.alloc a) b
  have h2 := heap_alloc_new ((w.alloc a).alloc b) c
  simp only [World.size_alloc] at h1 h2
  refine ⟨?_, ?_, h2⟩
  · exact (Below.heap_alloc _ c _ (by simp; omega)).trans ((Below.heap_alloc _ b _ (by simp)).trans h0)
  · exact (Below.heap_alloc _ c _ (by simp)).trans h1
/-- Commits without one. -/
def dropI (l : List S41) (s : Int) : List S41 := l.take (posI l s) ++ l.drop (posI l s + 1)
/-- A history without a commit, or an error. -/
def expireS (h : S27) (id : Int) : S27 × Int :=
  if hasI h.f0 id = true then (if (h.f1.any fun r => r.f1 == id) = true then (eS27, 13) else if (h.f2.any fun r => r.f1 == id) = true then (eS27, 13) else (⟨dropI h.f0 id, h.f1, h.f2, h.f3⟩, 0)) else (eS27, 15)
set_option maxHeartbeats 2000000 in
set_option maxRecDepth 100000 in
theorem f35_calls (A0 : Option Addr) (c0 : Nat) (l0 : List S41) (A1 : Option Addr) (c1 : Nat) (l1 : List S86) (A2 : Option Addr) (c2 : Nat) (l2 : List S86) (r : Int) (id : Int) (w : World) (hr : HV w A0 c0 l0 A1 c1 l1 A2 c2 l2) (ho : OkH l0 l1 l2) (ok : Nat → Prop) (hx : HF w ok A0 l0 A1 l1 A2 l2) :
    Calls Try.prog 35 #[.agg #[.slice A0 l0.length c0, .slice A1 l1.length c1, .slice A2 l2.length c2, .int .i64 r], .int .i64 id] w fun e w' => ∃ v0 v1 v2, e = .returned (.tuple #[.agg #[v0, v1, v2, .int .i64 (expireS ⟨l0, l1, l2, r⟩ id).1.f3], .int .i64 (expireS ⟨l0, l1, l2, r⟩ id).2]) ∧ HW w' (fun k => ok k ∨ w.heap.size ≤ k) v0 v1 v2 (expireS ⟨l0, l1, l2, r⟩ id).1 ∧ Below w.heap.size w w' := by
  have hb0 := (((Below.refl w.heap.size w).alloc (Nat.le_refl _) (.cells #[.slice A0 l0.length c0, .slice A1 l1.length c1, .slice A2 l2.length c2, .int .i64 r] 27)).alloc (by simp) (.cells #[.int .i64 id] 2)).alloc (by simp; omega) (.cells #[.slice none 0 0, .slice none 0 0, .slice none 0 0, .int .i64 0] 27)
  have H45 := Aside0.mk (f45_calls A0 c0 l0 A1 c1 l1 A2 c2 l2 r id _ (hr.below hb0) ho.o0 ho.n0)
  have HB0 := Aside0.mk hb0
  have HR := Aside0.mk hr
  have HO := Aside0.mk ho
  have hn0 := ho.n0
  have HX := Aside0.mk hx
  clear hr hb0 ho hx
  unfold expireS
  cases hh : hasI l0 id with
  | false =>
    rw [hh] at H45
    clear hh
    simp only [Bool.false_eq_true, if_false]
    go_enter Try.func35, Try.ntmps35
    go_wp2_with (go_at_call 45; refine H45.out.mono ?_; rintro e w' ⟨rfl, hb⟩; obtain ⟨hc, hf⟩ := bcell hb; have hz := hb.size; simp only [World.size_alloc] at hz)
    refine bodyPost_ret (v := .tuple #[.agg #[.slice none 0 0, .slice none 0 0, .slice none 0 0, .int .i64 0], .int .i64 15]) (by simp [results, Try.results35, go_sem, hc, hf, hz]) rfl ⟨_, _, _, rfl, HW.nil _ _, ?_⟩
    exact ((((HB0.out.trans (hb.mono (by simp; omega))).setCell (by simp; omega) _).setCell (by simp; omega) _).setCell (by simp; omega) _).setCell (by simp; omega) _
  | true =>
    rw [hh] at H45
    have hp : posI l0 id < l0.length := by unfold hasI at hh; simp at hh; exact hh.1
    clear hh
    simp only [if_true]
    have hid : ((((w.alloc (.cells #[.slice A0 l0.length c0, .slice A1 l1.length c1, .slice A2 l2.length c2, .int .i64 r] 27)).alloc (.cells #[.int .i64 id] 2)).alloc (.cells #[.slice none 0 0, .slice none 0 0, .slice none 0 0, .int .i64 0] 27))).cell? ⟨w.heap.size + 1, 0, none⟩ = some (.int .i64 id) := by go_simp
    have HID := Aside0.mk hid
    clear hid
    cases ha1 : (l1.any fun r => r.f1 == id) with
    | true =>
      have HA1 := Aside0.mk ha1
      clear ha1
      simp only [if_true]
      go_enter Try.func35, Try.ntmps35
      go_wp2_with (first
        | (go_at_call 45; refine H45.out.mono ?_; rintro e w1 ⟨rfl, hb⟩; obtain ⟨hc, hf⟩ := bcell hb; have hz := hb.size; simp only [World.size_alloc] at hz; have hb1 := HB0.out.trans (hb.mono (by simp; omega)); have H62 := f62_calls A1 c1 l1 (w.heap.size + 1) id w1 (Kd.C_below HR.out.r1 hb1) HO.out.n1 ((hc _ _ (by simp)).trans HID.out); rw [HA1.out] at H62; have H62a := Aside0.mk H62; have HB1 := Aside0.mk hb1; clear H62 hb1; have hs0 : w.heap.size < w1.heap.size := (by omega); have hs1 : w.heap.size + 1 < w1.heap.size := (by omega); have hs2 : w.heap.size + 1 + 1 < w1.heap.size := (by omega))
        | (go_at_call 62; refine H62a.out.mono ?_; rintro e w2 ⟨rfl, hb2⟩; obtain ⟨hc2, hf2⟩ := bcell hb2; have hz2 := hb2.size; clear H62a))
      refine bodyPost_ret (v := .tuple #[.agg #[.slice none 0 0, .slice none 0 0, .slice none 0 0, .int .i64 0], .int .i64 13]) (by simp [results, Try.results35, go_sem, hc, hf, hz, hc2, hf2, hs0, hs1, hs2]) rfl ⟨_, _, _, rfl, HW.nil _ _, ?_⟩
      exact ((((HB1.out.trans (hb2.mono (by omega))).setCell (by simp; omega) _).setCell (by simp; omega) _).setCell (by simp; omega) _).setCell (by simp; omega) _
    | false =>
      have HA1 := Aside0.mk ha1
      have HDL : Aside0 ((dropI l0 id).length = l0.length - 1) := ⟨by unfold dropI; simp; omega⟩
      clear ha1
      simp only [Bool.false_eq_true, if_false]
      cases ha2 : (l2.any fun r => r.f1 == id) with
      | true =>
        have HA2 := Aside0.mk ha2
        clear ha2
        simp only [if_true]
        go_enter Try.func35, Try.ntmps35
        go_wp2_with (first
          | (go_at_call 45; refine H45.out.mono ?_; rintro e w1 ⟨rfl, hb⟩; obtain ⟨hc, hf⟩ := bcell hb; have hz := hb.size; simp only [World.size_alloc] at hz; have hb1 := HB0.out.trans (hb.mono (by simp; omega)); have H62 := f62_calls A1 c1 l1 (w.heap.size + 1) id w1 (Kd.C_below HR.out.r1 hb1) HO.out.n1 ((hc _ _ (by simp)).trans HID.out); rw [HA1.out] at H62; have H62a := Aside0.mk H62; have HB1 := Aside0.mk hb1; clear H62 hb1; have hs0 : w.heap.size < w1.heap.size := (by omega); have hs1 : w.heap.size + 1 < w1.heap.size := (by omega); have hs2 : w.heap.size + 1 + 1 < w1.heap.size := (by omega))
          | (go_at_call 62; refine H62a.out.mono ?_; clear H62a; rintro e w2 ⟨rfl, hb2⟩; obtain ⟨hc2, hf2⟩ := bcell hb2; have hz2 := hb2.size; have hb3 := HB1.out.trans (hb2.mono (by omega)); have H62 := f62_calls A2 c2 l2 (w.heap.size + 1) id w2 (Kd.C_below HR.out.r2 hb3) HO.out.n2 ((hc2 _ _ hs1).trans ((hc _ _ (by simp)).trans HID.out)); rw [HA2.out] at H62; have H62b := Aside0.mk H62; have HB2 := Aside0.mk hb3; clear H62 hb3; have ht0 : w.heap.size < w2.heap.size := (by omega); have ht1 : w.heap.size + 1 < w2.heap.size := (by omega); have ht2 : w.heap.size + 1 + 1 < w2.heap.size := (by omega))
          | (go_at_call 62; refine H62b.out.mono ?_; clear H62b; rintro e w3 ⟨rfl, hb3⟩; obtain ⟨hc3, hf3⟩ := bcell hb3; have hz3 := hb3.size))
        refine bodyPost_ret (v := .tuple #[.agg #[.slice none 0 0, .slice none 0 0, .slice none 0 0, .int .i64 0], .int .i64 13]) (by simp [results, Try.results35, go_sem, hc, hf, hz, hc2, hf2, hs0, hs1, hs2, hc3, hf3, ht0, ht1, ht2]) rfl ⟨_, _, _, rfl, HW.nil _ _, ?_⟩
        exact ((((HB2.out.trans (hb3.mono (by omega))).setCell (by simp; omega) _).setCell (by simp; omega) _).setCell (by simp; omega) _).setCell (by simp; omega) _
      | false =>
        have HA2 := Aside0.mk ha2
        clear ha2
        simp only [Bool.false_eq_true, if_false]
        have hal := alloc3 w (.cells #[.slice A0 l0.length c0, .slice A1 l1.length c1, .slice A2 l2.length c2, .int .i64 r] 27) (.cells #[.int .i64 id] 2) (.cells #[.slice none 0 0, .slice none 0 0, .slice none 0 0, .int .i64 0] 27)
        have HAL := Aside0.mk hal
        clear hal
        go_enter Try.func35, Try.ntmps35
        go_wp2_with (first
          | (go_at_call 45; refine H45.out.mono ?_; rintro e w1 ⟨rfl, hb⟩; have HY1 := Aside0.mk hb; have hz := hb.size; simp only [World.size_alloc] at hz; obtain ⟨⟨x0, x1, x2, x3⟩, y0, y1, y2, y3⟩ := blk4 ((hb.block _ (by simp; omega)).trans HAL.out.1); have hb1 := HB0.out.trans (hb.mono (by simp; omega)); have H62 := f62_calls A1 c1 l1 (w.heap.size + 1) id w1 (Kd.C_below HR.out.r1 hb1) HO.out.n1 ((hb.cell (by simp)).trans HID.out); rw [HA1.out] at H62; have H62a := Aside0.mk H62; have HB1 := Aside0.mk hb1; clear H62 hb1 hb)
          | (go_at_call 62; refine H62a.out.mono ?_; clear H62a x0 x1 x2 x3 y0 y1 y2 y3; rintro e w2 ⟨rfl, hb⟩; have HY2 := Aside0.mk (HY1.out.trans (hb.mono HY1.out.size)); have hz2 := HY2.out.size; simp only [World.size_alloc] at hz2; obtain ⟨⟨x0, x1, x2, x3⟩, y0, y1, y2, y3⟩ := blk4 ((HY2.out.block _ (by simp; omega)).trans HAL.out.1); have hb3 := HB0.out.trans (HY2.out.mono (by simp; omega)); have H62 := f62_calls A2 c2 l2 (w.heap.size + 1) id w2 (Kd.C_below HR.out.r2 hb3) HO.out.n2 ((HY2.out.cell (by simp)).trans HID.out); rw [HA2.out] at H62; have H62b := Aside0.mk H62; clear H62 hb3 hb)
          | (go_at_call 62; refine H62b.out.mono ?_; clear H62b x0 x1 x2 x3 y0 y1 y2 y3; rintro e w3 ⟨rfl, hb⟩; have HY3 := Aside0.mk (HY2.out.trans (hb.mono HY2.out.size)); have hz3 := HY3.out.size; simp only [World.size_alloc] at hz3; obtain ⟨⟨x0, x1, x2, x3⟩, y0, y1, y2, y3⟩ := blk4 ((HY3.out.block _ (by simp; omega)).trans HAL.out.1); have HB3 := Aside0.mk (HB0.out.trans (HY3.out.mono (by simp; omega))); clear hb)
          | (go_at_call 58; refine (f58_calls A0 c0 l0 _ (Kd.C_below HR.out.r0 HB3.out) HR.out.h0 HO.out.n0).mono ?_; clear x0 x1 x2 x3 y0 y1 y2 y3; rintro e w4 ⟨v4, rfl, ho4, hb⟩; have HY4 := Aside0.mk (HY3.out.trans (hb.mono HY3.out.size)); have hz4 := hb.size; obtain ⟨⟨x0, x1, x2, x3⟩, y0, y1, y2, y3⟩ := blk4 ((HY4.out.block _ (by simp; omega)).trans HAL.out.1); have HO4 := Aside0.mk ho4; clear ho4; obtain ⟨A4, c4, rfl⟩ := (R41_of HO4.out).2.reads.imp fun A2 h => h.imp fun c2 h => h.1)
          | (go_at_call 63; refine (f63_calls w3.heap.size _ _ _ l0 _ HO4.out hz4 hp HO.out.n0).mono ?_; clear x0 x1 x2 x3 y0 y1 y2 y3; rintro e w5 ⟨v5, rfl, ho5, hb⟩; have HY5 := Aside0.mk (HY4.out.trans (hb.mono HY3.out.size)); have hz5 := HY5.out.size; simp only [World.size_alloc] at hz5; obtain ⟨⟨x0, x1, x2, x3⟩, y0, y1, y2, y3⟩ := blk4 ((HY5.out.block _ (by simp; omega)).trans HAL.out.1); obtain ⟨⟨u0, u1, u2, u3⟩, z0, z1, z2, z3⟩ := blk4 ((HY5.out.block _ (by simp)).trans HAL.out.2.2); have HR5 := (R41_of (l := dropI l0 id) (by rw [HDL.out]; exact ho5)); obtain ⟨A5, c5, rfl, hl5, hC5⟩ := Kd.R_reads HR5; have HR5b := Aside0.mk (Kd.R_mono (Kd.R_bound HR5) (fun k hk => hk.2.1)); clear hC5 HR5 ho5 hb))
        have hB : Below w.heap.size w (((((w5.setCell ⟨w.heap.size, 0, none⟩ (.slice A5 (dropI l0 id).length c5)).setCell ⟨w.heap.size + 1 + 1, 0, none⟩ (.slice A5 (dropI l0 id).length c5)).setCell ⟨w.heap.size + 1 + 1, 1, none⟩ (.slice A1 l1.length c1)).setCell ⟨w.heap.size + 1 + 1, 2, none⟩ (.slice A2 l2.length c2)).setCell ⟨w.heap.size + 1 + 1, 3, none⟩ (.int .i64 r)) :=
          (((((HB0.out.trans (HY5.out.mono (by simp; omega))).setCell (Nat.le_refl _) _).setCell (by simp; omega) _).setCell (by simp; omega) _).setCell (by simp; omega) _).setCell (by simp; omega) _
        refine bodyPost_ret (v := .tuple #[.agg #[.slice A5 (dropI l0 id).length c5, .slice A1 l1.length c1, .slice A2 l2.length c2, .int .i64 r], .int .i64 0]) (by simp [results, Try.results35, go_sem, u0, u1, u2, u3]) rfl ⟨_, _, _, rfl, ⟨?_, Kd.V_mk HR.out.h1 (Kd.F_mono (Kd.F_below HX.out.f1 hB) (fun k hk => .inl hk)), Kd.V_mk HR.out.h2 (Kd.F_mono (Kd.F_below HX.out.f2 hB) (fun k hk => .inl hk))⟩, hB⟩
        exact Vof (Kd.R_far (Kd.R_far (Kd.R_far (Kd.R_far (Kd.R_far HR5b.out (fun k hk => by simp; omega) _) (fun k hk => by simp; omega) _) (fun k hk => by simp; omega) _) (fun k hk => by simp; omega) _) (fun k hk => by simp; omega) _) (fun k hk => .inr (by omega))
end Go.Proofs.Ytjeoabjccbinhaa.P

namespace Go.Proofs.Ytjeoabjccbinhaa.P
open Go.RowKit Go.Proofs.YtjeoabjccbinhaaW.PrintWords Go.Proofs.YtjeoabjccbinhaaW.PrintLast Go.Proofs.YtjeoabjccbinhaaW.PrintMore
set_option linter.unusedVariables false
set_option linter.unusedSimpArgs false
theorem blk6 {W : World} {g : Nat} {a b c d e f : Value} {t : TypeId} (h : W.heap[g]? = some (.cells #[a, b, c, d, e, f] t (0, 0))) :
    W.cell? ⟨g, 0, none⟩ = some a ∧ W.cell? ⟨g, 1, none⟩ = some b ∧ W.cell? ⟨g, 2, none⟩ = some c ∧ W.cell? ⟨g, 3, none⟩ = some d ∧ W.cell? ⟨g, 4, none⟩ = some e ∧ W.cell? ⟨g, 5, none⟩ = some f :=
  ⟨(blk_cell h 0).trans rfl, (blk_cell h 1).trans rfl, (blk_cell h 2).trans rfl, (blk_cell h 3).trans rfl, (blk_cell h 4).trans rfl, (blk_cell h 5).trans rfl⟩
theorem alloc2 (w : World) (a b : Obj) : ((w.alloc a).alloc b).heap[w.heap.size]? = some a ∧ ((w.alloc a).alloc b).heap[w.heap.size + 1]? = some b := by
  have h0 := heap_alloc_new w a
  have h1 := heap_alloc_new (w.alloc a) b
  simp only [World.size_alloc] at h1
  exact ⟨(Below.heap_alloc _ b _ (by simp)).trans h0, h1⟩
theorem own_slice {w : World} {base : Nat} {e : TypeId} {size : Nat} {v : Value} {n : Nat} {xs : List Value} (h : w.ownsRow base e size v n xs) : ∃ A c, v = .slice A n c := by
  rcases h.2 with ⟨rfl, rfl⟩ | ⟨g, cap, cur, rfl, _⟩
  · exact ⟨none, 0, rfl⟩
  · exact ⟨_, _, rfl⟩
/-- References with a new one. -/
def insS (l : List S86) (s : ByteArray) (id : Int) : List S86 := l.take (posS l s) ++ ⟨s, id⟩ :: l.drop (posS l s)
def addS (l0 : List S41) (l : List S86) (s : ByteArray) (id : Int) : List S86 × Int :=
  if hasS l s = true then ([], 9) else if hasI l0 id = true then (if 64 ≤ l.length then ([], 12) else (insS l s id, 0)) else ([], 15)
set_option maxHeartbeats 2000000 in
set_option maxRecDepth 100000 in
theorem f36_calls (A0 : Option Addr) (c0 : Nat) (l0 : List S41) (A1 : Option Addr) (c1 : Nat) (l1 : List S86) (A2 : Option Addr) (c2 : Nat) (l2 : List S86) (r : Int) (A : Option Addr) (c : Nat) (l : List S86) (x0 x1 x2 x3 x4 : Int) (x5 : ByteArray) (w : World) (hr : HV w A0 c0 l0 A1 c1 l1 A2 c2 l2) (ho : OkH l0 l1 l2) (hr3 : Kd.C k86 w A l.length l) (hc3 : l.length ≤ c) (ho3 : okS l) (hn3 : l.length ≤ 1000) :
    Calls Try.prog 36 #[.agg #[.slice A0 l0.length c0, .slice A1 l1.length c1, .slice A2 l2.length c2, .int .i64 r], .slice A l.length c, .agg #[.int .i64 x0, .int .i64 x1, .int .i64 x2, .int .i64 x3, .int .i64 x4, .string x5]] w fun e w' => ∃ v, e = .returned (.tuple #[v, .int .i64 (addS l0 l x5 x1).2]) ∧ Kd.V k86 86 w' 0 (fun k => w.heap.size ≤ k) v (addS l0 l x5 x1).1 ∧ Below w.heap.size w w' := by
  have hb0 := (((Below.refl w.heap.size w).alloc (Nat.le_refl _) (.cells #[.slice A0 l0.length c0, .slice A1 l1.length c1, .slice A2 l2.length c2, .int .i64 r] 27)).alloc (by simp) (.cells #[.int .i64 x0, .int .i64 x1, .int .i64 x2, .int .i64 x3, .int .i64 x4, .string x5] 32))
  have H57 := Aside0.mk (f57_calls A c l x5 _ (Kd.C_below hr3 hb0) hc3 ho3 hn3)
  have HB0 := Aside0.mk hb0
  have HR := Aside0.mk hr
  have HR3 := Aside0.mk hr3
  have HO := Aside0.mk ho
  have hn0 := ho.n0
  have hal := alloc2 w (.cells #[.slice A0 l0.length c0, .slice A1 l1.length c1, .slice A2 l2.length c2, .int .i64 r] 27) (.cells #[.int .i64 x0, .int .i64 x1, .int .i64 x2, .int .i64 x3, .int .i64 x4, .string x5] 32)
  have HAL := Aside0.mk hal
  have hpl := posS_le l x5
  clear hr hb0 ho hr3 ho3 hal
  unfold addS
  cases hh : hasS l x5 with
  | true =>
    rw [hh] at H57
    clear hh
    simp only [if_true]
    go_enter Try.func36, Try.ntmps36
    go_wp2_with (go_at_call 57; refine H57.out.mono ?_; rintro e w1 ⟨rfl, hb⟩; have HY1 := Aside0.mk hb; have hz := hb.size; simp only [World.size_alloc] at hz; clear hb)
    go_ret2
    exact ⟨_, rfl, Kd.V_nil _ _ _ _ _, HB0.out.trans (HY1.out.mono (by simp; omega))⟩
  | false =>
    rw [hh] at H57
    clear hh
    simp only [Bool.false_eq_true, if_false]
    cases hi : hasI l0 x1 with
    | false =>
      have HI := Aside0.mk hi
      clear hi
      simp only [Bool.false_eq_true, if_false]
      go_enter Try.func36, Try.ntmps36
      go_wp2_with (first
        | (go_at_call 57; refine H57.out.mono ?_; rintro e w1 ⟨rfl, hb⟩; have HY1 := Aside0.mk hb; have hz := hb.size; simp only [World.size_alloc] at hz; obtain ⟨⟨a0, a1, a2, a3⟩, y0, y1, y2, y3⟩ := blk4 ((hb.block _ (by simp; omega)).trans HAL.out.1); obtain ⟨b0, b1, b2, b3, b4, b5⟩ := blk6 ((hb.block _ (by simp)).trans HAL.out.2); have HB1 := Aside0.mk (HB0.out.trans (hb.mono (by simp; omega))); clear hb)
        | (go_at_call 51; have H51 := f51_calls A0 c0 l0 A1 c1 l1 A2 c2 l2 r x1 w1 (HR.out.below HB1.out) HO.out.o0 HO.out.n0; rw [HI.out] at H51; refine H51.mono ?_; clear H51; rintro e w2 ⟨rfl, hb⟩; have HY2 := Aside0.mk (HY1.out.trans (hb.mono HY1.out.size)); clear hb))
      go_ret2
      exact ⟨_, rfl, Kd.V_nil _ _ _ _ _, HB0.out.trans (HY2.out.mono (by simp; omega))⟩
    | true =>
      have HI := Aside0.mk hi
      clear hi
      simp only [if_true]
      by_cases h64 : 64 ≤ l.length
      · rw [if_pos h64]
        have hd : decide (64 ≤ (l.length : Int)) = true := decide_eq_true (by omega)
        go_enter Try.func36, Try.ntmps36
        go_wp2_with (first
          | (go_at_call 57; refine H57.out.mono ?_; rintro e w1 ⟨rfl, hb⟩; have HY1 := Aside0.mk hb; have hz := hb.size; simp only [World.size_alloc] at hz; obtain ⟨⟨a0, a1, a2, a3⟩, y0, y1, y2, y3⟩ := blk4 ((hb.block _ (by simp; omega)).trans HAL.out.1); obtain ⟨b0, b1, b2, b3, b4, b5⟩ := blk6 ((hb.block _ (by simp)).trans HAL.out.2); have HB1 := Aside0.mk (HB0.out.trans (hb.mono (by simp; omega))); clear hb)
          | (go_at_call 51; have H51 := f51_calls A0 c0 l0 A1 c1 l1 A2 c2 l2 r x1 w1 (HR.out.below HB1.out) HO.out.o0 HO.out.n0; rw [HI.out] at H51; refine H51.mono ?_; clear H51; rintro e w2 ⟨rfl, hb⟩; have HY2 := Aside0.mk (HY1.out.trans (hb.mono HY1.out.size)); clear hb))
        go_ret2
        exact ⟨_, rfl, Kd.V_nil _ _ _ _ _, HB0.out.trans (HY2.out.mono (by simp; omega))⟩
      · rw [if_neg h64]
        have hd : decide (64 ≤ (l.length : Int)) = false := decide_eq_false (by omega)
        go_enter Try.func36, Try.ntmps36
        go_wp2_with (first
          | (go_at_call 57; refine H57.out.mono ?_; rintro e w1 ⟨rfl, hb⟩; have HY1 := Aside0.mk hb; have hz := hb.size; simp only [World.size_alloc] at hz; obtain ⟨⟨a0, a1, a2, a3⟩, y0, y1, y2, y3⟩ := blk4 ((hb.block _ (by simp; omega)).trans HAL.out.1); obtain ⟨b0, b1, b2, b3, b4, b5⟩ := blk6 ((hb.block _ (by simp)).trans HAL.out.2); have HB1 := Aside0.mk (HB0.out.trans (hb.mono (by simp; omega))); clear hb)
          | (go_at_call 51; have H51 := f51_calls A0 c0 l0 A1 c1 l1 A2 c2 l2 r x1 w1 (HR.out.below HB1.out) HO.out.o0 HO.out.n0; rw [HI.out] at H51; refine H51.mono ?_; clear H51; rintro e w2 ⟨rfl, hb⟩; have HY2 := Aside0.mk (HY1.out.trans (hb.mono HY1.out.size)); have hz2 := HY2.out.size; simp only [World.size_alloc] at hz2; clear a0 a1 a2 a3 y0 y1 y2 y3 b0 b1 b2 b3 b4 b5; obtain ⟨b0, b1, b2, b3, b4, b5⟩ := blk6 ((HY2.out.block _ (by simp)).trans HAL.out.2); have HB2 := Aside0.mk (HB0.out.trans (HY2.out.mono (by simp; omega))); clear hb))
        have hil : Aside0 ((insS l x5 x1).length = l.length + 1) := ⟨by unfold insS; simp; omega⟩
        have hq1 : w.heap.size + 1 < w2.heap.size := by omega
        have hq0 : w.heap.size < w2.heap.size := by omega
        go_region_with (first
          | (go_at_call 59; refine (f59_calls A c l _ (Kd.C_below HR3.out (by repeat (first | exact HB2.out | apply below_alloc | apply below_drew1))) hc3 hn3).mono ?_; rintro e w3 ⟨v3, rfl, ho3, hb⟩; (try have e1 : w3.cell? ⟨w.heap.size + 1, 1, none⟩ = some (.int .i64 x1) := (hb.cell (by simp; omega)).trans b1); (try have e5 : w3.cell? ⟨w.heap.size + 1, 5, none⟩ = some (.string x5) := (hb.cell (by simp; omega)).trans b5); have HC3 := Aside0.mk hb; have HO3 := Aside0.mk ho3; have HB3 : Aside0 (Below w.heap.size w w3) := ⟨Below.trans (by repeat (first | exact HB2.out | apply below_alloc | apply below_drew1)) (hb.mono (by simp; omega))⟩; clear ho3 hb; have HN3 : Aside0 (w3.ownsRow w.heap.size 86 2 v3 l.length (E86 l)) := ⟨own_weaken HO3.out (by simp; omega)⟩; have hz3 := HB3.out.size; obtain ⟨A3, c3, rfl⟩ := own_slice HO3.out)
          | (go_at_call 60; (with_reducible refine (f60_calls w.heap.size A3 c3 (posS l x5) l ⟨x5, x1⟩ w3.heap.size (w3.alloc (.cells #[.string x5, .int .i64 x1] 86)) ?s1 ?s2 hpl hn3 ?s3 ?s4).mono ?_); (case s1 => exact HN3.out.alloc _); (case s2 => simp; omega); (case s3 => exact heap_alloc_new w3 _); (case s4 => exact fun ad e => by have := own_lt HN3.out ad.block (by rw [e]; rfl); omega); rintro e w5 ⟨v5, rfl, ho5, hb5⟩; have HB5 : Aside0 (Below w.heap.size w w5) := ⟨(HB3.out.alloc hz3 _).trans hb5⟩; have HO5 := Aside0.mk ho5; clear ho5 hb5)
          | (go_at_call 60; (with_reducible refine (f60_calls w.heap.size A3 c3 (posS l x5) l ⟨x5, x1⟩ w2.heap.size w3 HN3.out hz3 hpl hn3 ?s3 ?s4).mono ?_); (case s3 => exact (HC3.out.block _ (by simp)).trans (heap_alloc_new w2.drew _)); (case s4 => exact fun ad e => by have := own_base HO3.out ad.block (by rw [e]; rfl); simp at this; omega); rintro e w5 ⟨v5, rfl, ho5, hb5⟩; have HB5 : Aside0 (Below w.heap.size w w5) := ⟨HB3.out.trans hb5⟩; have HO5 := Aside0.mk ho5; clear ho5 hb5))
        all_goals (go_wp2; go_ret2; exact ⟨v5, rfl, Vof (R86_of (by rw [hil.out]; exact HO5.out)) (fun k hk => hk), HB5.out⟩)
end Go.Proofs.Ytjeoabjccbinhaa.P
