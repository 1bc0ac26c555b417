/- history.commit. Conditions: the hypotheses that stand at each theorem. -/
import Derived.Test.YtjeoabjccbinhaaH8
namespace Go.Proofs.Ytjeoabjccbinhaa.P
open Go.RowKit Go.Proofs.YtjeoabjccbinhaaW.PrintWords Go.Proofs.YtjeoabjccbinhaaW.PrintLast Go.Proofs.YtjeoabjccbinhaaW.PrintMore
set_option linter.unusedVariables false
set_option linter.unusedSimpArgs false
/-- The last ID is not less than a new one. -/
def lateB (l0 : List S41) (id : Int) : Bool := decide (0 < l0.length) && decide (id ≤ (rd_T41 l0 ((l0.length - 1 : Nat) : Int)).f0)
def confB (l1 : List S86) (s : ByteArray) (p : Int) : Bool := hasS l1 s && (valS l1 s != p)
def nameB (l1 : List S86) (s : ByteArray) (p : Int) : Bool := !hasS l1 s && (p != 0)
def fullB (l1 : List S86) (s : ByteArray) : Bool := !hasS l1 s && decide (64 ≤ l1.length)
def goneB (l0 : List S41) (p : Int) : Bool := (p != 0) && !hasI l0 p
def timeB (l0 : List S41) (p t : Int) : Bool := hasI l0 p && decide (t < (nodeI l0 p).f3)
def putS (l : List S86) (s : ByteArray) (id : Int) : List S86 := if hasS l s = true then l.set (posS l s) ⟨s, id⟩ else insS l s id
def commitS (h : S27) (x1 x2 x3 x4 : Int) (x5 : ByteArray) : S27 × Int :=
  if lateB h.f0 x1 = true then (eS27, 6) else if confB h.f1 x5 x2 = true then (eS27, 14) else if nameB h.f1 x5 x2 = true then (eS27, 8) else if fullB h.f1 x5 = true then (eS27, 12)
  else if (goneB h.f0 x2 || goneB h.f0 x3) = true then (eS27, 15) else if timeB h.f0 x2 x4 = true then (eS27, 6)
  else (⟨h.f0 ++ [⟨x1, x2, x3, x4⟩], putS h.f1 x5 x1, h.f2, h.f3⟩, 0)
theorem own_far {w : World} {base : Nat} {e : TypeId} {size : Nat} {v : Value} {n : Nat} {xs : List Value} (h : w.ownsRow base e size v n xs) {p : Addr} (hp : ∀ k, v.ownBlock = some k → k ≠ p.block) (u : Value) : (w.setCell p u).ownsRow base e size v n xs := own_move h (fun k hk => Below.heap_setCell w p u k (hp k hk))
theorem own_some {w : World} {base : Nat} {e : TypeId} {size : Nat} {v : Value} {n : Nat} {xs : List Value} (h : w.ownsRow base e size v n xs) (hn : 0 < n) : ∃ g c cur, v = .slice (some ⟨g, 0, none⟩) n c ∧ base ≤ g ∧ w.heap[g]? = some (.cells cur e (0, 0)) ∧ n ≤ c ∧ c ≤ maxLen ∧ cur.size = c * size ∧ cur.toList.take (n * size) = xs := by
  rcases h.2 with ⟨_, e2⟩ | ⟨g, cap, cur, h⟩
  · omega
  · exact ⟨g, cap, cur, h⟩
theorem E86_set (id : Int) : ∀ (l : List S86) (p : Nat) (hp : p < l.length), (E86 l).set (p * 2 + 1) (.int .i64 id) = E86 (l.set p ⟨(l[p]).f0, id⟩)
  | x :: l, 0, _ => by simp [E86]
  | x :: l, p + 1, hp => by
    have := E86_set id l p (by simpa using hp)
    simp only [E86] at this
    simp only [E86, List.flatMap_cons, List.set_cons_succ, List.cons_append, List.nil_append]
    rw [show (p + 1) * 2 = p * 2 + 1 + 1 from by omega, List.set_cons_succ, this]
    rfl
theorem set_take {cur : Array Value} {l : List S86} {p : Nat} {s : ByteArray} (id : Int) (hct : cur.toList.take (l.length * 2) = E86 l) (hp : p < l.length) (hs : (rd_T86 l p).f0 = s) : (cur.setIfInBounds (p * 2 + 1) (.int .i64 id)).toList.take ((l.set p ⟨s, id⟩).length * 2) = E86 (l.set p ⟨s, id⟩) := by
  rw [List.length_set, Array.toList_setIfInBounds, List.take_set, hct, E86_set id l p hp, ← hs, rd86_get l p hp]
theorem E41_snoc (l : List S41) (x : S41) : E41 (l ++ [x]) = E41 l ++ [.int .i64 x.f0, .int .i64 x.f1, .int .i64 x.f2, .int .i64 x.f3] := by simp [E41]
section
variable {P : Program} {ops : Array Oper} {w : World} {E : Prop}
theorem step_append_ownR {o : Oper} {a : Act} {K : Act → World → Prop} {Q : Exit → Act → World → Prop} (hgd : o.guard = none) (s x : Operand) (t : TypeId)
    (ho : o.op = .call { callee := .builtin .append, args := #[s, x], argTypes := #[t, t] })
    (base : Nat) (e : TypeId) (i : TypeInfo) (z : Value) (size bytes : Nat) (ht : P.underlying t = some (.slice e)) (hi : P.info? e = some i) (hz : i.zero = some z)
    (hsize : i.size = size) (hby : i.bytes = bytes) (hzs : z.cells.size = size) (hsz : 0 < size)
    (v : Value) (n : Nat) (xs : List Value) (hs : a.eval s = v) (hown : w.ownsRow base e size v n xs)
    (ad : Addr) (m c : Nat) (news : List Value) (hx : a.eval x = .slice (some ad) m c) (hl : news.length = m * size) (hnews : ∀ j u, news[j]? = some u → w.cell? (ad.add j) = some u) (h1 : ∀ u ∈ news, u.oneCell' = true)
    (h63 : n + m ≤ maxLen) (hbytes : (n + m) * bytes ≤ 140737488355328) (hbase : base ≤ w.heap.size)
    (h : ∀ v' w', w'.ownsRow base e size v' (n + m) (xs ++ news) → w.grownBy w' v.ownBlock → (v' = .slice none 0 0 ↔ v = .slice none 0 0 ∧ m = 0) → K (a.put o.dst v') w') :
    if Region.wanted o (yielded ops a.tmps) = true then Oper.wp P o a w K Q else E := by
  rw [if_pos (by simp [Region.wanted, hgd])]
  exact wp_append_own (P := P) w s x t ho base e i z size bytes ht hi hz hsize hby hzs hsz v n xs hs hown ad m c news hx hl hnews h1 h63 hbytes hbase h
end
def f34_T16 : Bool × List (List Nat × List Nat) := (true, [([], []), ([0], [0]), ([1], [1]), ([], []), ([3], [3]), ([], []), ([5], [5]), ([], []), ([7], [7]), ([], []), ([9], [9]), ([4, 6, 8, 10], [4, 6, 8, 10]), ([11], [11]), ([2, 12, 2], [2, 12]), ([0, 1, 2, 3, 4, 5, 6, 7, 8, 9, 10, 11, 12, 13], []), ([14, 13, 13, 0, 1, 2, 3, 4, 5, 6, 7, 8, 9, 10, 11, 12, 13], [13, 14])])
def f34_B16 : List Nat := [0, 1, 3, 0, 8, 0, 32, 0, 128, 0, 512, 2040, 4088, 8191, 16383, 32767]
theorem f34_tab16 : rtab .any (opsOf Try.f34 16) = f34_T16 := by kernel_rfl
theorem f34_bits16 : waitsOk f34_T16.2 f34_B16 = true := by kernel_rfl
set_option maxHeartbeats 8000000 in
set_option maxRecDepth 100000 in
theorem f34_calls (A0 : Option Addr) (c0 : Nat) (l0 : List S41) (A1 : Option Addr) (c1 : Nat) (l1 : List S86) (A2 : Option Addr) (c2 : Nat) (l2 : List S86) (r : Int) (x0 x1 x2 x3 x4 : Int) (x5 : ByteArray) (w : World) (hr : HV w A0 c0 l0 A1 c1 l1 A2 c2 l2) (ho : OkH l0 l1 l2) (ok : Nat → Prop) (hx : HF w ok A0 l0 A1 l1 A2 l2) :
    Calls Try.prog 34 #[.agg #[.slice A0 l0.length c0, .slice A1 l1.length c1, .slice A2 l2.length c2, .int .i64 r], .agg #[.int .i64 x0, .int .i64 x1, .int .i64 x2, .int .i64 x3, .int .i64 x4, .string x5]] w fun e w' => ∃ v0 v1 v2, e = .returned (.tuple #[.agg #[v0, v1, v2, .int .i64 (commitS ⟨l0, l1, l2, r⟩ x1 x2 x3 x4 x5).1.f3], .int .i64 (commitS ⟨l0, l1, l2, r⟩ x1 x2 x3 x4 x5).2]) ∧ HW w' (fun k => ok k ∨ w.heap.size ≤ k) v0 v1 v2 (commitS ⟨l0, l1, l2, r⟩ x1 x2 x3 x4 x5).1 ∧ Below w.heap.size w w' := by
  have hb0 : Below w.heap.size w (((w.alloc (.cells #[.slice A0 l0.length c0, .slice A1 l1.length c1, .slice A2 l2.length c2, .int .i64 r] 27)).alloc (.cells #[.int .i64 x0, .int .i64 x1, .int .i64 x2, .int .i64 x3, .int .i64 x4, .string x5] 32)).alloc (.cells #[.slice none 0 0, .slice none 0 0, .slice none 0 0, .int .i64 0] 27)) := (((Below.refl w.heap.size w).alloc (Nat.le_refl _) (.cells #[.slice A0 l0.length c0, .slice A1 l1.length c1, .slice A2 l2.length c2, .int .i64 r] 27)).alloc (by simp) (.cells #[.int .i64 x0, .int .i64 x1, .int .i64 x2, .int .i64 x3, .int .i64 x4, .string x5] 32)).alloc (by simp; omega) (.cells #[.slice none 0 0, .slice none 0 0, .slice none 0 0, .int .i64 0] 27)
  have HB0 := Aside0.mk hb0
  have HR := Aside0.mk hr
  have HO := Aside0.mk ho
  have HX := Aside0.mk hx
  clear hx
  have hn0 := ho.n0
  have hn1 := ho.n1
  have hal := alloc3 w (.cells #[.slice A0 l0.length c0, .slice A1 l1.length c1, .slice A2 l2.length c2, .int .i64 r] 27) (.cells #[.int .i64 x0, .int .i64 x1, .int .i64 x2, .int .i64 x3, .int .i64 x4, .string x5] 32) (.cells #[.slice none 0 0, .slice none 0 0, .slice none 0 0, .int .i64 0] 27)
  have HAL := Aside0.mk hal
  clear hr hb0 ho hal
  go_enter Try.func34, Try.ntmps34
  go_upto_region 2 with (fail)
  go_cut [27] (fun v27 wc => v27 = .bool (lateB l0 x1) ∧ Aside0 (Below ((((w.alloc (.cells #[.slice A0 l0.length c0, .slice A1 l1.length c1, .slice A2 l2.length c2, .int .i64 r] 27)).alloc (.cells #[.int .i64 x0, .int .i64 x1, .int .i64 x2, .int .i64 x3, .int .i64 x4, .string x5] 32)).alloc (.cells #[.slice none 0 0, .slice none 0 0, .slice none 0 0, .int .i64 0] 27))).heap.size (((w.alloc (.cells #[.slice A0 l0.length c0, .slice A1 l1.length c1, .slice A2 l2.length c2, .int .i64 r] 27)).alloc (.cells #[.int .i64 x0, .int .i64 x1, .int .i64 x2, .int .i64 x3, .int .i64 x4, .string x5] 32)).alloc (.cells #[.slice none 0 0, .slice none 0 0, .slice none 0 0, .int .i64 0] 27)) wc))
  case first =>
    have hs0 : w.heap.size < ((((w.alloc (.cells #[.slice A0 l0.length c0, .slice A1 l1.length c1, .slice A2 l2.length c2, .int .i64 r] 27)).alloc (.cells #[.int .i64 x0, .int .i64 x1, .int .i64 x2, .int .i64 x3, .int .i64 x4, .string x5] 32)).alloc (.cells #[.slice none 0 0, .slice none 0 0, .slice none 0 0, .int .i64 0] 27))).heap.size := by simp; omega
    by_cases hp : 0 < l0.length
    · obtain ⟨ad, rfl, hx0, hx1, hx2, hx3⟩ := at_T41 HR.out.r0 ((l0.length - 1 : Nat) : Int) (by omega) (by omega)
      rw [Int.toNat_natCast] at hx0 hx1 hx2 hx3
      have hx0 := (HB0.out.cell (World.block_lt_of_cell? w _ hx0)).trans hx0
      have hix : (l0.length : Int) - 1 = ((l0.length - 1 : Nat) : Int) := by omega
      have hd : decide (0 < l0.length) = true := decide_eq_true hp
      have hl : lateB l0 x1 = decide (x1 ≤ (rd_T41 l0 ((l0.length - 1 : Nat) : Int)).f0) := by unfold lateB; rw [hd]; rfl
      have HL := Aside0.mk hl
      clear hl hx1 hx2 hx3
      repeat (go_quiet (fail); try go_wp2)
      go_meet
      case rel => exact ⟨by rw [HL.out], ⟨pw_below_drewN (Below.refl _ _) _⟩⟩
    · have hd : decide (0 < l0.length) = false := decide_eq_false hp
      have hl : lateB l0 x1 = false := by unfold lateB; rw [hd]; rfl
      have HL := Aside0.mk hl
      clear hl
      repeat (go_quiet (fail); try go_wp2)
      go_meet
      case rel => exact ⟨by rw [HL.out], ⟨pw_below_drewN (Below.refl _ _) _⟩⟩
  case rest =>
    obtain ⟨rfl, HY⟩ := hcut
    obtain ⟨fb, hfb⟩ : ∃ b, hasS l1 x5 = b := ⟨_, rfl⟩
    have HF := Aside0.mk hfb
    clear hfb
    obtain ⟨hi, hhi⟩ : ∃ b, hasI l0 x2 = b := ⟨_, rfl⟩
    have HI := Aside0.mk hhi
    clear hhi
    cases hL : lateB l0 x1 with
    | true =>
      have HL := Aside0.mk hL
      clear hL
      have hv : commitS ⟨l0, l1, l2, r⟩ x1 x2 x3 x4 x5 = (eS27, 6) := by unfold commitS; simp only [HL.out, Bool.false_eq_true, if_false, if_true]
      have HV := Aside0.mk hv
      clear hv
      obtain ⟨⟨u0, u1, u2, u3⟩, q0, q1, q2, q3⟩ := blk4 ((HY.out.block _ (by simp)).trans HAL.out.2.2)
      go_wp2
      refine bodyPost_ret (v := .tuple #[.agg #[.slice none 0 0, .slice none 0 0, .slice none 0 0, .int .i64 0], .int .i64 6]) (by simp [results, Try.results34, go_sem, u0, u1, u2, u3]) rfl ?_
      rw [HV.out]
      exact ⟨_, _, _, rfl, HW.nil _ _, ((((HB0.out.trans (HY.out.mono (by first | (simp; done) | (simp; omega)))).setCell (by first | (simp; done) | (simp; omega)) _).setCell (by first | (simp; done) | (simp; omega)) _).setCell (by first | (simp; done) | (simp; omega)) _).setCell (by first | (simp; done) | (simp; omega)) _⟩
    | false =>
      have HL := Aside0.mk hL
      clear hL
      obtain ⟨⟨a0, a1, a2, a3⟩, p0, p1, p2, p3⟩ := blk4 ((HY.out.block _ (by simp; omega)).trans HAL.out.1)
      obtain ⟨b0, b1, b2, b3, b4, b5⟩ := blk6 ((HY.out.block _ (by simp)).trans HAL.out.2.1)
      go_upto_region 5 with ((go_at_call 57; have H57 := f57_calls A1 c1 l1 x5 wc (Kd.C_below HR.out.r1 (HB0.out.trans (HY.out.mono (by first | (simp; done) | (simp; omega))))) HR.out.h1 HO.out.o1 HO.out.n1; rw [HF.out] at H57; refine H57.mono ?_; clear H57; rintro e w1 ⟨rfl, hb⟩; have HY1 := Aside0.mk (HY.out.trans (hb.mono HY.out.size)); clear hb))
      clear a0 a1 a2 a3 p0 p1 p2 p3 b0 b1 b2 b3 b4 b5
      go_cut [37] (fun v37 wd => v37 = .bool (confB l1 x5 x2) ∧ Aside0 (Below ((((w.alloc (.cells #[.slice A0 l0.length c0, .slice A1 l1.length c1, .slice A2 l2.length c2, .int .i64 r] 27)).alloc (.cells #[.int .i64 x0, .int .i64 x1, .int .i64 x2, .int .i64 x3, .int .i64 x4, .string x5] 32)).alloc (.cells #[.slice none 0 0, .slice none 0 0, .slice none 0 0, .int .i64 0] 27))).heap.size (((w.alloc (.cells #[.slice A0 l0.length c0, .slice A1 l1.length c1, .slice A2 l2.length c2, .int .i64 r] 27)).alloc (.cells #[.int .i64 x0, .int .i64 x1, .int .i64 x2, .int .i64 x3, .int .i64 x4, .string x5] 32)).alloc (.cells #[.slice none 0 0, .slice none 0 0, .slice none 0 0, .int .i64 0] 27)) wd))
      case first =>
        obtain ⟨⟨a0, a1, a2, a3⟩, p0, p1, p2, p3⟩ := blk4 ((HY1.out.block _ (by simp; omega)).trans HAL.out.1)
        obtain ⟨b0, b1, b2, b3, b4, b5⟩ := blk6 ((HY1.out.block _ (by simp)).trans HAL.out.2.1)
        cases fb with
        | true =>
          have hp : posS l1 x5 < l1.length := by have h_ := HF.out; unfold hasS at h_; simp at h_; exact h_.1
          obtain ⟨ad, rfl, hx0, hx1⟩ := at_T86 HR.out.r1 (posS l1 x5 : Int) (by omega) (by omega)
          rw [Int.toNat_natCast] at hx0 hx1
          have HL2 : Aside0 (confB l1 x5 x2 = ((rd_T86 l1 (posS l1 x5)).f1 != x2)) := ⟨by unfold confB valS; rw [HF.out]; rfl⟩
          have hx1 := ((HB0.out.trans (HY1.out.mono (by first | (simp; done) | (simp; omega)))).cell (World.block_lt_of_cell? w _ hx1)).trans hx1
          clear hx0
          repeat (go_quiet (fail); try go_wp2)
          go_meet
          case rel => exact ⟨by rw [HL2.out], ⟨pw_below_drewN HY1.out _⟩⟩
        | false =>
          have HL2 : Aside0 (confB l1 x5 x2 = false) := ⟨by unfold confB; rw [HF.out]; rfl⟩
          repeat (go_quiet (fail); try go_wp2)
          go_meet
          case rel => exact ⟨by rw [HL2.out], ⟨pw_below_drewN HY1.out _⟩⟩
      case rest =>
        obtain ⟨rfl, HY2⟩ := hcut
        cases hC : confB l1 x5 x2 with
        | true =>
          have HC := Aside0.mk hC
          clear hC
          have hv : commitS ⟨l0, l1, l2, r⟩ x1 x2 x3 x4 x5 = (eS27, 14) := by unfold commitS; simp only [HL.out, HC.out, Bool.false_eq_true, if_false, if_true]
          have HV := Aside0.mk hv
          clear hv
          obtain ⟨⟨u0, u1, u2, u3⟩, q0, q1, q2, q3⟩ := blk4 ((HY2.out.block _ (by simp)).trans HAL.out.2.2)
          go_wp2
          refine bodyPost_ret (v := .tuple #[.agg #[.slice none 0 0, .slice none 0 0, .slice none 0 0, .int .i64 0], .int .i64 14]) (by simp [results, Try.results34, go_sem, u0, u1, u2, u3]) rfl ?_
          rw [HV.out]
          exact ⟨_, _, _, rfl, HW.nil _ _, ((((HB0.out.trans (HY2.out.mono (by first | (simp; done) | (simp; omega)))).setCell (by first | (simp; done) | (simp; omega)) _).setCell (by first | (simp; done) | (simp; omega)) _).setCell (by first | (simp; done) | (simp; omega)) _).setCell (by first | (simp; done) | (simp; omega)) _⟩
        | false =>
          have HC := Aside0.mk hC
          clear hC
          obtain ⟨⟨a0, a1, a2, a3⟩, p0, p1, p2, p3⟩ := blk4 ((HY2.out.block _ (by simp; omega)).trans HAL.out.1)
          obtain ⟨b0, b1, b2, b3, b4, b5⟩ := blk6 ((HY2.out.block _ (by simp)).trans HAL.out.2.1)
          go_upto_region 7 with (fail)
          go_cut [51] (fun v51 wd => v51 = .bool (nameB l1 x5 x2) ∧ Aside0 (Below ((((w.alloc (.cells #[.slice A0 l0.length c0, .slice A1 l1.length c1, .slice A2 l2.length c2, .int .i64 r] 27)).alloc (.cells #[.int .i64 x0, .int .i64 x1, .int .i64 x2, .int .i64 x3, .int .i64 x4, .string x5] 32)).alloc (.cells #[.slice none 0 0, .slice none 0 0, .slice none 0 0, .int .i64 0] 27))).heap.size (((w.alloc (.cells #[.slice A0 l0.length c0, .slice A1 l1.length c1, .slice A2 l2.length c2, .int .i64 r] 27)).alloc (.cells #[.int .i64 x0, .int .i64 x1, .int .i64 x2, .int .i64 x3, .int .i64 x4, .string x5] 32)).alloc (.cells #[.slice none 0 0, .slice none 0 0, .slice none 0 0, .int .i64 0] 27)) wd))
          case first =>
            cases fb with
            | true =>
              have HL2 : Aside0 (nameB l1 x5 x2 = false) := ⟨by unfold nameB; rw [HF.out]; rfl⟩
              go_wp2
              go_meet
              case rel => exact ⟨by rw [HL2.out], HY2⟩
            | false =>
              have HL2 : Aside0 (nameB l1 x5 x2 = (x2 != 0)) := ⟨by unfold nameB; rw [HF.out]; rfl⟩
              go_wp2
              go_meet
              case rel => exact ⟨by rw [HL2.out], HY2⟩
          case rest =>
            obtain ⟨rfl, HY3⟩ := hcut
            clear a0 a1 a2 a3 p0 p1 p2 p3 b0 b1 b2 b3 b4 b5
            cases hN : nameB l1 x5 x2 with
            | true =>
              have HN := Aside0.mk hN
              clear hN
              have hv : commitS ⟨l0, l1, l2, r⟩ x1 x2 x3 x4 x5 = (eS27, 8) := by unfold commitS; simp only [HL.out, HC.out, HN.out, Bool.false_eq_true, if_false, if_true]
              have HV := Aside0.mk hv
              clear hv
              obtain ⟨⟨u0, u1, u2, u3⟩, q0, q1, q2, q3⟩ := blk4 ((HY3.out.block _ (by simp)).trans HAL.out.2.2)
              go_wp2
              refine bodyPost_ret (v := .tuple #[.agg #[.slice none 0 0, .slice none 0 0, .slice none 0 0, .int .i64 0], .int .i64 8]) (by simp [results, Try.results34, go_sem, u0, u1, u2, u3]) rfl ?_
              rw [HV.out]
              exact ⟨_, _, _, rfl, HW.nil _ _, ((((HB0.out.trans (HY3.out.mono (by first | (simp; done) | (simp; omega)))).setCell (by first | (simp; done) | (simp; omega)) _).setCell (by first | (simp; done) | (simp; omega)) _).setCell (by first | (simp; done) | (simp; omega)) _).setCell (by first | (simp; done) | (simp; omega)) _⟩
            | false =>
              have HN := Aside0.mk hN
              clear hN
              obtain ⟨⟨a0, a1, a2, a3⟩, p0, p1, p2, p3⟩ := blk4 ((HY3.out.block _ (by simp; omega)).trans HAL.out.1)
              obtain ⟨b0, b1, b2, b3, b4, b5⟩ := blk6 ((HY3.out.block _ (by simp)).trans HAL.out.2.1)
              go_upto_region 9 with (fail)
              go_cut [60] (fun v60 wd => v60 = .bool (fullB l1 x5) ∧ Aside0 (Below ((((w.alloc (.cells #[.slice A0 l0.length c0, .slice A1 l1.length c1, .slice A2 l2.length c2, .int .i64 r] 27)).alloc (.cells #[.int .i64 x0, .int .i64 x1, .int .i64 x2, .int .i64 x3, .int .i64 x4, .string x5] 32)).alloc (.cells #[.slice none 0 0, .slice none 0 0, .slice none 0 0, .int .i64 0] 27))).heap.size (((w.alloc (.cells #[.slice A0 l0.length c0, .slice A1 l1.length c1, .slice A2 l2.length c2, .int .i64 r] 27)).alloc (.cells #[.int .i64 x0, .int .i64 x1, .int .i64 x2, .int .i64 x3, .int .i64 x4, .string x5] 32)).alloc (.cells #[.slice none 0 0, .slice none 0 0, .slice none 0 0, .int .i64 0] 27)) wd))
              case first =>
                cases fb with
                | true =>
                  have HL2 : Aside0 (fullB l1 x5 = false) := ⟨by unfold fullB; rw [HF.out]; rfl⟩
                  go_wp2
                  go_meet
                  case rel => exact ⟨by rw [HL2.out], HY3⟩
                | false =>
                  have HL2 : Aside0 (fullB l1 x5 = decide (64 ≤ (l1.length : Int))) := ⟨by unfold fullB; rw [HF.out]; simp only [Bool.not_false, Bool.true_and, decide_eq_decide]; omega⟩
                  go_wp2
                  go_meet
                  case rel => exact ⟨by rw [HL2.out], HY3⟩
              case rest =>
                obtain ⟨rfl, HY4⟩ := hcut
                clear a0 a1 a2 a3 p0 p1 p2 p3 b0 b1 b2 b3 b4 b5
                cases hU : fullB l1 x5 with
                | true =>
                  have HU := Aside0.mk hU
                  clear hU
                  have hv : commitS ⟨l0, l1, l2, r⟩ x1 x2 x3 x4 x5 = (eS27, 12) := by unfold commitS; simp only [HL.out, HC.out, HN.out, HU.out, Bool.false_eq_true, if_false, if_true]
                  have HV := Aside0.mk hv
                  clear hv
                  obtain ⟨⟨u0, u1, u2, u3⟩, q0, q1, q2, q3⟩ := blk4 ((HY4.out.block _ (by simp)).trans HAL.out.2.2)
                  go_wp2
                  refine bodyPost_ret (v := .tuple #[.agg #[.slice none 0 0, .slice none 0 0, .slice none 0 0, .int .i64 0], .int .i64 12]) (by simp [results, Try.results34, go_sem, u0, u1, u2, u3]) rfl ?_
                  rw [HV.out]
                  exact ⟨_, _, _, rfl, HW.nil _ _, ((((HB0.out.trans (HY4.out.mono (by first | (simp; done) | (simp; omega)))).setCell (by first | (simp; done) | (simp; omega)) _).setCell (by first | (simp; done) | (simp; omega)) _).setCell (by first | (simp; done) | (simp; omega)) _).setCell (by first | (simp; done) | (simp; omega)) _⟩
                | false =>
                  have HU := Aside0.mk hU
                  clear hU
                  obtain ⟨⟨a0, a1, a2, a3⟩, p0, p1, p2, p3⟩ := blk4 ((HY4.out.block _ (by simp; omega)).trans HAL.out.1)
                  obtain ⟨b0, b1, b2, b3, b4, b5⟩ := blk6 ((HY4.out.block _ (by simp)).trans HAL.out.2.1)
                  go_upto_region 11 with (fail)
                  have HH := Aside0.mk (HB0.out.trans (HY4.out.mono (by first | (simp; done) | (simp; omega))))
                  go_cut [70] (fun v70 wd => v70 = .bool (goneB l0 x2 || goneB l0 x3) ∧ Aside0 (Below ((((w.alloc (.cells #[.slice A0 l0.length c0, .slice A1 l1.length c1, .slice A2 l2.length c2, .int .i64 r] 27)).alloc (.cells #[.int .i64 x0, .int .i64 x1, .int .i64 x2, .int .i64 x3, .int .i64 x4, .string x5] 32)).alloc (.cells #[.slice none 0 0, .slice none 0 0, .slice none 0 0, .int .i64 0] 27))).heap.size (((w.alloc (.cells #[.slice A0 l0.length c0, .slice A1 l1.length c1, .slice A2 l2.length c2, .int .i64 r] 27)).alloc (.cells #[.int .i64 x0, .int .i64 x1, .int .i64 x2, .int .i64 x3, .int .i64 x4, .string x5] 32)).alloc (.cells #[.slice none 0 0, .slice none 0 0, .slice none 0 0, .int .i64 0] 27)) wd))
                  case first =>
                    have hq2 := f51_calls A0 c0 l0 A1 c1 l1 A2 c2 l2 r x2 wc (HR.out.below HH.out) HO.out.o0 HO.out.n0
                    rw [HI.out] at hq2
                    have H51a := Aside0.mk hq2
                    have H51b := Aside0.mk (f51_calls A0 c0 l0 A1 c1 l1 A2 c2 l2 r x3 wc (HR.out.below HH.out) HO.out.o0 HO.out.n0)
                    clear hq2
                    by_cases h2 : x2 = 0
                    · have hd2 : (x2 != 0) = false := by simp [h2]
                      have hd2b : (x2 == 0) = true := by simp [h2]
                      by_cases h3 : x3 = 0
                      · have hd3 : (x3 != 0) = false := by simp [h3]
                        have HL2 : Aside0 ((goneB l0 x2 || goneB l0 x3) = false) := ⟨by unfold goneB; rw [hd2, hd3]; rfl⟩
                        clear h2 h3 hd2b
                        go_wp2
                        go_meet
                        case rel => exact ⟨by rw [HL2.out], HY4⟩
                      · have hd3 : (x3 != 0) = true := by simp [h3]
                        have HL2 : Aside0 ((goneB l0 x2 || goneB l0 x3) = !hasI l0 x3) := ⟨by unfold goneB; rw [hd2, hd3]; rfl⟩
                        clear h2 h3 hd2b
                        go_wp2_with (go_at_call 51; refine H51b.out.mono ?_; rintro e w2 ⟨rfl, hb⟩; have HY5 := Aside0.mk (HY4.out.trans (hb.mono HY4.out.size)); clear hb)
                        go_meet
                        case rel => exact ⟨by rw [HL2.out], HY5⟩
                    · have hd2 : (x2 != 0) = true := by simp [h2]
                      cases hi with
                      | false =>
                        have HL2 : Aside0 ((goneB l0 x2 || goneB l0 x3) = true) := ⟨by unfold goneB; rw [hd2, HI.out]; rfl⟩
                        clear h2
                        go_wp2_with (go_at_call 51; refine H51a.out.mono ?_; rintro e w2 ⟨rfl, hb⟩; have HY5 := Aside0.mk (HY4.out.trans (hb.mono HY4.out.size)); clear hb)
                        go_meet
                        case rel => exact ⟨by rw [HL2.out], HY5⟩
                      | true =>
                        by_cases h3 : x3 = 0
                        · have hd3 : (x3 != 0) = false := by simp [h3]
                          have HL2 : Aside0 ((goneB l0 x2 || goneB l0 x3) = false) := ⟨by unfold goneB; rw [hd2, hd3, HI.out]; rfl⟩
                          clear h2 h3
                          go_wp2_with (go_at_call 51; refine H51a.out.mono ?_; clear a0 a1 a2 a3 p0 p1 p2 p3 b0 b1 b2 b3 b4 b5; rintro e w2 ⟨rfl, hb⟩; have HY5 := Aside0.mk (HY4.out.trans (hb.mono HY4.out.size)); obtain ⟨⟨a0, a1, a2, a3⟩, p0, p1, p2, p3⟩ := blk4 ((HY5.out.block _ (by simp; omega)).trans HAL.out.1); obtain ⟨b0, b1, b2, b3, b4, b5⟩ := blk6 ((HY5.out.block _ (by simp)).trans HAL.out.2.1); clear hb)
                          go_meet
                          case rel => exact ⟨by rw [HL2.out], HY5⟩
                        · have hd3 : (x3 != 0) = true := by simp [h3]
                          have HL2 : Aside0 ((goneB l0 x2 || goneB l0 x3) = !hasI l0 x3) := ⟨by unfold goneB; rw [hd2, hd3, HI.out]; rfl⟩
                          clear h2 h3 H51b
                          go_wp2_with (first
                            | (go_at_call 51; refine H51a.out.mono ?_; clear H51a a0 a1 a2 a3 p0 p1 p2 p3 b0 b1 b2 b3 b4 b5; rintro e w2 ⟨rfl, hb⟩; have HY5 := Aside0.mk (HY4.out.trans (hb.mono HY4.out.size)); obtain ⟨⟨a0, a1, a2, a3⟩, p0, p1, p2, p3⟩ := blk4 ((HY5.out.block _ (by simp; omega)).trans HAL.out.1); obtain ⟨b0, b1, b2, b3, b4, b5⟩ := blk6 ((HY5.out.block _ (by simp)).trans HAL.out.2.1); have H51b := Aside0.mk (f51_calls A0 c0 l0 A1 c1 l1 A2 c2 l2 r x3 w2 (HR.out.below (HB0.out.trans (HY5.out.mono (by first | (simp; done) | (simp; omega))))) HO.out.o0 HO.out.n0); clear hb)
                            | (go_at_call 51; refine H51b.out.mono ?_; rintro e w3 ⟨rfl, hb⟩; have HY6 := Aside0.mk (HY5.out.trans (hb.mono HY5.out.size)); clear hb))
                          go_meet
                          case rel => exact ⟨by rw [HL2.out], HY6⟩
                  case rest =>
                    obtain ⟨rfl, HY7⟩ := hcut
                    clear a0 a1 a2 a3 p0 p1 p2 p3 b0 b1 b2 b3 b4 b5
                    clear HH
                    cases hG : (goneB l0 x2 || goneB l0 x3) with
                    | true =>
                      have HG := Aside0.mk hG
                      clear hG
                      have hv : commitS ⟨l0, l1, l2, r⟩ x1 x2 x3 x4 x5 = (eS27, 15) := by unfold commitS; simp only [HL.out, HC.out, HN.out, HU.out, HG.out, Bool.false_eq_true, if_false, if_true]
                      have HV := Aside0.mk hv
                      clear hv
                      obtain ⟨⟨u0, u1, u2, u3⟩, q0, q1, q2, q3⟩ := blk4 ((HY7.out.block _ (by simp)).trans HAL.out.2.2)
                      go_wp2
                      refine bodyPost_ret (v := .tuple #[.agg #[.slice none 0 0, .slice none 0 0, .slice none 0 0, .int .i64 0], .int .i64 15]) (by simp [results, Try.results34, go_sem, u0, u1, u2, u3]) rfl ?_
                      rw [HV.out]
                      exact ⟨_, _, _, rfl, HW.nil _ _, ((((HB0.out.trans (HY7.out.mono (by first | (simp; done) | (simp; omega)))).setCell (by first | (simp; done) | (simp; omega)) _).setCell (by first | (simp; done) | (simp; omega)) _).setCell (by first | (simp; done) | (simp; omega)) _).setCell (by first | (simp; done) | (simp; omega)) _⟩
                    | false =>
                      have HG := Aside0.mk hG
                      clear hG
                      obtain ⟨⟨a0, a1, a2, a3⟩, p0, p1, p2, p3⟩ := blk4 ((HY7.out.block _ (by simp; omega)).trans HAL.out.1)
                      obtain ⟨b0, b1, b2, b3, b4, b5⟩ := blk6 ((HY7.out.block _ (by simp)).trans HAL.out.2.1)
                      have hq2 := f16_calls A0 c0 l0 A1 c1 l1 A2 c2 l2 r x2 wc (HR.out.below (HB0.out.trans (HY7.out.mono (by first | (simp; done) | (simp; omega))))) HO.out.o0 HO.out.n0
                      rw [HI.out] at hq2
                      have H16 := Aside0.mk hq2
                      clear hq2
                      go_upto_region 14 with (go_at_call 16; refine H16.out.mono ?_; clear a0 a1 a2 a3 p0 p1 p2 p3 b0 b1 b2 b3 b4 b5; rintro e w1 ⟨rfl, hb⟩; have HY8 := Aside0.mk (HY7.out.trans (hb.mono HY7.out.size)); obtain ⟨⟨a0, a1, a2, a3⟩, p0, p1, p2, p3⟩ := blk4 ((HY8.out.block _ (by simp; omega)).trans HAL.out.1); obtain ⟨b0, b1, b2, b3, b4, b5⟩ := blk6 ((HY8.out.block _ (by simp)).trans HAL.out.2.1); have hlt0 : w.heap.size < w1.heap.size := (by have := HY8.out.size; simp at this; omega); have hlt1 : w.heap.size + 1 < w1.heap.size := (by have := HY8.out.size; simp at this; omega); clear hb)
                      go_cut [108] (fun v108 wd => v108 = .bool (timeB l0 x2 x4) ∧ Aside0 (Below ((((w.alloc (.cells #[.slice A0 l0.length c0, .slice A1 l1.length c1, .slice A2 l2.length c2, .int .i64 r] 27)).alloc (.cells #[.int .i64 x0, .int .i64 x1, .int .i64 x2, .int .i64 x3, .int .i64 x4, .string x5] 32)).alloc (.cells #[.slice none 0 0, .slice none 0 0, .slice none 0 0, .int .i64 0] 27))).heap.size (((w.alloc (.cells #[.slice A0 l0.length c0, .slice A1 l1.length c1, .slice A2 l2.length c2, .int .i64 r] 27)).alloc (.cells #[.int .i64 x0, .int .i64 x1, .int .i64 x2, .int .i64 x3, .int .i64 x4, .string x5] 32)).alloc (.cells #[.slice none 0 0, .slice none 0 0, .slice none 0 0, .int .i64 0] 27)) wd))
                      case first =>
                        cases hi with
                        | true =>
                          have HL2 : Aside0 (timeB l0 x2 x4 = decide (x4 < (nodeI l0 x2).f3)) := ⟨by unfold timeB; rw [HI.out]; rfl⟩
                          go_wp2
                          go_meet
                          case rel => exact ⟨by rw [HL2.out], ⟨HY8.out.alloc HY8.out.size _⟩⟩
                        | false =>
                          have HL2 : Aside0 (timeB l0 x2 x4 = false) := ⟨by unfold timeB; rw [HI.out]; rfl⟩
                          go_wp2
                          go_meet
                          case rel => exact ⟨by rw [HL2.out], ⟨HY8.out.alloc HY8.out.size _⟩⟩
                      case rest =>
                        obtain ⟨rfl, HY9⟩ := hcut
                        clear a0 a1 a2 a3 p0 p1 p2 p3 b0 b1 b2 b3 b4 b5
                        clear HY HY1 HY2 HY3 HY4 HY7 HY8
                        cases hT : timeB l0 x2 x4 with
                        | true =>
                          have HT := Aside0.mk hT
                          clear hT
                          have hv : commitS ⟨l0, l1, l2, r⟩ x1 x2 x3 x4 x5 = (eS27, 6) := by unfold commitS; simp only [HL.out, HC.out, HN.out, HU.out, HG.out, HT.out, Bool.false_eq_true, if_false, if_true]
                          have HV := Aside0.mk hv
                          clear hv
                          obtain ⟨⟨u0, u1, u2, u3⟩, q0, q1, q2, q3⟩ := blk4 ((HY9.out.block _ (by simp)).trans HAL.out.2.2)
                          go_wp2
                          refine bodyPost_ret (v := .tuple #[.agg #[.slice none 0 0, .slice none 0 0, .slice none 0 0, .int .i64 0], .int .i64 6]) (by simp [results, Try.results34, go_sem, u0, u1, u2, u3]) rfl ?_
                          rw [HV.out]
                          exact ⟨_, _, _, rfl, HW.nil _ _, ((((HB0.out.trans (HY9.out.mono (by first | (simp; done) | (simp; omega)))).setCell (by first | (simp; done) | (simp; omega)) _).setCell (by first | (simp; done) | (simp; omega)) _).setCell (by first | (simp; done) | (simp; omega)) _).setCell (by first | (simp; done) | (simp; omega)) _⟩
                        | false =>
                          have HT := Aside0.mk hT
                          clear hT
                          have HS : Aside0 (∀ W, Below ((((w.alloc (.cells #[.slice A0 l0.length c0, .slice A1 l1.length c1, .slice A2 l2.length c2, .int .i64 r] 27)).alloc (.cells #[.int .i64 x0, .int .i64 x1, .int .i64 x2, .int .i64 x3, .int .i64 x4, .string x5] 32)).alloc (.cells #[.slice none 0 0, .slice none 0 0, .slice none 0 0, .int .i64 0] 27))).heap.size (((w.alloc (.cells #[.slice A0 l0.length c0, .slice A1 l1.length c1, .slice A2 l2.length c2, .int .i64 r] 27)).alloc (.cells #[.int .i64 x0, .int .i64 x1, .int .i64 x2, .int .i64 x3, .int .i64 x4, .string x5] 32)).alloc (.cells #[.slice none 0 0, .slice none 0 0, .slice none 0 0, .int .i64 0] 27)) W → (W.cell? ⟨w.heap.size, 0, none⟩ = some (.slice A0 l0.length c0) ∧ W.cell? ⟨w.heap.size + 1, 1, none⟩ = some (.int .i64 x1) ∧ W.cell? ⟨w.heap.size + 1, 2, none⟩ = some (.int .i64 x2) ∧ W.cell? ⟨w.heap.size + 1, 3, none⟩ = some (.int .i64 x3) ∧ W.cell? ⟨w.heap.size + 1, 4, none⟩ = some (.int .i64 x4))) := ⟨fun W hb => by
                            obtain ⟨⟨a0, a1, a2, a3⟩, p0, p1, p2, p3⟩ := blk4 ((hb.block _ (by first | (simp; done) | (simp; omega))).trans HAL.out.1)
                            obtain ⟨b0, b1, b2, b3, b4, b5⟩ := blk6 ((hb.block _ (by first | (simp; done) | (simp; omega))).trans HAL.out.2.1)
                            exact ⟨a0, b1, b2, b3, b4⟩⟩
                          go_wp2_with fail
                          have HYd := Aside0.mk (below_drew1 HY9.out)
                          refine start_ (n := 16) (S := fun w' => w'.cell? ⟨w.heap.size, 0, none⟩ = some (.slice A0 l0.length c0) ∧ w'.cell? ⟨w.heap.size + 1, 1, none⟩ = some (.int .i64 x1) ∧ w'.cell? ⟨w.heap.size + 1, 2, none⟩ = some (.int .i64 x2) ∧ w'.cell? ⟨w.heap.size + 1, 3, none⟩ = some (.int .i64 x3) ∧ w'.cell? ⟨w.heap.size + 1, 4, none⟩ = some (.int .i64 x4)) (ds := [15]) #[false, false, false, false, false, false, false, false, false, false, false, false, false, false, false, false] (by kernel_rfl) rfl rfl (HS.out _ HYd.out) (fun hHeld => ?_)
                          refine with_tabW f34_tab16 f34_bits16 (fun HT_ HW_ => ?_)
                          clear HY9
                          generalize wc.drew = wd at HYd hHeld ⊢
                          refine pure_ (i := 0) (N := some 110) (v := ?_) (a' := ?_) #[true, false, false, false, false, false, false, false, false, false, false, false, false, false, false, false] rfl rfl (any_of HT_.out (by kernel_rfl)) (fun _ _ _ h => h) (Or.inl ⟨by rfl, ?_⟩) ?_ ?_
                          rotate_left
                          · intro w'
                            go_simp
                            with_reducible rfl
                          rotate_left
                          · simp only [Act.put, List.setIfInBounds_toArray, List.set_cons_zero, List.set_cons_succ, i64_w, i32_w]
                            rfl
                          refine pure_ (i := 3) (N := some 113) (v := ?_) (a' := ?_) #[true, false, false, true, false, false, false, false, false, false, false, false, false, false, false, false] rfl rfl (any_of HT_.out (by kernel_rfl)) (fun _ _ _ h => h) (Or.inl ⟨by rfl, ?_⟩) ?_ ?_
                          rotate_left
                          · intro w'
                            go_simp
                            with_reducible rfl
                          rotate_left
                          · simp only [Act.put, List.setIfInBounds_toArray, List.set_cons_zero, List.set_cons_succ, i64_w, i32_w]
                            rfl
                          refine pure_ (i := 5) (N := some 115) (v := ?_) (a' := ?_) #[true, false, false, true, false, true, false, false, false, false, false, false, false, false, false, false] rfl rfl (any_of HT_.out (by kernel_rfl)) (fun _ _ _ h => h) (Or.inl ⟨by rfl, ?_⟩) ?_ ?_
                          rotate_left
                          · intro w'
                            go_simp
                            with_reducible rfl
                          rotate_left
                          · simp only [Act.put, List.setIfInBounds_toArray, List.set_cons_zero, List.set_cons_succ, i64_w, i32_w]
                            rfl
                          refine pure_ (i := 7) (N := some 117) (v := ?_) (a' := ?_) #[true, false, false, true, false, true, false, true, false, false, false, false, false, false, false, false] rfl rfl (any_of HT_.out (by kernel_rfl)) (fun _ _ _ h => h) (Or.inl ⟨by rfl, ?_⟩) ?_ ?_
                          rotate_left
                          · intro w'
                            go_simp
                            with_reducible rfl
                          rotate_left
                          · simp only [Act.put, List.setIfInBounds_toArray, List.set_cons_zero, List.set_cons_succ, i64_w, i32_w]
                            rfl
                          refine pure_ (i := 9) (N := some 119) (v := ?_) (a' := ?_) #[true, false, false, true, false, true, false, true, false, true, false, false, false, false, false, false] rfl rfl (any_of HT_.out (by kernel_rfl)) (fun _ _ _ h => h) (Or.inl ⟨by rfl, ?_⟩) ?_ ?_
                          rotate_left
                          · intro w'
                            go_simp
                            with_reducible rfl
                          rotate_left
                          · simp only [Act.put, List.setIfInBounds_toArray, List.set_cons_zero, List.set_cons_succ, i64_w, i32_w]
                            rfl
                          refine take_ (i := 1) (N := some 111) (v := ?_) (a' := ?_) #[true, true, false, true, false, true, false, true, false, true, false, false, false, false, false, false] rfl rfl (take_ofW HT_.out HW_.out (by kernel_rfl)) (fun _ _ _ h => h) (Or.inl ⟨by rfl, ?_⟩) hHeld ?_ ?_
                          rotate_left
                          · rintro w' ⟨s0, s1, s2, s3, s4⟩
                            go_simp
                            with_reducible rfl
                          rotate_left
                          · simp only [Act.put, List.setIfInBounds_toArray, List.set_cons_zero, List.set_cons_succ, i64_w, i32_w]
                            rfl
                          refine take_ (i := 4) (N := some 114) (v := ?_) (a' := ?_) #[true, true, false, true, true, true, false, true, false, true, false, false, false, false, false, false] rfl rfl (take_ofW HT_.out HW_.out (by kernel_rfl)) (fun _ _ _ h => h) (Or.inl ⟨by rfl, ?_⟩) hHeld ?_ ?_
                          rotate_left
                          · rintro w' ⟨s0, s1, s2, s3, s4⟩
                            go_simp
                            with_reducible rfl
                          rotate_left
                          · simp only [Act.put, List.setIfInBounds_toArray, List.set_cons_zero, List.set_cons_succ, i64_w, i32_w]
                            rfl
                          refine take_ (i := 6) (N := some 116) (v := ?_) (a' := ?_) #[true, true, false, true, true, true, true, true, false, true, false, false, false, false, false, false] rfl rfl (take_ofW HT_.out HW_.out (by kernel_rfl)) (fun _ _ _ h => h) (Or.inl ⟨by rfl, ?_⟩) hHeld ?_ ?_
                          rotate_left
                          · rintro w' ⟨s0, s1, s2, s3, s4⟩
                            go_simp
                            with_reducible rfl
                          rotate_left
                          · simp only [Act.put, List.setIfInBounds_toArray, List.set_cons_zero, List.set_cons_succ, i64_w, i32_w]
                            rfl
                          refine take_ (i := 8) (N := some 118) (v := ?_) (a' := ?_) #[true, true, false, true, true, true, true, true, true, true, false, false, false, false, false, false] rfl rfl (take_ofW HT_.out HW_.out (by kernel_rfl)) (fun _ _ _ h => h) (Or.inl ⟨by rfl, ?_⟩) hHeld ?_ ?_
                          rotate_left
                          · rintro w' ⟨s0, s1, s2, s3, s4⟩
                            go_simp
                            with_reducible rfl
                          rotate_left
                          · simp only [Act.put, List.setIfInBounds_toArray, List.set_cons_zero, List.set_cons_succ, i64_w, i32_w]
                            rfl
                          refine take_ (i := 10) (N := some 120) (v := ?_) (a' := ?_) #[true, true, false, true, true, true, true, true, true, true, true, false, false, false, false, false] rfl rfl (take_ofW HT_.out HW_.out (by kernel_rfl)) (fun _ _ _ h => h) (Or.inl ⟨by rfl, ?_⟩) hHeld ?_ ?_
                          rotate_left
                          · rintro w' ⟨s0, s1, s2, s3, s4⟩
                            go_simp
                            with_reducible rfl
                          rotate_left
                          · simp only [Act.put, List.setIfInBounds_toArray, List.set_cons_zero, List.set_cons_succ, i64_w, i32_w]
                            rfl
                          refine pure_ (i := 11) (N := some 121) (v := ?_) (a' := ?_) #[true, true, false, true, true, true, true, true, true, true, true, true, false, false, false, false] rfl rfl (any_of HT_.out (by kernel_rfl)) (fun _ _ _ h => h) (Or.inl ⟨by rfl, ?_⟩) ?_ ?_
                          rotate_left
                          · intro w'
                            go_simp
                            with_reducible rfl
                          rotate_left
                          · simp only [Act.put, List.setIfInBounds_toArray, List.set_cons_zero, List.set_cons_succ, i64_w, i32_w]
                            rfl
                          refine join_ (σ := Value × Value) 3 #[true, true, true, true, true, true, true, true, true, true, true, true, true, false, false, false] (fun s_ => [(112, s_.1), (122, s_.2)]) (fun s_ w' => w'.ownsRow ((((w.alloc (.cells #[.slice A0 l0.length c0, .slice A1 l1.length c1, .slice A2 l2.length c2, .int .i64 r] 27)).alloc (.cells #[.int .i64 x0, .int .i64 x1, .int .i64 x2, .int .i64 x3, .int .i64 x4, .string x5] 32)).alloc (.cells #[.slice none 0 0, .slice none 0 0, .slice none 0 0, .int .i64 0] 27))).heap.size 41 4 s_.1 l0.length (E41 l0) ∧ (∃ g, s_.2 = .slice (some ⟨g, 0, none⟩) 1 1 ∧ w'.heap[g]? = some (.cells #[.int .i64 x1, .int .i64 x2, .int .i64 x3, .int .i64 x4] 41 (0, 0)) ∧ s_.1.ownBlock ≠ some g) ∧ Below ((((w.alloc (.cells #[.slice A0 l0.length c0, .slice A1 l1.length c1, .slice A2 l2.length c2, .int .i64 r] 27)).alloc (.cells #[.int .i64 x0, .int .i64 x1, .int .i64 x2, .int .i64 x3, .int .i64 x4, .string x5] 32)).alloc (.cells #[.slice none 0 0, .slice none 0 0, .slice none 0 0, .int .i64 0] 27))).heap.size (((w.alloc (.cells #[.slice A0 l0.length c0, .slice A1 l1.length c1, .slice A2 l2.length c2, .int .i64 r] 27)).alloc (.cells #[.int .i64 x0, .int .i64 x1, .int .i64 x2, .int .i64 x3, .int .i64 x4, .string x5] 32)).alloc (.cells #[.slice none 0 0, .slice none 0 0, .slice none 0 0, .int .i64 0] 27)) w') ?_ ?_
                          rotate_left
                          · intro hCont
                            refine two_ (i := 2) (j := 12) (Ni := some 112) (Nj := some 122) #[true, true, true, true, true, true, true, true, true, true, true, true, false, false, false, false] #[true, true, false, true, true, true, true, true, true, true, true, true, true, false, false, false] rfl rfl rfl rfl (two_of HT_.out (by kernel_rfl)) (by decide) (by decide) (fun K hK => ?_) (fun K hK => ?_)
                            · skip
                              refine goes_ Try.func58 (by kernel_rfl) rfl #[.slice A0 l0.length c0] (by rfl) rfl rfl (by (try simp only [List.map_toArray, List.map_cons, List.map_nil]); first | done | rfl) ?_
                              refine (f58_calls A0 c0 l0 _ (Kd.C_below HR.out.r0 (HB0.out.trans (HYd.out.mono (by first | (simp; done) | (simp; omega))))) HR.out.h0 hn0).mono ?_
                              rintro e w4 ⟨v4, rfl, ho4, hb⟩
                              refine ⟨_, rfl, ?_⟩
                              have HYe := Aside0.mk (HYd.out.trans (hb.mono HYd.out.size))
                              have HO4 := Aside0.mk (own_weaken ho4 HYd.out.size)
                              have HOW := Aside0.mk ho4
                              have HBL := Aside0.mk hb
                              clear ho4 hb
                              refine hK.out _ _ (HS.out _ HYe.out) (fun hHeld => ?_)
                              clear hK K
                              refine norm_ (a' := ?_) ?_ ?_
                              rotate_left
                              · show Act.put _ (some 112) _ = _
                                simp only [Act.put, List.setIfInBounds_toArray, List.set_cons_zero, List.set_cons_succ, i64_w, i32_w]
                                rfl
                              refine one_ (i := 12) (N := some 122) #[true, true, true, true, true, true, true, true, true, true, true, true, true, false, false, false] rfl rfl (one_of HT_.out (by kernel_rfl)) (by decide) (fun K hK => ?_)
                              refine event_step (v := .slice (some ⟨(w4).heap.size, 0, none⟩) 1 1) (w1 := (w4).alloc (.cells #[.int .i64 x1, .int .i64 x2, .int .i64 x3, .int .i64 x4] 41)) (by rfl) ?hr ?_
                              (case hr => first | (go_simp; done) | (go_simp; rfl))
                              have HBX := Aside0.mk (heap_alloc_new (w4) (.cells #[.int .i64 x1, .int .i64 x2, .int .i64 x3, .int .i64 x4] 41))
                              have HYf := Aside0.mk (HYe.out.alloc HYe.out.size (.cells #[.int .i64 x1, .int .i64 x2, .int .i64 x3, .int .i64 x4] 41))
                              refine hK.out _ _ (HS.out _ HYf.out) (fun hHeld => ?_)
                              clear hK K
                              refine norm_ (a' := ?_) ?_ ?_
                              rotate_left
                              · show Act.put _ (some 122) _ = _
                                simp only [Act.put, List.setIfInBounds_toArray, List.set_cons_zero, List.set_cons_succ, i64_w, i32_w]
                                rfl
                              exact norm_ (by simp only [putAll, Act.put, List.setIfInBounds_toArray, List.set_cons_zero, List.set_cons_succ]) (hCont (v4, .slice (some ⟨w4.heap.size, 0, none⟩) 1 1) _ ⟨HO4.out.alloc _, ⟨_, rfl, HBX.out, fun h => by have := own_lt HO4.out _ h; omega⟩, HYf.out⟩)
                            · skip
                              refine event_step (v := .slice (some ⟨(wd).heap.size, 0, none⟩) 1 1) (w1 := (wd).alloc (.cells #[.int .i64 x1, .int .i64 x2, .int .i64 x3, .int .i64 x4] 41)) (by rfl) ?hr ?_
                              (case hr => first | (go_simp; done) | (go_simp; rfl))
                              have HBX := Aside0.mk (heap_alloc_new (wd) (.cells #[.int .i64 x1, .int .i64 x2, .int .i64 x3, .int .i64 x4] 41))
                              have HYf := Aside0.mk (HYd.out.alloc HYd.out.size (.cells #[.int .i64 x1, .int .i64 x2, .int .i64 x3, .int .i64 x4] 41))
                              refine hK.out _ _ (HS.out _ HYf.out) (fun hHeld => ?_)
                              clear hK K
                              refine norm_ (a' := ?_) ?_ ?_
                              rotate_left
                              · show Act.put _ (some 122) _ = _
                                simp only [Act.put, List.setIfInBounds_toArray, List.set_cons_zero, List.set_cons_succ, i64_w, i32_w]
                                rfl
                              refine one_ (i := 2) (N := some 112) #[true, true, true, true, true, true, true, true, true, true, true, true, true, false, false, false] rfl rfl (one_of HT_.out (by kernel_rfl)) (by decide) (fun K hK => ?_)
                              refine goes_ Try.func58 (by kernel_rfl) rfl #[.slice A0 l0.length c0] (by rfl) rfl rfl (by (try simp only [List.map_toArray, List.map_cons, List.map_nil]); first | done | rfl) ?_
                              refine (f58_calls A0 c0 l0 _ (Kd.C_below HR.out.r0 (HB0.out.trans (HYf.out.mono (by first | (simp; done) | (simp; omega))))) HR.out.h0 hn0).mono ?_
                              rintro e w4 ⟨v4, rfl, ho4, hb⟩
                              refine ⟨_, rfl, ?_⟩
                              have HYe := Aside0.mk (HYf.out.trans (hb.mono HYf.out.size))
                              have HO4 := Aside0.mk (own_weaken ho4 HYf.out.size)
                              have HOW := Aside0.mk ho4
                              have HBL := Aside0.mk hb
                              clear ho4 hb
                              refine hK.out _ _ (HS.out _ HYe.out) (fun hHeld => ?_)
                              clear hK K
                              refine norm_ (a' := ?_) ?_ ?_
                              rotate_left
                              · show Act.put _ (some 112) _ = _
                                simp only [Act.put, List.setIfInBounds_toArray, List.set_cons_zero, List.set_cons_succ, i64_w, i32_w]
                                rfl
                              exact norm_ (by simp only [putAll, Act.put, List.setIfInBounds_toArray, List.set_cons_zero, List.set_cons_succ]) (hCont (v4, .slice (some ⟨wd.heap.size, 0, none⟩) 1 1) _ ⟨HO4.out, ⟨_, rfl, (HBL.out.block _ (by simp)).trans HBX.out, fun h => by have := own_base HOW.out _ h; simp at this; omega⟩, HYe.out⟩)
                          rintro ⟨v4, v5⟩ w5 ⟨HO4, ⟨g5, e5, HG5, HN5⟩, HYg⟩
                          obtain rfl : v5 = .slice (some ⟨g5, 0, none⟩) 1 1 := e5
                          have HO4 := Aside0.mk (show w5.ownsRow ((((w.alloc (.cells #[.slice A0 l0.length c0, .slice A1 l1.length c1, .slice A2 l2.length c2, .int .i64 r] 27)).alloc (.cells #[.int .i64 x0, .int .i64 x1, .int .i64 x2, .int .i64 x3, .int .i64 x4, .string x5] 32)).alloc (.cells #[.slice none 0 0, .slice none 0 0, .slice none 0 0, .int .i64 0] 27))).heap.size 41 4 v4 l0.length (E41 l0) from HO4)
                          have HG5 := Aside0.mk HG5
                          refine norm_ (a' := ?_) ?_ ?_
                          rotate_left
                          · simp only [putAll, Act.put, List.setIfInBounds_toArray, List.set_cons_zero, List.set_cons_succ]
                            rfl
                          obtain ⟨i0, hi0, hz0, hzs, hzb⟩ := info_parts info41
                          refine one_ (i := 13) (N := some 123) #[true, true, true, true, true, true, true, true, true, true, true, true, true, true, false, false] rfl rfl (one_of HT_.out (by kernel_rfl)) (by decide) (fun K hK => ?_)
                          refine step_append_ownR rfl (.tmp 112) (.tmp 122) 24 rfl ((((w.alloc (.cells #[.slice A0 l0.length c0, .slice A1 l1.length c1, .slice A2 l2.length c2, .int .i64 r] 27)).alloc (.cells #[.int .i64 x0, .int .i64 x1, .int .i64 x2, .int .i64 x3, .int .i64 x4, .string x5] 32)).alloc (.cells #[.slice none 0 0, .slice none 0 0, .slice none 0 0, .int .i64 0] 27))).heap.size 41 i0 _ 4 32 Try.underlying24 hi0 hz0 hzs hzb rfl (by decide) v4 l0.length (E41 l0) rfl HO4.out ⟨g5, 0, none⟩ 1 1 [.int .i64 x1, .int .i64 x2, .int .i64 x3, .int .i64 x4] rfl rfl (fun j u hj => by rw [Addr.add_lit]; exact (blk_cell HG5.out (0 + j)).trans (by rw [Nat.zero_add]; simpa using hj)) (by intro u hu; simp at hu; rcases hu with rfl | rfl | rfl | rfl <;> rfl) (by unfold maxLen; omega) (by omega) HYg.size ?_
                          intro v6 w6 ho6 hgr hnil
                          have HYh := Aside0.mk (HYg.grown hgr HYg.size (fun k e => own_base HO4.out k e))
                          obtain ⟨A6, c6, rfl⟩ := own_slice ho6
                          have HO6 := Aside0.mk (show w6.ownsRow ((((w.alloc (.cells #[.slice A0 l0.length c0, .slice A1 l1.length c1, .slice A2 l2.length c2, .int .i64 r] 27)).alloc (.cells #[.int .i64 x0, .int .i64 x1, .int .i64 x2, .int .i64 x3, .int .i64 x4, .string x5] 32)).alloc (.cells #[.slice none 0 0, .slice none 0 0, .slice none 0 0, .int .i64 0] 27))).heap.size 41 4 (.slice A6 (l0.length + 1) c6) (l0.length + 1) (E41 (l0 ++ [⟨x1, x2, x3, x4⟩])) from by rw [E41_snoc]; exact ho6)
                          clear ho6 hgr hnil HO4 HG5 HN5
                          refine hK.out _ _ (HS.out _ HYh.out) (fun hHeld => ?_)
                          clear hK K
                          refine norm_ (a' := ?_) ?_ ?_
                          rotate_left
                          · show Act.put _ (some 123) _ = _
                            simp only [Act.put, List.setIfInBounds_toArray, List.set_cons_zero, List.set_cons_succ, i64_w, i32_w]
                            rfl
                          refine pure_ (i := 14) (N := some 124) (v := ?_) (a' := ?_) #[true, true, true, true, true, true, true, true, true, true, true, true, true, true, true, false] rfl rfl (any_of HT_.out (by kernel_rfl)) (fun _ _ _ h => h) (Or.inl ⟨by rfl, ?_⟩) ?_ ?_
                          rotate_left
                          · intro w'
                            go_simp
                            with_reducible rfl
                          rotate_left
                          · simp only [Act.put, List.setIfInBounds_toArray, List.set_cons_zero, List.set_cons_succ, i64_w, i32_w]
                            rfl
                          refine last_ (i := 15) (N := none) #[true, true, true, true, true, true, true, true, true, true, true, true, true, true, true, true] rfl rfl (one_of HT_.out (by kernel_rfl)) (by decide) (fun K hK => ?_)
                          have BK6 := Aside0.mk ((HYh.out.block _ (by first | (simp; done) | (simp; omega))).trans HAL.out.1)
                          have BX6 := Aside0.mk ((HYh.out.block _ (by first | (simp; done) | (simp; omega))).trans HAL.out.2.1)
                          have BZ6 := Aside0.mk ((HYh.out.block _ (by first | (simp; done) | (simp; omega))).trans HAL.out.2.2)
                          obtain ⟨⟨a0, a1, a2, a3⟩, p0, p1, p2, p3⟩ := blk4 BK6.out
                          refine skip_ (w1 := ?_) (by rfl) rfl ?_ ?_
                          rotate_left
                          · go_simp
                            rfl
                          refine hK.out _ _ ?_
                          clear hK K a0 a1 a2 a3 p0 p1 p2 p3 hHeld
                          refine done_ (done_of HT_.out (by kernel_rfl)) ?_
                          clear HT_ HW_
                          have BK7 := Aside0.mk (blk_put BK6.out 0 (.slice A6 (l0.length + 1) c6) rfl)
                          have BX7 := Aside0.mk (blk_far (p := ⟨w.heap.size, 0, none⟩) BX6.out (by simp) (.slice A6 (l0.length + 1) c6))
                          have BZ7 := Aside0.mk (blk_far (p := ⟨w.heap.size, 0, none⟩) BZ6.out (by simp; omega) (.slice A6 (l0.length + 1) c6))
                          have HB7 := Aside0.mk ((HB0.out.trans (HYh.out.mono (by first | (simp; done) | (simp; omega)))).setCell (p := ⟨w.heap.size, 0, none⟩) (Nat.le_refl _) (.slice A6 (l0.length + 1) c6))
                          have HO7 := Aside0.mk (own_move HO6.out (fun k hk => Below.heap_setCell w6 ⟨w.heap.size, 0, none⟩ (.slice A6 (l0.length + 1) c6) k (by have := own_base HO6.out k hk; simp at this; simp; omega)))
                          have HZ7 : Aside0 (w.heap.size + 1 + 1 < (w6.setCell ⟨w.heap.size, 0, none⟩ (.slice A6 (l0.length + 1) c6)).heap.size) := ⟨blk_lt BZ7.out⟩
                          clear HYh HO6 BK6 BX6 BZ6 HYg HS
                          generalize w6.setCell ⟨w.heap.size, 0, none⟩ (.slice A6 (l0.length + 1) c6) = w7 at BK7 BX7 BZ7 HB7 HO7 HZ7 ⊢
                          have HV : Aside0 (commitS ⟨l0, l1, l2, r⟩ x1 x2 x3 x4 x5 = (⟨l0 ++ [⟨x1, x2, x3, x4⟩], putS l1 x5 x1, l2, r⟩, 0)) := ⟨by unfold commitS; simp only [HL.out, HC.out, HN.out, HU.out, HG.out, HT.out, Bool.false_eq_true, if_false]⟩
                          have HL6 : Aside0 ((l0 ++ [(⟨x1, x2, x3, x4⟩ : S41)]).length = l0.length + 1) := ⟨by simp⟩
                          cases fb with
                          | true =>
                            have hp : posS l1 x5 < l1.length := by have h_ := HF.out; unfold hasS at h_; simp at h_; exact h_.1
                            have HP : Aside0 (putS l1 x5 x1 = l1.set (posS l1 x5) ⟨x5, x1⟩) := ⟨by unfold putS; rw [HF.out]; rfl⟩
                            have HE : Aside0 ((rd_T86 l1 (posS l1 x5)).f0 = x5) := ⟨by have h_ := HF.out; unfold hasS at h_; simp at h_; exact (cmpS_zero _ _).1 h_.2⟩
                            obtain ⟨⟨a0, a1, a2, a3⟩, p0, p1, p2, p3⟩ := blk4 BK7.out; obtain ⟨b0, b1, b2, b3, b4, b5⟩ := blk6 BX7.out
                            go_wp2_with (go_at_call 59; refine (f59_calls A1 c1 l1 _ (Kd.C_below HR.out.r1 HB7.out) HR.out.h1 hn1).mono ?_; clear a0 a1 a2 a3 p0 p1 p2 p3 b0 b1 b2 b3 b4 b5; rintro e w8 ⟨v8, rfl, ho8, hb⟩; have BK8 := Aside0.mk (blk_below BK7.out hb); have BX8 := Aside0.mk (blk_below BX7.out hb); have BZ8 := Aside0.mk (blk_below BZ7.out hb); have HB8 := Aside0.mk (HB7.out.trans (hb.mono HB7.out.size)); have HO8 := Aside0.mk (own_move HO7.out (fun k hk => hb.block k (own_lt HO7.out k hk))); have HS8 := Aside0.mk hb.size; obtain ⟨g8, c8, cur8, rfl, hb8, hg8, hnc8, hcm8, hcs8, hct8⟩ := own_some ho8 (by omega); have hne1 : ¬ (g8 = w.heap.size) := (by have := HZ7.out; omega); have hne2 : ¬ (w.heap.size = g8) := (by have := HZ7.out; omega); have hne3 : ¬ (g8 = w.heap.size + 1) := (by have := HZ7.out; omega); have hne4 : ¬ (w.heap.size + 1 = g8) := (by have := HZ7.out; omega); have hne5 : ¬ (g8 = w.heap.size + 1 + 1) := (by have := HZ7.out; omega); have hne6 : ¬ (w.heap.size + 1 + 1 = g8) := (by have := HZ7.out; omega); have hx8 : w8.cell? ⟨g8, posS l1 x5 * 2 + 1, none⟩ = some (cur8[posS l1 x5 * 2 + 1]'(by omega)) := (blk_cell hg8 _).trans (Array.getElem?_eq_getElem (by omega)); have hf8 : w8.frozen? ⟨g8, posS l1 x5 * 2 + 1, none⟩ = false := blk_frozen hg8 _; have HG8 := Aside0.mk hg8; have HT8 := Aside0.mk hct8; obtain ⟨⟨a0, a1, a2, a3⟩, p0, p1, p2, p3⟩ := blk4 BK8.out; obtain ⟨b0, b1, b2, b3, b4, b5⟩ := blk6 BX8.out; obtain ⟨⟨u0, u1, u2, u3⟩, q0, q1, q2, q3⟩ := blk4 BZ8.out; clear hg8 hct8 ho8 hb)
                            have hk6 : ∀ k, (Value.slice A6 (l0.length + 1) c6).ownBlock = some k → w.heap.size + 1 + 1 < k ∧ k < g8 := fun k hk => by
                              have h1 := own_base HO8.out k hk
                              have h2 := own_lt HO7.out k hk
                              simp at h1
                              omega
                            have hB := (((((HB8.out.setCell (p := ⟨w.heap.size, 1, none⟩) (Nat.le_refl _) (.slice (some ⟨g8, 0, none⟩) l1.length c8)).setCell (p := ⟨g8, posS l1 x5 * 2 + 1, none⟩) (by have := HZ7.out; simp; omega) (.int .i64 x1)).setCell (p := ⟨w.heap.size + 1 + 1, 0, none⟩) (by first | (simp; done) | (simp; omega)) (.slice A6 (l0.length + 1) c6)).setCell (p := ⟨w.heap.size + 1 + 1, 1, none⟩) (by first | (simp; done) | (simp; omega)) (.slice (some ⟨g8, 0, none⟩) l1.length c8)).setCell (p := ⟨w.heap.size + 1 + 1, 2, none⟩) (by first | (simp; done) | (simp; omega)) (.slice A2 l2.length c2)).setCell (p := ⟨w.heap.size + 1 + 1, 3, none⟩) (by first | (simp; done) | (simp; omega)) (.int .i64 r)
                            refine bodyPost_ret (v := .tuple #[.agg #[.slice A6 (l0.length + 1) c6, .slice (some ⟨g8, 0, none⟩) l1.length c8, .slice A2 l2.length c2, .int .i64 r], .int .i64 0]) (by simp [results, Try.results34, go_sem, u0, u1, u2, u3, hne1, hne2, hne5, hne6]) rfl ?_
                            rw [HV.out]
                            refine ⟨_, _, _, rfl, ⟨?_, ?_, Kd.V_mk HR.out.h2 (Kd.F_mono (Kd.F_below HX.out.f2 hB) (fun k hk => .inl hk))⟩, hB⟩
                            · refine Vof (R41_of (base := ((((w.alloc (.cells #[.slice A0 l0.length c0, .slice A1 l1.length c1, .slice A2 l2.length c2, .int .i64 r] 27)).alloc (.cells #[.int .i64 x0, .int .i64 x1, .int .i64 x2, .int .i64 x3, .int .i64 x4, .string x5] 32)).alloc (.cells #[.slice none 0 0, .slice none 0 0, .slice none 0 0, .int .i64 0] 27))).heap.size) ?_) (fun k hk => .inr (by simp at hk; omega))
                              rw [HL6.out]
                              refine own_far (own_far (own_far (own_far (own_far (own_far HO8.out ?_ _) ?_ _) ?_ _) ?_ _) ?_ _) ?_ _ <;> (intro k hk; have := hk6 k hk; simp; omega)
                            · have hg9 := blk_set (blk_far (p := ⟨w.heap.size, 1, none⟩) HG8.out hne1 (.slice (some ⟨g8, 0, none⟩) l1.length c8)) (posS l1 x5 * 2 + 1) (.int .i64 x1)
                              have ho9 : ((w8.setCell ⟨w.heap.size, 1, none⟩ (.slice (some ⟨g8, 0, none⟩) l1.length c8)).setCell ⟨g8, posS l1 x5 * 2 + 1, none⟩ (.int .i64 x1)).ownsRow w.heap.size 86 2 (.slice (some ⟨g8, 0, none⟩) l1.length c8) (l1.set (posS l1 x5) ⟨x5, x1⟩).length (E86 (l1.set (posS l1 x5) ⟨x5, x1⟩)) :=
                                ⟨E86_len _, .inr ⟨g8, c8, _, by rw [List.length_set], by have := HZ7.out; omega, hg9, by rw [List.length_set]; exact hnc8, hcm8, by simp [hcs8], set_take x1 HT8.out hp HE.out⟩⟩
                              rw [HP.out]
                              refine Vof (R86_of ?_) (fun k hk => .inr hk)
                              refine own_far (own_far (own_far (own_far ho9 ?_ _) ?_ _) ?_ _) ?_ _ <;> (intro k hk; simp [Value.ownBlock] at hk; simp; omega)
                          | false =>
                            have HP : Aside0 (putS l1 x5 x1 = insS l1 x5 x1) := ⟨by unfold putS; rw [HF.out]; rfl⟩
                            have hpl := posS_le l1 x5
                            obtain ⟨⟨a0, a1, a2, a3⟩, p0, p1, p2, p3⟩ := blk4 BK7.out; obtain ⟨b0, b1, b2, b3, b4, b5⟩ := blk6 BX7.out
                            go_wp2_with (first
                              | (go_at_call 59; refine (f59_calls A1 c1 l1 _ (Kd.C_below HR.out.r1 HB7.out) HR.out.h1 hn1).mono ?_; clear a0 a1 a2 a3 p0 p1 p2 p3 b0 b1 b2 b3 b4 b5; rintro e w8 ⟨v8, rfl, ho8, hb⟩; have BK8 := Aside0.mk (blk_below BK7.out hb); have BX8 := Aside0.mk (blk_below BX7.out hb); have BZ8 := Aside0.mk (blk_below BZ7.out hb); have HB8 := Aside0.mk (HB7.out.trans (hb.mono HB7.out.size)); have HO8 := Aside0.mk (own_move HO7.out (fun k hk => hb.block k (own_lt HO7.out k hk))); have HS8 := Aside0.mk hb.size; obtain ⟨A8, c8, rfl⟩ := own_slice ho8; have HQ8 := Aside0.mk ho8; obtain ⟨⟨a0, a1, a2, a3⟩, p0, p1, p2, p3⟩ := blk4 BK8.out; obtain ⟨b0, b1, b2, b3, b4, b5⟩ := blk6 BX8.out; clear ho8 hb)
                              | (go_at_call 60; (with_reducible refine (f60_calls w7.heap.size A8 c8 (posS l1 x5) l1 ⟨x5, x1⟩ w8.heap.size ((w8.setCell ⟨w.heap.size, 1, none⟩ (.slice A8 l1.length c8)).alloc (.cells #[.string x5, .int .i64 x1] 86)) ?s1 ?s2 hpl hn1 ?s3 ?s4).mono ?_); (case s1 => exact (own_far (p := ⟨w.heap.size, 1, none⟩) HQ8.out (fun k hk => by have := own_base HQ8.out k hk; have := HZ7.out; simp; omega) _).alloc _); (case s2 => (have := HS8.out; simp; omega)); (case s3 => (rw [show w8.heap.size = (w8.setCell ⟨w.heap.size, 1, none⟩ (.slice A8 l1.length c8)).heap.size from by simp]; exact heap_alloc_new _ _)); (case s4 => exact fun ad e => by have := own_lt HQ8.out ad.block (by rw [e]; rfl); omega); clear a0 a1 a2 a3 p0 p1 p2 p3 b0 b1 b2 b3 b4 b5; rintro e w10 ⟨v10, rfl, ho10, hb10⟩; have BK10 := Aside0.mk ((hb10.block _ (by have := HZ7.out; omega)).trans (blk_alloc (blk_put BK8.out 1 (.slice A8 l1.length c8) rfl) (.cells #[.string x5, .int .i64 x1] 86))); have BX10 := Aside0.mk ((hb10.block _ (by have := HZ7.out; omega)).trans (blk_alloc (blk_far (p := ⟨w.heap.size, 1, none⟩) BX8.out (by simp) (.slice A8 l1.length c8)) (.cells #[.string x5, .int .i64 x1] 86))); have BZ10 := Aside0.mk ((hb10.block _ HZ7.out).trans (blk_alloc (blk_far (p := ⟨w.heap.size, 1, none⟩) BZ8.out (by simp; omega) (.slice A8 l1.length c8)) (.cells #[.string x5, .int .i64 x1] 86))); have HO10 := Aside0.mk (own_move ((own_far (p := ⟨w.heap.size, 1, none⟩) HO8.out (fun k hk => by have := own_base HO8.out k hk; simp at this; simp; omega) (.slice A8 l1.length c8)).alloc (.cells #[.string x5, .int .i64 x1] 86)) (fun k hk => hb10.block k (own_lt HO7.out k hk))); have HB10 := Aside0.mk (((HB8.out.setCell (p := ⟨w.heap.size, 1, none⟩) (Nat.le_refl _) (.slice A8 l1.length c8)).alloc (by have := HB8.out.size; simp; omega) (.cells #[.string x5, .int .i64 x1] 86)).trans (hb10.mono HB7.out.size)); have HQ10 := Aside0.mk ho10; obtain ⟨A10, c10, rfl⟩ := own_slice ho10; obtain ⟨⟨a0, a1, a2, a3⟩, p0, p1, p2, p3⟩ := blk4 BK10.out; obtain ⟨b0, b1, b2, b3, b4, b5⟩ := blk6 BX10.out; obtain ⟨⟨u0, u1, u2, u3⟩, q0, q1, q2, q3⟩ := blk4 BZ10.out; clear ho10 hb10))
                            have hk6 : ∀ k, (Value.slice A6 (l0.length + 1) c6).ownBlock = some k → w.heap.size + 1 + 1 < k := fun k hk => by
                              have h1 := own_base HO8.out k hk
                              simp at h1
                              omega
                            have hk10 : ∀ k, (Value.slice A10 (l1.length + 1) c10).ownBlock = some k → w.heap.size + 1 + 1 < k := fun k hk => by
                              have h1 := own_base HQ10.out k hk
                              have := HZ7.out
                              omega
                            have hil : (insS l1 x5 x1).length = l1.length + 1 := by unfold insS; simp; omega
                            have HQ11 : w10.ownsRow w7.heap.size 86 2 (.slice A10 (l1.length + 1) c10) (l1.length + 1) (E86 (insS l1 x5 x1)) := HQ10.out
                            have ne1 : ∀ k, (Value.slice A6 (l0.length + 1) c6).ownBlock = some k → k ≠ w.heap.size := fun k hk => by have := hk6 k hk; omega
                            have ne2 : ∀ k, (Value.slice A6 (l0.length + 1) c6).ownBlock = some k → k ≠ w.heap.size + 1 + 1 := fun k hk => by have := hk6 k hk; omega
                            have ne3 : ∀ k, (Value.slice A10 (l1.length + 1) c10).ownBlock = some k → k ≠ w.heap.size := fun k hk => by have := hk10 k hk; omega
                            have ne4 : ∀ k, (Value.slice A10 (l1.length + 1) c10).ownBlock = some k → k ≠ w.heap.size + 1 + 1 := fun k hk => by have := hk10 k hk; omega
                            have z6 := own_far (p := ⟨w.heap.size + 1 + 1, 3, none⟩) (own_far (p := ⟨w.heap.size + 1 + 1, 2, none⟩) (own_far (p := ⟨w.heap.size + 1 + 1, 1, none⟩) (own_far (p := ⟨w.heap.size + 1 + 1, 0, none⟩) (own_far (p := ⟨w.heap.size, 1, none⟩) HO10.out ne1 (.slice A10 (l1.length + 1) c10)) ne2 (.slice A6 (l0.length + 1) c6)) ne2 (.slice A10 (l1.length + 1) c10)) ne2 (.slice A2 l2.length c2)) ne2 (.int .i64 r)
                            have z10 := own_far (p := ⟨w.heap.size + 1 + 1, 3, none⟩) (own_far (p := ⟨w.heap.size + 1 + 1, 2, none⟩) (own_far (p := ⟨w.heap.size + 1 + 1, 1, none⟩) (own_far (p := ⟨w.heap.size + 1 + 1, 0, none⟩) (own_far (p := ⟨w.heap.size, 1, none⟩) HQ11 ne3 (.slice A10 (l1.length + 1) c10)) ne4 (.slice A6 (l0.length + 1) c6)) ne4 (.slice A10 (l1.length + 1) c10)) ne4 (.slice A2 l2.length c2)) ne4 (.int .i64 r)
                            have hB := ((((HB10.out.setCell (p := ⟨w.heap.size, 1, none⟩) (Nat.le_refl _) (.slice A10 (l1.length + 1) c10)).setCell (p := ⟨w.heap.size + 1 + 1, 0, none⟩) (by first | (simp; done) | (simp; omega)) (.slice A6 (l0.length + 1) c6)).setCell (p := ⟨w.heap.size + 1 + 1, 1, none⟩) (by first | (simp; done) | (simp; omega)) (.slice A10 (l1.length + 1) c10)).setCell (p := ⟨w.heap.size + 1 + 1, 2, none⟩) (by first | (simp; done) | (simp; omega)) (.slice A2 l2.length c2)).setCell (p := ⟨w.heap.size + 1 + 1, 3, none⟩) (by first | (simp; done) | (simp; omega)) (.int .i64 r)
                            refine bodyPost_ret (v := .tuple #[.agg #[.slice A6 (l0.length + 1) c6, .slice A10 (l1.length + 1) c10, .slice A2 l2.length c2, .int .i64 r], .int .i64 0]) (by simp [results, Try.results34, go_sem, u0, u1, u2, u3]) rfl ?_
                            rw [HV.out]
                            refine ⟨_, _, _, rfl, ⟨?_, ?_, Kd.V_mk HR.out.h2 (Kd.F_mono (Kd.F_below HX.out.f2 hB) (fun k hk => .inl hk))⟩, hB⟩
                            · refine Vof (R41_of (base := ((((w.alloc (.cells #[.slice A0 l0.length c0, .slice A1 l1.length c1, .slice A2 l2.length c2, .int .i64 r] 27)).alloc (.cells #[.int .i64 x0, .int .i64 x1, .int .i64 x2, .int .i64 x3, .int .i64 x4, .string x5] 32)).alloc (.cells #[.slice none 0 0, .slice none 0 0, .slice none 0 0, .int .i64 0] 27))).heap.size) ?_) (fun k hk => .inr (by simp at hk; omega))
                              rw [HL6.out]
                              exact z6
                            · rw [HP.out]
                              refine Vof (R86_of (base := w7.heap.size) ?_) (fun k hk => .inr (by have := HZ7.out; omega))
                              rw [hil]
                              exact z10
end Go.Proofs.Ytjeoabjccbinhaa.P
