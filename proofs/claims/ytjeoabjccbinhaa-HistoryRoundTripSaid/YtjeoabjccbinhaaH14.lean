/- The reference's expire. Conditions: the hypotheses that stand at each theorem. -/
import Derived.Test.YtjeoabjccbinhaaH13
namespace Go.Proofs.Ytjeoabjccbinhaa.P
open Go.RowKit Go.Proofs.YtjeoabjccbinhaaW.PrintWords Go.Proofs.YtjeoabjccbinhaaW.PrintLast Go.Proofs.YtjeoabjccbinhaaW.PrintMore
set_option linter.unusedVariables false
set_option linter.unusedSimpArgs false
/-- The commits without an ID, in parts. -/
theorem filter_I {l : List S41} (ho : okI l) (s : Int) (hh : hasI l s = true) : l.filter (fun r => r.f0 != s) = dropI l s := by
  obtain ⟨a, b, hl, hp, ha, h⟩ := splitI ho s
  have hna : a.filter (fun r => r.f0 != s) = a := by
    rw [List.filter_eq_self]; intro x hx; have := ha x hx; simp; omega
  rcases h with ⟨_, v, r, rfl, hv0, hv, hr⟩ | ⟨h0, hv, hb⟩
  · have hnr : r.filter (fun r => r.f0 != s) = r := by
      rw [List.filter_eq_self]; intro x hx; have := hr x hx; simp; omega
    rw [dropI_split hl hp, hl, List.filter_append, hna, List.filter_cons_of_neg (by simp [hv0]), hnr]
  · rw [hh] at h0; cases h0
set_option maxHeartbeats 8000000 in
set_option maxRecDepth 100000 in
theorem f43_calls (A0 : Option Addr) (c0 : Nat) (l0 : List S41) (A1 : Option Addr) (c1 : Nat) (l1 : List S86) (A2 : Option Addr) (c2 : Nat) (l2 : List S86) (r : Int) (id : Int) (w : World) (hr : HV w A0 c0 l0 A1 c1 l1 A2 c2 l2) (ho : OkH l0 l1 l2) (ok : Nat → Prop) (hx : HF w ok A0 l0 A1 l1 A2 l2) :
    Calls Try.prog 43 #[.agg #[.slice A0 l0.length c0, .slice A1 l1.length c1, .slice A2 l2.length c2, .int .i64 r], .int .i64 id] w fun e w' => ∃ v0 v1 v2, e = .returned (.tuple #[.agg #[v0, v1, v2, .int .i64 (expireS ⟨l0, l1, l2, r⟩ id).1.f3], .int .i64 (expireS ⟨l0, l1, l2, r⟩ id).2]) ∧ HW w' (fun k => ok k ∨ w.heap.size ≤ k) v0 v1 v2 (expireS ⟨l0, l1, l2, r⟩ id).1 ∧ Below w.heap.size w w' := by
  have hb0 : Below w.heap.size w ((w.alloc (.cells #[.slice A0 l0.length c0, .slice A1 l1.length c1, .slice A2 l2.length c2, .int .i64 r] 27)).alloc (.cells #[.slice none 0 0, .slice none 0 0, .slice none 0 0, .int .i64 0] 27)) := ((Below.refl w.heap.size w).alloc (Nat.le_refl _) (.cells #[.slice A0 l0.length c0, .slice A1 l1.length c1, .slice A2 l2.length c2, .int .i64 r] 27)).alloc (by simp) (.cells #[.slice none 0 0, .slice none 0 0, .slice none 0 0, .int .i64 0] 27)
  have HB0 := Aside0.mk hb0
  have HR := Aside0.mk hr
  have HO := Aside0.mk ho
  have HX : Aside0 (HF w (fun k => ok k ∧ k < w.heap.size) A0 l0 A1 l1 A2 l2) := ⟨⟨Kd.F_bound hx.f0, Kd.F_bound hx.f1, Kd.F_bound hx.f2⟩⟩
  have hn0 := ho.n0
  have hn1 := ho.n1
  have hn2 := ho.n2
  have hal := alloc2 w (.cells #[.slice A0 l0.length c0, .slice A1 l1.length c1, .slice A2 l2.length c2, .int .i64 r] 27) (.cells #[.slice none 0 0, .slice none 0 0, .slice none 0 0, .int .i64 0] 27)
  have HAL := Aside0.mk hal
  have H52 := Aside0.mk (f52_calls A0 c0 l0 A1 c1 l1 A2 c2 l2 r id ((w.alloc (.cells #[.slice A0 l0.length c0, .slice A1 l1.length c1, .slice A2 l2.length c2, .int .i64 r] 27)).alloc (.cells #[.slice none 0 0, .slice none 0 0, .slice none 0 0, .int .i64 0] 27)) (hr.below hb0) ho.o0 ho.n0)
  clear hr hb0 ho hal hx
  cases hh : hasI l0 id with
  | false =>
    rw [hh] at H52
    have HV : Aside0 (expireS ⟨l0, l1, l2, r⟩ id = (eS27, 15)) := ⟨by unfold expireS; simp [hh]⟩
    clear hh
    go_enter Try.func43, Try.ntmps43
    go_wp2_with (go_at_call 52; refine H52.out.mono ?_; rintro e w1 ⟨rfl, hb⟩; have HY := Aside0.mk hb; have hz1 := hb.size; simp only [World.size_alloc] at hz1; have HB1 := Aside0.mk (HB0.out.trans (hb.mono (by first | (simp; done) | (simp; omega)))); obtain ⟨⟨a0, a1, a2, a3⟩, p0, p1, p2, p3⟩ := blk4 ((HY.out.block _ (by first | (simp; done) | (simp; omega))).trans HAL.out.1); obtain ⟨⟨u0, u1, u2, u3⟩, q0, q1, q2, q3⟩ := blk4 ((HY.out.block _ (by first | (simp; done) | (simp; omega))).trans HAL.out.2); clear hb)
    refine bodyPost_ret (v := .tuple #[.agg #[.slice none 0 0, .slice none 0 0, .slice none 0 0, .int .i64 0], .int .i64 15]) (by simp [results, Try.results43, go_sem, u0, u1, u2, u3]) rfl ?_
    rw [HV.out]
    exact ⟨_, _, _, rfl, HW.nil _ _, (by repeat (first | (with_reducible exact HB1.out) | ((with_reducible refine Below.setCell ?_ ?_ _); rotate_left; (first | exact Nat.le_refl _ | (simp; done) | (simp; omega) | (show _ ≤ _ + 1; omega)))))⟩
  | true =>
    rw [hh] at H52
    have HH := Aside0.mk hh
    clear hh
    go_enter Try.func43, Try.ntmps43
    go_wp2_with (go_at_call 52; refine H52.out.mono ?_; rintro e w1 ⟨rfl, hb⟩; have HY := Aside0.mk hb; have hz1 := hb.size; simp only [World.size_alloc] at hz1; have HB1 := Aside0.mk (HB0.out.trans (hb.mono (by first | (simp; done) | (simp; omega)))); obtain ⟨⟨a0, a1, a2, a3⟩, p0, p1, p2, p3⟩ := blk4 ((HY.out.block _ (by first | (simp; done) | (simp; omega))).trans HAL.out.1); obtain ⟨⟨u0, u1, u2, u3⟩, q0, q1, q2, q3⟩ := blk4 ((HY.out.block _ (by first | (simp; done) | (simp; omega))).trans HAL.out.2); clear hb)
    go_loopg [6] (l1.length + l2.length) (fun kq v6 w' => ∃ i : Nat, w1 = w' ∧ v6 = .int .i64 i ∧ i ≤ l1.length + l2.length ∧ Aside0 (kq + i = l1.length + l2.length) ∧ Aside0 (∀ r_ ∈ (l1 ++ l2).take i, (r_.f1 == id) = false))
    case atStart => exact ⟨0, rfl, rfl, Nat.zero_le _, ⟨by omega⟩, ⟨by simp⟩⟩
    case round =>
      obtain ⟨i, rfl, rfl, hi, HK, HQ⟩ := hrel
      by_cases hl : i < l1.length + l2.length
      · cases gk with
        | zero => exact absurd HK.out (by omega)
        | succ k1 =>
          by_cases hl1 : i < l1.length
          · obtain ⟨ad, rfl, hx0, hx1⟩ := at_T86 HR.out.r1 (i : Int) (by omega) (by omega)
            rw [Int.toNat_natCast] at hx0 hx1
            replace hx1 := (HB1.out.cell (World.block_lt_of_cell? w _ hx1)).trans hx1
            have hd1 : decide ((i : Int) < l1.length) = true := decide_eq_true (by omega)
            have hd2 : decide ((l1.length : Int) ≤ i) = false := decide_eq_false (by omega)
            have HGE : Aside0 ((l1 ++ l2)[i]'(by simp; omega) = rd_T86 l1 i) := ⟨by rw [rd86_get l1 i hl1, List.getElem_append_left hl1]⟩
            have HME : Aside0 (rd_T86 l1 i ∈ l1) := ⟨by rw [rd86_get l1 i hl1]; exact List.getElem_mem hl1⟩
            clear hx0
            cases he : (rd_T86 l1 i).f1 == id with
            | true =>
              clear HQ
              have HV : Aside0 (expireS ⟨l0, l1, l2, r⟩ id = (eS27, 13)) := ⟨by
                have h_ : l1.any (fun r => r.f1 == id) = true := List.any_eq_true.2 ⟨_, HME.out, he⟩
                unfold expireS; simp [HH.out, h_]⟩
              have he3 := he
              go_wp2
              refine bodyPost_ret (v := .tuple #[.agg #[.slice none 0 0, .slice none 0 0, .slice none 0 0, .int .i64 0], .int .i64 13]) (by simp [results, Try.results43, go_sem, u0, u1, u2, u3]) rfl ?_
              rw [HV.out]
              exact ⟨_, _, _, rfl, HW.nil _ _, (by repeat (first | (with_reducible exact HB1.out) | ((with_reducible refine Below.setCell ?_ ?_ _); rotate_left; (first | exact Nat.le_refl _ | (simp; done) | (simp; omega) | (show _ ≤ _ + 1; omega)))))⟩
            | false =>
              have HE := Aside0.mk he
              go_wp2
              go_roundg k1
              case measure => omega
              case rel => exact ⟨i + 1, rfl, int_eq (by omega), by omega, ⟨by have := HK.out; omega⟩, ⟨fun r_ hr_ => by
                rw [List.take_succ_eq_append_getElem (by simp; omega)] at hr_
                rcases List.mem_append.1 hr_ with h | h
                · exact HQ.out r_ h
                · rw [List.mem_singleton] at h
                  subst h
                  rw [HGE.out]
                  exact HE.out⟩⟩
          · obtain ⟨ad, rfl, hx0, hx1⟩ := at_T86 HR.out.r2 ((i : Int) - l1.length) (by omega) (by omega)
            rw [show ((i : Int) - l1.length).toNat = i - l1.length from by omega] at hx1
            replace hx1 := (HB1.out.cell (World.block_lt_of_cell? w _ hx1)).trans hx1
            have hd1 : decide ((i : Int) < l1.length) = false := decide_eq_false (by omega)
            have hd2 : decide ((l1.length : Int) ≤ i) = true := decide_eq_true (by omega)
            have hi2 : i - l1.length < l2.length := by omega
            have hrd : rd_T86 l2 ((i : Int) - l1.length) = l2[i - l1.length] := by
              have := rd86_get l2 (i - l1.length) hi2
              rwa [show ((i - l1.length : Nat) : Int) = (i : Int) - l1.length from by omega] at this
            have HGE : Aside0 ((l1 ++ l2)[i]'(by simp; omega) = rd_T86 l2 ((i : Int) - l1.length)) := ⟨by rw [hrd, List.getElem_append_right (by omega)]⟩
            have HME : Aside0 (rd_T86 l2 ((i : Int) - l1.length) ∈ l2) := ⟨by rw [hrd]; exact List.getElem_mem hi2⟩
            have hx2 : 0 ≤ (i : Int) - l1.length := by omega
            have hx3 : (i : Int) - l1.length < l2.length := by omega
            clear hx0 hrd hi2
            cases he : (rd_T86 l2 ((i : Int) - l1.length)).f1 == id with
            | true =>
              clear HQ
              have HV : Aside0 (expireS ⟨l0, l1, l2, r⟩ id = (eS27, 13)) := ⟨by
                have h_ : l2.any (fun r => r.f1 == id) = true := List.any_eq_true.2 ⟨_, HME.out, he⟩
                unfold expireS; simp [HH.out, h_]⟩
              have he3 := he
              go_wp2
              refine bodyPost_ret (v := .tuple #[.agg #[.slice none 0 0, .slice none 0 0, .slice none 0 0, .int .i64 0], .int .i64 13]) (by simp [results, Try.results43, go_sem, u0, u1, u2, u3]) rfl ?_
              rw [HV.out]
              exact ⟨_, _, _, rfl, HW.nil _ _, (by repeat (first | (with_reducible exact HB1.out) | ((with_reducible refine Below.setCell ?_ ?_ _); rotate_left; (first | exact Nat.le_refl _ | (simp; done) | (simp; omega) | (show _ ≤ _ + 1; omega)))))⟩
            | false =>
              have HE := Aside0.mk he
              go_wp2
              go_roundg k1
              case measure => omega
              case rel => exact ⟨i + 1, rfl, int_eq (by omega), by omega, ⟨by have := HK.out; omega⟩, ⟨fun r_ hr_ => by
                rw [List.take_succ_eq_append_getElem (by simp; omega)] at hr_
                rcases List.mem_append.1 hr_ with h | h
                · exact HQ.out r_ h
                · rw [List.mem_singleton] at h
                  subst h
                  rw [HGE.out]
                  exact HE.out⟩⟩
      · obtain rfl : i = l1.length + l2.length := by omega
        have HNO : Aside0 ((l1 ++ l2).any (fun r => r.f1 == id) = false) := ⟨by
          rw [List.any_eq_false]; intro r_ hr_; rw [HQ.out r_ (by rw [List.take_of_length_le (by simp)]; exact hr_)]; decide⟩
        have HV : Aside0 (expireS ⟨l0, l1, l2, r⟩ id = (⟨dropI l0 id, l1, l2, r⟩, 0)) := ⟨by
          have h_ := HNO.out
          rw [List.any_append, Bool.or_eq_false_iff] at h_
          unfold expireS; simp [HH.out, h_.1, h_.2]⟩
        go_wp2
        go_loopg [7, 8] l0.length (fun kq v7 v8 w' => ∃ i : Nat, v8 = .int .i64 i ∧ i ≤ l0.length ∧ Aside0 (kq + i = l0.length) ∧ Aside0 (Kd.R k41 41 w' w1.heap.size (fun _ => True) v7 ((l0.take i).filter (fun r => r.f0 != id))) ∧ Aside0 (Below w1.heap.size w1 w'))
        case atStart => exact ⟨0, rfl, Nat.zero_le _, ⟨by omega⟩, ⟨Kd.R_nil _ _ _ _ _⟩, ⟨Below.refl _ _⟩⟩
        case round =>
          clear a0 a1 a2 a3 p0 p1 p2 p3 u0 u1 u2 u3 q0 q1 q2 q3
          obtain ⟨i, rfl, hi, HK, HOx, HBx⟩ := hrel
          have HYx := Aside0.mk (HY.out.trans (HBx.out.mono HY.out.size))
          have HBw := Aside0.mk (HB0.out.trans (HYx.out.mono (by first | (simp; done) | (simp; omega))))
          have hzx := HYx.out.size
          simp only [World.size_alloc] at hzx
          obtain ⟨⟨a0, a1, a2, a3⟩, p0, p1, p2, p3⟩ := blk4 ((HYx.out.block _ (by first | (simp; done) | (simp; omega))).trans HAL.out.1); obtain ⟨⟨u0, u1, u2, u3⟩, q0, q1, q2, q3⟩ := blk4 ((HYx.out.block _ (by first | (simp; done) | (simp; omega))).trans HAL.out.2)
          by_cases hl : i < l0.length
          · cases gk with
            | zero => exact absurd HK.out (by omega)
            | succ k1 =>
              obtain ⟨ad, rfl, hx0, hx1, hx2, hx3⟩ := at_T41 HR.out.r0 (i : Int) (by omega) (by omega)
              rw [Int.toNat_natCast] at hx0 hx1 hx2 hx3
              replace hx0 := (HBw.out.cell (World.block_lt_of_cell? w _ hx0)).trans hx0
              replace hx1 := (HBw.out.cell (World.block_lt_of_cell? w _ hx1)).trans hx1
              replace hx2 := (HBw.out.cell (World.block_lt_of_cell? w _ hx2)).trans hx2
              replace hx3 := (HBw.out.cell (World.block_lt_of_cell? w _ hx3)).trans hx3
              have HTK := Aside0.mk (take_succ41 l0 i hl)
              by_cases he : (rd_T41 l0 i).f0 = id
              · have he1 : ((rd_T41 l0 i).f0 != id) = false := by simp [he]
                have he2 : ((rd_T41 l0 i).f0 == id) = true := by simp [he]
                have HE := Aside0.mk he
                clear he
                go_wp2
                go_roundg k1
                case measure => omega
                case rel => exact ⟨i + 1, int_eq (by omega), by omega, ⟨by have := HK.out; omega⟩, ⟨by rw [HTK.out, List.filter_append, List.filter_cons_of_neg (by simp [HE.out]), List.filter_nil, List.append_nil]; exact HOx.out⟩, HBx⟩
              · have he1 : ((rd_T41 l0 i).f0 != id) = true := by simp [he]
                have he2 : ((rd_T41 l0 i).f0 == id) = false := by simp [he]
                have HE := Aside0.mk he
                clear he
                go_wp2_with ((with_reducible refine gate_builtin (b := .append) (xs := #[.tmp 77, .tmp 83]) rfl ?_); at_builtin; refine Kd.R_append k41 (w0 := w1) w1.heap.size rfl (.tmp 77) (.tmp 83) 24 41 (.agg #[(.int .i64 0), (.int .i64 0), (.int .i64 0), (.int .i64 0)]) 32 rfl Try.underlying24 info41 rfl (by decide) (by omega) u7 ((l0.take i).filter (fun r => r.f0 != id)) (⟨(rd_T41 l0 i).f0, (rd_T41 l0 i).f1, (rd_T41 l0 i).f2, (rd_T41 l0 i).f3⟩ : S41) [.int .i64 (rd_T41 l0 i).f0, .int .i64 (rd_T41 l0 i).f1, .int .i64 (rd_T41 l0 i).f2, .int .i64 (rd_T41 l0 i).f3] (fun _ => True) (fun _ => False) rfl rfl ?aP (fun _ hk => hk.elim) ?aF ?aO ?aB ?aS ?aL ?_; (case aP => exact k41_mkM _ _ _ (⟨(rd_T41 l0 i).f0, (rd_T41 l0 i).f1, (rd_T41 l0 i).f2, (rd_T41 l0 i).f3⟩ : S41)); (case aB => exact (by repeat (first | (with_reducible first | exact HBx.out | apply below_alloc | apply pw_below_drewN | apply below_drew1) | exact HBx.out))); (case aF => exact (fun _ _ => trivial)); (case aO => exact (by (with_reducible repeat (first | apply Kd.R_alloc | apply Kd.R_drewN | apply Kd.R_drew)); exact HOx.out)); (case aS => exact (below_size (by repeat (first | (with_reducible first | exact HBx.out | apply below_alloc | apply pw_below_drewN | apply below_drew1) | exact HBx.out)))); (case aL => (have h1_ := List.length_filter_le (fun r : S41 => r.f0 != id) (l0.take i); rw [List.length_take] at h1_; omega)); intro v121 w7 ho hb hg hat; have HO7 := Aside0.mk ho; have HB7 := Aside0.mk hb; clear ho hb hg hat)
                go_roundg k1
                case measure => omega
                case rel => exact ⟨i + 1, int_eq (by omega), by omega, ⟨by have := HK.out; omega⟩, ⟨by rw [HTK.out, List.filter_append, List.filter_cons_of_pos (by simpa using HE.out), List.filter_nil]; exact HO7.out⟩, HB7⟩
          · obtain rfl : i = l0.length := by omega
            have hho := HOx.out
            rw [List.take_length, filter_I HO.out.o0 id HH.out] at hho
            obtain ⟨A7, c7, rfl⟩ := Kd.R_slice hho
            have HN0 := Aside0.mk (Kd.R_V (base' := 0) (Kd.R_mono (Kd.R_bound hho) (ok' := fun k => w1.heap.size ≤ k) (fun k hk => hk.2.1)))
            have HN1 : Aside0 (Kd.V k86 86 wr 0 (fun k => ok k ∧ k < w.heap.size) (.slice A1 l1.length c1) l1) := ⟨Kd.V_mk HR.out.h1 (Kd.F_below HX.out.f1 HBw.out)⟩
            have HN2 : Aside0 (Kd.V k86 86 wr 0 (fun k => ok k ∧ k < w.heap.size) (.slice A2 l2.length c2) l2) := ⟨Kd.V_mk HR.out.h2 (Kd.F_below HX.out.f2 HBw.out)⟩
            clear hho
            go_wp2
            refine bodyPost_ret (v := .tuple #[.agg #[.slice A7 (dropI l0 id).length c7, .slice A1 l1.length c1, .slice A2 l2.length c2, .int .i64 r], .int .i64 0]) (by simp [results, Try.results43, go_sem, u0, u1, u2, u3, a0, a1, a2, a3]) rfl ?_
            rw [HV.out]
            refine ⟨_, _, _, rfl, ⟨?_, ?_, ?_⟩, (by repeat (first | (with_reducible exact HBw.out) | ((with_reducible refine Below.setCell ?_ ?_ _); rotate_left; (first | exact Nat.le_refl _ | (simp; done) | (simp; omega) | (show _ ≤ _ + 1; omega)))))⟩
            · (try dsimp only)
              refine Kd.V_mono (ok := fun k => w1.heap.size ≤ k) (by repeat (first | (with_reducible exact HN0.out) | ((with_reducible refine Kd.V_far ?_ ?_ _); rotate_left; (intro k hk; first | (simp; omega) | (rcases hk with hk | hk <;> simp <;> omega))))) (fun k hk => ?_)
              exact .inr (by omega)
            · (try dsimp only)
              refine Kd.V_mono (ok := fun k => ok k ∧ k < w.heap.size) (by repeat (first | (with_reducible exact HN1.out) | ((with_reducible refine Kd.V_far ?_ ?_ _); rotate_left; (intro k hk; first | (simp; omega) | (rcases hk with hk | hk <;> simp <;> omega))))) (fun k hk => ?_)
              exact .inl hk.1
            · (try dsimp only)
              refine Kd.V_mono (ok := fun k => ok k ∧ k < w.heap.size) (by repeat (first | (with_reducible exact HN2.out) | ((with_reducible refine Kd.V_far ?_ ?_ _); rotate_left; (intro k hk; first | (simp; omega) | (rcases hk with hk | hk <;> simp <;> omega))))) (fun k hk => ?_)
              exact .inl hk.1
end Go.Proofs.Ytjeoabjccbinhaa.P
