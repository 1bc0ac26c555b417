/- The plain law of ValueDecodes: the program's Decode and the reference's give one value, offset and error for any bytes, and what is accepted is the encoding of its result. -/
import Derived.Test.YtiklldjfcdblbaaPx17
import Derived.Test.YtiklldjfcdblbaaPx6
import Derived.Test.YtiklldjfcdblbaaV5
import Derived.Test.YtiklldjfcdblbaaV6
namespace Go.Proofs.Ytiklldjfcdblbaa.P
open Go.RowKit Go.Proofs.YtiklldjfcdblbaaW.PrintWords Go.Proofs.YtiklldjfcdblbaaW.PrintLast Go.Proofs.YtiklldjfcdblbaaW.PrintMore
abbrev R5 := Int × Int × ByteArray × Int × Int
def bad (e : Int) : R5 := (0, 0, (⟨#[]⟩ : ByteArray), 0, e)
/-- Reading a value at an offset: what both decoders tell. -/
def dv (b : List Int) (off : Nat) : R5 :=
  if h : off < b.length then
    (if b[off] = 0 then (0, 0, (⟨#[]⟩ : ByteArray), ((off + 1 : Nat) : Int), 0)
    else if b[off] = 1 then (if h1 : off + 1 < b.length then (if b[off + 1] > 1 then bad 4 else (1, b[off + 1], (⟨#[]⟩ : ByteArray), ((off + 2 : Nat) : Int), 0)) else bad 2)
    else if b[off] = 2 then (if (vd 0 (b.drop (off + 1))).2.2 = 0 then (2, uz (vd 0 (b.drop (off + 1))).1, (⟨#[]⟩ : ByteArray), ((off + 1 + (vd 0 (b.drop (off + 1))).2.1 : Nat) : Int), 0) else bad (vd 0 (b.drop (off + 1))).2.2)
    else if b[off] = 3 then (if (vd 0 (b.drop (off + 1))).2.2 = 0 then (if (vd 0 (b.drop (off + 1))).1 > 4096 then bad 3 else if (vd 0 (b.drop (off + 1))).1 > b.length - (off + 1 + (vd 0 (b.drop (off + 1))).2.1) then bad 2 else
        (3, 0, strOfNums ((b.take (off + 1 + (vd 0 (b.drop (off + 1))).2.1 + (vd 0 (b.drop (off + 1))).1)).drop (off + 1 + (vd 0 (b.drop (off + 1))).2.1)), ((off + 1 + (vd 0 (b.drop (off + 1))).2.1 + (vd 0 (b.drop (off + 1))).1 : Nat) : Int), 0)) else bad (vd 0 (b.drop (off + 1))).2.2)
    else bad 4)
  else bad 2
theorem vres0 (off : Nat) (r : Nat × Nat × Int) : vres off 0 0 r = if r.2.2 = 0 then ((r.1 : Int), ((off + r.2.1 : Nat) : Int), 0) else (0, 0, r.2.2) := by
  unfold vres
  rw [Nat.zero_add, Nat.pow_zero, Nat.one_mul, Nat.add_zero]
theorem tail_eq (b : List Int) (n p : Nat) (hl : b.length < 4611686018427387904) (hp : p ≤ b.length) :
    (if (n : Int) > 4096 then some (bad 3) else (if (wrap64 ((b.length : Int) - (p : Int))) < (wrap64 (n : Int)) then some (bad 2) else (if 0 ≤ (p : Int) then (if (p : Int) ≤ (wrap64 ((p : Int) + (wrap64 (n : Int)))) then (if (wrap64 ((p : Int) + (wrap64 (n : Int)))) ≤ (b.length : Int) then (some ((3, 0, strOfNums ((b.take ((wrap64 ((p : Int) + (wrap64 (n : Int)))) : Int).toNat).drop (p : Int).toNat), wrap64 ((p : Int) + (wrap64 (n : Int))), 0) : R5)) else (none)) else (none)) else (none)))) =
    some (if n > 4096 then bad 3 else if n > b.length - p then bad 2 else (3, 0, strOfNums ((b.take (p + n)).drop p), ((p + n : Nat) : Int), 0)) := by
  by_cases h4 : n > 4096
  · rw [if_pos h4, if_pos (by omega)]
  · have e1 : wrap64 (n : Int) = (n : Int) := wrap_nat (by omega)
    have e2 : wrap64 ((b.length : Int) - (p : Int)) = ((b.length - p : Nat) : Int) := by unfold wrap64; omega
    have e3 : wrap64 ((p : Int) + (n : Int)) = ((p + n : Nat) : Int) := by unfold wrap64; omega
    rw [if_neg h4, if_neg (by omega), e1, e2, e3]
    by_cases h5 : n > b.length - p
    · rw [if_pos h5, if_pos (by omega)]
    · rw [if_neg h5, if_neg (by omega), if_pos (by omega), if_pos (by omega), if_pos (by omega), Int.toNat_natCast, Int.toNat_natCast]
section
variable (b : List Int) (hb : Bytes b) (hl : b.length < 4611686018427387904) (off : Nat)
include hb hl
theorem text_ev (hlt : off ≤ b.length) : Ev (fun k => value_decodeText.f k b (off : Int))
    (if (vd 0 (b.drop off)).2.2 = 0 then (if (vd 0 (b.drop off)).1 > 4096 then bad 3 else if (vd 0 (b.drop off)).1 > b.length - (off + (vd 0 (b.drop off)).2.1) then bad 2 else
        (3, 0, strOfNums ((b.take (off + (vd 0 (b.drop off)).2.1 + (vd 0 (b.drop off)).1)).drop (off + (vd 0 (b.drop off)).2.1)), ((off + (vd 0 (b.drop off)).2.1 + (vd 0 (b.drop off)).1 : Nat) : Int), 0)) else bad (vd 0 (b.drop off)).2.2) := by
  have hd := dec_ev b hb hl off hlt
  have hok := vd_ok (b.drop off) 0 (fun c hc => hb c (List.mem_of_mem_drop hc)) (by decide)
  rw [vres0] at hd
  generalize vd 0 (b.drop off) = r at *
  unfold value_decodeText.f
  refine hd.bind ?_
  by_cases h : r.2.2 = 0
  · simp only [h, if_true]
    obtain ⟨h1, h2, h3, _, _⟩ := hok h
    rw [List.length_drop] at h2
    by_cases h4 : r.1 > 4096
    · rw [if_pos h4]
      exact Ev.const (by rw [if_pos (by omega)]; rfl)
    · rw [if_neg h4]
      have e1 : wrap64 (r.1 : Int) = (r.1 : Int) := wrap_nat (by omega)
      have e2 : wrap64 ((b.length : Int) - ((off + r.2.1 : Nat) : Int)) = ((b.length - (off + r.2.1) : Nat) : Int) := by unfold wrap64; omega
      have e3 : wrap64 (((off + r.2.1 : Nat) : Int) + (r.1 : Int)) = ((off + r.2.1 + r.1 : Nat) : Int) := by unfold wrap64; omega
      by_cases h5 : r.1 > b.length - (off + r.2.1)
      · rw [if_pos h5]
        exact Ev.const (by rw [if_neg (by omega), e1, e2, if_pos (by omega)]; rfl)
      · rw [if_neg h5]
        exact Ev.const (by rw [if_neg (by omega), e1, e2, e3, if_neg (by omega), if_pos (by omega), if_pos (by omega), if_pos (by omega), Int.toNat_natCast, Int.toNat_natCast])
  · simp only [h, if_false]
    exact Ev.const rfl
theorem decode_one (h : off < b.length) (k : Nat) : value_Decode.j0 (k + 1) b (off : Int) false =
    if b[off] = 0 then some (0, 0, (⟨#[]⟩ : ByteArray), ((off + 1 : Nat) : Int), 0)
    else if b[off] = 1 then (if h1 : off + 1 < b.length then (if b[off + 1] > 1 then some (bad 4) else some (1, b[off + 1], (⟨#[]⟩ : ByteArray), ((off + 2 : Nat) : Int), 0)) else some (bad 2))
    else if b[off] = 2 then (varint_Decode.f k b ((off + 1 : Nat) : Int)).bind fun bt => (if bt.2.2 = 0 then ((varint_UnZigZag.f bt.1).bind fun t116 => (some (2, t116, (⟨#[]⟩ : ByteArray), bt.2.1, 0))) else (some (bad bt.2.2)))
    else if b[off] = 3 then (value_decodeText.f k b ((off + 1 : Nat) : Int)).bind fun bt => some (bt.1, bt.2.1, bt.2.2.1, bt.2.2.2.1, bt.2.2.2.2)
    else some (bad 4) := by
  have hc := hb _ (List.getElem_mem h)
  have e0 : rd b (off : Int) = b[off] := rd_nat b off h
  have e1 : wrap64 ((off : Int) + 1) = ((off + 1 : Nat) : Int) := by unfold wrap64; omega
  have e2 : wrap64 b[off] = b[off] := by unfold wrap64; omega
  simp only [value_Decode.j0, Bool.false_eq_true, if_false]
  rw [if_neg (show ¬ (off : Int) = (b.length : Int) by omega), if_pos (show 0 ≤ (off : Int) by omega), if_pos (show (off : Int) < (b.length : Int) by omega), e0, e1, e2]
  by_cases c0 : b[off] = 0
  · rw [if_pos c0, if_pos c0]
  rw [if_neg c0, if_neg c0]
  by_cases c1 : b[off] = 1
  · rw [if_pos c1, if_pos c1]
    by_cases h1 : off + 1 < b.length
    · have hc1 := hb _ (List.getElem_mem h1)
      have e3 : rd b ((off + 1 : Nat) : Int) = b[off + 1] := rd_nat b _ h1
      have e4 : wrap64 (((off + 1 : Nat) : Int) + 1) = ((off + 2 : Nat) : Int) := by unfold wrap64; omega
      have e5 : wrap64 b[off + 1] = b[off + 1] := by unfold wrap64; omega
      rw [dif_pos h1, if_neg (by omega), if_pos (by omega), if_pos (by omega), e3, e4, e5, c1]
      rfl
    · rw [dif_neg h1, if_pos (by omega)]
      rfl
  rw [if_neg c1, if_neg c1]
  by_cases c2 : b[off] = 2
  · rw [if_pos c2, if_pos c2, c2]
    rfl
  rw [if_neg c2, if_neg c2]
  by_cases c3 : b[off] = 3
  · rw [if_pos c3, if_pos c3]
  · rw [if_neg c3, if_neg c3]
    rfl
theorem decode_ev (ho : off ≤ b.length) : Ev (fun k => value_Decode.j0 k b (off : Int) false) (dv b off) := by
  unfold dv
  by_cases h : off < b.length
  · rw [dif_pos h]
    have hone := decode_one b hb hl off h
    by_cases c0 : b[off] = 0
    · rw [if_pos c0]
      exact Ev.fin fun k => by rw [hone, if_pos c0]
    rw [if_neg c0]
    by_cases c1 : b[off] = 1
    · rw [if_pos c1]
      refine Ev.fin fun k => ?_
      rw [hone, if_neg c0, if_pos c1]
      by_cases h1 : off + 1 < b.length
      · rw [dif_pos h1, dif_pos h1]
        by_cases h2 : b[off + 1] > 1
        · rw [if_pos h2, if_pos h2]
        · rw [if_neg h2, if_neg h2]
      · rw [dif_neg h1, dif_neg h1]
    rw [if_neg c1]
    by_cases c2 : b[off] = 2
    · rw [if_pos c2]
      have hd := dec_ev b hb hl (off + 1) (by omega)
      have hok := vd_ok (b.drop (off + 1)) 0 (fun c hc => hb c (List.mem_of_mem_drop hc)) (by decide)
      rw [vres0] at hd
      generalize vd 0 (b.drop (off + 1)) = r at *
      refine Ev.step (fun k => by rw [hone, if_neg c0, if_neg c1, if_pos c2]) (hd.bind ?_)
      by_cases h2 : r.2.2 = 0
      · simp only [h2, if_true]
        obtain ⟨_, _, h3, _, _⟩ := hok h2
        rw [unzigzag_uz _ (by simpa using h3)]
        exact Ev.now _
      · simp only [h2, if_false]
        exact Ev.now _
    rw [if_neg c2]
    by_cases c3 : b[off] = 3
    · rw [if_pos c3]
      exact Ev.step (fun k => by rw [hone, if_neg c0, if_neg c1, if_neg c2, if_pos c3]) ((text_ev b hb hl (off + 1) (by omega)).bind (f := fun _ bt => some (bt.1, bt.2.1, bt.2.2.1, bt.2.2.2.1, bt.2.2.2.2)) (Ev.now _))
    · rw [if_neg c3]
      exact Ev.fin fun k => by rw [hone, if_neg c0, if_neg c1, if_neg c2, if_neg c3]
  · rw [dif_neg h]
    refine Ev.fin fun k => ?_
    simp only [value_Decode.j0, Bool.false_eq_true, if_false]
    rw [if_pos (by omega)]
    rfl
theorem ref_decode_one (h : off < b.length) (k : Nat) : laminaref04_Decode.j0 (k + 1) b (off : Int) false =
    if b[off] > 3 then some (bad 4)
    else if b[off] = 0 then some (0, 0, (⟨#[]⟩ : ByteArray), ((off + 1 : Nat) : Int), 0)
    else if b[off] = 1 then (if h1 : off + 1 < b.length then (if b[off + 1] > 1 then some (bad 4) else some (1, b[off + 1], (⟨#[]⟩ : ByteArray), ((off + 2 : Nat) : Int), 0)) else some (bad 2))
    else (laminaref01_Decode.f k b ((off + 1 : Nat) : Int)).bind fun bt => (if bt.2.2 = 0 then (if b[off] = 2 then ((laminaref01_UnZigZag.f bt.1).bind fun t => some (2, t, (⟨#[]⟩ : ByteArray), bt.2.1, 0)) else (if bt.1 > 4096 then some (bad 3) else (if (wrap64 ((b.length : Int) - bt.2.1)) < (wrap64 (bt.1)) then some (bad 2) else (if 0 ≤ bt.2.1 then (if bt.2.1 ≤ (wrap64 (bt.2.1 + (wrap64 (bt.1)))) then (if (wrap64 (bt.2.1 + (wrap64 (bt.1)))) ≤ (b.length : Int) then (some (3, 0, strOfNums ((b.take ((wrap64 (bt.2.1 + (wrap64 (bt.1)))) : Int).toNat).drop (bt.2.1 : Int).toNat), wrap64 (bt.2.1 + (wrap64 (bt.1))), 0)) else (none)) else (none)) else (none))))) else some (bad bt.2.2)) := by
  have hc := hb _ (List.getElem_mem h)
  have e0 : rd b (off : Int) = b[off] := rd_nat b off h
  have e1 : wrap64 ((off : Int) + 1) = ((off + 1 : Nat) : Int) := by unfold wrap64; omega
  have e2 : wrap64 b[off] = b[off] := by unfold wrap64; omega
  simp only [laminaref04_Decode.j0, Bool.false_eq_true, if_false]
  rw [if_neg (show ¬ (off : Int) = (b.length : Int) by omega), if_pos (show 0 ≤ (off : Int) by omega), if_pos (show (off : Int) < (b.length : Int) by omega), e0, e1, e2]
  by_cases c4 : b[off] > 3
  · rw [if_pos c4, if_pos c4]
    rfl
  rw [if_neg c4, if_neg c4]
  by_cases c0 : b[off] = 0
  · rw [if_pos c0, if_pos c0]
  rw [if_neg c0, if_neg c0]
  by_cases c1 : b[off] = 1
  · rw [if_pos c1, if_pos c1]
    by_cases h1 : off + 1 < b.length
    · have hc1 := hb _ (List.getElem_mem h1)
      have e3 : rd b ((off + 1 : Nat) : Int) = b[off + 1] := rd_nat b _ h1
      have e4 : wrap64 ((off : Int) + 2) = ((off + 2 : Nat) : Int) := by unfold wrap64; omega
      rw [dif_pos h1, if_neg (by omega), if_pos (by omega), if_pos (by omega), e3, e4]
      by_cases h2 : b[off + 1] > 1
      · rw [if_pos h2, if_pos h2]
        rfl
      · rw [if_neg h2, if_neg h2]
        have h01 : b[off + 1] = 0 ∨ b[off + 1] = 1 := by omega
        rcases h01 with h3 | h3 <;> rw [h3] <;> rfl
    · rw [dif_neg h1, if_pos (by omega)]
      rfl
  rw [if_neg c1, if_neg c1]
  rfl
theorem ref_decode_ev (ho : off ≤ b.length) : Ev (fun k => laminaref04_Decode.j0 k b (off : Int) false) (dv b off) := by
  unfold dv
  by_cases h : off < b.length
  · rw [dif_pos h]
    have hone := ref_decode_one b hb hl off h
    have hc := hb _ (List.getElem_mem h)
    by_cases c4 : b[off] > 3
    · rw [if_neg (by omega), if_neg (by omega), if_neg (by omega), if_neg (by omega)]
      exact Ev.fin fun k => by rw [hone, if_pos c4]
    by_cases c0 : b[off] = 0
    · rw [if_pos c0]
      exact Ev.fin fun k => by rw [hone, if_neg c4, if_pos c0]
    rw [if_neg c0]
    by_cases c1 : b[off] = 1
    · rw [if_pos c1]
      refine Ev.fin fun k => ?_
      rw [hone, if_neg c4, if_neg c0, if_pos c1]
      by_cases h1 : off + 1 < b.length
      · rw [dif_pos h1, dif_pos h1]
        by_cases h2 : b[off + 1] > 1
        · rw [if_pos h2, if_pos h2]
        · rw [if_neg h2, if_neg h2]
      · rw [dif_neg h1, dif_neg h1]
    rw [if_neg c1]
    have hd := ref_dec_ev b hb hl (off + 1) (by omega)
    have hok := vd_ok (b.drop (off + 1)) 0 (fun c hc => hb c (List.mem_of_mem_drop hc)) (by decide)
    rw [vres0] at hd
    have hdl : (b.drop (off + 1)).length = b.length - (off + 1) := List.length_drop
    generalize vd 0 (b.drop (off + 1)) = r at *
    refine Ev.step (fun k => by rw [hone, if_neg c4, if_neg c0, if_neg c1]) (hd.bind ?_)
    by_cases h2 : r.2.2 = 0
    · obtain ⟨_, hm, h3, _, _⟩ := hok h2
      rw [hdl] at hm
      by_cases c2 : b[off] = 2
      · simp only [h2, c2, if_true]
        rw [ref_unzigzag_uz _ (by simpa using h3)]
        exact Ev.now _
      · have c3 : b[off] = 3 := by omega
        simp only [h2, if_true]
        rw [if_neg c2, if_neg c2, if_pos c3]
        refine Ev.all fun k => ?_
        exact tail_eq b r.1 (off + 1 + r.2.1) hl (by omega)
    · by_cases c2 : b[off] = 2
      · simp only [h2, c2, if_true, if_false]
        exact Ev.now _
      · have c3 : b[off] = 3 := by omega
        simp only [h2, if_false]
        rw [if_neg c2, if_pos c3]
        exact Ev.now _
  · rw [dif_neg h]
    refine Ev.fin fun k => ?_
    simp only [laminaref04_Decode.j0, Bool.false_eq_true, if_false]
    rw [if_pos (by omega)]
    rfl
end
theorem take_drop (l : List Int) (o m : Nat) : (l.take (o + m)).drop o = (l.drop o).take m := by rw [List.drop_take]; congr 1; omega
theorem byte_back (c : Int) (h0 : 0 ≤ c) (h1 : c ≤ 255) : ((UInt8.ofNat c.toNat).toNat : Int) = c := by
  rw [UInt8.toNat_ofNat']
  omega
theorem bytes_back (l : List Int) (h : Bytes l) : bytesOf (strOfNums l) = l := by
  unfold bytesOf
  rw [strOfNums_data, List.map_map]
  conv => rhs; rw [← List.map_id l]
  apply List.map_congr_left
  intro c hc
  exact byte_back c (h c hc).1 (h c hc).2
/-- What is accepted is the encoding of its result. -/
theorem encode_back (b : List Int) (hb : Bytes b) (off : Nat) (h : (dv b off).2.2.2.2 = 0) :
    ∃ a : Nat, (dv b off).2.2.2.1 = (a : Int) ∧ off ≤ a ∧ a ≤ b.length ∧ Ev (fun k => value_Encode.f k (dv b off).1 (dv b off).2.1 (dv b off).2.2.1) ((b.take a).drop off) := by
  unfold dv at h ⊢
  by_cases hlt : off < b.length
  · rw [dif_pos hlt] at h ⊢
    have hc := hb _ (List.getElem_mem hlt)
    have hdrop := drop_at b off hlt
    by_cases c0 : b[off] = 0
    · rw [if_pos c0] at h ⊢
      refine ⟨off + 1, rfl, by omega, by omega, Ev.all fun k => ?_⟩
      rw [take_drop, hdrop, c0]
      rfl
    rw [if_neg c0] at h ⊢
    by_cases c1 : b[off] = 1
    · rw [if_pos c1] at h ⊢
      by_cases h1 : off + 1 < b.length
      · rw [dif_pos h1] at h ⊢
        have hc1 := hb _ (List.getElem_mem h1)
        by_cases h2 : b[off + 1] > 1
        · rw [if_pos h2] at h
          exact absurd h (by decide)
        · rw [if_neg h2] at h ⊢
          refine ⟨off + 2, rfl, by omega, by omega, Ev.all fun k => ?_⟩
          rw [take_drop, hdrop, drop_at b (off + 1) h1, c1]
          simp only [value_Encode.f, Option.bind_some]
          rw [if_pos trivial, if_pos (by decide), show b[off + 1] % 256 = b[off + 1] by omega]
          rfl
      · rw [dif_neg h1] at h
        exact absurd h (by decide)
    rw [if_neg c1] at h ⊢
    have hok := vd_ok (b.drop (off + 1)) 0 (fun c hc => hb c (List.mem_of_mem_drop hc)) (by decide)
    have hdl : (b.drop (off + 1)).length = b.length - (off + 1) := List.length_drop
    generalize vd 0 (b.drop (off + 1)) = r at *
    by_cases c2 : b[off] = 2
    · rw [if_pos c2] at h ⊢
      by_cases h2 : r.2.2 = 0
      · rw [if_pos h2] at h ⊢
        obtain ⟨h3, h4, h5, _, h7⟩ := hok h2
        have hn : r.1 < 18446744073709551616 := by simpa using h5
        have hu := uz_bd r.1 hn
        refine ⟨off + 1 + r.2.1, rfl, by omega, by omega, ?_⟩
        rw [Nat.add_assoc, take_drop, hdrop, Nat.add_comm 1, List.take_succ_cons, ← h7, c2]
        have hlen := venc_len64 hn
        have main : Ev (fun k => (varint_Encode.f k (r.1 : Int)).bind fun t => if ([2] : List Int).length + t.length < 140737488355328 then some (([2] : List Int) ++ t) else none) ((2 : Int) :: venc r.1) := by
          refine (enc_ev r.1 hn).bind (Ev.const ?_)
          rw [if_pos (by simp; omega)]
          rfl
        refine Ev.congr (fun k => ?_) main
        simp only [value_Encode.f, Option.bind_some, zigzag_zz _ hu.1 hu.2, zz_uz]
        rw [if_neg (by decide), if_pos trivial]
        rfl
      · rw [if_neg h2] at h
        exact absurd h h2
    rw [if_neg c2] at h ⊢
    by_cases c3 : b[off] = 3
    · rw [if_pos c3] at h ⊢
      by_cases h2 : r.2.2 = 0
      · rw [if_pos h2] at h ⊢
        by_cases h8 : r.1 > 4096
        · rw [if_pos h8] at h
          exact absurd h (by decide)
        rw [if_neg h8] at h ⊢
        by_cases h9 : r.1 > b.length - (off + 1 + r.2.1)
        · rw [if_pos h9] at h
          exact absurd h (by decide)
        rw [if_neg h9] at h ⊢
        obtain ⟨h3, h4, h5, _, h7⟩ := hok h2
        have hn : r.1 < 18446744073709551616 := by omega
        refine ⟨off + 1 + r.2.1 + r.1, rfl, by omega, by omega, ?_⟩
        rw [take_drop b (off + 1 + r.2.1) r.1]
        have e : (b.take (off + 1 + r.2.1 + r.1)).drop off = ((3 : Int) :: venc r.1) ++ (b.drop (off + 1 + r.2.1)).take r.1 := by
          rw [show off + 1 + r.2.1 + r.1 = off + (r.2.1 + r.1 + 1) by omega, take_drop, hdrop, List.take_succ_cons, List.take_add, ← h7, List.drop_drop, c3]
          rfl
        rw [e]
        have hx : Bytes ((b.drop (off + 1 + r.2.1)).take r.1) := fun c hc => hb c (List.mem_of_mem_drop (List.mem_of_mem_take hc))
        have hxl : ((b.drop (off + 1 + r.2.1)).take r.1).length = r.1 := by rw [List.length_take, List.length_drop]; omega
        generalize (b.drop (off + 1 + r.2.1)).take r.1 = x at *
        have hlen := venc_len64 hn
        have main : Ev (fun k => (varint_Encode.f k (r.1 : Int)).bind fun t => if ([3] : List Int).length + t.length < 140737488355328 then ((some (([3] : List Int) ++ t)).bind fun y => if y.length + (strOfNums x).size < 140737488355328 then some (y ++ bytesOf (strOfNums x)) else none) else none) (((3 : Int) :: venc r.1) ++ x) := by
          refine (enc_ev r.1 hn).bind (Ev.const ?_)
          rw [if_pos (by simp; omega), Option.bind_some, strOfNums_size, bytes_back x hx, if_pos (by simp; omega)]
          rfl
        refine Ev.congr (fun k => ?_) main
        simp only [value_Encode.f, Option.bind_some]
        rw [if_neg (by decide), if_neg (by decide), if_pos trivial, strOfNums_size, hxl, IntKind.wrap_u64, show (r.1 : Int) % 18446744073709551616 = (r.1 : Int) by omega]
        rfl
      · rw [if_neg h2] at h
        exact absurd h h2
    · rw [if_neg c3] at h
      exact absurd h (by decide)
  · rw [dif_neg hlt] at h
    exact absurd h (by decide)
theorem diff3 (v : Int × Int × ByteArray) : (!(v.1 == v.1) || (!(v.2.1 == v.2.1) || (!(v.2.2.toList == v.2.2.toList)))) = false := by simp
theorem bytes_of_wf {l : List Int} (h : ∀ y ∈ l, (Lit.int .u8 y).wf = true) : Bytes l := by
  intro c hc
  have := h c hc
  simp only [Lit.wf, IntKind.min, IntKind.max, IntKind.signed, IntKind.bits, Bool.and_eq_true, decide_eq_true_eq, Bool.false_eq_true, if_false] at this
  omega
theorem valueDecodes_pure : ∀ (x0 : List (Int)) (x1 : Int), (x0.length * 1 ≤ 140737488351232 ∧ ∀ y ∈ x0, (Lit.int .u8 y).wf = true) → (Lit.int .i64 x1).wf = true → ∃ k, laminalaw04_ValueDecodes.f k x0 x1 = some true := by
  intro b o hx _
  refine Ev.rounds ?_
  have hb := bytes_of_wf hx.2
  have hl : b.length < 140737488355328 := by have := hx.1; omega
  unfold laminalaw04_ValueDecodes.f
  by_cases hin : 0 ≤ o ∧ o ≤ (b.length : Int)
  · obtain ⟨off, rfl⟩ : ∃ off : Nat, o = (off : Int) := ⟨o.toNat, by omega⟩
    have hv : Ev (fun k => value_Decode.f k b (off : Int)) (dv b off) := Ev.congr (fun k => by unfold value_Decode.f; rw [if_neg (by omega), decide_eq_false (by omega)]) (decode_ev b hb (by omega) off (by omega))
    have hr : Ev (fun k => laminaref04_Decode.f k b (off : Int)) (dv b off) := Ev.congr (fun k => by unfold laminaref04_Decode.f; rw [if_neg (by omega), decide_eq_false (by omega)]) (ref_decode_ev b hb (by omega) off (by omega))
    refine hv.bind (hr.bind ?_)
    simp only [beq_self_eq_true, Bool.not_true, Bool.or_self, Bool.false_eq_true, if_false, if_true]
    by_cases he : (dv b off).2.2.2.2 = 0
    · simp only [he, if_true]
      obtain ⟨a, ha, h1, h2, hen⟩ := encode_back b hb off he
      refine hen.bind ?_
      simp only [ha]
      refine Ev.congr (fun k => ?_) awake_bind
      rw [if_pos (by omega), if_pos (by omega), if_pos (by omega), Int.toNat_natCast, Int.toNat_natCast, if_pos rfl]
    · simp only [he, if_false]
      exact awake_bind
  · have hv : Ev (fun k => value_Decode.f k b o) (bad 1) := by
      refine Ev.fin fun k => ?_
      unfold value_Decode.f
      by_cases h : o < 0
      · rw [if_pos h]
        rfl
      · rw [if_neg h, decide_eq_true (by omega)]
        rfl
    have hr : Ev (fun k => laminaref04_Decode.f k b o) (bad 1) := by
      refine Ev.fin fun k => ?_
      unfold laminaref04_Decode.f
      by_cases h : o < 0
      · rw [if_pos h]
        rfl
      · rw [if_neg h, decide_eq_true (by omega)]
        rfl
    refine hv.bind (hr.bind ?_)
    simp only [beq_self_eq_true, Bool.not_true, Bool.or_self, Bool.false_eq_true, if_false, if_true]
    refine Ev.congr (fun k => ?_) awake_bind
    rw [if_neg (by decide)]
end Go.Proofs.Ytiklldjfcdblbaa.P
