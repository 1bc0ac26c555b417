/- Log entries; histories made of entries; what stays so. Conditions: the hypotheses that stand at each theorem. -/
import Derived.Test.YtjeoabjccbinhaaH12
import Derived.Test.YtjeoabjccbinhaaQ1
import Derived.Test.YtjeoabjccbinhaaReads
namespace Go.Proofs.Ytjeoabjccbinhaa.P
open Go.RowKit Go.Proofs.YtjeoabjccbinhaaW.PrintWords Go.Proofs.YtjeoabjccbinhaaW.PrintLast Go.Proofs.YtjeoabjccbinhaaW.PrintMore Go.Proofs.Ytjeoabjccbinhaa.Reads
set_option linter.unusedVariables false
set_option linter.unusedSimpArgs false
/-- A log entry. -/
structure S32 where
  f0 : Int
  f1 : Int
  f2 : Int
  f3 : Int
  f4 : Int
  f5 : ByteArray
def z32 : S32 := ⟨0, 0, 0, 0, 0, ⟨#[]⟩⟩
def k32 : Kd S32 := Kd.iso (Kd.pair (Kd.int .i64) (Kd.pair (Kd.int .i64) (Kd.pair (Kd.int .i64) (Kd.pair (Kd.int .i64) (Kd.pair (Kd.int .i64) Kd.string))))) (fun x : S32 => (x.f0, x.f1, x.f2, x.f3, x.f4, x.f5))
theorem k32_open {w : World} {x : S32} {cs : List Value} (h : k32.K w x cs) : cs = [.int .i64 x.f0, .int .i64 x.f1, .int .i64 x.f2, .int .i64 x.f3, .int .i64 x.f4, .string x.f5] := by
  obtain ⟨_, _, rfl, rfl, ⟨_, _, rfl, rfl, ⟨_, _, rfl, rfl, ⟨_, _, rfl, rfl, ⟨_, _, rfl, rfl, rfl⟩⟩⟩⟩⟩ := h
  exact rfl
theorem k32_mk (w : World) (x : S32) : k32.K w x [.int .i64 x.f0, .int .i64 x.f1, .int .i64 x.f2, .int .i64 x.f3, .int .i64 x.f4, .string x.f5] := ⟨[.int .i64 x.f0], [.int .i64 x.f1, .int .i64 x.f2, .int .i64 x.f3, .int .i64 x.f4, .string x.f5], rfl, rfl, ⟨[.int .i64 x.f1], [.int .i64 x.f2, .int .i64 x.f3, .int .i64 x.f4, .string x.f5], rfl, rfl, ⟨[.int .i64 x.f2], [.int .i64 x.f3, .int .i64 x.f4, .string x.f5], rfl, rfl, ⟨[.int .i64 x.f3], [.int .i64 x.f4, .string x.f5], rfl, rfl, ⟨[.int .i64 x.f4], [.string x.f5], rfl, rfl, rfl⟩⟩⟩⟩⟩
theorem k32_mkM (w : World) (base : Nat) (ok : Nat → Prop) (x : S32) : k32.M w base ok x [.int .i64 x.f0, .int .i64 x.f1, .int .i64 x.f2, .int .i64 x.f3, .int .i64 x.f4, .string x.f5] := ⟨[.int .i64 x.f0], [.int .i64 x.f1, .int .i64 x.f2, .int .i64 x.f3, .int .i64 x.f4, .string x.f5], rfl, rfl, ⟨[.int .i64 x.f1], [.int .i64 x.f2, .int .i64 x.f3, .int .i64 x.f4, .string x.f5], rfl, rfl, ⟨[.int .i64 x.f2], [.int .i64 x.f3, .int .i64 x.f4, .string x.f5], rfl, rfl, ⟨[.int .i64 x.f3], [.int .i64 x.f4, .string x.f5], rfl, rfl, ⟨[.int .i64 x.f4], [.string x.f5], rfl, rfl, rfl⟩⟩⟩⟩⟩
theorem info32 : (Try.prog.info? 32).map (fun i => (i.zero, i.size, i.bytes)) = some (some (.agg #[(.int .i64 0), (.int .i64 0), (.int .i64 0), (.int .i64 0), (.int .i64 0), (.string ⟨#[]⟩)]), 6, 56) := by kernel_rfl
def rd_T32 (xs : List S32) (i : Int) : S32 := xs.getD i.toNat z32
theorem rd32_get (l : List S32) (i : Nat) (h : i < l.length) : rd_T32 l i = l[i] := by
  unfold rd_T32
  rw [Int.toNat_natCast, List.getD_eq_getElem?_getD, List.getElem?_eq_getElem h]; rfl
theorem at_T32 {w : World} {A : Option Addr} {n : Nat} {xs : List S32} (h : Kd.C k32 w A n xs) (i : Int) (h0 : 0 ≤ i) (h1 : i < n) : ∃ ad , A = some ad ∧ w.cell? (ad.add (i.toNat * 6)) = some (.int .i64 (rd_T32 xs i).f0) ∧ w.cell? ⟨(ad.add (i.toNat * 6)).block, (ad.add (i.toNat * 6)).off + 1, none⟩ = some (.int .i64 (rd_T32 xs i).f1) ∧ w.cell? ⟨(ad.add (i.toNat * 6)).block, (ad.add (i.toNat * 6)).off + 2, none⟩ = some (.int .i64 (rd_T32 xs i).f2) ∧ w.cell? ⟨(ad.add (i.toNat * 6)).block, (ad.add (i.toNat * 6)).off + 3, none⟩ = some (.int .i64 (rd_T32 xs i).f3) ∧ w.cell? ⟨(ad.add (i.toNat * 6)).block, (ad.add (i.toNat * 6)).off + 4, none⟩ = some (.int .i64 (rd_T32 xs i).f4) ∧ w.cell? ⟨(ad.add (i.toNat * 6)).block, (ad.add (i.toNat * 6)).off + 5, none⟩ = some (.string (rd_T32 xs i).f5) := by
  obtain ⟨ad, c, e, _, hK, hc0⟩ := Kd.C_get h z32 i h0 h1
  have hc : ∀ j u, c[j]? = some u → w.cell? (ad.add (i.toNat * 6 + j)) = some u := hc0
  obtain rfl := k32_open hK
  exact ⟨ad, e, hc 0 _ rfl, by rw [← add_field _ _ 1 (by omega)]; exact hc 1 _ rfl, by rw [← add_field _ _ 2 (by omega)]; exact hc 2 _ rfl, by rw [← add_field _ _ 3 (by omega)]; exact hc 3 _ rfl, by rw [← add_field _ _ 4 (by omega)]; exact hc 4 _ rfl, by rw [← add_field _ _ 5 (by omega)]; exact hc 5 _ rfl⟩
/-- An entry whose numbers fit and whose text is no longer than the reach. -/
def G32 (x : S32) : Prop := (Lit.int .i64 x.f0).wf = true ∧ (Lit.int .i64 x.f1).wf = true ∧ (Lit.int .i64 x.f2).wf = true ∧ (Lit.int .i64 x.f3).wf = true ∧ (Lit.int .i64 x.f4).wf = true ∧ x.f5.size ≤ 140737488351232
set_option maxRecDepth 100000 in
theorem rd32 : Rd k32 Try.prog 32 G32 :=
  (Rd.struct (fun a => (⟨a.1, a.2.1, a.2.2.1, a.2.2.2.1, a.2.2.2.2.1, a.2.2.2.2.2⟩ : S32)) (fun _ => rfl) Try.underlying32 (by kernel_rfl) (RdF.cons (Rd.int Try.underlying3 (by kernel_rfl)) rfl (RdF.cons (Rd.int Try.underlying2 (by kernel_rfl)) rfl (RdF.cons (Rd.int Try.underlying2 (by kernel_rfl)) rfl (RdF.cons (Rd.int Try.underlying2 (by kernel_rfl)) rfl (RdF.cons (Rd.int Try.underlying2 (by kernel_rfl)) rfl (RdF.one (Rd.string Try.underlying9 (by kernel_rfl)) rfl))))))).imp fun _ h => h
/-! ### histories of entries -/
/-- A history after an entry. -/
def applyE (h : S27) (x : S32) : S27 × Int := applyS h x.f0 x.f1 x.f2 x.f3 x.f4 x.f5
/-- The history of some entries; those that are rejected are skipped. -/
def builtS (l : List S32) : S27 := l.foldl (fun h x => if (applyE h x).2 = 0 then (applyE h x).1 else h) eS27
/-- The history of all the entries, or the first error. -/
def replayS (h : S27) : List S32 → S27 × Int
  | [] => (h, 0)
  | x :: l => if (applyE h x).2 = 0 then replayS (applyE h x).1 l else (eS27, (applyE h x).2)
/-- A history of at most n commits, as it comes about. -/
structure OkN (n : Nat) (h : S27) : Prop where
  o0 : okI h.f0
  o1 : okS h.f1
  o2 : okS h.f2
  n0 : h.f0.length ≤ n
  n1 : h.f1.length ≤ 64
  n2 : h.f2.length ≤ 64
theorem OkN.okH {n : Nat} {h : S27} (o : OkN n h) (hn : n ≤ 1000) : OkH h.f0 h.f1 h.f2 :=
  ⟨o.o0, o.o1, o.o2, Nat.le_trans o.n0 hn, Nat.le_trans o.n1 (by decide), Nat.le_trans o.n2 (by decide)⟩
theorem OkN.mono {n m : Nat} {h : S27} (o : OkN n h) (hn : n ≤ m) : OkN m h := ⟨o.o0, o.o1, o.o2, Nat.le_trans o.n0 hn, o.n1, o.n2⟩
theorem OkN.nil (n : Nat) : OkN n eS27 := ⟨List.Pairwise.nil, List.Pairwise.nil, List.Pairwise.nil, Nat.zero_le _, Nat.zero_le _, Nat.zero_le _⟩
theorem last41 {l : List S41} (h : 0 < l.length) : rd_T41 l ((l.length - 1 : Nat) : Int) = l[l.length - 1] := rd41_get l _ (by omega)
theorem okI_snoc {l : List S41} {x : S41} (ho : okI l) (h : lateB l x.f0 = false) : okI (l ++ [x]) := by
  unfold okI at *
  refine List.pairwise_append.2 ⟨ho, List.pairwise_singleton _ _, ?_⟩
  intro a ha b hb
  rw [List.mem_singleton] at hb; subst hb
  have hp : 0 < l.length := List.length_pos_of_mem ha
  unfold lateB at h
  rw [decide_eq_true hp, Bool.true_and, last41 hp, decide_eq_false_iff_not] at h
  have hlast : l[l.length - 1].f0 < b.f0 := by omega
  obtain ⟨i, hi, rfl⟩ := List.getElem_of_mem ha
  rcases Nat.lt_or_ge i (l.length - 1) with h1 | h1
  · have := (List.pairwise_iff_getElem.1 ho) i (l.length - 1) hi (by omega) h1
    omega
  · have : i = l.length - 1 := by omega
    subst this; exact hlast
theorem putS_len {l : List S86} {s : ByteArray} {id : Int} : (putS l s id).length = if hasS l s = true then l.length else l.length + 1 := by
  unfold putS
  by_cases h : hasS l s = true
  · rw [if_pos h, if_pos h, List.length_set]
  · rw [if_neg h, if_neg h]; unfold insS; have := posS_le l s; simp; omega
theorem addS_cases (l0 : List S41) (l : List S86) (s : ByteArray) (id : Int) : ((addS l0 l s id).2 ≠ 0 ∧ (addS l0 l s id).1 = []) ∨ (addS l0 l s id = (insS l s id, 0) ∧ hasS l s = false ∧ hasI l0 id = true ∧ l.length < 64) := by
  unfold addS
  by_cases h : hasS l s = true
  · rw [if_pos h]; exact .inl ⟨by decide, rfl⟩
  · rw [if_neg h]
    by_cases hi : hasI l0 id = true
    · rw [if_pos hi]
      by_cases h6 : 64 ≤ l.length
      · rw [if_pos h6]; exact .inl ⟨by decide, rfl⟩
      · rw [if_neg h6]; exact .inr ⟨rfl, by simpa using h, hi, by omega⟩
    · rw [if_neg hi]; exact .inl ⟨by decide, rfl⟩
theorem addS_okN {n : Nat} {l0 : List S41} {l : List S86} {s : ByteArray} {id : Int} (ho : okS l) (hn : l.length ≤ 64) (h : (addS l0 l s id).2 = 0) : okS (addS l0 l s id).1 ∧ (addS l0 l s id).1.length ≤ 64 := by
  rcases addS_cases l0 l s id with h1 | ⟨h1, h2, h3, h4⟩
  · exact absurd h h1.1
  · rw [h1]
    have hp := okS_put ho s id
    have hl := putS_len (l := l) (s := s) (id := id)
    unfold putS at hp hl
    rw [if_neg (by rw [h2]; decide)] at hp hl
    rw [if_neg (by rw [h2]; decide)] at hl
    exact ⟨hp, by show (insS l s id).length ≤ 64; omega⟩
theorem dropS_len (l : List S86) (s : ByteArray) : (dropS l s).length ≤ l.length := by unfold dropS; simp; omega
theorem dropI_len (l : List S41) (s : Int) : (dropI l s).length ≤ l.length := by unfold dropI; simp; omega
theorem commitS_okN {n : Nat} {h : S27} (o : OkN n h) (x1 x2 x3 x4 : Int) (x5 : ByteArray) : OkN (n + 1) (commitS h x1 x2 x3 x4 x5).1 := by
  unfold commitS
  by_cases c1 : lateB h.f0 x1 = true
  · rw [if_pos c1]; exact OkN.nil _
  rw [if_neg c1]
  by_cases c2 : confB h.f1 x5 x2 = true
  · rw [if_pos c2]; exact OkN.nil _
  rw [if_neg c2]
  by_cases c3 : nameB h.f1 x5 x2 = true
  · rw [if_pos c3]; exact OkN.nil _
  rw [if_neg c3]
  by_cases c4 : fullB h.f1 x5 = true
  · rw [if_pos c4]; exact OkN.nil _
  rw [if_neg c4]
  by_cases c5 : (goneB h.f0 x2 || goneB h.f0 x3) = true
  · rw [if_pos c5]; exact OkN.nil _
  rw [if_neg c5]
  by_cases c6 : timeB h.f0 x2 x4 = true
  · rw [if_pos c6]; exact OkN.nil _
  rw [if_neg c6]
  refine ⟨okI_snoc o.o0 (by simpa using c1), okS_put o.o1 _ _, o.o2, by have := o.n0; simp; omega, ?_, o.n2⟩
  show (putS h.f1 x5 x1).length ≤ 64
  rw [putS_len]
  by_cases hh : hasS h.f1 x5 = true
  · rw [if_pos hh]; exact o.n1
  · rw [if_neg hh]
    unfold fullB at c4
    have : hasS h.f1 x5 = false := by simpa using hh
    rw [this] at c4
    simp at c4
    omega
theorem expireS_okN {n : Nat} {h : S27} (o : OkN n h) (id : Int) : OkN n (expireS h id).1 := by
  unfold expireS
  by_cases c1 : hasI h.f0 id = true
  · rw [if_pos c1]
    by_cases c2 : (h.f1.any fun r => r.f1 == id) = true
    · rw [if_pos c2]; exact OkN.nil _
    · rw [if_neg c2]
      by_cases c3 : (h.f2.any fun r => r.f1 == id) = true
      · rw [if_pos c3]; exact OkN.nil _
      · rw [if_neg c3]
        exact ⟨okI_drop o.o0 _, o.o1, o.o2, Nat.le_trans (dropI_len _ _) o.n0, o.n1, o.n2⟩
  · rw [if_neg c1]; exact OkN.nil _
theorem applyE_okN {n : Nat} {h : S27} (o : OkN n h) (x : S32) : OkN (n + 1) (applyE h x).1 := by
  unfold applyE applyS
  by_cases c0 : wfB x.f0 x.f1 x.f2 x.f3 x.f4 x.f5 = false
  · rw [if_pos c0]; exact OkN.nil _
  rw [if_neg c0]
  by_cases c1 : x.f0 = 1
  · rw [if_pos c1]; exact commitS_okN o _ _ _ _ _
  rw [if_neg c1]
  by_cases c7 : x.f0 = 7
  · rw [if_pos c7]; exact (expireS_okN o _).mono (Nat.le_succ _)
  rw [if_neg c7]
  have om := o.mono (Nat.le_succ n)
  by_cases c2 : x.f0 = 2
  · rw [if_pos c2]
    by_cases h0 : (addS h.f0 h.f1 x.f5 x.f1).2 = 0
    · rw [if_pos h0]
      obtain ⟨a, b⟩ := addS_okN (n := n) o.o1 o.n1 h0
      exact ⟨om.o0, a, om.o2, om.n0, b, om.n2⟩
    · rw [if_neg h0]; exact OkN.nil _
  rw [if_neg c2]
  by_cases c3 : x.f0 = 3
  · rw [if_pos c3]
    by_cases h0 : (addS h.f0 h.f2 x.f5 x.f1).2 = 0
    · rw [if_pos h0]
      obtain ⟨a, b⟩ := addS_okN (n := n) o.o2 o.n2 h0
      exact ⟨om.o0, om.o1, a, om.n0, om.n1, b⟩
    · rw [if_neg h0]; exact OkN.nil _
  rw [if_neg c3]
  by_cases c4 : x.f0 = 4
  · rw [if_pos c4]
    by_cases h0 : hasS h.f1 x.f5 = true
    · rw [if_pos h0]
      exact ⟨om.o0, okS_drop om.o1 _, om.o2, om.n0, Nat.le_trans (dropS_len _ _) om.n1, om.n2⟩
    · rw [if_neg h0]; exact OkN.nil _
  rw [if_neg c4]
  by_cases c5 : x.f0 = 5
  · rw [if_pos c5]
    by_cases h0 : hasS h.f2 x.f5 = true
    · rw [if_pos h0]
      exact ⟨om.o0, om.o1, okS_drop om.o2 _, om.n0, om.n1, Nat.le_trans (dropS_len _ _) om.n2⟩
    · rw [if_neg h0]; exact OkN.nil _
  rw [if_neg c5]
  by_cases c6 : x.f0 = 6
  · rw [if_pos c6]
    exact ⟨om.o0, om.o1, om.o2, om.n0, om.n1, om.n2⟩
  · rw [if_neg c6]; exact om
theorem builtS_snoc (l : List S32) (i : Nat) (h : i < l.length) : builtS (l.take (i + 1)) = if (applyE (builtS (l.take i)) l[i]).2 = 0 then (applyE (builtS (l.take i)) l[i]).1 else builtS (l.take i) := by
  unfold builtS
  rw [List.take_succ_eq_append_getElem h, List.foldl_append]; rfl
theorem builtS_okN (l : List S32) : ∀ i, i ≤ l.length → OkN i (builtS (l.take i))
  | 0, _ => OkN.nil _
  | i + 1, h => by
    have ih := builtS_okN l i (by omega)
    rw [builtS_snoc l i (by omega)]
    by_cases h0 : (applyE (builtS (l.take i)) l[i]).2 = 0
    · rw [if_pos h0]; exact applyE_okN ih _
    · rw [if_neg h0]; exact ih.mono (Nat.le_succ _)
end Go.Proofs.Ytjeoabjccbinhaa.P
