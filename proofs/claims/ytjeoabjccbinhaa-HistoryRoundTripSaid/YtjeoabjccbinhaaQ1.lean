/- The reference's IsIdent and Equal as told functions. Conditions: the hypotheses that stand at each theorem. -/
import Derived.Test.YtjeoabjccbinhaaH11
import Derived.Test.YtjeoabjccbinhaaH9
import Derived.Test.YtjeoabjccbinhaaPx10
import Derived.Test.YtjeoabjccbinhaaPx5
import Derived.Test.YtjeoabjccbinhaaPx7
import Derived.Test.YtjeoabjccbinhaaPx8
namespace Go.Proofs.Ytjeoabjccbinhaa.P
open Go.RowKit Go.Proofs.YtjeoabjccbinhaaW.PrintWords Go.Proofs.YtjeoabjccbinhaaW.PrintLast Go.Proofs.YtjeoabjccbinhaaW.PrintMore
set_option linter.unusedVariables false
set_option linter.unusedSimpArgs false
abbrev lsB (a b : ByteArray) : Bool := Op.bytesLess a.toList b.toList
theorem lsB_irrefl (a : ByteArray) : lsB a a = false := less_irrefl _
theorem lsB_ne {a b : ByteArray} (h : lsB a b = true) : a ≠ b := by rintro rfl; rw [lsB_irrefl] at h; exact absurd h (by decide)
theorem lsB_or {a b : ByteArray} (h1 : lsB a b = false) (h2 : a ≠ b) : lsB b a = true := by
  cases e : lsB b a with
  | true => rfl
  | false => exact absurd (toList_inj (less_or _ _ h1 e)) h2
theorem lsB_asymm {a b : ByteArray} (h : lsB a b = true) : lsB b a = false := less_asymm _ _ h
theorem takeWhile_split {α : Type} (q : α → Bool) : ∀ l : List α, ∃ b, l = l.takeWhile q ++ b ∧ (∀ x ∈ l.takeWhile q, q x = true) ∧ (∀ x r, b = x :: r → q x = false)
  | [] => ⟨[], rfl, by simp, by simp⟩
  | a :: l => by
    cases h : q a with
    | true =>
      obtain ⟨b, h1, h2, h3⟩ := takeWhile_split q l
      refine ⟨b, ?_, ?_, h3⟩
      · rw [List.takeWhile_cons, if_pos h, List.cons_append, ← h1]
      · rw [List.takeWhile_cons, if_pos h]; intro x hx; rcases List.mem_cons.1 hx with rfl | hx
        · exact h
        · exact h2 x hx
    | false =>
      refine ⟨a :: l, ?_, ?_, ?_⟩
      · rw [List.takeWhile_cons, if_neg (by simp [h])]; rfl
      · rw [List.takeWhile_cons, if_neg (by simp [h])]; simp
      · rintro x r e; injection e with e1 e2; subst e1; exact h
/-- A sorted list of names at a name: the lesser ones, the name itself or not, the greater ones. -/
theorem splitS {l : List S86} (ho : okS l) (s : ByteArray) : ∃ a b, l = a ++ b ∧ a.length = posS l s ∧ (∀ x ∈ a, lsB x.f0 s = true) ∧
    ((hasS l s = true ∧ ∃ v r, b = ⟨s, v⟩ :: r ∧ valS l s = v ∧ ∀ x ∈ r, lsB s x.f0 = true) ∨ (hasS l s = false ∧ valS l s = 0 ∧ ∀ x ∈ b, lsB s x.f0 = true)) := by
  obtain ⟨b, h1, h2, h3⟩ := takeWhile_split (fun r : S86 => lsB r.f0 s) l
  have hp : (l.takeWhile fun r : S86 => lsB r.f0 s).length = posS l s := rfl
  refine ⟨l.takeWhile (fun r : S86 => lsB r.f0 s), b, h1, rfl, h2, ?_⟩
  have hob : b.Pairwise (fun a b => lsB a.f0 b.f0 = true) := by
    unfold okS at ho; rw [h1] at ho; exact (List.pairwise_append.1 ho).2.1
  have hlen : l.length = posS l s + b.length := by
    have := congrArg List.length h1
    rw [List.length_append, hp] at this; exact this
  cases b with
  | nil =>
    have h0 : hasS l s = false := by unfold hasS; rw [decide_eq_false (by simp at hlen; omega)]; rfl
    exact .inr ⟨h0, by unfold valS; rw [h0]; rfl, by simp⟩
  | cons x r =>
    have hx : lsB x.f0 s = false := h3 x r rfl
    have hlt : posS l s < l.length := by simp at hlen; omega
    have hget : rd_T86 l (posS l s : Nat) = x := by
      rw [rd86_get l _ hlt]
      have : l[posS l s]? = some x := by
        rw [h1, List.getElem?_append_right (by rw [← h1, hp]; exact Nat.le_refl _)]
        rw [← h1, hp]; simp
      rw [List.getElem?_eq_getElem hlt] at this
      exact Option.some.inj this
    obtain ⟨hxr, hr⟩ := List.pairwise_cons.1 hob
    by_cases he : x.f0 = s
    · have h0 : hasS l s = true := by unfold hasS; rw [decide_eq_true hlt, hget, (cmpS_zero _ _).2 he]; rfl
      refine .inl ⟨h0, x.f1, r, ?_, ?_, ?_⟩
      · rw [← he]
      · unfold valS; rw [h0, if_pos rfl, hget]
      · intro y hy; rw [← he]; exact hxr y hy
    · have h0 : hasS l s = false := by
        unfold hasS; rw [hget]
        have : (cmpS x.f0 s == 0) = false := by simpa using fun h => he ((cmpS_zero _ _).1 h)
        rw [this]; simp
      refine .inr ⟨h0, by unfold valS; rw [h0]; rfl, ?_⟩
      have hsx : lsB s x.f0 = true := lsB_or hx he
      intro y hy
      rcases List.mem_cons.1 hy with rfl | hy
      · exact hsx
      · exact less_trans _ _ _ hsx (hxr y hy)
theorem take_of_split {α : Type} {l a b : List α} (h : l = a ++ b) {p : Nat} (hp : a.length = p) : l.take p = a ∧ l.drop p = b := by
  subst h; subst hp; simp
theorem insS_split {l a b : List S86} {s : ByteArray} {id : Int} (h : l = a ++ b) (hp : a.length = posS l s) : insS l s id = a ++ ⟨s, id⟩ :: b := by
  unfold insS; rw [(take_of_split h hp).1, (take_of_split h hp).2]
theorem dropS_split {l a r : List S86} {s : ByteArray} {v : Int} (h : l = a ++ ⟨s, v⟩ :: r) (hp : a.length = posS l s) : dropS l s = a ++ r := by
  unfold dropS; rw [(take_of_split h hp).1, ← List.drop_drop, (take_of_split h hp).2]; rfl
theorem setS_split {l a r : List S86} {s : ByteArray} {v : Int} {id : Int} (h : l = a ++ ⟨s, v⟩ :: r) (hp : a.length = posS l s) : l.set (posS l s) ⟨s, id⟩ = a ++ ⟨s, id⟩ :: r := by
  rw [← hp, h]; simp
/-- The same list, a name put in, is sorted. -/
theorem okS_parts {a b : List S86} {s : ByteArray} {v : Int} (hab : okS (a ++ b)) (ha : ∀ x ∈ a, lsB x.f0 s = true) (hb : ∀ x ∈ b, lsB s x.f0 = true) : okS (a ++ ⟨s, v⟩ :: b) := by
  unfold okS at *
  obtain ⟨h1, h2, h3⟩ := List.pairwise_append.1 hab
  refine List.pairwise_append.2 ⟨h1, List.pairwise_cons.2 ⟨hb, h2⟩, ?_⟩
  intro x hx y hy
  rcases List.mem_cons.1 hy with rfl | hy
  · exact ha x hx
  · exact h3 x hx y hy
theorem okS_sub {l l' : List S86} (h : okS l) (hs : l'.Sublist l) : okS l' := List.Pairwise.sublist hs h
theorem okS_put {l : List S86} (ho : okS l) (s : ByteArray) (id : Int) : okS (putS l s id) := by
  obtain ⟨a, b, rfl, hp, ha, ⟨hh, v, r, rfl, hv, hr⟩ | ⟨hh, hv, hb⟩⟩ := splitS ho s
  · unfold putS
    rw [if_pos hh, setS_split rfl hp]
    exact okS_parts (okS_sub ho (List.Sublist.append (List.Sublist.refl a) (List.sublist_cons_self _ _))) ha hr
  · unfold putS
    rw [if_neg (by rw [hh]; decide), insS_split rfl hp]
    exact okS_parts ho ha hb
theorem okS_drop {l : List S86} (ho : okS l) (s : ByteArray) : okS (dropS l s) := by
  refine okS_sub ho ?_
  unfold dropS
  conv => rhs; rw [← List.take_append_drop (posS l s) l]
  exact List.Sublist.append (List.Sublist.refl _) (by rw [← List.drop_drop]; exact List.drop_sublist _ _)
/-- A sorted list of commits at an ID. -/
theorem splitI {l : List S41} (ho : okI l) (s : Int) : ∃ a b, l = a ++ b ∧ a.length = posI l s ∧ (∀ x ∈ a, x.f0 < s) ∧
    ((hasI l s = true ∧ ∃ v r, b = v :: r ∧ v.f0 = s ∧ nodeI l s = v ∧ ∀ x ∈ r, s < x.f0) ∨ (hasI l s = false ∧ nodeI l s = z41 ∧ ∀ x ∈ b, s < x.f0)) := by
  obtain ⟨b, h1, h2, h3⟩ := takeWhile_split (fun r : S41 => decide (r.f0 < s)) l
  have hp : (l.takeWhile fun r : S41 => decide (r.f0 < s)).length = posI l s := rfl
  refine ⟨l.takeWhile (fun r : S41 => decide (r.f0 < s)), b, h1, rfl, fun x hx => by simpa using h2 x hx, ?_⟩
  have hob : b.Pairwise (fun a b => a.f0 < b.f0) := by
    unfold okI at ho; rw [h1] at ho; exact (List.pairwise_append.1 ho).2.1
  have hlen : l.length = posI l s + b.length := by
    have := congrArg List.length h1
    rw [List.length_append, hp] at this; exact this
  cases b with
  | nil =>
    have h0 : hasI l s = false := by unfold hasI; rw [decide_eq_false (by simp at hlen; omega)]; rfl
    exact .inr ⟨h0, by unfold nodeI; rw [h0]; rfl, by simp⟩
  | cons x r =>
    have hx : decide (x.f0 < s) = false := h3 x r rfl
    have hx : ¬ x.f0 < s := by simpa using hx
    have hlt : posI l s < l.length := by simp at hlen; omega
    have hget : rd_T41 l (posI l s : Nat) = x := by
      rw [rd41_get l _ hlt]
      have : l[posI l s]? = some x := by
        rw [h1, List.getElem?_append_right (by rw [← h1, hp]; exact Nat.le_refl _)]
        rw [← h1, hp]; simp
      rw [List.getElem?_eq_getElem hlt] at this
      exact Option.some.inj this
    obtain ⟨hxr, hr⟩ := List.pairwise_cons.1 hob
    by_cases he : x.f0 = s
    · have h0 : hasI l s = true := by unfold hasI; rw [decide_eq_true hlt, hget, (cmpI_zero _ _).2 he]; rfl
      refine .inl ⟨h0, x, r, rfl, he, ?_, ?_⟩
      · unfold nodeI; rw [h0, if_pos rfl, hget]
      · intro y hy; rw [← he]; exact hxr y hy
    · have h0 : hasI l s = false := by
        unfold hasI; rw [hget]
        have : (cmpI x.f0 s == 0) = false := by simpa using fun h => he ((cmpI_zero _ _).1 h)
        rw [this]; simp
      refine .inr ⟨h0, by unfold nodeI; rw [h0]; rfl, ?_⟩
      intro y hy
      rcases List.mem_cons.1 hy with rfl | hy
      · omega
      · have := hxr y hy; omega
theorem dropI_split {l a r : List S41} {v : S41} {s : Int} (h : l = a ++ v :: r) (hp : a.length = posI l s) : dropI l s = a ++ r := by
  unfold dropI; rw [(take_of_split h hp).1, ← List.drop_drop, (take_of_split h hp).2]; rfl
theorem okI_sub {l l' : List S41} (h : okI l) (hs : l'.Sublist l) : okI l' := List.Pairwise.sublist hs h
theorem okI_drop {l : List S41} (ho : okI l) (s : Int) : okI (dropI l s) := by
  refine okI_sub ho ?_
  unfold dropI
  conv => rhs; rw [← List.take_append_drop (posI l s) l]
  exact List.Sublist.append (List.Sublist.refl _) (by rw [← List.drop_drop]; exact List.drop_sublist _ _)
/-! ### the reference's loops -/
theorem wrap_succ (i : Nat) (h : i ≤ 1000000) : wrap64 ((i : Int) + 1) = ((i + 1 : Nat) : Int) := by unfold wrap64; omega
theorem mem_drop_get {α : Type} {l : List α} {i : Nat} (h : i < l.length) : l.drop i = l[i] :: l.drop (i + 1) := List.drop_eq_getElem_cons h
theorem ref_l0 (l : List S86) (s : ByteArray) (hn : l.length ≤ 1000) : ∀ (d i k : Nat), i + d = l.length → d < k →
    laminaref25_ref.l0 k l s i = some (match (l.drop i).find? (fun r => decide (r.f0 = s)) with | some r => (r.f1, true) | none => (0, false)) := by
  intro d
  induction d with
  | zero =>
    intro i k hi hk
    obtain ⟨k, rfl⟩ : ∃ m, k = m + 1 := ⟨k - 1, by omega⟩
    simp only [laminaref25_ref.l0]
    rw [if_neg (by omega), List.drop_of_length_le (by omega)]; rfl
  | succ d ih =>
    intro i k hi hk
    obtain ⟨k, rfl⟩ : ∃ m, k = m + 1 := ⟨k - 1, by omega⟩
    simp only [laminaref25_ref.l0]
    have hl : i < l.length := by omega
    rw [if_pos (by omega), if_pos (by omega), mem_drop_get hl, rd86_get l i hl]
    by_cases he : l[i].f0 = s
    · rw [if_pos (by rw [he]), List.find?_cons_of_pos (by simpa using he)]
    · rw [if_neg (fun h => he (toList_inj h)), wrap_succ i (by omega), ih (i + 1) k (by omega) (by omega), List.find?_cons_of_neg (by simpa using he)]
theorem find_S {l : List S86} (ho : okS l) (s : ByteArray) : (match l.find? (fun r => decide (r.f0 = s)) with | some r => (r.f1, true) | none => ((0 : Int), false)) = (valS l s, hasS l s) := by
  obtain ⟨a, b, hl, hp, ha, h⟩ := splitS ho s
  have hna : a.find? (fun r => decide (r.f0 = s)) = none := by
    rw [List.find?_eq_none]; intro x hx; simpa using lsB_ne (ha x hx)
  rcases h with ⟨hh, v, r, rfl, hv, hr⟩ | ⟨hh, hv, hb⟩
  · rw [hh, hv, hl, List.find?_append, hna]; simp
  · have hnb : b.find? (fun r => decide (r.f0 = s)) = none := by
      rw [List.find?_eq_none]; intro x hx; simpa using (lsB_ne (hb x hx)).symm
    rw [hh, hv, hl, List.find?_append, hna, hnb]; rfl
theorem ref_is {l : List S86} (ho : okS l) (hn : l.length ≤ 1000) (s : ByteArray) (k : Nat) (hk : 1000 < k) : laminaref25_ref.f k l s = some (valS l s, hasS l s) := by
  unfold laminaref25_ref.f
  have := ref_l0 l s hn l.length 0 k (by omega) (by omega)
  rw [List.drop_zero, find_S ho s] at this
  exact this
theorem Find_l0 (l : List S41) (l1 l2 : List S86) (r : Int) (s : Int) (hn : l.length ≤ 1000) : ∀ (d i k : Nat), i + d = l.length → d < k →
    laminaref25_Find.l0 k s i l l1 l2 r = some (match (l.drop i).find? (fun r => decide (r.f0 = s)) with | some r => (r.f0, r.f1, r.f2, r.f3, true) | none => (0, 0, 0, 0, false)) := by
  intro d
  induction d with
  | zero =>
    intro i k hi hk
    obtain ⟨k, rfl⟩ : ∃ m, k = m + 1 := ⟨k - 1, by omega⟩
    simp only [laminaref25_Find.l0]
    rw [if_neg (by omega), List.drop_of_length_le (by omega)]; rfl
  | succ d ih =>
    intro i k hi hk
    obtain ⟨k, rfl⟩ : ∃ m, k = m + 1 := ⟨k - 1, by omega⟩
    simp only [laminaref25_Find.l0]
    have hl : i < l.length := by omega
    rw [if_pos (by omega), if_pos (by omega), mem_drop_get hl, rd41_get l i hl]
    by_cases he : l[i].f0 = s
    · rw [if_pos he, List.find?_cons_of_pos (by simpa using he)]
    · rw [if_neg he, wrap_succ i (by omega), ih (i + 1) k (by omega) (by omega), List.find?_cons_of_neg (by simpa using he)]
theorem Find_is {l : List S41} {l1 l2 : List S86} {r : Int} (ho : okI l) (hn : l.length ≤ 1000) (s : Int) (k : Nat) (hk : 1000 < k) : laminaref25_Find.f k l l1 l2 r s = some ((nodeI l s).f0, (nodeI l s).f1, (nodeI l s).f2, (nodeI l s).f3, hasI l s) := by
  unfold laminaref25_Find.f
  have := Find_l0 l l1 l2 r s hn l.length 0 k (by omega) (by omega)
  rw [List.drop_zero] at this
  refine this.trans ?_
  congr 1
  obtain ⟨a, b, hl, hp, ha, h⟩ := splitI ho s
  have hna : a.find? (fun r => decide (r.f0 = s)) = none := by
    rw [List.find?_eq_none]; intro x hx; have := ha x hx; simp; omega
  rcases h with ⟨hh, v, r, rfl, hv0, hv, hr⟩ | ⟨hh, hv, hb⟩
  · rw [hh, hv, hl, List.find?_append, hna]; simp [hv0]
  · have hnb : b.find? (fun r => decide (r.f0 = s)) = none := by
      rw [List.find?_eq_none]; intro x hx; have := hb x hx; simp; omega
    rw [hh, hv, hl, List.find?_append, hna, hnb]; rfl
theorem there_is {l : List S41} {l1 l2 : List S86} {r : Int} (ho : okI l) (hn : l.length ≤ 1000) (s : Int) (k : Nat) (hk : 1000 < k) : laminaref25_there.f k l l1 l2 r s = some (hasI l s) := by
  unfold laminaref25_there.f; rw [Find_is ho hn s k hk]; rfl
theorem without_l0 (l : List S86) (s : ByteArray) (hn : l.length ≤ 1000) : ∀ (d i k : Nat) (acc : List S86), i + d = l.length → d < k → acc.length + d ≤ 1000 →
    laminaref25_without.l0 k l s acc i = some (acc ++ (l.drop i).filter (fun r => !decide (r.f0 = s))) := by
  intro d
  induction d with
  | zero =>
    intro i k acc hi hk ha
    obtain ⟨k, rfl⟩ : ∃ m, k = m + 1 := ⟨k - 1, by omega⟩
    simp only [laminaref25_without.l0]
    rw [if_neg (by omega), List.drop_of_length_le (by omega)]; simp
  | succ d ih =>
    intro i k acc hi hk ha
    obtain ⟨k, rfl⟩ : ∃ m, k = m + 1 := ⟨k - 1, by omega⟩
    simp only [laminaref25_without.l0]
    have hl : i < l.length := by omega
    rw [if_pos (by omega), if_pos (by omega), mem_drop_get hl, rd86_get l i hl]
    by_cases he : l[i].f0 = s
    · rw [if_pos (by rw [he]), wrap_succ i (by omega), ih (i + 1) k acc (by omega) (by omega) (by omega), List.filter_cons_of_neg (by simpa using he)]
    · rw [if_neg (fun h => he (toList_inj h)), if_pos (by omega), wrap_succ i (by omega), ih (i + 1) k _ (by omega) (by omega) (by simp; omega), List.filter_cons_of_pos (by simpa using he)]
      simp
/-- The list without a name, in parts. -/
theorem filter_S {l : List S86} (ho : okS l) (s : ByteArray) : l.filter (fun r => !decide (r.f0 = s)) = if hasS l s = true then dropS l s else l := by
  obtain ⟨a, b, hl, hp, ha, h⟩ := splitS ho s
  have hna : a.filter (fun r => !decide (r.f0 = s)) = a := by
    rw [List.filter_eq_self]; intro x hx; simpa using lsB_ne (ha x hx)
  rcases h with ⟨hh, v, r, rfl, hv, hr⟩ | ⟨hh, hv, hb⟩
  · have hnr : r.filter (fun r => !decide (r.f0 = s)) = r := by
      rw [List.filter_eq_self]; intro x hx; simpa using (lsB_ne (hr x hx)).symm
    rw [if_pos hh, dropS_split hl hp, hl, List.filter_append, hna, List.filter_cons_of_neg (by simp), hnr]
  · have hnb : b.filter (fun r => !decide (r.f0 = s)) = b := by
      rw [List.filter_eq_self]; intro x hx; simpa using (lsB_ne (hb x hx)).symm
    rw [if_neg (by rw [hh]; decide), hl, List.filter_append, hna, hnb]
theorem without_is {l : List S86} (ho : okS l) (hn : l.length ≤ 1000) (s : ByteArray) (k : Nat) (hk : 1000 < k) : laminaref25_without.f k l s = some (if hasS l s = true then dropS l s else l) := by
  unfold laminaref25_without.f
  have := without_l0 l s hn l.length 0 k [] (by omega) (by omega) (by simpa using hn)
  rw [List.drop_zero, filter_S ho s] at this
  exact this
def insW (s : ByteArray) (id : Int) : List S86 → List S86
  | [] => [⟨s, id⟩]
  | x :: xs => if lsB s x.f0 = true then ⟨s, id⟩ :: x :: xs else x :: insW s id xs
theorem with_l0 (l : List S86) (s : ByteArray) (id : Int) (hn : l.length ≤ 1000) : ∀ (d i k : Nat) (acc : List S86), i + d = l.length → d < k →
    (acc.length + d ≤ 3000 → laminaref25_with.l0 k l s id acc true i = some (acc ++ l.drop i)) ∧ (acc.length + d ≤ 2000 → laminaref25_with.l0 k l s id acc false i = some (acc ++ insW s id (l.drop i))) := by
  intro d
  induction d with
  | zero =>
    intro i k acc hi hk
    obtain ⟨k, rfl⟩ : ∃ m, k = m + 1 := ⟨k - 1, by omega⟩
    simp only [laminaref25_with.l0]
    rw [if_neg (by omega), if_pos (by simp), if_neg (by omega), if_neg (by simp), List.drop_of_length_le (by omega)]
    refine ⟨fun ha => by simp, fun ha => ?_⟩
    rw [if_pos (by omega)]
    rfl
  | succ d ih =>
    intro i k acc hi hk
    obtain ⟨k, rfl⟩ : ∃ m, k = m + 1 := ⟨k - 1, by omega⟩
    simp only [laminaref25_with.l0]
    have hl : i < l.length := by omega
    refine ⟨fun ha => ?_, fun ha => ?_⟩
    · rw [if_pos (by omega), if_pos (by simp), if_pos (by omega), if_pos (by omega), mem_drop_get hl, rd86_get l i hl, wrap_succ i (by omega), (ih (i + 1) k _ (by omega) (by omega)).1 (by simp; omega)]
      rw [List.append_assoc]; rfl
    · rw [if_pos (by omega), if_neg (by simp), if_pos (by omega), mem_drop_get hl, rd86_get l i hl, wrap_succ i (by omega)]
      by_cases he : lsB s l[i].f0 = true
      · have he' : Op.bytesLess s.toList l[i].f0.toList = true := he
        rw [if_pos he', if_pos (by omega)]
        simp only [Option.bind_some]
        rw [if_pos (by simp; omega), (ih (i + 1) k _ (by omega) (by omega)).1 (by simp; omega)]
        simp only [insW, he, if_true]
        rw [List.append_assoc, List.append_assoc]; rfl
      · have he' : ¬ Op.bytesLess s.toList l[i].f0.toList = true := he
        rw [if_neg he', if_pos (by omega), (ih (i + 1) k _ (by omega) (by omega)).2 (by simp; omega)]
        simp only [insW]
        rw [if_neg he, List.append_assoc]; rfl
theorem insW_parts {s : ByteArray} {id : Int} : ∀ {a b : List S86}, (∀ x ∈ a, lsB x.f0 s = true) → (∀ x ∈ b, lsB s x.f0 = true) → insW s id (a ++ b) = a ++ ⟨s, id⟩ :: b
  | [], [], _, _ => rfl
  | [], x :: b, _, hb => by simp only [List.nil_append, insW]; rw [if_pos (hb x List.mem_cons_self)]
  | x :: a, b, ha, hb => by
    simp only [List.cons_append, insW]
    rw [if_neg (by rw [lsB_asymm (ha x List.mem_cons_self)]; decide), insW_parts (fun y hy => ha y (List.mem_cons_of_mem _ hy)) hb]
theorem with_is {l : List S86} (ho : okS l) (hn : l.length ≤ 1000) (s : ByteArray) (id : Int) (k : Nat) (hk : 1000 < k) : laminaref25_with.f k l s id = some (putS l s id) := by
  unfold laminaref25_with.f
  rw [without_is ho hn s k hk]
  simp only [Option.bind_some]
  obtain ⟨a, b, hl, hp, ha, h⟩ := splitS ho s
  unfold putS
  rcases h with ⟨hh, v, r, rfl, hv, hr⟩ | ⟨hh, hv, hb⟩
  · rw [if_pos hh, if_pos hh, setS_split hl hp, dropS_split hl hp]
    have hlen : (a ++ r).length ≤ 1000 := by rw [hl] at hn; simp at hn ⊢; omega
    have := (with_l0 (a ++ r) s id hlen (a ++ r).length 0 k [] (by omega) (by omega)).2 (by simp at hlen ⊢; omega)
    rw [List.drop_zero, insW_parts ha hr] at this
    exact this
  · rw [if_neg (by rw [hh]; decide), if_neg (by rw [hh]; decide), insS_split hl hp]
    have := (with_l0 l s id hn l.length 0 k [] (by omega) (by omega)).2 (by simp; omega)
    rw [List.drop_zero, hl, insW_parts ha hb, ← hl] at this
    exact this
theorem create_is {l0 : List S41} {l1 l2 : List S86} {r : Int} {l : List S86} (h0 : okI l0) (n0 : l0.length ≤ 1000) (ho : okS l) (hn : l.length ≤ 1000) (x0 x1 x2 x3 x4 : Int) (x5 : ByteArray) (k : Nat) (hk : 1000 < k) :
    laminaref25_create.f k l0 l1 l2 r l x0 x1 x2 x3 x4 x5 = some (addS l0 l x5 x1).2 := by
  unfold laminaref25_create.f addS
  rw [ref_is ho hn x5 k hk]
  simp only [Option.bind_some]
  cases hh : hasS l x5 with
  | true => rfl
  | false =>
    simp only [Bool.false_eq_true, if_false]
    rw [there_is h0 n0 x1 k hk]
    simp only [Option.bind_some]
    cases hi : hasI l0 x1 with
    | true =>
      simp only [if_true]
      by_cases h : 64 ≤ l.length
      · rw [if_pos (by omega), if_pos h]
      · rw [if_neg (by omega), if_neg h]
    | false => rfl
end Go.Proofs.Ytjeoabjccbinhaa.P

namespace Go.Proofs.Ytjeoabjccbinhaa.P
open Go.RowKit Go.Proofs.YtjeoabjccbinhaaW.PrintWords Go.Proofs.YtjeoabjccbinhaaW.PrintLast Go.Proofs.YtjeoabjccbinhaaW.PrintMore
set_option linter.unusedVariables false
set_option linter.unusedSimpArgs false
theorem ident_l0 (s : ByteArray) (hn : s.size ≤ 1000) : ∀ (d i k : Nat), i + d = s.size → d < k →
    laminaref05_IsIdent.l0 k s i = some ((s.data.toList.drop i).all fun c => okc c.toNat) := by
  intro d
  induction d with
  | zero =>
    intro i k hi hk
    obtain ⟨k, rfl⟩ : ∃ m, k = m + 1 := ⟨k - 1, by omega⟩
    simp only [laminaref05_IsIdent.l0]
    rw [if_neg (by omega), List.drop_of_length_le (by simp; omega)]; rfl
  | succ d ih =>
    intro i k hi hk
    obtain ⟨k, rfl⟩ : ∃ m, k = m + 1 := ⟨k - 1, by omega⟩
    simp only [laminaref05_IsIdent.l0]
    have hl : i < s.size := by omega
    have hl2 : i < s.data.toList.length := by simpa using hl
    have hb : bt s i = ((s.data.toList[i].toNat : Nat) : Int) := by
      unfold bt; simp [hl]; rfl
    rw [if_pos (by omega), if_pos (by omega), mem_drop_get hl2, List.all_cons, hb, wrap_succ i (by omega), ih (i + 1) k (by omega) (by omega)]
    generalize s.data.toList[i].toNat = n
    unfold laminaref05_letter.f laminaref05_digit.f okc
    by_cases h97 : 97 ≤ n
    · rw [if_pos (by omega)]
      simp only [Option.bind_some]
      by_cases h122 : n ≤ 122
      · rw [if_pos (by simpa using by omega)]
        have : (decide (97 ≤ n) && decide (n ≤ 122) || decide (48 ≤ n) && decide (n ≤ 57) || n == 95) = true := by simp [h97, h122]
        rw [this, Bool.true_and]
      · rw [if_neg (by simp; omega), if_pos (by omega)]
        simp only [Option.bind_some]
        rw [if_neg (by simp; omega), if_neg (by omega)]
        have : (decide (97 ≤ n) && decide (n ≤ 122) || decide (48 ≤ n) && decide (n ≤ 57) || n == 95) = false := by simp; omega
        rw [this, Bool.false_and]
    · rw [if_neg (by omega)]
      simp only [Option.bind_some]
      rw [if_neg (by decide)]
      by_cases h48 : 48 ≤ n
      · rw [if_pos (by omega)]
        simp only [Option.bind_some]
        by_cases h57 : n ≤ 57
        · rw [if_pos (by simpa using by omega)]
          have : (decide (97 ≤ n) && decide (n ≤ 122) || decide (48 ≤ n) && decide (n ≤ 57) || n == 95) = true := by simp [h48, h57]
          rw [this, Bool.true_and]
        · rw [if_neg (by simp; omega)]
          by_cases h95 : n = 95
          · rw [if_pos (by omega)]; subst h95; rfl
          · rw [if_neg (by omega)]
            have : (decide (97 ≤ n) && decide (n ≤ 122) || decide (48 ≤ n) && decide (n ≤ 57) || n == 95) = false := by simp; omega
            rw [this, Bool.false_and]
      · rw [if_neg (by omega)]
        simp only [Option.bind_some]
        rw [if_neg (by decide), if_neg (by omega)]
        have : (decide (97 ≤ n) && decide (n ≤ 122) || decide (48 ≤ n) && decide (n ≤ 57) || n == 95) = false := by simp; omega
        rw [this, Bool.false_and]
theorem IsIdent_is (s : ByteArray) (k : Nat) (hk : 100 < k) : laminaref05_IsIdent.f k s = some (identB s) := by
  obtain ⟨k, rfl⟩ : ∃ m, k = m + 1 := ⟨k - 1, by omega⟩
  unfold laminaref05_IsIdent.f identB
  by_cases h0 : s.size < 1
  · rw [if_pos (by omega), decide_eq_false (show ¬ 0 < s.size by omega)]; rfl
  · rw [if_neg (by omega), decide_eq_true (show 0 < s.size by omega)]
    by_cases h1 : 32 < s.size
    · rw [if_pos (by omega), decide_eq_false (show ¬ s.size ≤ 32 by omega)]; rfl
    · rw [if_neg (by omega), if_pos (by omega), decide_eq_true (show s.size ≤ 32 by omega)]
      have hp : 0 < s.size := by omega
      have hl2 : 0 < s.data.toList.length := by simpa using hp
      have hb : bt s 0 = ((s.data.toList[0].toNat : Nat) : Int) := by
        unfold bt; simp [hp]; rfl
      unfold laminaref05_letter.f
      by_cases h97 : bt s 0 ≥ 97
      · rw [if_pos h97, decide_eq_true (show (97 : Int) ≤ bt s 0 from h97)]
        simp only [Option.bind_some, laminaref05_IsIdent.j0, Bool.true_and]
        by_cases h122 : bt s 0 ≤ 122
        · rw [decide_eq_true h122, if_neg (by decide)]
          have h_ := ident_l0 s (by omega) (s.size - 1) 1 k (by omega) (by omega)
          rw [Bool.true_and]
          refine h_.trans ?_
          have hd : s.data.toList = s.data.toList[0] :: s.data.toList.drop 1 := by simpa using mem_drop_get hl2
          have hok : okc s.data.toList[0].toNat = true := by
            rw [hb] at h97 h122
            generalize s.data.toList[0].toNat = n at h97 h122
            unfold okc; simp; omega
          conv => rhs; rw [hd, List.all_cons, hok, Bool.true_and]
        · rw [decide_eq_false h122, if_pos (by decide), Bool.false_and]
      · rw [if_neg h97, decide_eq_false (show ¬ (97 : Int) ≤ bt s 0 from h97)]
        simp only [Option.bind_some, laminaref05_IsIdent.j0]
        rfl
theorem toList_nil {s : ByteArray} : (s.toList = ([] : List UInt8)) ↔ s.toList.isEmpty = true := by rw [List.isEmpty_iff]
theorem refs_l0 (a : List S86) (hn : a.length ≤ 1000) : ∀ (d i k : Nat), i + d = a.length → d < k → laminaref25_refs.l0 k a a i = some true := by
  intro d
  induction d with
  | zero =>
    intro i k hi hk
    obtain ⟨k, rfl⟩ : ∃ m, k = m + 1 := ⟨k - 1, by omega⟩
    simp only [laminaref25_refs.l0]
    rw [if_neg (by omega)]
  | succ d ih =>
    intro i k hi hk
    obtain ⟨k, rfl⟩ : ∃ m, k = m + 1 := ⟨k - 1, by omega⟩
    simp only [laminaref25_refs.l0]
    rw [if_pos (by omega), if_pos (by omega), if_pos (by omega), if_neg (by simp), wrap_succ i (by omega), ih (i + 1) k (by omega) (by omega)]
theorem refs_is (a : List S86) (hn : a.length ≤ 1000) (k : Nat) (hk : 1000 < k) : laminaref25_refs.f k a a = some true := by
  unfold laminaref25_refs.f
  rw [if_pos rfl]
  exact refs_l0 a hn a.length 0 k (by omega) (by omega)
theorem Equal_l0 (a : List S41) (b c : List S86) (r : Int) (hn : a.length ≤ 1000) : ∀ (d i k : Nat), i + d = a.length → d < k → laminaref25_Equal.l0 k i a b c r a b c r = some true := by
  intro d
  induction d with
  | zero =>
    intro i k hi hk
    obtain ⟨k, rfl⟩ : ∃ m, k = m + 1 := ⟨k - 1, by omega⟩
    simp only [laminaref25_Equal.l0]
    rw [if_neg (by omega)]
  | succ d ih =>
    intro i k hi hk
    obtain ⟨k, rfl⟩ : ∃ m, k = m + 1 := ⟨k - 1, by omega⟩
    simp only [laminaref25_Equal.l0]
    rw [if_pos (by omega), if_pos (by omega), if_pos (by omega), if_neg (by simp), wrap_succ i (by omega), ih (i + 1) k (by omega) (by omega)]
theorem Equal_is (a : List S41) (b c : List S86) (r : Int) (hn : a.length ≤ 1000) (hb : b.length ≤ 1000) (hc : c.length ≤ 1000) (k : Nat) (hk : 1001 < k) : laminaref25_Equal.f k a b c r a b c r = some true := by
  obtain ⟨k, rfl⟩ : ∃ m, k = m + 1 := ⟨k - 1, by omega⟩
  unfold laminaref25_Equal.f
  rw [if_pos rfl, if_pos rfl, refs_is b hb _ (by omega)]
  simp only [Option.bind_some]
  simp only [if_true]
  rw [refs_is c hc _ (by omega)]
  simp only [Option.bind_some, laminaref25_Equal.j0]
  rw [if_neg (by decide)]
  exact Equal_l0 a b c r hn a.length 0 k (by omega) (by omega)
end Go.Proofs.Ytjeoabjccbinhaa.P
