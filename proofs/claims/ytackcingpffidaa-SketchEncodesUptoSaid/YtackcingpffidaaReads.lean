/- How an argument that reads as data meets the print's kinds: whatever reads as data of a Go type reads as a Lean value of its kind, and its numbers fit, its strings and slices are no longer than the reach. -/
import Derived.Test.YtackcingpffidaaWWords
import Derived.SizedLaws
import Derived.ChangeSlices
import Derived.Deep.Slices
import Derived.ChangeSame
namespace Go.Proofs.Ytackcingpffidaa.Reads
open Go.ChangeShapes Go.WideShapes Go.Proofs.YtackcingpffidaaW.PrintWords

/-- What reads as data of type t reads as a value of the kind d, and the value is good. -/
structure Rd {α : Type} (d : Kd α) (P : Program) (t : TypeId) (good : α → Prop) : Prop where
  size : d.sz = P.cellsOf t
  read : ∀ {H : Type} {enc : TypeId × Value → H} {W : World} {base : Nat} {spare : Nat → Bool} {held : Bool} {fuel : Nat} {cs : List Value} {x : DataW H × List MemPlace},
    DataW.trod enc P W base spare held fuel t cs = some x → (∀ n ∈ x.1.weights P t, n ≤ reachBytes) → ∃ a : α, d.K W a cs ∧ good a

theorem Rd.imp {α : Type} {d : Kd α} {P : Program} {t : TypeId} {good good' : α → Prop} (h : Rd d P t good) (hi : ∀ a, good a → good' a) : Rd d P t good' :=
  ⟨h.size, fun ht hw => by obtain ⟨a, ha, hg⟩ := h.read ht hw; exact ⟨a, ha, hi a hg⟩⟩

theorem Rd.int {P : Program} {t : TypeId} {k : IntKind} (ht : P.underlying t = some (.int k)) (hc : P.cellsOf t = 1) : Rd (Kd.int k) P t (fun n => (Lit.int k n).wf = true) :=
  ⟨hc.symm, fun h _ => by
    obtain ⟨n, rfl, rfl, hn⟩ := DataW.trod_int ht h
    exact ⟨n, rfl, hn⟩⟩

theorem Rd.bool {P : Program} {t : TypeId} (ht : P.underlying t = some .bool) (hc : P.cellsOf t = 1) : Rd Kd.bool P t (fun _ => True) :=
  ⟨hc.symm, fun h _ => by
    obtain ⟨n, rfl, rfl⟩ := DataW.trod_bool ht h
    exact ⟨n, rfl, trivial⟩⟩

theorem Rd.string {P : Program} {t : TypeId} (ht : P.underlying t = some .string) (hc : P.cellsOf t = 1) : Rd Kd.string P t (fun s => s.size ≤ 140737488351232) :=
  ⟨hc.symm, fun h hw => by
    obtain ⟨s, rfl, rfl, hn⟩ := DataW.trod_string ht h
    refine ⟨s, rfl, ?_⟩
    have := hw s.data.toList.length (by simp [DataW.weights])
    simpa [reachBytes] using this⟩

theorem weightsAll_mem {H : Type} {P : Program} {e : TypeId} : ∀ {ds : List (DataW H)} {d : DataW H}, d ∈ ds → ∀ n ∈ d.weights P e, n ∈ DataW.weightsAll P e ds
  | d0 :: ds, d, hd, n, hn => by
    simp only [DataW.weightsAll, List.mem_append]
    rcases List.mem_cons.1 hd with rfl | hd
    · exact Or.inl hn
    · exact Or.inr (weightsAll_mem hd n hn)
  | [], _, hd, _, _ => by simp at hd

theorem Rd.slice {α : Type} {d : Kd α} {P : Program} {t e : TypeId} {good : α → Prop} (h : Rd d P e good) (ht : P.underlying t = some (.slice e)) (hc : P.cellsOf t = 1) {B : Nat} (hB : P.bytesOf e = B) :
    Rd (Kd.slice e d) P t (fun l => l.length * B ≤ 140737488351232 ∧ ∀ x ∈ l, good x) :=
  ⟨hc.symm, fun {H enc W base spare held fuel cs x} hx hw => by
    rcases Go.Deep.open_slice ht hx with ⟨rfl, rfl⟩ | ⟨a, len, cap, m, n, D, Pl, rfl, hb, hl, hm, hmm, rfl, hi⟩
    · exact ⟨[], ⟨none, 0, rfl, Nat.le_refl _, rfl, by simp, fun h => absurd h (Nat.lt_irrefl _)⟩, by simp, by simp⟩
    · have hlm : len ≤ m := by rw [hmm]; split <;> omega
      have hone : ∀ i, i < len → ∃ y : α, good y ∧ ∃ c, d.K W y c ∧ W.cells? base (a.add (i * P.cellsOf e)) (P.cellsOf e) = some c := by
        intro i hil
        obtain ⟨cs', h1, h2⟩ := hi i (Nat.lt_of_lt_of_le hil hlm)
        obtain ⟨y, hy, hg⟩ := h.read h2 (fun k hk => hw k (by
          simp only [DataW.weights, ht, List.mem_cons, List.mem_append]
          exact Or.inr (Or.inl (weightsAll_mem (List.mem_map.2 ⟨i, List.mem_range.2 hil, rfl⟩) k hk))))
        exact ⟨y, hg, cs', hy, h1⟩
      have hlist : ∀ k, k ≤ len → ∃ l : List α, l.length = k ∧ (∀ x ∈ l, good x) ∧ ∀ (j : Nat) (y : α), l[j]? = some y → ∃ c, d.K W y c ∧ W.cells? base (a.add (j * P.cellsOf e)) (P.cellsOf e) = some c := by
        intro k
        induction k with
        | zero => exact fun _ => ⟨[], rfl, by simp, by simp⟩
        | succ k ih =>
          intro hk
          obtain ⟨l, h1, h2, h3⟩ := ih (by omega)
          obtain ⟨y, hy, hc⟩ := hone k (by omega)
          refine ⟨l ++ [y], by simp [h1], ?_, ?_⟩
          · intro x hx
            rcases List.mem_append.1 hx with hx | hx
            · exact h2 x hx
            · rw [List.mem_singleton.1 hx]; exact hy
          · intro j z hz
            by_cases hj : j < k
            · rw [List.getElem?_append_left (by omega)] at hz
              exact h3 j z hz
            · by_cases hjk : j = k
              · subst hjk
                rw [List.getElem?_append_right (by omega), h1, Nat.sub_self] at hz
                simp only [List.getElem?_cons_zero, Option.some.injEq] at hz
                subst hz
                exact hc
              · rw [List.getElem?_append_right (by omega), h1] at hz
                rw [List.getElem?_eq_none (by simp; omega)] at hz
                exact absurd hz (by simp)
      obtain ⟨l, h1, h2, h3⟩ := hlist len (Nat.le_refl _)
      have hmax : cap ≤ 9223372036854775807 := by unfold maxLen at hm; omega
      refine ⟨l, ⟨some a, cap, by rw [h1], by omega, rfl, by omega, fun _ => ⟨a, rfl, fun j p hp => ?_⟩⟩, ?_, h2⟩
      · obtain ⟨c, hk, hcs⟩ := h3 j p hp
        obtain ⟨_, hlen, hcell⟩ := World.cells?_some hcs
        refine ⟨c, by rw [hlen, h.size], hk, fun i u hu => ?_⟩
        have hil : i < P.cellsOf e := by rw [← hlen]; exact (List.getElem?_eq_some_iff.1 hu).1
        rw [h.size, ← Go.Deep.add_add, hcell i hil]
        exact hu
      · have hz := hw ((((List.range len).map D).length + ((List.range (m - len)).map fun j => D (len + j)).length) * P.bytesOf e) (by simp [DataW.weights, ht])
        rw [hB] at hz
        rw [h1]
        refine Nat.le_trans (Nat.mul_le_mul_right _ ?_) (show _ ≤ reachBytes from hz)
        simp⟩

/-- The fields of a struct, in line: what the cells from 'off' on say. -/
structure RdF {α : Type} (d : Kd α) (P : Program) (fs : List Field) (off : Nat) (good : α → Prop) : Prop where
  read : ∀ {H : Type} {enc : TypeId × Value → H} {W : World} {base : Nat} {spare : Nat → Bool} {held : Bool} {fuel : Nat} {cs : List Value} {ys : List (DataW H × List MemPlace)},
    (∀ (i : Nat) (f : Field), fs[i]? = some f → DataW.trod enc P W base spare held fuel f.type ((cs.drop f.offset).take (P.cellsOf f.type)) = ys[i]?) → ys.length = fs.length → cs.length = off + d.sz →
    (∀ n ∈ DataW.weightsEach P (fs.map (·.type)) (ys.map (·.1)), n ≤ reachBytes) → ∃ a : α, d.K W a (cs.drop off) ∧ good a

theorem RdF.one {α : Type} {d : Kd α} {P : Program} {f : Field} {off : Nat} {good : α → Prop} (h : Rd d P f.type good) (ho : f.offset = off) : RdF d P [f] off good :=
  ⟨fun {H enc W base spare held fuel cs ys} ht hl hc hw => by
    match ys, hl with
    | [y], _ =>
      have h1 := ht 0 f rfl
      rw [ho, List.take_of_length_le (by rw [List.length_drop, hc, ← h.size]; omega)] at h1
      exact h.read (x := y) h1 (fun n hn => hw n (by simpa [DataW.weightsEach] using hn))⟩

theorem RdF.cons {α β : Type} {d : Kd α} {d' : Kd β} {P : Program} {f : Field} {fs : List Field} {off : Nat} {good : α → Prop} {good' : β → Prop} (h : Rd d P f.type good) (ho : f.offset = off) (h' : RdF d' P fs (off + P.cellsOf f.type) good') :
    RdF (Kd.pair d d') P (f :: fs) off (fun x => good x.1 ∧ good' x.2) :=
  ⟨fun {H enc W base spare held fuel cs ys} ht hl hc hw => by
    match ys, hl with
    | y :: ys, hl =>
      have hsz : (Kd.pair d d').sz = P.cellsOf f.type + d'.sz := by rw [← h.size]; rfl
      rw [hsz] at hc
      have h1 := ht 0 f rfl
      rw [ho] at h1
      obtain ⟨a, ha, hga⟩ := h.read (x := y) h1 (fun n hn => hw n (by simp only [List.map_cons, DataW.weightsEach, List.mem_append]; exact Or.inl hn))
      obtain ⟨b, hb, hgb⟩ := h'.read (fun i g hg => ht (i + 1) g hg) (by simpa using hl) (by omega) (fun n hn => hw n (by simp only [List.map_cons, DataW.weightsEach, List.mem_append]; exact Or.inr hn))
      refine ⟨(a, b), ⟨(cs.drop off).take (P.cellsOf f.type), cs.drop (off + P.cellsOf f.type), ?_, ha, hb⟩, hga, hgb⟩
      rw [← List.drop_drop, List.take_append_drop]⟩

theorem Rd.struct {α β : Type} {d : Kd α} {P : Program} {t : TypeId} {fs : Array Field} {good : α → Prop} {f : β → α} (g : α → β) (hg : ∀ a, f (g a) = a) (ht : P.underlying t = some (.struct fs)) (hs : d.sz = P.cellsOf t) (h : RdF d P fs.toList 0 good) :
    Rd (Kd.iso d f) P t (fun x => good (f x)) :=
  ⟨hs, fun {H enc W base spare held fuel cs x} hx hw => by
    obtain ⟨xs, n, _, rfl, hlen, hxl, hf⟩ := DataW.trod_struct ht hx
    obtain ⟨a, ha, hga⟩ := h.read (fun i f' hf' => hf i f' (by simpa using hf')) (by simpa using hxl) (by rw [hlen, hs]; omega) (fun n hn => hw n (by simpa [DataW.weights, ht] using hn))
    refine ⟨g a, ?_, by rw [hg]; exact hga⟩
    show d.K W (f (g a)) cs
    rw [hg]
    simpa using ha⟩

/-- An argument: its cells. -/
theorem Rd.arg {α : Type} {d : Kd α} {P : Program} {t : TypeId} {good : α → Prop} (h : Rd d P t good) {H : Type} {enc : TypeId × Value → H} {W : World} {base : Nat} {spare : Nat → Bool} {held : Bool} {v : Value} {x : DataW H} {ps : List MemPlace} {ts : List TypeId} {ds : List (DataW H)} {j : Nat}
    (hx : DataW.Trod enc P W base spare held t v x ps) (hsz : (DataW.weightsEach P ts ds).all (· ≤ reachBytes) = true) (ht : ts[j]? = some t) (hd : ds[j]? = some x) : ∃ a : α, d.K W a v.cells.toList ∧ good a := by
  obtain ⟨fuel, hf⟩ := hx
  exact h.read hf (fun n hn => by simpa using List.all_eq_true.1 hsz n (DataW.weights_mem_each ht hd n hn))

/-- A value of a slice's kind. -/
theorem slice_val {α : Type} {e : TypeId} {d : Kd α} {W : World} {l : List α} {a : Option Addr} {len cap : Nat} (h : (Kd.slice e d).K W l (Value.slice a len cap).cells.toList) : len = l.length ∧ l.length ≤ cap ∧ d.C W a l.length l := by
  obtain ⟨A, c, hcs, hl, hr⟩ := h
  simp only [Value.cells, List.cons.injEq, Value.slice.injEq, and_true] at hcs
  obtain ⟨rfl, rfl, rfl⟩ := hcs
  exact ⟨rfl, hl, hr⟩
end Go.Proofs.Ytackcingpffidaa.Reads
