/- A set of numbers in a map that the call has made. Conditions: the hypotheses that stand at each theorem. -/
import Derived.RangeFuncNested
import Derived.RangeFuncBound
import Derived.RangeFuncCalls
import Derived.RangeFuncLeaves
import Derived.Shelf.Abstract
import Derived.Shelf.RegionOpen
import Derived.WalkKit
import Derived.OwnWalkIn
import Derived.TacticsInMore
import Derived.LoopNIn
import Derived.LoopIn
import Derived.Maps.OwnIn
import Derived.Test.YtjeoabjccbinhaaH17
namespace Go.Proofs.Ytjeoabjccbinhaa.P
open Go.RowKit Go.Shelf
set_option linter.unusedVariables false
/-- All blocks but those of T lie as they lay. -/
def KeptX (T : Nat → Prop) (A B : World) : Prop := A.heap.size ≤ B.heap.size ∧ ∀ k, k < A.heap.size → ¬ T k → B.heap[k]? = A.heap[k]?
theorem KeptX.refl (T : Nat → Prop) (A : World) : KeptX T A A := ⟨Nat.le_refl _, fun _ _ _ => rfl⟩
theorem KeptX.trans {T : Nat → Prop} {A B C : World} (h : KeptX T A B) (k : KeptX T B C) : KeptX T A C :=
  ⟨Nat.le_trans h.1 k.1, fun i hi hT => (k.2 i (Nat.lt_of_lt_of_le hi h.1) hT).trans (h.2 i hi hT)⟩
theorem KeptX.mono {T T' : Nat → Prop} {A B : World} (h : KeptX T A B) (ht : ∀ k, T k → T' k) : KeptX T' A B := ⟨h.1, fun i hi hT => h.2 i hi (fun e => hT (ht i e))⟩
theorem KeptX.setCell {T : Nat → Prop} {A B : World} (h : KeptX T A B) {p : Addr} (hp : T p.block) (u : Value) : KeptX T A (B.setCell p u) :=
  ⟨by simpa using h.1, fun i hi hT => (Below.heap_setCell B p u i (fun e => hT (e ▸ hp))).trans (h.2 i hi hT)⟩
theorem KeptX.alloc {T : Nat → Prop} {A B : World} (h : KeptX T A B) (o : Obj) : KeptX T A (B.alloc o) :=
  ⟨by simp; have := h.1; omega, fun i hi hT => (Below.heap_alloc B o i (Nat.lt_of_lt_of_le hi h.1)).trans (h.2 i hi hT)⟩
theorem KeptX.drew {T : Nat → Prop} {A B : World} (h : KeptX T A B) : KeptX T A B.drew := h
theorem KeptX.grown {T : Nat → Prop} {A B C : World} (h : KeptX T A B) {row : Option Nat} (hg : B.grownBy C row) (hr : ∀ k, row = some k → T k) : KeptX T A C :=
  ⟨Nat.le_trans h.1 hg.size, fun i hi hT => (hg.block i (Nat.lt_of_lt_of_le hi h.1) (fun e => hT (hr i e.symm))).trans (h.2 i hi hT)⟩
/-- An iterator over numbers, told by what comes: for every body that leaves all but T alone. -/
def SeqT (F : Fence) (n : Nat) (P : Program) (gf : Nat) (lb : Array Value) (xs : List Int) (T : Nat → Prop) (W0 : World) : Prop :=
  ∀ (l : Nat) (J Jx : List Int → World → Prop), (∀ s A B, J s A → Below W0.heap.size A B → J s B) → (∀ s A B, Jx s A → Below W0.heap.size A B → Jx s B) →
    (∀ pre x rest W, xs = pre ++ x :: rest → J pre W → YieldAt F (n - 1) P l #[.int .i64 x] W fun e W' =>
      (e = .returned (.bool true) ∧ J (pre ++ [x]) W' ∧ KeptX T W W') ∨ (e = .returned (.bool false) ∧ Jx (pre ++ [x]) W')) →
    J [] W0 → CallsIn F n P gf (#[.func (.yield l) #[] #[]] ++ lb) W0 fun e W' => (∃ v, e = .returned v) ∧ (J xs W' ∨ ∃ pre, pre <+: xs ∧ Jx pre W')
/-- What a round's body owes. -/
def postT (T : Nat → Prop) (I Ix : List Int → World → Prop) (xs : List Int) (W : World) : Exit → Act → World → Prop
  | .normal, _, W' => KeptX T W W' ∧ I xs W'
  | .ret, _, W' => KeptX T W W' ∧ Ix xs W'
  | _, _, _ => False
theorem below_putObj {B : Nat} {w W : World} (h : Below B w W) (hB : B ≤ W.heap.size) {l : Nat} (hl : B ≤ l) (o : Obj) : Below B w (W.putObj l o) :=
  h.grown (grownBy_putObj' W l o) hB (fun k e => by cases e; exact hl)
theorem rangeT {F : Fence} {n : Nat} {P : Program} {g : Operand} {ps : Array Tmp} {assign body : Code} {Q : Exit → Act → World → Prop} {a : Act} {w : World}
    (hro : F.round = none) (h1 : 1 ≤ n) {gf : Nat} {lb : Array Value} (hg : a.eval g = .func (.func gf) #[] lb) (hFg : F.fn gf) (eg : ∀ args w, (callFunc gf args).run P w = .ok (.enter gf args) w)
    {xs : List Int} {T : Nat → Prop} (hps : ps.size = 1) (hT : ∀ k, T k → k < w.heap.size)
    (hseq : ∀ W1, W1.heap.size = w.heap.size + 2 → Below w.heap.size w W1 → SeqT F (n - 1) P gf lb xs (fun k => T k ∨ k = w.heap.size + 1) W1)
    (I Ix : List Int → World → Prop) (hI : ∀ s A B, I s A → Below w.heap.size A B → I s B) (hIx : ∀ s A B, Ix s A → Below w.heap.size A B → Ix s B) (h0 : I [] w) (a₁ : Int → Act)
    (hassign : ∀ (l : Nat) (x : Int) (W : World) (K : Act → World → Prop), K (a₁ x) W →
      assign.wpIn (F.inRound l) (n - 1 - 1) P (Exit.then K (fun _ _ _ => False)) { tmps := (ps.zip #[Value.int .i64 x]).foldl (fun t (p, v) => t.setIfInBounds p v) a.tmps, defers := [] } W)
    (hbody : ∀ (l : Nat) (pre : List Int) (x : Int) (rest : List Int) (W : World), xs = pre ++ x :: rest → I pre W → w.heap.size ≤ W.heap.size → body.wpIn (F.inRound l) (n - 1 - 1) P (postT T I Ix (pre ++ [x]) W) (a₁ x) W)
    (hdone : ∀ (W : World), I xs W → W.heap[w.heap.size]? = some (.deferred (some [])) → Q .normal { a with defers := { target := .collected w.heap.size, args := #[] } :: a.defers } W)
    (hstop : ∀ (pre : List Int) (W : World), pre <+: xs → Ix pre W → W.heap[w.heap.size]? = some (.deferred (some [])) → Code.ret.wpIn F n P Q { a with defers := { target := .collected w.heap.size, args := #[] } :: a.defers } W) :
    (Code.rangeFunc g ps assign body).wpIn F n P Q a w := by
  refine wpIn_rangeFunc fun fn hfn => ?_
  rw [hro]
  obtain ⟨rec, hrec⟩ : ∃ rec : LoopState → Option Code → Loop, rec = fun st pe => { state := st, pending := pe, fn, tmps := a.tmps, params := ps, assign, body, defers := w.heap.size } := ⟨_, rfl⟩
  obtain ⟨W1, hW1⟩ : ∃ W1, (w.alloc (.deferred (some []))).alloc (.loop (rec .ready none)) = W1 := ⟨_, rfl⟩
  have hb1 : Below w.heap.size w W1 := by rw [← hW1]; exact ((Below.refl _ w).alloc (Nat.le_refl _) _).alloc (by simp) _
  have hs1 : W1.heap.size = w.heap.size + 2 := by rw [← hW1]; simp
  have hL1 : W1.heap[w.heap.size + 1]? = some (.loop (rec .ready none)) := by
    rw [← hW1]; have := World.alloc_heap_new (w.alloc (.deferred (some []))) (.loop (rec .ready none)); rwa [World.size_alloc] at this
  have hK1 : W1.heap[w.heap.size]? = some (.deferred (some [])) := by
    rw [← hW1]; exact (Below.heap_alloc _ _ _ (by simp)).trans (World.alloc_heap_new w _)
  refine ⟨w.heap.size + 1, [{ target := .collected w.heap.size, args := #[] }], W1, { target := .fn (.func gf) lb, args := #[.func (.yield (w.heap.size + 1)) #[] #[]] }, W1, gf,
    #[.func (.yield (w.heap.size + 1)) #[] #[]] ++ lb, W1, ?_, ?_, ?_, ?_, fun _ => h1, ?_⟩
  · rw [← hW1, hrec]; exact run_enterLoop_outer _ _ _ _ _
  · simp only [resolve, hg]
    simp [go_sem]
  · intro f' hf'; simp [Target.leads] at hf'; subst hf'; exact hFg
  · simp [invoke, go_sem, eg]
  · have hblk : ∀ {A B : World} {k : Nat} {o : Obj}, Below W1.heap.size A B → k < w.heap.size + 2 → A.heap[k]? = some o → B.heap[k]? = some o := fun hb hk ho => (hb.block _ (by omega)).trans ho
    refine (hseq W1 hs1 hb1 (w.heap.size + 1)
      (fun pre W => I pre W ∧ W.heap[w.heap.size + 1]? = some (.loop (rec .ready none)) ∧ W.heap[w.heap.size]? = some (.deferred (some [])))
      (fun pre W => Ix pre W ∧ W.heap[w.heap.size + 1]? = some (.loop (rec .done (some .ret))) ∧ W.heap[w.heap.size]? = some (.deferred (some [])))
      (fun s A B hs hb => ⟨hI s A B hs.1 (hb.mono (by omega)), hblk hb (by omega) hs.2.1, hblk hb (by omega) hs.2.2⟩)
      (fun s A B hs hb => ⟨hIx s A B hs.1 (hb.mono (by omega)), hblk hb (by omega) hs.2.1, hblk hb (by omega) hs.2.2⟩)
      ?_ ⟨hI _ _ _ h0 hb1, hL1, hK1⟩).mono ?_
    · rintro pre x rest W hx ⟨hi, hl, hk⟩
      have hlt : w.heap.size + 1 < W.heap.size := (Array.getElem?_eq_some_iff.1 hl).1
      have hy := run_yield (P := P) (args := #[Value.int .i64 x]) hl (by rw [hrec]; exact hps.symm)
      rw [hrec] at hy
      refine ⟨fn, _, assign, body, hy, roundIn_of_wpIn hfn (hassign _ x W _ ⟨_, run_beginRound hl (by rw [hrec]), ?_⟩)⟩
      obtain ⟨V, hV⟩ : ∃ V, W.putObj (w.heap.size + 1) (.loop { rec .ready none with state := .busy }) = V := ⟨_, rfl⟩
      have hVs : V.heap.size = W.heap.size := by rw [← hV]; simp [World.putObj]
      have hl2 : V.heap[w.heap.size + 1]? = some (.loop { rec .ready none with state := .busy }) := by rw [← hV]; exact World.putObj_heap_same hlt
      have hk2 : V.heap[w.heap.size]? = some (.deferred (some [])) := by rw [← hV]; exact (World.putObj_heap_other (by omega)).trans hk
      have hVk : KeptX (fun k => T k ∨ k = w.heap.size + 1) W V := by
        rw [← hV]; exact (KeptX.refl _ W).grown (grownBy_putObj' W _ _) (fun k e => by cases e; exact .inr rfl)
      have hVi : I pre V := by rw [← hV]; exact hI _ _ _ hi (below_putObj (Below.refl _ _) (by omega) (by omega) _)
      rw [hV]
      refine wpIn_mono (hbody _ pre x rest V hx hVi (by omega)) ?_
      have fin : ∀ (jump : Option Code) (W3 : World), KeptX T V W3 →
          (Instr.endRound (w.heap.size + 1) jump).run P W3 = .ok (.bool jump.isNone) (W3.putObj (w.heap.size + 1) (.loop (rec (if jump.isNone then .ready else .done) jump))) ∧
          (W3.putObj (w.heap.size + 1) (.loop (rec (if jump.isNone then .ready else .done) jump))).heap[w.heap.size + 1]? = some (.loop (rec (if jump.isNone then .ready else .done) jump)) ∧
          (W3.putObj (w.heap.size + 1) (.loop (rec (if jump.isNone then .ready else .done) jump))).heap[w.heap.size]? = some (.deferred (some [])) ∧
          KeptX (fun k => T k ∨ k = w.heap.size + 1) W (W3.putObj (w.heap.size + 1) (.loop (rec (if jump.isNone then .ready else .done) jump))) := fun jump W3 hk3 => by
        have hl3 : W3.heap[w.heap.size + 1]? = some (.loop { rec .ready none with state := .busy }) := (hk3.2 _ (by omega) (fun h => by have := hT _ h; omega)).trans hl2
        have hd3 : W3.heap[w.heap.size]? = some (.deferred (some [])) := (hk3.2 _ (by omega) (fun h => by have := hT _ h; omega)).trans hk2
        have := run_endRound (P := P) jump hl3
        rw [hrec] at this ⊢
        exact ⟨this, World.putObj_heap_same (Array.getElem?_eq_some_iff.1 hl3).1, (World.putObj_heap_other (by omega)).trans hd3,
          (hVk.trans (hk3.mono (fun k h => .inl h))).grown (grownBy_putObj' W3 _ _) (fun k e => by cases e; exact .inr rfl)⟩
      rintro e a3 W3 hp
      cases e with
      | normal =>
        obtain ⟨hk3, hi3⟩ := hp
        obtain ⟨hr, hl4, hk4, hkx⟩ := fin none W3 hk3
        exact ⟨_, _, hr, .inl ⟨rfl, ⟨hI _ _ _ hi3 (below_putObj (Below.refl _ _) (by have := hk3.1; omega) (by omega) _), hl4, hk4⟩, hkx⟩⟩
      | ret =>
        obtain ⟨hk3, hi3⟩ := hp
        obtain ⟨hr, hl4, hk4, hkx⟩ := fin (some .ret) W3 hk3
        exact ⟨_, _, hr, .inr ⟨rfl, hIx _ _ _ hi3 (below_putObj (Below.refl _ _) (by have := hk3.1; omega) (by omega) _), hl4, hk4⟩⟩
      | exit id => exact hp.elim
      | goto t => exact hp.elim
      | panic ch => exact hp.elim
      | outgrown => exact hp.elim
    · rintro e W2 ⟨⟨v, rfl⟩, (⟨hi, hl, hk⟩ | ⟨pre, hSp, hi, hl, hk⟩)⟩
      · exact ⟨none, _, by have := run_endLoop (P := P) hl (by rw [hrec]; simp); rw [hrec] at this; exact this, hdone _ (hI _ _ _ hi (below_putObj (Below.refl _ _) (by have := (Array.getElem?_eq_some_iff.1 hk).1; omega) (by omega) _)) ((World.putObj_heap_other (by omega)).trans hk)⟩
      · exact ⟨some .ret, _, by have := run_endLoop (P := P) hl (by rw [hrec]; simp); rw [hrec] at this; exact this, hstop pre _ hSp (hIx _ _ _ hi (below_putObj (Below.refl _ _) (by have := (Array.getElem?_eq_some_iff.1 hk).1; omega) (by omega) _)) ((World.putObj_heap_other (by omega)).trans hk)⟩
end Go.Proofs.Ytjeoabjccbinhaa.P

namespace Go.Proofs.Ytjeoabjccbinhaa.P
open Go.RowKit Go.Shelf
set_option linter.unusedVariables false
theorem bool_of_elem {H : Type} {P : Program} {e : TypeId} (he : P.underlying e = some .bool) {v : Value} {z : DataW H × List MemPlace} (h : plainElem P e v = some z) : ∃ x, v = .bool x ∧ z = (.lit (.bool x), []) := by
  unfold plainElem at h
  rw [he] at h
  cases v <;> simp at h
  exact ⟨_, rfl, h.symm⟩
/-- Block b is a map of at most n entries; a number is in it, with true, where S says so. -/
def SetAt (W : World) (b n : Nat) (S : Int → Bool) : Prop :=
  ∃ D : DataW Unit, W.ownsMap Try.prog 2 (plainElem Try.prog 4) b n D ∧ Maps.IsMap D ∧ ∀ x, D.atKey (.int .i64 x) (.lit (.bool false)) = .lit (.bool (S x))
theorem SetAt.made (w : World) : SetAt (w.alloc (.map #[] 0)) w.heap.size 0 (fun _ => false) :=
  ⟨.map [], World.ownsMap_made w Try.prog 2 _, Maps.isMap_empty, fun _ => rfl⟩
theorem SetAt.lt {W : World} {b n : Nat} {S : Int → Bool} (h : SetAt W b n S) : b < W.heap.size := by obtain ⟨D, h, _⟩ := h; exact h.lt
theorem SetAt.of_heap {W W' : World} {b n : Nat} {S : Int → Bool} (h : SetAt W b n S) (e : W'.heap[b]? = W.heap[b]?) : SetAt W' b n S := by
  obtain ⟨D, ⟨es, clock, hb, r⟩, hm, hS⟩ := h
  exact ⟨D, ⟨es, clock, e.trans hb, r⟩, hm, hS⟩
theorem SetAt.congr {W : World} {b n : Nat} {S S' : Int → Bool} (h : SetAt W b n S) (e : ∀ x, S x = S' x) : SetAt W b n S' := by
  obtain ⟨D, h1, h2, h3⟩ := h
  exact ⟨D, h1, h2, fun x => by rw [h3, e]⟩
theorem SetAt.mono {W : World} {b n n' : Nat} {S : Int → Bool} (h : SetAt W b n S) (hn : n ≤ n') : SetAt W b n' S := by
  obtain ⟨D, h1, h2, h3⟩ := h
  exact ⟨D, h1.mono hn, h2, h3⟩
theorem zero4 (w : World) : (zeroValue 4).run Try.prog w = .ok (.bool false) w := by kernel_rfl
theorem SetAt.look {W : World} {b n : Nat} {S : Int → Bool} (h : SetAt W b n S) (x : Int) (hx : (Lit.int .i64 x).wf = true) : (Instr.lookup 77 (.map (some b)) (.int .i64 x) false).run Try.prog W = .ok (.bool (S x)) W := by
  obtain ⟨D, h1, h2, h3⟩ := h
  obtain ⟨v, ps, hrun, hv⟩ := h1.lookup (Maps.int_keyed Try.underlying2) Try.underlying77 (zero4 W) (plainElem_bool Try.underlying4 false) (Maps.keyOf_int_mk Try.underlying2 hx)
  obtain ⟨c, rfl, hc⟩ := bool_of_elem Try.underlying4 hv
  rw [h3] at hc
  simp at hc
  rw [hrun, hc.1]
theorem SetAt.put {W : World} {b n : Nat} {S : Int → Bool} (h : SetAt W b n S) (hn : n < maxLen) (x : Int) (hx : (Lit.int .i64 x).wf = true) :
    ∃ W', (Instr.mapUpdate 77 (.map (some b)) (.int .i64 x) (.bool true)).run Try.prog W = .ok () W' ∧ SetAt W' b (n + 1) (fun y => y == x || S y) ∧ W.grownBy W' (some b) := by
  obtain ⟨D, h1, h2, h3⟩ := h
  obtain ⟨W', hrun, hown, hg⟩ := h1.update (Maps.int_keyed Try.underlying2) Try.underlying77 hn (Maps.keyOf_int_mk Try.underlying2 hx) (plainElem_bool Try.underlying4 true)
  refine ⟨W', hrun, ⟨_, hown, h2.put _ _, fun y => ?_⟩, hg⟩
  by_cases hy : y = x
  · subst hy
    rw [Maps.atKey_put_same h2 (show WideAt.IsKeyLit (.int .i64 y) from trivial)]
    simp
  · rw [Maps.atKey_put_other (by simpa using hy), h3]
    simp [hy]
/-- The IDs that are reached from a set, the greatest first, among the first k commits. -/
def ancL (l : List S41) : Nat → (Int → Bool) → List Int
  | 0, _ => []
  | k + 1, S => if S (rd_T41 l k).f0 = true then (rd_T41 l k).f0 :: ancL l k (fun y => y == (rd_T41 l k).f2 || (y == (rd_T41 l k).f1 || S y)) else ancL l k S
def ancS (l : List S41) (id : Int) : List Int := ancL l l.length (fun y => y == id)
end Go.Proofs.Ytjeoabjccbinhaa.P
