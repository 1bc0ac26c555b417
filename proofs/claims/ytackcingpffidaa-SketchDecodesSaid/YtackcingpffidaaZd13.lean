/- What Go functions of the given program return, told as Lean functions, and the walks that show it, with plain facts on them: YG, PureSketchDecodes. Conditions: the hypotheses that stand at each theorem. -/
import Derived.Test.YtackcingpffidaaZd0
import Derived.Test.YtackcingpffidaaZd1
import Derived.Test.YtackcingpffidaaZd8
import Derived.Test.YtackcingpffidaaZd9
import Derived.Test.YtackcingpffidaaZd12
namespace Go.Proofs.Ytackcingpffidaa.P
open Go.RowKit Go.Proofs.YtackcingpffidaaW.PrintWords Go.Proofs.YtackcingpffidaaW.PrintLast Go.Proofs.YtackcingpffidaaW.PrintMore
set_option linter.unusedVariables false
/-- Behind an error a reader reads nothing. -/
def Er {α : Type} (e : Int) (A : Nat → Option (α × Int × Int)) : Prop := ∃ v t, ∀ k, A k = some (v, t, e)
theorem Er.bind {α β : Type} {e : Int} {A : Nat → Option (α × Int × Int)} {F : Nat → α × Int × Int → Option (β × Int × Int)} (h : Er e A) (hf : ∀ v t, Er e fun k => F k (v, t, e)) : Er e fun k => (A k).bind (F k) := by
 obtain ⟨v, t, h⟩ := h
 obtain ⟨u, s, h2⟩ := hf v t
 exact ⟨u, s, fun k => by show (A k).bind (F k) = _; rw [h k, Option.bind_some]; exact h2 k⟩
theorem Er.all {α β : Type} {e : Int} {A : Nat → Option (α × Int × Int)} {F : Nat → α × Int × Int → Option β} {r : β} (h : Er e A) (hf : ∀ v t k, F k (v, t, e) = some r) : ∀ k, (A k).bind (F k) = some r := by
 obtain ⟨v, t, h⟩ := h
 exact fun k => by rw [h k, Option.bind_some, hf v t k]
theorem Er.at {α β : Type} {e : Int} {A : Nat → Option (α × Int × Int)} (h : Er e A) {F : α × Int × Int → Option β} {r : β} {k : Nat} (hf : ∀ v t, F (v, t, e) = some r) : (A k).bind F = some r := by
 obtain ⟨v, t, h⟩ := h
 rw [h k, Option.bind_some, hf v t]
theorem er_num {e : Int} (h : e ≠ 0) (l : List Int) (t : Int) : Er e fun k => numS k l t e := ⟨_, _, fun k => num_err k l t e h⟩
theorem er_vint {e : Int} (h : e ≠ 0) (l : List Int) (t : Int) : Er e fun k => vintS k l t e := ⟨_, _, fun k => vint_err k l t e h⟩
theorem er_lim {e : Int} (h : e ≠ 0) (m : Int) (l : List Int) (t : Int) : Er e fun k => limS k m l t e := ⟨_, _, fun k => lim_err k m l t e h⟩
theorem er_flag {e : Int} (h : e ≠ 0) (l : List Int) (t : Int) : Er e fun _ => flagS l t e := ⟨_, _, fun _ => flag_err l t e h⟩
theorem er_cnum {e : Int} (h : e ≠ 0) (l : List Int) (t : Int) : Er e fun k => cnumS k l t e := ⟨_, _, fun k => cnum_err k l t e h⟩
theorem er_csmall {e : Int} (h : e ≠ 0) (l : List Int) (t : Int) : Er e fun k => csmallS k l t e := ⟨_, _, fun k => csmall_err k l t e h⟩
theorem er_ccount {e : Int} (h : e ≠ 0) (m : Int) (hm : 0 ≤ m) (l : List Int) (t : Int) : Er e fun k => ccountS k m l t e := ⟨_, _, fun k => ccount_err k m hm l t e h⟩
theorem er_dM {e : Int} (h : e ≠ 0) (l : List Int) : ∀ (m : Nat) (last t : Int), Er e fun k => dM k l m last t e
 | 0, _, t => ⟨[], t, fun _ => rfl⟩
 | m + 1, last, t => (er_vint h l t).bind fun v s => (er_dM h l m _ s).bind fun _ _ => ⟨_, _, fun _ => rfl⟩
theorem er_cM {e : Int} (h : e ≠ 0) (l : List Int) : ∀ (m : Nat) (last t : Int), Er e fun k => cM k l m last t e
 | 0, _, t => ⟨[], t, fun _ => rfl⟩
 | m + 1, last, t => (er_cnum h l t).bind fun v s => (er_cM h l m _ s).bind fun _ _ => ⟨_, _, fun _ => rfl⟩
theorem er_dC {e : Int} (h : e ≠ 0) (l : List Int) : ∀ (m : Nat) (t : Int), Er e fun k => dC k l m t e
 | 0, t => ⟨[], t, fun _ => rfl⟩
 | m + 1, t => (er_num h l t).bind fun v s => (er_dC h l m s).bind fun _ _ => ⟨_, _, fun _ => rfl⟩
theorem er_cC {e : Int} (h : e ≠ 0) (l : List Int) : ∀ (m : Nat) (t : Int), Er e fun k => cC k l m t e
 | 0, t => ⟨[], t, fun _ => rfl⟩
 | m + 1, t => ⟨[], t, fun _ => if_neg h⟩
theorem er_dF {e : Int} (h : e ≠ 0) (l : List Int) : ∀ (m : Nat) (t : Int), ∃ F R s, ∀ k, dF k l m t e = some (F, R, s, e)
 | 0, t => ⟨[], [], t, fun _ => rfl⟩
 | m + 1, t => ⟨[], [], t, fun _ => if_neg h⟩
theorem er_cF {e : Int} (h : e ≠ 0) (l : List Int) : ∀ (m : Nat) (t : Int), ∃ F R s, ∀ k, cF k l m t e = some (F, R, s, e)
 | 0, t => ⟨[], [], t, fun _ => rfl⟩
 | m + 1, t => by
  obtain ⟨F, R, s, hs⟩ := er_cF h l m t
  refine ⟨⟨0, 0, ⟨#[]⟩⟩ :: F, 0 :: 0 :: R, s, fun k => ?_⟩
  unfold cF
  simp only [cval_err k l t e h, csmall_err k l t e h, Option.bind_some, hs k]
theorem RR.ok {α : Type} {P : α → Prop} {n : Nat} {v : α} {u : Nat} (hp : P v) (h : u ≤ n) : RR P n (v, (u : Int), 0) (v, (u : Int), 0) := Or.inl ⟨v, u, hp, h, rfl, rfl⟩
theorem Both.rr {α γ δ : Type} {P : α → Prop} {n : Nat} {A B : Nat → Option (α × Int × Int)} {F : Nat → α × Int × Int → Option γ} {G : Nat → α × Int × Int → Option δ} {Q : γ → δ → Prop} (h : Both A B (RR P n)) (ok : ∀ (v : α) (u : Nat), P v → u ≤ n → Both (fun k => F k (v, (u : Int), 0)) (fun k => G k (v, (u : Int), 0)) Q)
  (er : ∀ (v v' : α) (t t' e : Int), e ≠ 0 → Both (fun k => F k (v, t, e)) (fun k => G k (v', t', e)) Q) : Both (fun k => (A k).bind (F k)) (fun k => (B k).bind (G k)) Q := by
 refine h.bind fun x y hr => ?_
 rcases hr with ⟨v, u, hp, hu, rfl, rfl⟩ | ⟨h1, h2⟩
 ·exact ok v u hp hu
 ·obtain ⟨v, t, e⟩ := x
  obtain ⟨v', t', e'⟩ := y
  obtain rfl : e = e' := h1
  exact er v v' t t' e h2
theorem both_er {α : Type} {P : α → Prop} {n : Nat} {e : Int} {A B : Nat → Option (α × Int × Int)} (h : e ≠ 0) (ha : Er e A) (hb : Er e B) : Both A B (RR P n) := by
 obtain ⟨v, t, ha⟩ := ha
 obtain ⟨u, s, hb⟩ := hb
 exact ⟨_, _, Ev.all ha, Ev.all hb, Or.inr ⟨rfl, h⟩⟩
theorem both_all {α : Type} {A B : Nat → Option α} {r : α} (ha : ∀ k, A k = some r) (hb : ∀ k, B k = some r) : Both A B (fun x y => x = y) := ⟨r, r, Ev.all ha, Ev.all hb, rfl⟩
section
variable (l : List Int) (hb : Bytes l) (hl : l.length < 4611686018427387904)
include hb hl
theorem M_both : ∀ (m : Nat) (last : Int) (t : Nat), t ≤ l.length → Both (fun k => dM k l m last (t : Int) 0) (fun k => cM k l m last (t : Int) 0) (RR (fun M : List Int => M.length = m) l.length)
 | 0, _, _, ht => Both.now _ _ (RR.ok rfl ht)
 | m + 1, last, t, ht => (vint_both l hb hl t ht).rr (fun v u _ hu => (M_both m _ u hu).rr (fun S s hS hs => Both.now _ _ (RR.ok (by rw [List.length_cons, hS]) hs)) fun S S' s s' e he => Both.now _ _ (Or.inr ⟨rfl, he⟩))
   fun v v' s s' e he => both_er he ((er_dM he l m _ s).bind fun _ _ => ⟨_, _, fun _ => rfl⟩) ((er_cM he l m _ s').bind fun _ _ => ⟨_, _, fun _ => rfl⟩)
theorem C_both : ∀ (m t : Nat), t ≤ l.length → Both (fun k => dC k l m (t : Int) 0) (fun k => cC k l m (t : Int) 0) (RR (fun _ => True) l.length)
 | 0, _, ht => Both.now _ _ (RR.ok trivial ht)
 | m + 1, t, ht => by
  refine Both.mono (A := fun k => (numS k l (t : Int) 0).bind fun x => (dC k l m x.2.1 x.2.2).bind fun y => some (x.1 :: y.1, y.2)) (B := fun k => (csmallS k l (t : Int) 0).bind fun x => (cC k l m x.2.1 x.2.2).bind fun y => some (x.1 :: y.1, y.2)) ?_ (fun _ _ h => h)
  exact (num_both l hb hl t ht).rr (fun v u _ hu => (C_both m u hu).rr (fun S s _ hs => Both.now _ _ (RR.ok trivial hs)) fun S S' s s' e he => Both.now _ _ (Or.inr ⟨rfl, he⟩))
   fun v v' s s' e he => both_er he ((er_dC he l m s).bind fun _ _ => ⟨_, _, fun _ => rfl⟩) ((er_cC he l m s').bind fun _ _ => ⟨_, _, fun _ => rfl⟩)
/-- Two results of reading fences and ranks. -/
def RF (n : Nat) (x y : List S39 × List Int × Int × Int) : Prop := (∃ F R, ∃ t : Nat, t ≤ n ∧ x = (F, R, (t : Int), 0) ∧ y = (F, R, (t : Int), 0)) ∨ (x.2.2.2 = y.2.2.2 ∧ x.2.2.2 ≠ 0)
theorem F_both : ∀ (m t : Nat), t ≤ l.length → Both (fun k => dF k l m (t : Int) 0) (fun k => cF k l m (t : Int) 0) (RF l.length)
 | 0, t, ht => Both.now _ _ (Or.inl ⟨[], [], t, ht, rfl, rfl⟩)
 | m + 1, t, ht => by
  have ih := F_both m
  have h1 := lib_dec l hb hl t ht
  have h2 := ref_dec l hb hl t ht
  have he := dv_end l hb t
  generalize dv l t = r at h1 h2 he
  by_cases hr : r.2.2.2.2 = 0
  ·obtain ⟨u, hu, h3⟩ := he hr
   have hv : Ev (fun k => cvalS k l (t : Int) 0) (⟨r.1, r.2.1, r.2.2.1⟩, (u : Int), 0) := Ev.congr (fun k => if_pos rfl) (h2.bind (Ev.const (by rw [if_pos hr, h3])))
   have hw : Ev (fun k => value_Decode.f k l (t : Int)) (r.1, r.2.1, r.2.2.1, (u : Int), 0) := by
    rw [← h3, ← hr]
    exact h1
   have hq : Both (fun k => (numS k l (u : Int) 0).bind fun x => (numS k l x.2.1 x.2.2).bind fun y => (dF k l m y.2.1 y.2.2).bind fun z => some ((⟨r.1, r.2.1, r.2.2.1⟩ : S39) :: z.1, x.1 :: y.1 :: z.2.1, z.2.2)) (fun k => (csmallS k l (u : Int) 0).bind fun x => (csmallS k l x.2.1 x.2.2).bind fun y => (cF k l m y.2.1 y.2.2).bind fun z => some ((⟨r.1, r.2.1, r.2.2.1⟩ : S39) :: z.1, x.1 :: y.1 :: z.2.1, z.2.2)) (RF l.length) := by
    have er2 : ∀ (a a' b b' s s' e : Int), e ≠ 0 → Both (fun k => (dF k l m s e).bind fun z => some ((⟨r.1, r.2.1, r.2.2.1⟩ : S39) :: z.1, a :: b :: z.2.1, z.2.2)) (fun k => (cF k l m s' e).bind fun z => some ((⟨r.1, r.2.1, r.2.2.1⟩ : S39) :: z.1, a' :: b' :: z.2.1, z.2.2)) (RF l.length) := by
     intro a a' b b' s s' e he
     obtain ⟨F1, R1, s1, h4⟩ := er_dF he l m s
     obtain ⟨F2, R2, s2, h5⟩ := er_cF he l m s'
     exact ⟨((⟨r.1, r.2.1, r.2.2.1⟩ : S39) :: F1, a :: b :: R1, s1, e), ((⟨r.1, r.2.1, r.2.2.1⟩ : S39) :: F2, a' :: b' :: R2, s2, e), Ev.all fun k => by rw [h4 k]; rfl, Ev.all fun k => by rw [h5 k]; rfl, Or.inr ⟨rfl, he⟩⟩
    refine (num_both l hb hl u hu).rr (fun a u2 _ hu2 => ?_) (fun a a' s s' e he => ?_)
    ·refine (num_both l hb hl u2 hu2).rr (fun b u3 _ hu3 => ?_) (fun b b' s s' e he => er2 a a b b' s s' e he)
     refine (ih u3 hu3).bind fun x y hxy => ?_
     rcases hxy with ⟨F, R, s, hs, rfl, rfl⟩ | ⟨h4, h5⟩
     ·exact Both.now _ _ (Or.inl ⟨_, _, s, hs, rfl, rfl⟩)
     ·exact Both.now _ _ (Or.inr ⟨h4, h5⟩)
    ·have h6 := er2 a a' 0 0 s s' e he
     obtain ⟨x, y, hx, hy, hxy⟩ := h6
     exact ⟨x, y, Ev.congr (fun k => by simp only [num_err k l s e he, Option.bind_some]) hx, Ev.congr (fun k => by simp only [csmall_err k l s' e he, Option.bind_some]) hy, hxy⟩
   obtain ⟨x, y, hx, hy, hxy⟩ := hq
   exact ⟨x, y, Ev.congr (fun k => if_pos rfl) (hw.bind hx), hv.bind hy, hxy⟩
  ·have hv : Ev (fun k => cvalS k l (t : Int) 0) (⟨0, 0, ⟨#[]⟩⟩, (t : Int), r.2.2.2.2) := Ev.congr (fun k => if_pos rfl) (h2.bind (Ev.const (if_neg hr)))
   obtain ⟨F1, R1, s1, h4⟩ := er_dF hr l m r.2.2.2.1
   obtain ⟨F2, R2, s2, h5⟩ := er_cF hr l m (t : Int)
   refine ⟨((⟨r.1, r.2.1, r.2.2.1⟩ : S39) :: F1, 0 :: 0 :: R1, s1, r.2.2.2.2), ((⟨0, 0, ⟨#[]⟩⟩ : S39) :: F2, 0 :: 0 :: R2, s2, r.2.2.2.2), Ev.congr (fun k => if_pos rfl) (h1.bind (Ev.all fun k => ?_)), hv.bind (Ev.all fun k => ?_), Or.inr ⟨rfl, hr⟩⟩
   ·simp only [num_err k l _ _ hr, Option.bind_some, h4 k]
   ·simp only [csmall_err k l _ _ hr, Option.bind_some, h5 k]
omit hb hl in
theorem at_num {e : Int} (he : e ≠ 0) {k : Nat} {t : Int} {β : Type} {F : _ → Option β} {r : β} (hf : ∀ v t, F (v, t, e) = some r) : (numS k l t e).bind F = some r := Er.at (k := k) (er_num he l t) hf
omit hb hl in
theorem at_lim {e : Int} (he : e ≠ 0) (m : Int) {k : Nat} {t : Int} {β : Type} {F : _ → Option β} {r : β} (hf : ∀ v t, F (v, t, e) = some r) : (limS k m l t e).bind F = some r := Er.at (k := k) (er_lim he m l t) hf
omit hb hl in
theorem at_flag {e : Int} (he : e ≠ 0) {t : Int} {β : Type} {F : _ → Option β} {r : β} (hf : ∀ v t, F (v, t, e) = some r) : (flagS l t e).bind F = some r := Er.at (k := 0) (er_flag he l t) hf
omit hb hl in
theorem at_dM {e : Int} (he : e ≠ 0) (m : Nat) (a : Int) {k : Nat} {t : Int} {β : Type} {F : _ → Option β} {r : β} (hf : ∀ v t, F (v, t, e) = some r) : (dM k l m a t e).bind F = some r := Er.at (k := k) (er_dM he l m a t) hf
omit hb hl in
theorem at_dC {e : Int} (he : e ≠ 0) (m : Nat) {k : Nat} {t : Int} {β : Type} {F : _ → Option β} {r : β} (hf : ∀ v t, F (v, t, e) = some r) : (dC k l m t e).bind F = some r := Er.at (k := k) (er_dC he l m t) hf
omit hb hl in
theorem at_csmall {e : Int} (he : e ≠ 0) {k : Nat} {t : Int} {β : Type} {F : _ → Option β} {r : β} (hf : ∀ v t, F (v, t, e) = some r) : (csmallS k l t e).bind F = some r := Er.at (k := k) (er_csmall he l t) hf
omit hb hl in
theorem at_ccount {e : Int} (he : e ≠ 0) (m : Int) (hm : 0 ≤ m) {k : Nat} {t : Int} {β : Type} {F : _ → Option β} {r : β} (hf : ∀ v t, F (v, t, e) = some r) : (ccountS k m l t e).bind F = some r := Er.at (k := k) (er_ccount he m hm l t) hf
omit hb hl in
theorem at_cM {e : Int} (he : e ≠ 0) (m : Nat) (a : Int) {k : Nat} {t : Int} {β : Type} {F : _ → Option β} {r : β} (hf : ∀ v t, F (v, t, e) = some r) : (cM k l m a t e).bind F = some r := Er.at (k := k) (er_cM he l m a t) hf
omit hb hl in
theorem at_cC {e : Int} (he : e ≠ 0) (m : Nat) {k : Nat} {t : Int} {β : Type} {F : _ → Option β} {r : β} (hf : ∀ v t, F (v, t, e) = some r) : (cC k l m t e).bind F = some r := Er.at (k := k) (er_cC he l m t) hf
abbrev R9 := Int × Int × List Int × Bool × List Int × List S39 × List Int × Int × Int
def fin9 (e : Int) : R9 := (0, 0, [], false, [], [], [], 0, e)
/-- The ends of both, behind all that is read. -/
def dEnd (k : Nat) (a0 a1 : Int) (M : List Int) (b : Bool) (C : List Int) (y5 : List S39 × List Int × Int × Int) : Option R9 := if y5.2.2.2 = 0 then
  (sketch_Valid.f k a0 a1 M b C y5.1 y5.2.1).bind fun ok => if ok = true then some (a0, a1, M, b, C, y5.1, y5.2.1, y5.2.2.1, 0) else some (0, 0, [], false, [], [], [], 0, 4)
 else some (0, 0, [], false, [], [], [], 0, y5.2.2.2)
def cEnd (k : Nat) (a0 a1 : Int) (M : List Int) (b : Bool) (C : List Int) (y5 : List S39 × List Int × Int × Int) : Option R9 := if y5.2.2.2 = 0 then
  (laminaref16_Valid.f k a0 a1 M b C y5.1 y5.2.1).bind fun ok => if ok = true then some (a0, a1, M, b, C, y5.1, y5.2.1, y5.2.2.1, 0) else some (0, 0, [], false, [], [], [], 0, 4)
 else some (0, 0, [], false, [], [], [], 0, y5.2.2.2)
omit hb hl in
theorem dEnd_er {e : Int} (h : e ≠ 0) (m : Nat) (a0 a1 : Int) (M : List Int) (b : Bool) (C : List Int) (t : Int) (k : Nat) : ((dF k l m t e).bind fun y5 => dEnd k a0 a1 M b C y5) = some (fin9 e) := by
 obtain ⟨F, R, s, hs⟩ := er_dF h l m t
 rw [hs k, Option.bind_some, dEnd, if_neg h]
 rfl
omit hb hl in
theorem cEnd_er {e : Int} (h : e ≠ 0) (m : Nat) (a0 a1 : Int) (M : List Int) (b : Bool) (C : List Int) (t : Int) (k : Nat) : ((cF k l m t e).bind fun y5 => cEnd k a0 a1 M b C y5) = some (fin9 e) := by
 obtain ⟨F, R, s, hs⟩ := er_cF h l m t
 rw [hs k, Option.bind_some, cEnd, if_neg h]
 rfl
theorem decode_both (off : Int) : Both (fun k => sketch_Decode.f k l off) (fun k => laminaref16_Decode.f k l off) (fun x y => x = y) := by
 by_cases ho : off < 0 ∨ (l.length : Int) < off
 ·exact both_all (r := fin9 1) (fun k => if_pos ho) (fun k => if_pos ho)
 obtain ⟨t, rfl⟩ : ∃ t : Nat, off = (t : Int) := ⟨off.toNat, by omega⟩
 have ht : t ≤ l.length := by omega
 suffices h : Both (fun k => (numS k l (t : Int) 0).bind fun x1 => (numS k l x1.2.1 x1.2.2).bind fun x2 => (limS k 32 l x2.2.1 x2.2.2).bind fun x3 => (dM k l x3.1.toNat 0 x3.2.1 x3.2.2).bind fun y3 => (flagS l y3.2.1 y3.2.2).bind fun x4 => (dC k l 256 x4.2.1 x4.2.2).bind fun y4 =>
   (limS k 17 l y4.2.1 y4.2.2).bind fun x5 => (dF k l x5.1.toNat x5.2.1 x5.2.2).bind fun y5 => dEnd k x1.1 x2.1 y3.1 x4.1 y4.1 y5)
   (fun k => (csmallS k l (t : Int) 0).bind fun x1 => (csmallS k l x1.2.1 x1.2.2).bind fun x2 => (ccountS k 32 l x2.2.1 x2.2.2).bind fun x3 => (cM k l x3.1.toNat 0 x3.2.1 x3.2.2).bind fun y3 => (flagS l y3.2.1 y3.2.2).bind fun x4 => (cC k l 256 x4.2.1 x4.2.2).bind fun y4 =>
   (ccountS k 17 l y4.2.1 y4.2.2).bind fun x5 => (cF k l x5.1.toNat x5.2.1 x5.2.2).bind fun y5 => cEnd k x1.1 x2.1 y3.1 x4.1 y4.1 y5) (fun x y => x = y) by
  obtain ⟨x, y, h1, h2, h3⟩ := h
  exact ⟨x, y, Ev.congr (fun k => if_neg ho) h1, Ev.congr (fun k => if_neg ho) h2, h3⟩
 refine (num_both l hb hl t ht).rr (fun m1 t1 _ h1 => ?_) (fun v v' s s' e he => both_all (r := fin9 e) ?_ ?_)
 refine (num_both l hb hl t1 h1).rr (fun m2 t2 _ h2 => ?_) (fun v v' s s' e he => both_all (r := fin9 e) ?_ ?_)
 refine (lim_both l hb hl t2 h2 32).rr (fun m3 t3 hm3 h3 => ?_) (fun v v' s s' e he => both_all (r := fin9 e) ?_ ?_)
 refine (M_both l hb hl m3.toNat 0 t3 h3).rr (fun M t4 hM h4 => ?_) (fun v v' s s' e he => both_all (r := fin9 e) ?_ ?_)
 refine (flag_both l t4 h4).rr (fun b t5 _ h5 => ?_) (fun v v' s s' e he => both_all (r := fin9 e) ?_ ?_)
 refine (C_both l hb hl 256 t5 h5).rr (fun C t6 _ h6 => ?_) (fun v v' s s' e he => both_all (r := fin9 e) ?_ ?_)
 refine (lim_both l hb hl t6 h6 17).rr (fun m7 t7 hm7 h7 => ?_) (fun v v' s s' e he => both_all (r := fin9 e) ?_ ?_)
 refine (F_both l hb hl m7.toNat t7 h7).bind fun x y hxy => ?_
 ·rcases hxy with ⟨F, R, s, hs, rfl, rfl⟩ | ⟨h8, h9⟩
  ·have v1 := lib_valid m1 m2 M b C F R (by omega)
   have v2 := ref_valid m1 m2 M b C F R (by omega)
   cases hv : validB m1 m2 M b C F R with
   | true =>
    rw [hv] at v1 v2
    exact ⟨_, _, Ev.congr (fun k => if_pos rfl) (v1.bind (Ev.const (if_pos rfl))), Ev.congr (fun k => if_pos rfl) (v2.bind (Ev.const (if_pos rfl))), rfl⟩
   | false =>
    rw [hv] at v1 v2
    exact ⟨_, _, Ev.congr (fun k => if_pos rfl) (v1.bind (Ev.const (if_neg (by decide)))), Ev.congr (fun k => if_pos rfl) (v2.bind (Ev.const (if_neg (by decide)))), rfl⟩
  ·exact both_all (r := fin9 x.2.2.2) (fun k => if_neg h9) (fun k => by show cEnd _ _ _ _ _ _ _ = _; rw [cEnd, if_neg (h8 ▸ h9), ← h8]; rfl)
 all_goals (intro k; (try dsimp only); repeat' first | (with_reducible exact dEnd_er l he _ _ _ _ _ _ _ _) | (with_reducible refine at_num l he fun _ _ => ?_) | (with_reducible refine at_lim l he _ fun _ _ => ?_) | (with_reducible refine at_flag l he fun _ _ => ?_) | (with_reducible refine at_dM l he _ _ fun _ _ => ?_) | (with_reducible refine at_dC l he _ fun _ _ => ?_) | (with_reducible exact cEnd_er l he _ _ _ _ _ _ _ _) | (with_reducible refine at_csmall l he fun _ _ => ?_) | (with_reducible refine at_ccount l he _ (by decide) fun _ _ => ?_) | (with_reducible refine at_flag l he fun _ _ => ?_) | (with_reducible refine at_cM l he _ _ fun _ _ => ?_) | (with_reducible refine at_cC l he _ fun _ _ => ?_))
end
theorem bytes_of_wf {l : List Int} (h : ∀ y ∈ l, (Lit.int .u8 y).wf = true) : Bytes l := by
 intro c hc
 have := h c hc
 simp only [Lit.wf, IntKind.min, IntKind.max, IntKind.signed, IntKind.bits, Bool.and_eq_true, decide_eq_true_eq, Bool.false_eq_true, if_false] at this
 omega
theorem sketchDecodes_pure : ∀ (x0 : List (Int)) (x1 : Int), (x0.length * 1 ≤ 140737488351232 ∧ ∀ y ∈ x0, (Lit.int .u8 y).wf = true) → (Lit.int .i64 x1).wf = true → ∃ k x, sketch_Decode.f k x0 x1 = some x ∧ laminaref16_Decode.f k x0 x1 = some x ∧ laminalaw16_awake.f k = some true := by
 intro b o hx _
 obtain ⟨x, y, ⟨k1, h1⟩, ⟨k2, h2⟩, hxy⟩ := decode_both b (bytes_of_wf hx.2) (by have := hx.1; omega) o
 subst hxy
 obtain ⟨k3, h3⟩ := awake_ev
 exact ⟨k1 + k2 + k3, x, h1 _ (by omega), h2 _ (by omega), h3 _ (by omega)⟩
end Go.Proofs.Ytackcingpffidaa.P
