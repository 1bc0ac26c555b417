/- slices.Delete of one element at the two struct types. Conditions: the hypotheses that stand at each theorem. -/
import Derived.Test.YtjeoabjccbinhaaH2
import Derived.Lib.AppendZerosOnto
import Derived.Lib.Overlaps
import Derived.Laws.CopyRow
namespace Go.Proofs.Ytjeoabjccbinhaa.P
open Go.RowKit Go.Proofs.YtjeoabjccbinhaaW.PrintWords Go.Proofs.YtjeoabjccbinhaaW.PrintLast Go.Proofs.YtjeoabjccbinhaaW.PrintMore
set_option linter.unusedVariables false
set_option linter.unusedSimpArgs false
/-- copy at elements of k cells, into a block known whole. -/
theorem run_copy_rowK {P : Program} (k : Nat) (w : World) (dT sT ty elem : TypeId) (g o dLen dCap : Nat) (a : Addr) (sLen sCap : Nat) (cur : Array Value) (t : TypeId) (cs : List Value)
    (hu : P.underlying dT = some (.slice elem)) (hs : (P.info? elem).map (·.size) = some k)
    (hg : w.heap[g]? = some (.cells cur t (0, 0))) (hn : cs.length = Nat.min sLen dLen * k)
    (hsrc : ∀ j v, cs[j]? = some v → w.cell? (a.add j) = some v) (hfit : o + cs.length ≤ cur.size) (h1 : ∀ v ∈ cs, v.oneCell' = true) :
    (Builtin.copy_ #[dT, sT] ty #[.slice (some ⟨g, o, none⟩) dLen dCap, .slice (some a) sLen sCap]).run P w =
      .ok (goInt (Nat.min sLen dLen)) (w.setRow g (cur.toList.take o ++ cs ++ cur.toList.drop (o + cs.length)).toArray) := by
  have hl := run_loadCells_list (P := P) w a cs hsrc
  have hst := run_storeCells_at P g o t cs 0 cur w hg (by simpa using hfit) h1
  cases hq : P.info? elem with
  | none => simp [hq] at hs
  | some i =>
    have hi : i.size = k := by simpa [hq] using hs
    simp [Builtin.copy_, run_underlying hu, Builtin.lenOf, Builtin.firstCells, sizeOf, typeInfo, hq, hi, ← hn, hl, hst]
section
variable {P : Program}
theorem wp_copyR (w : World) {ops : Array Oper} {o : Oper} {a : Act} {K : Act → World → Prop} {Q : Exit → Act → World → Prop} (d s : Operand) (t t' : TypeId)
    (ho : o.op = .call { callee := .builtin .copy, args := #[d, s], argTypes := #[t, t'] }) (v u : Value) (hd : a.eval d = v) (hs : a.eval s = u) {v' : Value} {w' : World}
    (hr : (Builtin.copy_ #[t, t'] o.type #[v, u]).run P w = .ok v' w') (h : K (a.put o.dst v') w') : Oper.wp P o a w K Q := by
  unfold Oper.wp
  simp [execOp, ho, resolve, invoke, builtin, hd, hs, hr, Result.andThen]
  exact h
theorem wpList_copyR (w : World) {ops : Array Oper} {rest : List Oper} {o : Oper} {a : Act} {Q : Exit → Act → World → Prop} (hgd : o.guard = none) (d s : Operand) (t t' : TypeId)
    (ho : o.op = .call { callee := .builtin .copy, args := #[d, s], argTypes := #[t, t'] }) (v u : Value) (hd : a.eval d = v) (hs : a.eval s = u) {v' : Value} {w' : World}
    (hr : (Builtin.copy_ #[t, t'] o.type #[v, u]).run P w = .ok v' w') (h : wpList P ops Q rest (a.put o.dst v') w') : wpList P ops Q (o :: rest) a w :=
  wpList_plain hgd fun _ hK => wp_copyR (ops := ops) w d s t t' ho v u hd hs hr (hK _ _ h)
theorem step_copyR {ops : Array Oper} {o : Oper} {a : Act} {w : World} {K : Act → World → Prop} {Q : Exit → Act → World → Prop} {E : Prop}
    (hg : o.guard = none) (d x : Operand) (dT sT : TypeId) (hop : o.op = Op.call { callee := Callee.builtin Builtin.copy, args := #[d, x], argTypes := #[dT, sT] })
    (v u : Value) (hd : a.eval d = v) (hx : a.eval x = u) {v' : Value} {w' : World} (hr : (Builtin.copy_ #[dT, sT] o.type #[v, u]).run P w = .ok v' w') (hK : K (a.put o.dst v') w') :
    if Region.wanted o (yielded ops a.tmps) = true then Oper.wp P o a w K Q else E := by
  have hw : Region.wanted o (yielded ops a.tmps) = true := by simp [Region.wanted, hg]
  rw [if_pos hw]
  exact wp_copyR (ops := ops) w d x dT sT hop v u hd hx hr hK
theorem wp_appendR (w : World) {ops : Array Oper} {o : Oper} {a : Act} {K : Act → World → Prop} {Q : Exit → Act → World → Prop} (s x : Operand) (t tn : TypeId)
    (ho : o.op = .call { callee := .builtin .append, args := #[s, x], argTypes := #[t, tn] }) (vs vx : Value) (hs : a.eval s = vs) (hx : a.eval x = vx)
    {v' : Value} {w' : World} (hr : (Builtin.append_ #[t, tn] o.type #[vs, vx]).run P w = .ok v' w') (h : K (a.put o.dst v') w') : Oper.wp P o a w K Q := by
  unfold Oper.wp
  simp [execOp, ho, resolve, invoke, builtin, hs, hx, hr, Result.andThen]
  exact h
theorem step_appendR {ops : Array Oper} {o : Oper} {a : Act} {w : World} {K : Act → World → Prop} {Q : Exit → Act → World → Prop} {E : Prop}
    (hg : o.guard = none) (s x : Operand) (t tn : TypeId) (ho : o.op = .call { callee := .builtin .append, args := #[s, x], argTypes := #[t, tn] })
    (vs vx : Value) (hs : a.eval s = vs) (hx : a.eval x = vx) {v' : Value} {w' : World} (hr : (Builtin.append_ #[t, tn] o.type #[vs, vx]).run P w = .ok v' w') (h : K (a.put o.dst v') w') :
    if Region.wanted o (yielded ops a.tmps) = true then Oper.wp P o a w K Q else E := by
  have hw : Region.wanted o (yielded ops a.tmps) = true := by simp [Region.wanted, hg]
  rw [if_pos hw]
  exact wp_appendR (ops := ops) w s x t tn ho vs vx hs hx hr h
end
/-! ### a row's cells, flat -/
def E86 (l : List S86) : List Value := l.flatMap fun r => [.string r.f0, .int .i64 r.f1]
def E41 (l : List S41) : List Value := l.flatMap fun r => [.int .i64 r.f0, .int .i64 r.f1, .int .i64 r.f2, .int .i64 r.f3]
theorem flat_len {α : Type} (k : Nat) (f : α → List Value) (hf : ∀ x, (f x).length = k) : ∀ l : List α, (l.flatMap f).length = l.length * k
  | [] => by simp
  | x :: l => by rw [List.flatMap_cons, List.length_append, hf, flat_len k f hf l, List.length_cons, Nat.add_mul, Nat.one_mul, Nat.add_comm]
theorem flat_drop {α : Type} (k : Nat) (f : α → List Value) (hf : ∀ x, (f x).length = k) : ∀ (l : List α) (i : Nat), (l.flatMap f).drop (i * k) = (l.drop i).flatMap f
  | l, 0 => by simp
  | [], i + 1 => by simp
  | x :: l, i + 1 => by
    rw [List.flatMap_cons, List.drop_succ_cons, Nat.add_mul, Nat.one_mul, ← flat_drop k f hf l i, show i * k + k = (f x).length + i * k from by rw [hf]; omega, List.drop_append]
    simp
theorem flat_take {α : Type} (k : Nat) (f : α → List Value) (hf : ∀ x, (f x).length = k) : ∀ (l : List α) (i : Nat), (l.flatMap f).take (i * k) = (l.take i).flatMap f
  | l, 0 => by simp
  | [], i + 1 => by simp
  | x :: l, i + 1 => by
    rw [List.flatMap_cons, List.take_succ_cons, List.flatMap_cons, Nat.add_mul, Nat.one_mul, ← flat_take k f hf l i, show i * k + k = (f x).length + i * k from by rw [hf]; omega, List.take_append, List.take_of_length_le (by omega)]
    simp
theorem flat_reps {α : Type} (R : α → List Value → Prop) (k : Nat) (f : α → List Value) (hf : ∀ x, (f x).length = k) (hR : ∀ x, R x (f x)) (l : List α) : Reps R k l (l.flatMap f) := by
  refine ⟨flat_len k f hf l, fun j p hj => ?_⟩
  rw [flat_drop k f hf]
  obtain ⟨hjl, rfl⟩ := List.getElem?_eq_some_iff.1 hj
  rw [List.drop_eq_getElem_cons hjl, List.flatMap_cons, List.take_append, List.take_of_length_le (by rw [hf]; omega), hf]
  simp
  exact hR _
theorem flat_of_reps {α : Type} {R : α → List Value → Prop} {k : Nat} {f : α → List Value} (hf : ∀ x, (f x).length = k) (hR : ∀ x c, R x c → c = f x) {l : List α} {cs : List Value} (h : Reps R k l cs) : cs = l.flatMap f := by
  revert cs
  induction l with
  | nil =>
    intro cs h
    have := h.1
    simp at this
    rw [List.flatMap_nil, this]
  | cons x l ih =>
    intro cs h
    have h0 := hR _ _ (h.2 0 x rfl)
    rw [Nat.zero_mul, List.drop_zero] at h0
    have h1 : cs.drop k = l.flatMap f := ih ⟨by rw [List.length_drop, h.1, List.length_cons, Nat.add_mul, Nat.one_mul]; omega, fun j p hj => by
      have := h.2 (j + 1) p (by simpa using hj)
      rw [List.drop_drop]
      rwa [Nat.add_mul, Nat.one_mul, Nat.add_comm (j * k) k] at this⟩
    rw [List.flatMap_cons, ← h0, ← h1, List.take_append_drop]
theorem len86 (x : S86) : ([.string x.f0, .int .i64 x.f1] : List Value).length = 2 := rfl
theorem len41 (x : S41) : ([.int .i64 x.f0, .int .i64 x.f1, .int .i64 x.f2, .int .i64 x.f3] : List Value).length = 4 := rfl
theorem E86_len (l : List S86) : (E86 l).length = l.length * 2 := flat_len 2 _ len86 l
theorem E41_len (l : List S41) : (E41 l).length = l.length * 4 := flat_len 4 _ len41 l
theorem E86_one (l : List S86) : ∀ v ∈ E86 l, v.oneCell' = true := by
  intro v hv
  obtain ⟨x, _, hx⟩ := List.mem_flatMap.1 hv
  simp at hx
  rcases hx with rfl | rfl <;> rfl
theorem E41_one (l : List S41) : ∀ v ∈ E41 l, v.oneCell' = true := by
  intro v hv
  obtain ⟨x, _, hx⟩ := List.mem_flatMap.1 hv
  simp at hx
  rcases hx with rfl | rfl | rfl | rfl <;> rfl
/-- A row of the call's own, by its cells. -/
theorem R86_of {w : World} {base : Nat} {v : Value} {l : List S86} (h : w.ownsRow base 86 2 v l.length (E86 l)) : Kd.R k86 86 w base (fun _ => True) v l :=
  ⟨fun _ _ => trivial, E86 l, h, flat_reps _ 2 _ len86 (fun x => k86_mkM w base _ x) l⟩
theorem R41_of {w : World} {base : Nat} {v : Value} {l : List S41} (h : w.ownsRow base 41 4 v l.length (E41 l)) : Kd.R k41 41 w base (fun _ => True) v l :=
  ⟨fun _ _ => trivial, E41 l, h, flat_reps _ 4 _ len41 (fun x => k41_mkM w base _ x) l⟩
theorem R86_own {w : World} {base : Nat} {ok : Nat → Prop} {v : Value} {l : List S86} (h : Kd.R k86 86 w base ok v l) : w.ownsRow base 86 2 v l.length (E86 l) := by
  obtain ⟨_, inner, ho, hr⟩ := h
  have : inner = E86 l := flat_of_reps len86 (fun x c hc => k86_openM hc) hr
  rw [← this]; exact ho
theorem R41_own {w : World} {base : Nat} {ok : Nat → Prop} {v : Value} {l : List S41} (h : Kd.R k41 41 w base ok v l) : w.ownsRow base 41 4 v l.length (E41 l) := by
  obtain ⟨_, inner, ho, hr⟩ := h
  have : inner = E41 l := flat_of_reps len41 (fun x c hc => k41_openM hc) hr
  rw [← this]; exact ho
/-- What is read, by its cells. -/
theorem C86_cells {w : World} {A : Option Addr} {n : Nat} {l : List S86} (h : Kd.C k86 w A n l) (hn : 0 < n) : ∃ ad, A = some ad ∧ ∀ j v, (E86 l)[j]? = some v → w.cell? (ad.add j) = some v := by
  obtain ⟨ad, e, hc⟩ := h.2.2 hn
  refine ⟨ad, e, fun j v hj => ?_⟩
  have hjl : j < l.length * 2 := by rw [← E86_len]; exact (List.getElem?_eq_some_iff.1 hj).1
  obtain ⟨c, _, hk, hcell⟩ := hc (j / 2) l[j / 2] (List.getElem?_eq_getElem (by omega))
  obtain rfl := k86_open hk
  have e2 : (E86 l)[j]? = ([.string l[j / 2].f0, .int .i64 l[j / 2].f1] : List Value)[j % 2]? := by
    have hr := (flat_reps (fun (x : S86) c => c = [.string x.f0, .int .i64 x.f1]) 2 _ len86 (fun _ => rfl) l).2 (j / 2) l[j / 2] (List.getElem?_eq_getElem (by omega))
    rw [← hr, List.getElem?_take_of_lt (by omega), List.getElem?_drop]
    unfold E86
    congr 1
    omega
  rw [e2] at hj
  have := hcell (j % 2) v hj
  rwa [show k86.sz = 2 from rfl, show j / 2 * 2 + j % 2 = j from by omega] at this
theorem C41_cells {w : World} {A : Option Addr} {n : Nat} {l : List S41} (h : Kd.C k41 w A n l) (hn : 0 < n) : ∃ ad, A = some ad ∧ ∀ j v, (E41 l)[j]? = some v → w.cell? (ad.add j) = some v := by
  obtain ⟨ad, e, hc⟩ := h.2.2 hn
  refine ⟨ad, e, fun j v hj => ?_⟩
  have hjl : j < l.length * 4 := by rw [← E41_len]; exact (List.getElem?_eq_some_iff.1 hj).1
  obtain ⟨c, _, hk, hcell⟩ := hc (j / 4) l[j / 4] (List.getElem?_eq_getElem (by omega))
  obtain rfl := k41_open hk
  have e2 : (E41 l)[j]? = ([.int .i64 l[j / 4].f0, .int .i64 l[j / 4].f1, .int .i64 l[j / 4].f2, .int .i64 l[j / 4].f3] : List Value)[j % 4]? := by
    have hr := (flat_reps (fun (x : S41) c => c = [.int .i64 x.f0, .int .i64 x.f1, .int .i64 x.f2, .int .i64 x.f3]) 4 _ len41 (fun _ => rfl) l).2 (j / 4) l[j / 4] (List.getElem?_eq_getElem (by omega))
    rw [← hr, List.getElem?_take_of_lt (by omega), List.getElem?_drop]
    unfold E41
    congr 1
    omega
  rw [e2] at hj
  have := hcell (j % 4) v hj
  rwa [show k41.sz = 4 from rfl, show j / 4 * 4 + j % 4 = j from by omega] at this
end Go.Proofs.Ytjeoabjccbinhaa.P

namespace Go.Proofs.Ytjeoabjccbinhaa.P
open Go.RowKit Go.Proofs.YtjeoabjccbinhaaW.PrintWords Go.Proofs.YtjeoabjccbinhaaW.PrintLast Go.Proofs.YtjeoabjccbinhaaW.PrintMore
set_option linter.unusedVariables false
set_option linter.unusedSimpArgs false
set_option maxHeartbeats 1000000 in
set_option maxRecDepth 100000 in
theorem f59_calls (A : Option Addr) (c : Nat) (l : List S86) (w : World) (hr : Kd.C k86 w A l.length l) (hc : l.length ≤ c) (hn : l.length ≤ 1000) :
    Calls Try.prog 59 #[.slice A l.length c] w fun e w' => ∃ v, e = .returned v ∧ w'.ownsRow w.heap.size 86 2 v l.length (E86 l) ∧ Below w.heap.size w w' := by
  cases A with
  | none =>
    obtain rfl : l = [] := by
      cases l with
      | nil => rfl
      | cons x l => obtain ⟨ad, e, _⟩ := hr.2.2 (by simp); exact absurd e (by simp)
    clear hr
    have he : ∀ (w : World), (binOp .eql 25 (.slice none 0 c) (.slice none 0 0)).run Try.prog w = .ok (.bool true) w := fun _ => rfl
    go_enter Try.func59, Try.ntmps59
    go_wp2
    go_ret
    exact ⟨_, rfl, ⟨rfl, .inl ⟨rfl, rfl⟩⟩, Below.refl _ _⟩
  | some ad =>
    obtain ⟨i0, hi0, hz0, hzs, hzb⟩ := info_parts info86
    have he : ∀ (w : World), (binOp .eql 25 (.slice (some ad) l.length c) (.slice none 0 0)).run Try.prog w = .ok (.bool false) w := fun _ => rfl
    have hcs : ∀ j v, (E86 l)[j]? = some v → w.cell? (ad.add j) = some v := by
      intro j v hj
      obtain ⟨ad', e, h⟩ := C86_cells hr (by have := (List.getElem?_eq_some_iff.1 hj).1; rw [E86_len] at this; omega)
      cases e
      exact h j v hj
    have hb1 := (Below.refl w.heap.size w).alloc (Nat.le_refl _) (.cells #[] 86)
    have HCS := Aside0.mk (fun j v (hj : (E86 l)[j]? = some v) => (hb1.cell (World.block_lt_of_cell? w _ (hcs j v hj))).trans (hcs j v hj))
    have hown : (w.alloc (.cells #[] 86)).ownsRow w.heap.size 86 2 (.slice (some ⟨w.heap.size, 0, none⟩) 0 0) 0 [] := ⟨rfl, .inr ⟨w.heap.size, 0, #[], rfl, Nat.le_refl _, heap_alloc_new w _, Nat.le_refl _, Nat.zero_le _, rfl, rfl⟩⟩
    have HOWN := Aside0.mk hown
    have HB1 := Aside0.mk hb1
    clear hr hcs hown hb1
    go_enter Try.func59, Try.ntmps59
    go_wp2_with (at_builtin; refine wpList_append_own _ rfl (.tmp 5) (.tmp 6) 25 rfl w.heap.size 86 i0 _ 2 24 Try.underlying25 hi0 hz0 hzs hzb rfl (by decide) _ 0 [] rfl HOWN.out ad l.length c (E86 l) rfl (E86_len l) HCS.out (E86_one l) (by unfold maxLen; omega) (by omega) (by simp) ?_; intro v' w' hown' hgr hnil)
    go_ret
    exact ⟨v', rfl, by simpa using hown', HB1.out.grown hgr HB1.out.size (fun k e => by cases e; exact Nat.le_refl _)⟩
set_option maxHeartbeats 1000000 in
set_option maxRecDepth 100000 in
theorem f58_calls (A : Option Addr) (c : Nat) (l : List S41) (w : World) (hr : Kd.C k41 w A l.length l) (hc : l.length ≤ c) (hn : l.length ≤ 1000) :
    Calls Try.prog 58 #[.slice A l.length c] w fun e w' => ∃ v, e = .returned v ∧ w'.ownsRow w.heap.size 41 4 v l.length (E41 l) ∧ Below w.heap.size w w' := by
  cases A with
  | none =>
    obtain rfl : l = [] := by
      cases l with
      | nil => rfl
      | cons x l => obtain ⟨ad, e, _⟩ := hr.2.2 (by simp); exact absurd e (by simp)
    clear hr
    have he : ∀ (w : World), (binOp .eql 24 (.slice none 0 c) (.slice none 0 0)).run Try.prog w = .ok (.bool true) w := fun _ => rfl
    go_enter Try.func58, Try.ntmps58
    go_wp2
    go_ret
    exact ⟨_, rfl, ⟨rfl, .inl ⟨rfl, rfl⟩⟩, Below.refl _ _⟩
  | some ad =>
    obtain ⟨i0, hi0, hz0, hzs, hzb⟩ := info_parts info41
    have he : ∀ (w : World), (binOp .eql 24 (.slice (some ad) l.length c) (.slice none 0 0)).run Try.prog w = .ok (.bool false) w := fun _ => rfl
    have hcs : ∀ j v, (E41 l)[j]? = some v → w.cell? (ad.add j) = some v := by
      intro j v hj
      obtain ⟨ad', e, h⟩ := C41_cells hr (by have := (List.getElem?_eq_some_iff.1 hj).1; rw [E41_len] at this; omega)
      cases e
      exact h j v hj
    have hb1 := (Below.refl w.heap.size w).alloc (Nat.le_refl _) (.cells #[] 41)
    have HCS := Aside0.mk (fun j v (hj : (E41 l)[j]? = some v) => (hb1.cell (World.block_lt_of_cell? w _ (hcs j v hj))).trans (hcs j v hj))
    have hown : (w.alloc (.cells #[] 41)).ownsRow w.heap.size 41 4 (.slice (some ⟨w.heap.size, 0, none⟩) 0 0) 0 [] := ⟨rfl, .inr ⟨w.heap.size, 0, #[], rfl, Nat.le_refl _, heap_alloc_new w _, Nat.le_refl _, Nat.zero_le _, rfl, rfl⟩⟩
    have HOWN := Aside0.mk hown
    have HB1 := Aside0.mk hb1
    clear hr hcs hown hb1
    go_enter Try.func58, Try.ntmps58
    go_wp2_with (at_builtin; refine wpList_append_own _ rfl (.tmp 5) (.tmp 6) 24 rfl w.heap.size 41 i0 _ 4 32 Try.underlying24 hi0 hz0 hzs hzb rfl (by decide) _ 0 [] rfl HOWN.out ad l.length c (E41 l) rfl (E41_len l) HCS.out (E41_one l) (by unfold maxLen; omega) (by omega) (by simp) ?_; intro v' w' hown' hgr hnil)
    go_ret
    exact ⟨v', rfl, by simpa using hown', HB1.out.grown hgr HB1.out.size (fun k e => by cases e; exact Nat.le_refl _)⟩
end Go.Proofs.Ytjeoabjccbinhaa.P

namespace Go.Proofs.Ytjeoabjccbinhaa.P
open Go.RowKit Go.Proofs.YtjeoabjccbinhaaW.PrintWords Go.Proofs.YtjeoabjccbinhaaW.PrintLast Go.Proofs.YtjeoabjccbinhaaW.PrintMore
set_option linter.unusedVariables false
set_option linter.unusedSimpArgs false
theorem E86_snoc (l : List S86) (x : S86) : E86 (l ++ [x]) = E86 l ++ [.string x.f0, .int .i64 x.f1] := by simp [E86]
set_option maxHeartbeats 1000000 in
set_option maxRecDepth 100000 in
/-- Insert at the end. -/
theorem f60_end (base : Nat) (A : Option Addr) (c : Nat) (l : List S86) (x : S86) (vb : Nat) (w : World) (ho : w.ownsRow base 86 2 (.slice A l.length c) l.length (E86 l)) (hb : base ≤ w.heap.size) (hn : l.length ≤ 1000)
    (hv : w.heap[vb]? = some (.cells #[.string x.f0, .int .i64 x.f1] 86 (0, 0))) :
    Calls Try.prog 60 #[.slice A l.length c, .int .i64 l.length, .slice (some ⟨vb, 0, none⟩) 1 1] w fun e w' => ∃ v', e = .returned v' ∧ w'.ownsRow base 86 2 v' (l.length + 1) (E86 (l ++ [x])) ∧ Below base w w' := by
  obtain ⟨i0, hi0, hz0, hzs, hzb⟩ := info_parts info86
  have hcs : ∀ j u, ([.string x.f0, .int .i64 x.f1] : List Value)[j]? = some u → w.cell? ((⟨vb, 0, none⟩ : Addr).add j) = some u := by
    intro j u hj
    rw [Addr.add_lit]
    exact (blk_cell hv (0 + j)).trans (by rw [Nat.zero_add]; simpa using hj)
  have HCS := Aside0.mk hcs
  have HO := Aside0.mk ho
  have hc : l.length ≤ c := by
    rcases ho.2 with ⟨e, _⟩ | ⟨g, cap, cur, e, _, _, h, _⟩
    · injection e with _ e1 e2; omega
    · injection e with _ _ e2; omega
  clear ho hcs hv
  go_enter Try.func60, Try.ntmps60
  go_wp2_with (at_builtin; refine wpList_append_own _ rfl (.tmp 23) (.tmp 24) 25 rfl base 86 i0 _ 2 24 Try.underlying25 hi0 hz0 hzs hzb rfl (by decide) _ l.length (E86 l) rfl HO.out ⟨vb, 0, none⟩ 1 1 [.string x.f0, .int .i64 x.f1] rfl rfl HCS.out (by intro u hu; simp at hu; rcases hu with rfl | rfl <;> rfl) (by unfold maxLen; omega) (by omega) hb ?_; intro v' w' hown' hgr hnil)
  all_goals (go_ret; exact ⟨v', rfl, by rw [E86_snoc]; exact hown', (Below.refl base w).grown hgr hb (own_base HO.out)⟩)
set_option maxHeartbeats 4000000 in
set_option maxRecDepth 100000 in
/-- Insert in place. -/
theorem f60_room (base g : Nat) (c i : Nat) (l : List S86) (x : S86) (vb : Nat) (cur : Array Value) (w : World) (hg : w.heap[g]? = some (.cells cur 86 (0, 0))) (hcs : cur.size = c * 2) (hct : cur.toList.take (l.length * 2) = E86 l) (hbg : base ≤ g) (hi : i < l.length) (hc : l.length + 1 ≤ c) (hcm : c ≤ maxLen) (hn : l.length ≤ 1000) (hne : vb ≠ g)
    (hv : w.heap[vb]? = some (.cells #[.string x.f0, .int .i64 x.f1] 86 (0, 0))) :
    Calls Try.prog 60 #[.slice (some ⟨g, 0, none⟩) l.length c, .int .i64 i, .slice (some ⟨vb, 0, none⟩) 1 1] w fun e w' => ∃ v', e = .returned v' ∧ w'.ownsRow base 86 2 v' (l.length + 1) (E86 (l.take i ++ x :: l.drop i)) ∧ Below base w w' := by
  have hz1 : ¬ ((i : Int) = (l.length : Int)) := by omega
  have hsz : (Try.prog.info? 86).map (·.size) = some 2 := by
    obtain ⟨i0, hi0, h0, h1, h2⟩ := info_parts info86
    rw [hi0]; simp [h1]
  have hov : ∀ lb cb, (callFunc 73 #[.slice (some ⟨vb, 0, none⟩) 1 1, .slice (some ⟨g, (i + 1) * 2, none⟩) lb cb]).run Try.prog w = .ok (.value (.bool false)) w := fun lb cb => by
    rw [run_callFunc_extern Try.func73 (by kernel_rfl) (by kernel_rfl) (by kernel_rfl) (e := Extern.SlicesOverlaps.overlaps #[25, 25] #[4]) (by kernel_rfl),
      Lib.run_overlaps_apart w 25 4 86 Try.underlying25 2 Try.sizeOf86 ⟨vb, 0, none⟩ ⟨g, (i + 1) * 2, none⟩ 1 1 lb cb hne 86 86 2 (c * 2) (by simp [World.shape?, hv]) (by simp [World.shape?, hg, hcs]) (by omega) (by simp [World.frozen?, hv]) (by simp [World.frozen?, hv])]
    rfl
  have hgD : w.drew.heap[g]? = some (.cells cur 86 (0, 0)) := hg
  have hvD : w.drew.heap[vb]? = some (.cells #[.string x.f0, .int .i64 x.f1] 86 (0, 0)) := hv
  have hxl : ((E86 l).drop (i * 2)).length = (l.length - i) * 2 := by rw [List.length_drop, E86_len]; omega
  have hcur : ∀ (j : Nat) (u : Value), (E86 l)[j]? = some u → cur[j]? = some u := by
    intro j u hj
    rw [← hct, List.getElem?_take] at hj
    split at hj
    · rwa [Array.getElem?_toList] at hj
    · cases hj
  obtain ⟨cu1, hcu1⟩ : ∃ c1 : Array Value, c1 = (cur.toList.take ((i + 1) * 2) ++ (E86 l).drop (i * 2) ++ cur.toList.drop ((i + 1) * 2 + ((E86 l).drop (i * 2)).length)).toArray := ⟨_, rfl⟩
  have hcp1 : ∀ ty dc sc, (Builtin.copy_ #[25, 25] ty #[.slice (some ⟨g, (i + 1) * 2, none⟩) (l.length - i) dc, .slice (some ⟨g, i * 2, none⟩) (l.length + 1 - i) sc]).run Try.prog w.drew = .ok (goInt (Nat.min (l.length + 1 - i) (l.length - i))) (w.drew.setRow g cu1) := fun ty dc sc => by
    rw [hcu1]
    exact run_copy_rowK 2 w.drew 25 25 ty 86 g ((i + 1) * 2) (l.length - i) dc ⟨g, i * 2, none⟩ (l.length + 1 - i) sc cur 86 ((E86 l).drop (i * 2)) Try.underlying25 hsz hgD (by rw [hxl]; simp only [Nat.min_def]; split <;> omega)
      (fun j v hj => by
        rw [Addr.add_lit]
        rw [List.getElem?_drop] at hj
        simp [World.cell?, hgD, hcur _ _ hj]) (by rw [hxl]; omega) (fun v hv => E86_one l v (List.mem_of_mem_drop hv))
  have hg1 : (w.drew.setRow g cu1).heap[g]? = some (.cells cu1 86 (0, 0)) := setRow_heap w.drew g _ _ 86 _ hgD
  have hs1 : cu1.size = c * 2 := by
    rw [hcu1]
    simp [hxl, hcs]
    omega
  obtain ⟨cu2, hcu2⟩ : ∃ c2 : Array Value, c2 = (cu1.toList.take (i * 2) ++ ([.string x.f0, .int .i64 x.f1] : List Value) ++ cu1.toList.drop (i * 2 + 2)).toArray := ⟨_, rfl⟩
  obtain ⟨W1, hW1⟩ : ∃ W, W = w.drew.setRow g cu1 := ⟨_, rfl⟩
  have hv1 : W1.heap[vb]? = some (.cells #[.string x.f0, .int .i64 x.f1] 86 (0, 0)) := by rw [hW1]; exact (setRow_other w.drew g vb _ hne).trans hvD
  rw [← hW1] at hcp1 hg1
  have hB1 : Below base w W1 := by rw [hW1]; exact below_setRow (below_drew1 (Below.refl _ _)) hbg _
  have hcp2 : ∀ ty dc, (Builtin.copy_ #[25, 25] ty #[.slice (some ⟨g, i * 2, none⟩) (l.length + 1 - i) dc, .slice (some ⟨vb, 0, none⟩) 1 1]).run Try.prog W1 = .ok (goInt (Nat.min 1 (l.length + 1 - i))) (W1.setRow g cu2) := fun ty dc => by
    rw [hcu2]
    exact run_copy_rowK 2 W1 25 25 ty 86 g (i * 2) (l.length + 1 - i) dc ⟨vb, 0, none⟩ 1 1 cu1 86 [.string x.f0, .int .i64 x.f1] Try.underlying25 hsz hg1 (by simp only [Nat.min_def]; split <;> simp <;> omega)
      (fun j v hj => by
        rw [Addr.add_lit]
        simp [World.cell?, hv1]
        simpa using hj) (by simp; omega) (by intro u hu; simp at hu; rcases hu with rfl | rfl <;> rfl)
  have hg2 : (W1.setRow g cu2).heap[g]? = some (.cells cu2 86 (0, 0)) := setRow_heap W1 g _ _ 86 _ hg1
  have hs2 : cu2.size = c * 2 := by
    rw [hcu2]
    simp [hs1]
    omega
  have hown : (W1.setRow g cu2).ownsRow base 86 2 (.slice (some ⟨g, 0, none⟩) (l.length + 1) c) (l.length + 1) (E86 (l.take i ++ x :: l.drop i)) := by
    refine ⟨by rw [E86_len]; simp; omega, .inr ⟨g, c, cu2, rfl, hbg, hg2, hc, hcm, hs2, ?_⟩⟩
    have e1 : cu1.toList.take (i * 2) = E86 (l.take i) := by
      rw [hcu1]
      simp only [List.append_assoc]
      rw [List.take_append_of_le_length (by simp [hcs]; omega), List.take_take, Nat.min_eq_left (by omega)]
      have := congrArg (List.take (i * 2)) hct
      rw [List.take_take, Nat.min_eq_left (by omega)] at this
      rw [this]
      exact flat_take 2 _ len86 l i
    have e2 : (cu1.toList.drop (i * 2 + 2)).take ((l.length - i) * 2) = E86 (l.drop i) := by
      rw [hcu1]
      simp only [List.append_assoc]
      rw [List.drop_append, List.drop_of_length_le (by simp; omega), List.nil_append, List.length_take, show i * 2 + 2 - min ((i + 1) * 2) cur.toList.length = 0 from by simp [hcs]; omega, List.drop_zero, List.take_append_of_le_length (by rw [hxl]; omega), List.take_of_length_le (by rw [hxl]; omega)]
      exact flat_drop 2 _ len86 l i
    have e3 : cu2.toList = E86 (l.take i) ++ (([.string x.f0, .int .i64 x.f1] : List Value) ++ cu1.toList.drop (i * 2 + 2)) := by
      rw [hcu2, ← e1]
      simp
    have e4 : E86 (l.take i ++ x :: l.drop i) = E86 (l.take i) ++ (([.string x.f0, .int .i64 x.f1] : List Value) ++ E86 (l.drop i)) := by simp [E86]
    rw [e3, e4, show (l.length + 1) * 2 = (E86 (l.take i)).length + (([.string x.f0, .int .i64 x.f1] : List Value).length + (l.length - i) * 2) from by rw [E86_len, List.length_take]; simp; omega, List.take_length_add_append, List.take_length_add_append, e2]
  have hB2 : Below base w (W1.setRow g cu2) := below_setRow hB1 hbg _
  have HG := Aside0.mk hg
  have HV := Aside0.mk hv
  have HE := Aside0.mk (And.intro hown hB2)
  have HCP1 := Aside0.mk hcp1
  have HCP2 := Aside0.mk hcp2
  have hin : i ≤ l.length := by omega
  have hb1 : (0 : Int) ≤ (i : Int) + 1 := by omega
  have hw1 : IntKind.i64.wrap ((i : Int) + 1) = (i : Int) + 1 := by rw [IntKind.wrap_i64]; omega
  have htn : ((i : Int) + 1).toNat = i + 1 := by omega
  have hb2 : ¬ (c = i + 1) := by omega
  have hb3 : (i : Int) ≤ (l.length : Int) + 1 := by omega
  have hb4 : ¬ (c = i) := by omega
  clear hW1 hB1 hB2 hgD hvD hg hv hct hcu1 hcu2 hs1 hs2 hg1 hg2 hv1 hown hcur hxl hcp1 hcp2
  unfold maxLen at hcm
  go_enter Try.func60, Try.ntmps60
  go_wp2_with (simp only [hov])
  go_region_law (refine step_copyR rfl (.tmp 73) (.tmp 76) 25 25 rfl (.slice (some ⟨g, (i + 1) * 2, none⟩) (l.length - i) (c - (i + 1))) (.slice (some ⟨g, i * 2, none⟩) (l.length + 1 - i) (c - i)) (by simp [Act.eval, Act.put]) (by simp [Act.eval, Act.put]) (HCP1.out 3 (c - (i + 1)) (c - i)) ?_)
  go_wp2_with ((with_reducible refine gate_builtin (b := .copy) (xs := #[.tmp 80, .tmp 81]) rfl ?_); refine wpList_copyR _ rfl (.tmp 80) (.tmp 81) 25 25 rfl _ _ rfl rfl (HCP2.out _ _) ?_)
  go_ret
  exact ⟨_, rfl, HE.out.1, HE.out.2⟩
set_option maxHeartbeats 4000000 in
set_option maxRecDepth 100000 in
/-- Insert where there is no room. -/
theorem f60_grow (base g : Nat) (c i : Nat) (l : List S86) (x : S86) (vb : Nat) (cur : Array Value) (w : World) (hg : w.heap[g]? = some (.cells cur 86 (0, 0))) (hct : cur.toList.take (l.length * 2) = E86 l) (hbase : base ≤ w.heap.size) (hi : i < l.length) (hc : c = l.length) (hn : l.length ≤ 1000)
    (hv : w.heap[vb]? = some (.cells #[.string x.f0, .int .i64 x.f1] 86 (0, 0))) :
    Calls Try.prog 60 #[.slice (some ⟨g, 0, none⟩) l.length c, .int .i64 i, .slice (some ⟨vb, 0, none⟩) 1 1] w fun e w' => ∃ v', e = .returned v' ∧ w'.ownsRow base 86 2 v' (l.length + 1) (E86 (l.take i ++ x :: l.drop i)) ∧ Below base w w' := by
  subst hc
  have hz1 : ¬ ((i : Int) = (l.length : Int)) := by omega
  obtain ⟨i0, hi0, hz0, hzs, hzb⟩ := info_parts info86
  have hsz : (Try.prog.info? 86).map (·.size) = some 2 := by rw [hi0]; simp [hzs]
  have hgD : w.drew.heap[g]? = some (.cells cur 86 (0, 0)) := hg
  have hvD : w.drew.heap[vb]? = some (.cells #[.string x.f0, .int .i64 x.f1] 86 (0, 0)) := hv
  have hgl : g < w.heap.size := blk_lt hg
  have hvl : vb < w.heap.size := blk_lt hv
  have hcur : ∀ (j : Nat) (u : Value), (E86 l)[j]? = some u → cur[j]? = some u := by
    intro j u hj
    rw [← hct, List.getElem?_take] at hj
    split at hj
    · rwa [Array.getElem?_toList] at hj
    · cases hj
  have hik : i + (l.length + 1 - i) = l.length + 1 := by omega
  have hold : (Builtin.firstCells i0.size i (.slice (some ⟨g, 0, none⟩) i l.length)).run Try.prog w.drew = .ok (E86 (l.take i)).toArray w.drew := by
    rw [hzs]
    exact run_firstCells_some w.drew 2 i ⟨g, 0, none⟩ i l.length (E86 (l.take i)) (by rw [E86_len, List.length_take]; omega) (fun j v hj => by
      rw [Addr.add_lit]
      have : (E86 l)[j]? = some v := by
        rw [show E86 (l.take i) = (E86 l).take (i * 2) from (flat_take 2 _ len86 l i).symm, List.getElem?_take] at hj
        split at hj
        · exact hj
        · cases hj
      simp [World.cell?, hgD, hcur _ _ this])
  obtain ⟨G, hG⟩ : ∃ G, G = grownCap w (l.length + 1) l.length 86 := ⟨_, rfl⟩
  obtain ⟨ROW, hROW⟩ : ∃ ROW : Array Value, ROW = (E86 (l.take i)).toArray ++ Builtin.zeroCells (Value.agg #[.string ⟨#[]⟩, .int .i64 0]).cells (l.length + 1 - i) ++ Builtin.zeroCells (Value.agg #[.string ⟨#[]⟩, .int .i64 0]).cells (G - (l.length + 1)) := ⟨_, rfl⟩
  obtain ⟨W0, hW0⟩ : ∃ W, W = w.drew.alloc (.cells ROW 86) := ⟨_, rfl⟩
  have hrz : ∀ ty, (Builtin.append_ #[25, 3] ty #[.slice (some ⟨g, 0, none⟩) i l.length, .int .i64 ((l.length : Int) + 1 - (i : Int))]).run Try.prog w = .ok (.slice (some ⟨w.heap.size, 0, none⟩) (l.length + 1) G) W0 := fun ty => by
    have h := Lib.run_append_grow_zeros w 25 3 ty 86 i0 _ .i64 .i64 Try.underlying25 Try.underlying3 hi0 hz0 (some ⟨g, 0, none⟩) i l.length (E86 (l.take i)) hold (l.length + 1 - i) (by omega) (by omega) (by omega) (by omega) (by rw [hzb]; omega) (by rw [hzb, hik]; exact growslice_fits (by omega) (by omega))
    rw [hik] at h
    rw [show (l.length : Int) + 1 - (i : Int) = ((l.length + 1 - i : Nat) : Int) from by omega, hW0, hROW, hG]
    exact h
  have hGn : l.length + 1 ≤ G := by rw [hG]; exact grownCap_ge w _ _ _
  have hG63 : G ≤ maxLen := by
    rw [hG]
    exact grownCap_le_maxLen w (l.length + 1) l.length 86 (by unfold maxLen; omega)
  have hRs : ROW.size = G * 2 := by
    rw [hROW]
    simp [Builtin.zeroCells, Value.cells, E86_len]
    omega
  have hR0 : W0.heap[w.heap.size]? = some (.cells ROW 86 (0, 0)) := by rw [hW0]; exact heap_alloc_new w.drew _
  have hg0 : W0.heap[g]? = some (.cells cur 86 (0, 0)) := by rw [hW0]; exact (Below.heap_alloc w.drew _ g hgl).trans hgD
  have hv0 : W0.heap[vb]? = some (.cells #[.string x.f0, .int .i64 x.f1] 86 (0, 0)) := by rw [hW0]; exact (Below.heap_alloc w.drew _ vb hvl).trans hvD
  have hb0 : Below base w W0 := by rw [hW0]; exact (below_drew1 (Below.refl base w)).alloc hbase _
  obtain ⟨cu1, hcu1⟩ : ∃ c1 : Array Value, c1 = (ROW.toList.take (i * 2) ++ ([.string x.f0, .int .i64 x.f1] : List Value) ++ ROW.toList.drop (i * 2 + 2)).toArray := ⟨_, rfl⟩
  have hcp1 : ∀ ty dc, (Builtin.copy_ #[25, 25] ty #[.slice (some ⟨w.heap.size, i * 2, none⟩) (l.length + 1 - i) dc, .slice (some ⟨vb, 0, none⟩) 1 1]).run Try.prog W0 = .ok (goInt (Nat.min 1 (l.length + 1 - i))) (W0.setRow w.heap.size cu1) := fun ty dc => by
    rw [hcu1]
    exact run_copy_rowK 2 W0 25 25 ty 86 w.heap.size (i * 2) (l.length + 1 - i) dc ⟨vb, 0, none⟩ 1 1 ROW 86 [.string x.f0, .int .i64 x.f1] Try.underlying25 hsz hR0 (by simp only [Nat.min_def]; split <;> simp <;> omega)
      (fun j v hj => by
        rw [Addr.add_lit]
        simp [World.cell?, hv0]
        simpa using hj) (by simp; omega) (by intro u hu; simp at hu; rcases hu with rfl | rfl <;> rfl)
  obtain ⟨W1, hW1⟩ : ∃ W, W = W0.setRow w.heap.size cu1 := ⟨_, rfl⟩
  rw [← hW1] at hcp1
  have hR1 : W1.heap[w.heap.size]? = some (.cells cu1 86 (0, 0)) := by rw [hW1]; exact setRow_heap W0 _ _ _ 86 _ hR0
  have hR1D : W1.drew.heap[w.heap.size]? = some (.cells cu1 86 (0, 0)) := hR1
  have hg1 : W1.drew.heap[g]? = some (.cells cur 86 (0, 0)) := by rw [hW1]; exact (setRow_other W0 _ g _ (by omega)).trans hg0
  have hs1 : cu1.size = G * 2 := by
    rw [hcu1]
    simp [hRs]
    omega
  have hb1 : Below base w W1.drew := by rw [hW1]; exact below_drew1 (below_setRow hb0 hbase _)
  have hxl : (E86 (l.drop i)).length = (l.length - i) * 2 := by rw [E86_len, List.length_drop]
  obtain ⟨cu2, hcu2⟩ : ∃ c2 : Array Value, c2 = (cu1.toList.take ((i + 1) * 2) ++ E86 (l.drop i) ++ cu1.toList.drop ((i + 1) * 2 + (E86 (l.drop i)).length)).toArray := ⟨_, rfl⟩
  have hcp2 : ∀ ty dc sc, (Builtin.copy_ #[25, 25] ty #[.slice (some ⟨w.heap.size, (i + 1) * 2, none⟩) (l.length - i) dc, .slice (some ⟨g, i * 2, none⟩) (l.length - i) sc]).run Try.prog W1.drew = .ok (goInt (Nat.min (l.length - i) (l.length - i))) (W1.drew.setRow w.heap.size cu2) := fun ty dc sc => by
    rw [hcu2]
    exact run_copy_rowK 2 W1.drew 25 25 ty 86 w.heap.size ((i + 1) * 2) (l.length - i) dc ⟨g, i * 2, none⟩ (l.length - i) sc cu1 86 (E86 (l.drop i)) Try.underlying25 hsz hR1D (by rw [hxl]; simp only [Nat.min_def]; split <;> omega)
      (fun j v hj => by
        rw [Addr.add_lit]
        rw [show E86 (l.drop i) = (E86 l).drop (i * 2) from (flat_drop 2 _ len86 l i).symm, List.getElem?_drop] at hj
        simp [World.cell?, hg1, hcur _ _ hj]) (by rw [hxl]; omega) (E86_one _)
  have hR2 : (W1.drew.setRow w.heap.size cu2).heap[w.heap.size]? = some (.cells cu2 86 (0, 0)) := setRow_heap W1.drew _ _ _ 86 _ hR1D
  have hs2 : cu2.size = G * 2 := by
    rw [hcu2]
    simp [hxl, hs1]
    omega
  have hown : (W1.drew.setRow w.heap.size cu2).ownsRow base 86 2 (.slice (some ⟨w.heap.size, 0, none⟩) (l.length + 1) G) (l.length + 1) (E86 (l.take i ++ x :: l.drop i)) := by
    refine ⟨by rw [E86_len]; simp; omega, .inr ⟨w.heap.size, G, cu2, rfl, hbase, hR2, hGn, hG63, hs2, ?_⟩⟩
    have hl1 : (E86 (l.take i)).length = i * 2 := by rw [E86_len, List.length_take]; omega
    have e0 : ROW.toList.take (i * 2) = E86 (l.take i) := by
      rw [hROW]
      simp only [Array.toList_append, List.append_assoc]
      rw [List.take_append_of_le_length (by simp [hl1]), List.take_of_length_le (by simp [hl1])]
    have e1 : cu1.toList = E86 (l.take i) ++ (([.string x.f0, .int .i64 x.f1] : List Value) ++ ROW.toList.drop (i * 2 + 2)) := by
      rw [hcu1, ← e0]
      simp
    have e2 : cu1.toList.take ((i + 1) * 2) = E86 (l.take i) ++ ([.string x.f0, .int .i64 x.f1] : List Value) := by
      rw [e1, ← List.append_assoc, List.take_append_of_le_length (by rw [List.length_append, hl1]; simp; omega), List.take_of_length_le (by rw [List.length_append, hl1]; simp; omega)]
    have e4 : E86 (l.take i ++ x :: l.drop i) = E86 (l.take i) ++ (([.string x.f0, .int .i64 x.f1] : List Value) ++ E86 (l.drop i)) := by simp [E86]
    have e3 : cu2.toList = E86 (l.take i ++ x :: l.drop i) ++ cu1.toList.drop ((i + 1) * 2 + (E86 (l.drop i)).length) := by
      rw [hcu2, e2, e4]
      simp only [List.append_assoc]
    rw [e3, List.take_append_of_le_length (by rw [E86_len]; simp; omega), List.take_of_length_le (by rw [E86_len]; simp; omega)]
  have hB2 : Below base w (W1.drew.setRow w.heap.size cu2) := below_setRow hb1 hbase _
  have HE := Aside0.mk (And.intro hown hB2)
  have HRZ := Aside0.mk hrz
  have HCP1 := Aside0.mk hcp1
  have HCP2 := Aside0.mk hcp2
  have hin : i ≤ l.length := by omega
  have hp1 : (0 : Int) ≤ (i : Int) + 1 := by omega
  have hw1 : IntKind.i64.wrap ((i : Int) + 1) = (i : Int) + 1 := by rw [IntKind.wrap_i64]; omega
  have htn : ((i : Int) + 1).toNat = i + 1 := by omega
  have hb3 : (i : Int) ≤ (l.length : Int) + 1 := by omega
  have hb4 : ¬ (l.length = i) := by omega
  have hGi : ¬ (G = i) := by omega
  have hGim : ¬ (G = i + 1) := by omega
  unfold maxLen at hG63
  clear hik hold hROW hG hRs hW0 hR0 hg0 hv0 hb0 hcu1 hW1 hR1 hR1D hg1 hs1 hb1 hxl hcu2 hR2 hs2 hown hB2 hrz hcp1 hcp2 hg hv hgD hvD hct hcur
  go_enter Try.func60, Try.ntmps60
  go_wp2_with (first
    | (at_builtin; refine Lib.wpList_append_run _ rfl _ _ _ _ rfl _ _ rfl rfl _ _ (HRZ.out _) ?_)
    | ((with_reducible refine gate_builtin (b := .copy) (xs := #[.tmp 43, .tmp 44]) rfl ?_); refine wpList_copyR _ rfl (.tmp 43) (.tmp 44) 25 25 rfl _ _ rfl rfl (HCP1.out _ _) ?_))
  go_region_law (refine step_copyR rfl (.tmp 50) (.tmp 53) 25 25 rfl (.slice (some ⟨w.heap.size, (i + 1) * 2, none⟩) (l.length - i) (G - (i + 1))) (.slice (some ⟨g, i * 2, none⟩) (l.length - i) (l.length - i)) (by simp [Act.eval, Act.put]) (by simp [Act.eval, Act.put]) (HCP2.out 3 (G - (i + 1)) (l.length - i)) ?_)
  go_wp2
  go_ret
  exact ⟨_, rfl, HE.out.1, HE.out.2⟩
set_option maxHeartbeats 1000000 in
set_option maxRecDepth 100000 in
/-- slices.Insert(s, i, x), s a row of the call's own. -/
theorem f60_calls (base : Nat) (A : Option Addr) (c i : Nat) (l : List S86) (x : S86) (vb : Nat) (w : World) (ho : w.ownsRow base 86 2 (.slice A l.length c) l.length (E86 l)) (hb : base ≤ w.heap.size) (hi : i ≤ l.length) (hn : l.length ≤ 1000)
    (hv : w.heap[vb]? = some (.cells #[.string x.f0, .int .i64 x.f1] 86 (0, 0))) (hne : ∀ ad, A = some ad → vb ≠ ad.block) :
    Calls Try.prog 60 #[.slice A l.length c, .int .i64 i, .slice (some ⟨vb, 0, none⟩) 1 1] w fun e w' => ∃ v', e = .returned v' ∧ w'.ownsRow base 86 2 v' (l.length + 1) (E86 (l.take i ++ x :: l.drop i)) ∧ Below base w w' := by
  by_cases h : i = l.length
  · subst h
    rw [List.take_length, List.drop_length]
    exact f60_end base A c l x vb w ho hb hn hv
  · rcases id ho.2 with ⟨e, e2⟩ | ⟨g, cap, cur, e, hbg, hg, hnc, hcm, hcs, hct⟩
    · exact absurd e2 (by omega)
    · injection e with e1 _ e3
      subst e1 e3
      by_cases hr : l.length + 1 ≤ c
      · exact f60_room base g c i l x vb cur w hg hcs hct hbg (by omega) hr hcm hn (hne _ rfl) hv
      · exact f60_grow base g c i l x vb cur w hg hct hb (by omega) (by omega) hn hv
end Go.Proofs.Ytjeoabjccbinhaa.P

namespace Go.Proofs.Ytjeoabjccbinhaa.P
open Go.RowKit Go.Proofs.YtjeoabjccbinhaaW.PrintWords Go.Proofs.YtjeoabjccbinhaaW.PrintLast Go.Proofs.YtjeoabjccbinhaaW.PrintMore
set_option linter.unusedVariables false
set_option linter.unusedSimpArgs false
/-- append where there is room, in a block known whole. -/
theorem run_append_rowK {P : Program} (w : World) (t ty e : TypeId) (i : TypeInfo) (ht : P.underlying t = some (.slice e)) (hi : P.info? e = some i) (g sLen sCap : Nat) (cur : Array Value) (te : TypeId) (x : Value) (n : Nat) (news : List Value)
    (hs : Src P i.size t x n news w) (hroom : sLen + n ≤ sCap) (hg : w.heap[g]? = some (.cells cur te (0, 0))) (hfit : sLen * i.size + news.length ≤ cur.size) :
    (Builtin.append_ #[t, t] ty #[.slice (some ⟨g, 0, none⟩) sLen sCap, x]).run P w = .ok (.slice (some ⟨g, 0, none⟩) (sLen + n) sCap) (w.setRow g (cur.toList.take (sLen * i.size) ++ news ++ cur.toList.drop (sLen * i.size + news.length)).toArray) := by
  have hst := run_storeCells_at P g (sLen * i.size) te news 0 cur w hg (by simpa using hfit) hs.one
  simp [Builtin.append_, run_underlying ht, sizeOf, typeInfo, hi, hs.len, hroom, hs.cells, Addr.add_lit, hst]
/-- clear of one element. -/
theorem run_clear_rowK {P : Program} (w : World) (t ty e : TypeId) (i : TypeInfo) (z : Value) (ht : P.underlying t = some (.slice e)) (hi : P.info? e = some i) (hz : i.zero = some z) (g o sCap : Nat) (cur : Array Value) (te : TypeId) (hg : w.heap[g]? = some (.cells cur te (0, 0)))
    (zs : List Value) (hzc : (Builtin.zeroCells z.cells 1).toList = zs) (hfit : o + zs.length ≤ cur.size) (h1 : ∀ v ∈ zs, v.oneCell' = true) :
    (Builtin.clear_ #[t] ty #[.slice (some ⟨g, o, none⟩) 1 sCap]).run P w = .ok (.tuple #[]) (w.setRow g (cur.toList.take o ++ zs ++ cur.toList.drop (o + zs.length)).toArray) := by
  have hst := run_storeCells_at P g o te zs 0 cur w hg (by simpa using hfit) h1
  simp [Builtin.clear_, run_underlying ht, zeroValue, typeInfo, hi, hz, hzc, hst]
section
variable {P : Program}
theorem wpList_clearR (w : World) {ops : Array Oper} {rest : List Oper} {o : Oper} {a : Act} {Q : Exit → Act → World → Prop} (hgd : o.guard = none) (d : Operand) (t : TypeId)
    (ho : o.op = .call { callee := .builtin .clear, args := #[d], argTypes := #[t] }) (v : Value) (hd : a.eval d = v) {v' : Value} {w' : World}
    (hr : (Builtin.clear_ #[t] o.type #[v]).run P w = .ok v' w') (h : wpList P ops Q rest (a.put o.dst v') w') : wpList P ops Q (o :: rest) a w :=
  wpList_plain hgd fun K hK => by
    unfold Oper.wp
    simp [execOp, ho, resolve, invoke, builtin, hd, hr, Result.andThen]
    exact hK _ _ h
end
theorem zero86 : (Builtin.zeroCells (Value.agg #[.string ⟨#[]⟩, .int .i64 0]).cells 1).toList = [.string ⟨#[]⟩, .int .i64 0] := by
  simp [Builtin.zeroCells, Value.cells, List.range_succ]
set_option maxHeartbeats 4000000 in
set_option maxRecDepth 100000 in
theorem f64_calls (base : Nat) (A : Option Addr) (c i : Nat) (l : List S86) (w : World) (ho : w.ownsRow base 86 2 (.slice A l.length c) l.length (E86 l)) (hb : base ≤ w.heap.size) (hi : i < l.length) (hn : l.length ≤ 1000) :
    Calls Try.prog 64 #[.slice A l.length c, .int .i64 i, .int .i64 ((i : Int) + 1)] w fun e w' => ∃ v', e = .returned v' ∧ w'.ownsRow base 86 2 v' (l.length - 1) (E86 (l.take i ++ l.drop (i + 1))) ∧ Below base w w' := by
  rcases ho.2 with ⟨e, e2⟩ | ⟨g, cap, cur, e, hbg, hg, hnc, hcm, hcs, hct⟩
  · exact absurd e2 (by omega)
  injection e with e1 _ e3
  subst e1 e3
  clear ho
  obtain ⟨i0, hi0, hz0, hzs, hzb⟩ := info_parts info86
  have hgD : w.drew.heap[g]? = some (.cells cur 86 (0, 0)) := hg
  have hcur : ∀ (j : Nat) (u : Value), (E86 l)[j]? = some u → cur[j]? = some u := by
    intro j u hj
    rw [← hct, List.getElem?_take] at hj
    split at hj
    · rwa [Array.getElem?_toList] at hj
    · cases hj
  have hxl : (E86 (l.drop (i + 1))).length = (l.length - (i + 1)) * 2 := by rw [E86_len, List.length_drop]
  obtain ⟨oo, hoo⟩ : ∃ oo, oo = if c = i + 1 then 0 else (i + 1) * 2 := ⟨_, rfl⟩
  have hsrc : Src Try.prog i0.size 25 (.slice (some ⟨g, oo, none⟩) (l.length - (i + 1)) (c - (i + 1))) (l.length - (i + 1)) (E86 (l.drop (i + 1))) w.drew := by
    rw [hzs]
    exact Src.ofSlice w.drew Try.underlying25 ⟨g, oo, none⟩ _ _ (E86 (l.drop (i + 1))) hxl (fun j u hj => by
      rw [Addr.add_lit]
      rw [show E86 (l.drop (i + 1)) = (E86 l).drop ((i + 1) * 2) from (flat_drop 2 _ len86 l (i + 1)).symm, List.getElem?_drop] at hj
      have hjl := (List.getElem?_eq_some_iff.1 hj).1
      rw [E86_len] at hjl
      rw [hoo, if_neg (by omega)]
      simp [World.cell?, hgD, hcur _ _ hj]) (E86_one _)
  obtain ⟨cu1, hcu1⟩ : ∃ c1 : Array Value, c1 = (cur.toList.take (i * 2) ++ E86 (l.drop (i + 1)) ++ cur.toList.drop (i * 2 + (E86 (l.drop (i + 1))).length)).toArray := ⟨_, rfl⟩
  have hap : ∀ ty, (Builtin.append_ #[25, 25] ty #[.slice (some ⟨g, 0, none⟩) i c, .slice (some ⟨g, oo, none⟩) (l.length - (i + 1)) (c - (i + 1))]).run Try.prog w.drew = .ok (.slice (some ⟨g, 0, none⟩) (l.length - 1) c) (w.drew.setRow g cu1) := fun ty => by
    rw [hcu1, show l.length - 1 = i + (l.length - (i + 1)) from by omega]
    have h := run_append_rowK w.drew 25 ty 86 i0 Try.underlying25 hi0 g i c cur 86 _ _ _ hsrc (by omega) hgD (by rw [hxl, hzs]; omega)
    rw [hzs] at h
    exact h
  have hg1 : (w.drew.setRow g cu1).heap[g]? = some (.cells cu1 86 (0, 0)) := setRow_heap w.drew g _ _ 86 _ hgD
  have hs1 : cu1.size = c * 2 := by
    rw [hcu1]
    simp [hxl, hcs]
    omega
  obtain ⟨W1, hW1⟩ : ∃ W, W = w.drew.setRow g cu1 := ⟨_, rfl⟩
  rw [← hW1] at hap hg1
  have hb1 : Below base w W1 := by rw [hW1]; exact below_setRow (below_drew1 (Below.refl _ _)) hbg _
  obtain ⟨cu2, hcu2⟩ : ∃ c2 : Array Value, c2 = (cu1.toList.take ((l.length - 1) * 2) ++ ([.string ⟨#[]⟩, .int .i64 0] : List Value) ++ cu1.toList.drop ((l.length - 1) * 2 + 2)).toArray := ⟨_, rfl⟩
  have hcl : ∀ ty n sc, n = 1 → (Builtin.clear_ #[25] ty #[.slice (some ⟨g, (l.length - 1) * 2, none⟩) n sc]).run Try.prog W1 = .ok (.tuple #[]) (W1.setRow g cu2) := fun ty n sc hn1 => by
    rw [hcu2, hn1]
    exact run_clear_rowK W1 25 ty 86 i0 _ Try.underlying25 hi0 hz0 g ((l.length - 1) * 2) sc cu1 86 hg1 [.string ⟨#[]⟩, .int .i64 0] zero86 (by simp; omega) (by intro u hu; simp at hu; rcases hu with rfl | rfl <;> rfl)
  have hg2 : (W1.setRow g cu2).heap[g]? = some (.cells cu2 86 (0, 0)) := setRow_heap W1 g _ _ 86 _ hg1
  have hs2 : cu2.size = c * 2 := by
    rw [hcu2]
    simp [hs1]
    omega
  have hown : (W1.setRow g cu2).ownsRow base 86 2 (.slice (some ⟨g, 0, none⟩) (l.length - 1) c) (l.length - 1) (E86 (l.take i ++ l.drop (i + 1))) := by
    refine ⟨by rw [E86_len]; simp; omega, .inr ⟨g, c, cu2, rfl, hbg, hg2, by omega, hcm, hs2, ?_⟩⟩
    have e0 : cur.toList.take (i * 2) = E86 (l.take i) := by
      have := congrArg (List.take (i * 2)) hct
      rw [List.take_take, Nat.min_eq_left (by omega)] at this
      rw [this]
      exact flat_take 2 _ len86 l i
    have e4 : E86 (l.take i ++ l.drop (i + 1)) = E86 (l.take i) ++ E86 (l.drop (i + 1)) := by simp [E86]
    have hl4 : (E86 (l.take i ++ l.drop (i + 1))).length = (l.length - 1) * 2 := by rw [E86_len]; simp; omega
    have e1 : cu1.toList.take ((l.length - 1) * 2) = E86 (l.take i ++ l.drop (i + 1)) := by
      rw [hcu1, e0, ← e4, List.take_append_of_le_length (by rw [hl4]; exact Nat.le_refl _), List.take_of_length_le (by rw [hl4]; exact Nat.le_refl _)]
    rw [hcu2, e1]
    simp only [List.append_assoc]
    rw [List.take_append_of_le_length (by rw [hl4]; exact Nat.le_refl _), List.take_of_length_le (by rw [hl4]; exact Nat.le_refl _)]
  have hB2 : Below base w (W1.setRow g cu2) := below_setRow hb1 hbg _
  have HE := Aside0.mk (And.intro hown hB2)
  have HAP := Aside0.mk hap
  have HCL := Aside0.mk hcl
  have hp0 : ¬ ((i : Int) = (i : Int) + 1) := by omega
  have hp1 : (0 : Int) ≤ (i : Int) + 1 := by omega
  have htn : ((i : Int) + 1).toNat = i + 1 := by omega
  have hp2 : (i : Int) ≤ (i : Int) + 1 := by omega
  have hp3 : (i : Int) + 1 ≤ (l.length : Int) := by omega
  have hp4 : i ≤ c := by omega
  have hp5 : ¬ (c = l.length - 1) := by omega
  unfold maxLen at hcm
  clear hgD hg hct hcur hsrc hxl hcu1 hap hg1 hs1 hW1 hb1 hcu2 hcl hg2 hs2 hown hB2
  by_cases hci : c = i + 1
  · rw [if_pos hci] at hoo
    subst hoo
    subst hci
    go_enter Try.func64, Try.ntmps64
    go_wp2_with fail
    go_region_law (refine step_appendR rfl (.tmp 22) (.tmp 25) 25 25 rfl (.slice (some ⟨g, 0, none⟩) i (i + 1)) (.slice (some ⟨g, 0, none⟩) (l.length - (i + 1)) (i + 1 - (i + 1))) (by simp [Act.eval, Act.put]) (by simp [Act.eval, Act.put] <;> omega) (HAP.out 25) ?_)
    go_wp2_with ((with_reducible refine gate_builtin (b := .clear) (xs := #[.tmp 31]) rfl ?_); refine wpList_clearR _ rfl (.tmp 31) 25 rfl _ rfl (HCL.out _ _ _ (by omega)) ?_)
    go_ret
    exact ⟨_, rfl, HE.out.1, HE.out.2⟩
  · rw [if_neg hci] at hoo
    subst hoo
    go_enter Try.func64, Try.ntmps64
    go_wp2_with fail
    go_region_law (refine step_appendR rfl (.tmp 22) (.tmp 25) 25 25 rfl (.slice (some ⟨g, 0, none⟩) i c) (.slice (some ⟨g, (i + 1) * 2, none⟩) (l.length - (i + 1)) (c - (i + 1))) (by simp [Act.eval, Act.put]) (by simp [Act.eval, Act.put]) (HAP.out 25) ?_)
    go_wp2_with ((with_reducible refine gate_builtin (b := .clear) (xs := #[.tmp 31]) rfl ?_); refine wpList_clearR _ rfl (.tmp 31) 25 rfl _ rfl (HCL.out _ _ _ (by omega)) ?_)
    go_ret
    exact ⟨_, rfl, HE.out.1, HE.out.2⟩
theorem zero41 : (Builtin.zeroCells (Value.agg #[.int .i64 0, .int .i64 0, .int .i64 0, .int .i64 0]).cells 1).toList = [.int .i64 0, .int .i64 0, .int .i64 0, .int .i64 0] := by
  simp [Builtin.zeroCells, Value.cells, List.range_succ]
set_option maxHeartbeats 4000000 in
set_option maxRecDepth 100000 in
theorem f63_calls (base : Nat) (A : Option Addr) (c i : Nat) (l : List S41) (w : World) (ho : w.ownsRow base 41 4 (.slice A l.length c) l.length (E41 l)) (hb : base ≤ w.heap.size) (hi : i < l.length) (hn : l.length ≤ 1000) :
    Calls Try.prog 63 #[.slice A l.length c, .int .i64 i, .int .i64 ((i : Int) + 1)] w fun e w' => ∃ v', e = .returned v' ∧ w'.ownsRow base 41 4 v' (l.length - 1) (E41 (l.take i ++ l.drop (i + 1))) ∧ Below base w w' := by
  rcases ho.2 with ⟨e, e2⟩ | ⟨g, cap, cur, e, hbg, hg, hnc, hcm, hcs, hct⟩
  · exact absurd e2 (by omega)
  injection e with e1 _ e3
  subst e1 e3
  clear ho
  obtain ⟨i0, hi0, hz0, hzs, hzb⟩ := info_parts info41
  have hgD : w.drew.heap[g]? = some (.cells cur 41 (0, 0)) := hg
  have hcur : ∀ (j : Nat) (u : Value), (E41 l)[j]? = some u → cur[j]? = some u := by
    intro j u hj
    rw [← hct, List.getElem?_take] at hj
    split at hj
    · rwa [Array.getElem?_toList] at hj
    · cases hj
  have hxl : (E41 (l.drop (i + 1))).length = (l.length - (i + 1)) * 4 := by rw [E41_len, List.length_drop]
  obtain ⟨oo, hoo⟩ : ∃ oo, oo = if c = i + 1 then 0 else (i + 1) * 4 := ⟨_, rfl⟩
  have hsrc : Src Try.prog i0.size 24 (.slice (some ⟨g, oo, none⟩) (l.length - (i + 1)) (c - (i + 1))) (l.length - (i + 1)) (E41 (l.drop (i + 1))) w.drew := by
    rw [hzs]
    exact Src.ofSlice w.drew Try.underlying24 ⟨g, oo, none⟩ _ _ (E41 (l.drop (i + 1))) hxl (fun j u hj => by
      rw [Addr.add_lit]
      rw [show E41 (l.drop (i + 1)) = (E41 l).drop ((i + 1) * 4) from (flat_drop 4 _ len41 l (i + 1)).symm, List.getElem?_drop] at hj
      have hjl := (List.getElem?_eq_some_iff.1 hj).1
      rw [E41_len] at hjl
      rw [hoo, if_neg (by omega)]
      simp [World.cell?, hgD, hcur _ _ hj]) (E41_one _)
  obtain ⟨cu1, hcu1⟩ : ∃ c1 : Array Value, c1 = (cur.toList.take (i * 4) ++ E41 (l.drop (i + 1)) ++ cur.toList.drop (i * 4 + (E41 (l.drop (i + 1))).length)).toArray := ⟨_, rfl⟩
  have hap : ∀ ty, (Builtin.append_ #[24, 24] ty #[.slice (some ⟨g, 0, none⟩) i c, .slice (some ⟨g, oo, none⟩) (l.length - (i + 1)) (c - (i + 1))]).run Try.prog w.drew = .ok (.slice (some ⟨g, 0, none⟩) (l.length - 1) c) (w.drew.setRow g cu1) := fun ty => by
    rw [hcu1, show l.length - 1 = i + (l.length - (i + 1)) from by omega]
    have h := run_append_rowK w.drew 24 ty 41 i0 Try.underlying24 hi0 g i c cur 41 _ _ _ hsrc (by omega) hgD (by rw [hxl, hzs]; omega)
    rw [hzs] at h
    exact h
  have hg1 : (w.drew.setRow g cu1).heap[g]? = some (.cells cu1 41 (0, 0)) := setRow_heap w.drew g _ _ 41 _ hgD
  have hs1 : cu1.size = c * 4 := by
    rw [hcu1]
    simp [hxl, hcs]
    omega
  obtain ⟨W1, hW1⟩ : ∃ W, W = w.drew.setRow g cu1 := ⟨_, rfl⟩
  rw [← hW1] at hap hg1
  have hb1 : Below base w W1 := by rw [hW1]; exact below_setRow (below_drew1 (Below.refl _ _)) hbg _
  obtain ⟨cu2, hcu2⟩ : ∃ c2 : Array Value, c2 = (cu1.toList.take ((l.length - 1) * 4) ++ ([.int .i64 0, .int .i64 0, .int .i64 0, .int .i64 0] : List Value) ++ cu1.toList.drop ((l.length - 1) * 4 + 4)).toArray := ⟨_, rfl⟩
  have hcl : ∀ ty n sc, n = 1 → (Builtin.clear_ #[24] ty #[.slice (some ⟨g, (l.length - 1) * 4, none⟩) n sc]).run Try.prog W1 = .ok (.tuple #[]) (W1.setRow g cu2) := fun ty n sc hn1 => by
    rw [hcu2, hn1]
    exact run_clear_rowK W1 24 ty 41 i0 _ Try.underlying24 hi0 hz0 g ((l.length - 1) * 4) sc cu1 41 hg1 [.int .i64 0, .int .i64 0, .int .i64 0, .int .i64 0] zero41 (by simp; omega) (by intro u hu; simp at hu; rcases hu with rfl | rfl | rfl | rfl <;> rfl)
  have hg2 : (W1.setRow g cu2).heap[g]? = some (.cells cu2 41 (0, 0)) := setRow_heap W1 g _ _ 41 _ hg1
  have hs2 : cu2.size = c * 4 := by
    rw [hcu2]
    simp [hs1]
    omega
  have hown : (W1.setRow g cu2).ownsRow base 41 4 (.slice (some ⟨g, 0, none⟩) (l.length - 1) c) (l.length - 1) (E41 (l.take i ++ l.drop (i + 1))) := by
    refine ⟨by rw [E41_len]; simp; omega, .inr ⟨g, c, cu2, rfl, hbg, hg2, by omega, hcm, hs2, ?_⟩⟩
    have e0 : cur.toList.take (i * 4) = E41 (l.take i) := by
      have := congrArg (List.take (i * 4)) hct
      rw [List.take_take, Nat.min_eq_left (by omega)] at this
      rw [this]
      exact flat_take 4 _ len41 l i
    have e4 : E41 (l.take i ++ l.drop (i + 1)) = E41 (l.take i) ++ E41 (l.drop (i + 1)) := by simp [E41]
    have hl4 : (E41 (l.take i ++ l.drop (i + 1))).length = (l.length - 1) * 4 := by rw [E41_len]; simp; omega
    have e1 : cu1.toList.take ((l.length - 1) * 4) = E41 (l.take i ++ l.drop (i + 1)) := by
      rw [hcu1, e0, ← e4, List.take_append_of_le_length (by rw [hl4]; exact Nat.le_refl _), List.take_of_length_le (by rw [hl4]; exact Nat.le_refl _)]
    rw [hcu2, e1]
    simp only [List.append_assoc]
    rw [List.take_append_of_le_length (by rw [hl4]; exact Nat.le_refl _), List.take_of_length_le (by rw [hl4]; exact Nat.le_refl _)]
  have hB2 : Below base w (W1.setRow g cu2) := below_setRow hb1 hbg _
  have HE := Aside0.mk (And.intro hown hB2)
  have HAP := Aside0.mk hap
  have HCL := Aside0.mk hcl
  have hp0 : ¬ ((i : Int) = (i : Int) + 1) := by omega
  have hp1 : (0 : Int) ≤ (i : Int) + 1 := by omega
  have htn : ((i : Int) + 1).toNat = i + 1 := by omega
  have hp2 : (i : Int) ≤ (i : Int) + 1 := by omega
  have hp3 : (i : Int) + 1 ≤ (l.length : Int) := by omega
  have hp4 : i ≤ c := by omega
  have hp5 : ¬ (c = l.length - 1) := by omega
  unfold maxLen at hcm
  clear hgD hg hct hcur hsrc hxl hcu1 hap hg1 hs1 hW1 hb1 hcu2 hcl hg2 hs2 hown hB2
  by_cases hci : c = i + 1
  · rw [if_pos hci] at hoo
    subst hoo
    subst hci
    go_enter Try.func63, Try.ntmps63
    go_wp2_with fail
    go_region_law (refine step_appendR rfl (.tmp 22) (.tmp 25) 24 24 rfl (.slice (some ⟨g, 0, none⟩) i (i + 1)) (.slice (some ⟨g, 0, none⟩) (l.length - (i + 1)) (i + 1 - (i + 1))) (by simp [Act.eval, Act.put]) (by simp [Act.eval, Act.put] <;> omega) (HAP.out 24) ?_)
    go_wp2_with ((with_reducible refine gate_builtin (b := .clear) (xs := #[.tmp 31]) rfl ?_); refine wpList_clearR _ rfl (.tmp 31) 24 rfl _ rfl (HCL.out _ _ _ (by omega)) ?_)
    go_ret
    exact ⟨_, rfl, HE.out.1, HE.out.2⟩
  · rw [if_neg hci] at hoo
    subst hoo
    go_enter Try.func63, Try.ntmps63
    go_wp2_with fail
    go_region_law (refine step_appendR rfl (.tmp 22) (.tmp 25) 24 24 rfl (.slice (some ⟨g, 0, none⟩) i c) (.slice (some ⟨g, (i + 1) * 4, none⟩) (l.length - (i + 1)) (c - (i + 1))) (by simp [Act.eval, Act.put]) (by simp [Act.eval, Act.put]) (HAP.out 24) ?_)
    go_wp2_with ((with_reducible refine gate_builtin (b := .clear) (xs := #[.tmp 31]) rfl ?_); refine wpList_clearR _ rfl (.tmp 31) 24 rfl _ rfl (HCL.out _ _ _ (by omega)) ?_)
    go_ret
    exact ⟨_, rfl, HE.out.1, HE.out.2⟩
end Go.Proofs.Ytjeoabjccbinhaa.P
