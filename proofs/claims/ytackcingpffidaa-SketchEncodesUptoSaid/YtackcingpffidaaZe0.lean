/- What Go functions of the given program return, told as Lean functions, and the walks that show it, with plain facts on them: Px0, U0, UB, U1, UC, value_Valid, value_sign, strings_Compare, value_Compare, value_Equal, checksum_Mix, checksum_Hash, laminaref16_values, laminaref16_validCounters, laminaref16_span, laminaref04_sign, laminaref04_Compare. Conditions: the hypotheses that stand at each theorem. -/
import Derived.Test.YtackcingpffidaaProg
import Derived.Below
import Derived.Deep.Draws
import Derived.Deep.AppendLies
import Derived.Maps.AppendAt
import Derived.OwnWalk
import Derived.Laws.BytesArg
import Derived.Laws.MakeOwn
import Derived.Laws.OwnMore
import Derived.Deep.OwnRows
import Derived.Tactics
import Derived.Lib.ConvBytes
import Derived.Laws.Slices
import Derived.WalkKit
import Derived.KernelRfl
import Derived.RowKit3
import Derived.Deep.LoopGhost
import Derived.Deep.QuietTactic
import Derived.BigQuiet
import Derived.WideLaws
import Derived.Deep.DeepCutAuto
import Derived.Deep.CutBlock
import Derived.Deep.RegionHeld3
import Derived.Laws.Rows
import Derived.Lib.AppendStr
import Derived.ArgAppend
import Derived.Laws.IdiomCopy
import Derived.OrdersHeld
import Derived.Laws.BitsLemmas
import Derived.RowKit
import Derived.Lib.Bytealg
import Derived.Lib.Strings
import Derived.Lib.Slices
import Derived.Lib.Walk
import Derived.Laws.CopyOwn
import Derived.Deep.RegionLaw
import Derived.Test.YtackcingpffidaaQ
import Derived.Test.YtackcingpffidaaWWords
import Derived.Test.YtackcingpffidaaWLast
import Derived.Test.YtackcingpffidaaWTab
import Derived.Test.YtackcingpffidaaWFour
import Derived.Test.YtackcingpffidaaWQPut
import Derived.Test.YtackcingpffidaaWApart
import Derived.Test.YtackcingpffidaaWArr
import Derived.Test.YtackcingpffidaaWZeros
import Derived.Test.YtackcingpffidaaWFoot
import Derived.Test.YtackcingpffidaaWKept
import Derived.Test.YtackcingpffidaaWShare
import Derived.Test.YtackcingpffidaaWN
import Derived.Test.YtackcingpffidaaWEqStruct
import Derived.Test.YtackcingpffidaaWRepsOne
import Derived.Test.YtackcingpffidaaWGuard
import Derived.Test.YtackcingpffidaaWNEv
import Derived.Test.YtackcingpffidaaWMore
namespace Go.Proofs.Ytackcingpffidaa.P
open Go.RowKit Go.Proofs.YtackcingpffidaaW.PrintWords Go.Proofs.YtackcingpffidaaW.PrintLast Go.Proofs.YtackcingpffidaaW.PrintMore
attribute [local go_sem] max2_int min2_int max_two min_two max_three min_three max_four min_four Go.Proofs.YtackcingpffidaaQ.str_gtr Go.Proofs.YtackcingpffidaaQ.str_leq Go.Proofs.YtackcingpffidaaQ.str_geq   -- for this text's walks alone
set_option linter.unusedVariables false
set_option linter.unusedSimpArgs false
def errW : Option Int → Value
 | none => .nilIface
 | some c => .iface 0 (.int .i64 c)
theorem errW_none : errW none = .nilIface := rfl
theorem errW_some (c : Int) : errW (some c) = .iface 0 (.int .i64 c) := rfl
theorem info3 : (Try.prog.info? 3).map (fun i => (i.zero, i.size, i.bytes)) = some (some (.int .i64 0), 1, 8) := by kernel_rfl
theorem info5 : (Try.prog.info? 5).map (fun i => (i.zero, i.size, i.bytes)) = some (some (.int .u8 0), 1, 1) := by kernel_rfl
theorem info27 : (Try.prog.info? 27).map (fun i => (i.zero, i.size, i.bytes)) = some (some (.slice none 0 0), 1, 24) := by kernel_rfl
theorem info39 : (Try.prog.info? 39).map (fun i => (i.zero, i.size, i.bytes)) = some (some (.agg #[(.int .i64 0), (.int .i64 0), (.string ⟨#[]⟩)]), 3, 32) := by kernel_rfl
theorem info53 : (Try.prog.info? 53).map (fun i => (i.zero, i.size, i.bytes)) = some (some (.int .u64 0), 1, 8) := by kernel_rfl
-- the values' own types
/-! #### struct type 39 -/
structure S39 where
  f0 : Int
  f1 : Int
  f2 : ByteArray
def z39 : S39 := ⟨(0 : Int), (0 : Int), (⟨#[]⟩ : ByteArray)⟩
def k39 : Kd S39 := Kd.iso (Kd.pair (Kd.int .i64) (Kd.pair (Kd.int .i64) Kd.string)) (fun x : S39 => (x.f0, x.f1, x.f2))
theorem k39_open {w : World} {x : S39} {cs : List Value} (h : k39.K w x cs) : cs = [.int .i64 x.f0, .int .i64 x.f1, .string x.f2] := by
 obtain ⟨_, _, rfl, rfl, ⟨_, _, rfl, rfl, rfl⟩⟩ := h
 exact rfl
theorem k39_openM {w : World} {base : Nat} {ok : Nat → Prop} {x : S39} {cs : List Value} (h : k39.M w base ok x cs) : cs = [.int .i64 x.f0, .int .i64 x.f1, .string x.f2] := by
 obtain ⟨_, _, rfl, rfl, ⟨_, _, rfl, rfl, rfl⟩⟩ := h
 exact rfl
theorem k39_mk (w : World) (x : S39)  : k39.K w x [.int .i64 x.f0, .int .i64 x.f1, .string x.f2] := ⟨[.int .i64 x.f0], [.int .i64 x.f1, .string x.f2], rfl, rfl, ⟨[.int .i64 x.f1], [.string x.f2], rfl, rfl, rfl⟩⟩
theorem k39_mkM (w : World) (base : Nat) (ok : Nat → Prop) (x : S39)  : k39.M w base ok x [.int .i64 x.f0, .int .i64 x.f1, .string x.f2] := ⟨[.int .i64 x.f0], [.int .i64 x.f1, .string x.f2], rfl, rfl, ⟨[.int .i64 x.f1], [.string x.f2], rfl, rfl, rfl⟩⟩
def rd_T39 (xs : List S39) (i : Int) : S39 := xs.getD i.toNat z39
theorem at_T39 {w : World} {A : Option Addr} {n : Nat} {xs : List S39} (h : Kd.C k39 w A n xs) (i : Int) (h0 : 0 ≤ i) (h1 : i < n) : ∃ ad , A = some ad ∧ w.cell? (ad.add (i.toNat * 3)) = some (.int .i64 (rd_T39 xs i).f0) ∧ w.cell? ⟨(ad.add (i.toNat * 3)).block, (ad.add (i.toNat * 3)).off + 1, none⟩ = some (.int .i64 (rd_T39 xs i).f1) ∧ w.cell? ⟨(ad.add (i.toNat * 3)).block, (ad.add (i.toNat * 3)).off + 2, none⟩ = some (.string (rd_T39 xs i).f2) := by
 obtain ⟨ad, c, e, _, hK, hc0⟩ := Kd.C_get h z39 i h0 h1
 have hc : ∀ j u, c[j]? = some u → w.cell? (ad.add (i.toNat * 3 + j)) = some u := hc0
 obtain rfl := k39_open hK
 exact ⟨ad, e, hc 0 _ rfl, by rw [← add_field _ _ 1 (by omega)]; exact hc 1 _ rfl, by rw [← add_field _ _ 2 (by omega)]; exact hc 2 _ rfl⟩
def rd_L5 (xs : List (List Int)) (i : Int) : (List Int) := xs.getD i.toNat ([] : List Int)
theorem at_L5 {w : World} {A : Option Addr} {n : Nat} {xs : List (List Int)} (h : Kd.C (Kd.slice 5 (Kd.int .u8)) w A n xs) (i : Int) (h0 : 0 ≤ i) (h1 : i < n) : ∃ ad A0 c0, A = some ad ∧ w.cell? (ad.add i.toNat) = some (.slice A0 (rd_L5 xs i).length c0) ∧ (rd_L5 xs i).length ≤ c0 ∧ (Kd.int .u8).C w A0 (rd_L5 xs i).length (rd_L5 xs i) := by
 obtain ⟨ad, c, e, _, hK, hc0⟩ := Kd.C_get h ([] : List Int) i h0 h1
 have hc : ∀ j u, c[j]? = some u → w.cell? (ad.add (i.toNat * 1 + j)) = some u := hc0
 obtain ⟨A0, c0, rfl, l0, g0⟩ := hK
 exact ⟨ad, A0, c0, e, by have hq := hc 0 _ rfl; rwa [Nat.mul_one, Nat.add_zero] at hq, l0, g0⟩
end Go.Proofs.Ytackcingpffidaa.P
namespace Go.Proofs.Ytackcingpffidaa.P
open Go.RowKit Go.Proofs.YtackcingpffidaaW.PrintWords Go.Proofs.YtackcingpffidaaW.PrintLast Go.Proofs.YtackcingpffidaaW.PrintMore
theorem int_eq {a b : Int} (h : a = b) : Value.int .i64 a = .int .i64 b := by rw [h]
theorem addr_add2 (ad : Addr) (a b : Nat) : ad.add (a + b) = (ad.add a).add b := by
 unfold Addr.add
 by_cases ha : a = 0
 ·subst ha
  simp
 ·by_cases hb : b = 0
  ·subst hb
   simp
  ·simp [ha, hb, Nat.add_assoc]
/-- One row of counters: none below 0 or above what is left, and nothing left at the end. -/
def rowB : List Int → Int → Bool
 | [], left => left == 0
 | c :: cs, left => if c < 0 then false else if left < c then false else rowB cs (wrap64 (left - c))
/-- The last m rows of counters. -/
def cntF (l : List Int) (n : Int) : Nat → Bool
 | 0 => true
 | m + 1 => rowB ((l.take ((3 - m + 1) * 64)).drop ((3 - m) * 64)) n && cntF l n m
def cntB (l : List Int) (n : Int) : Bool := l.length == 256 && cntF l n 4
/-- A block that stays while others are made and draws go on. -/
theorem bk_ {w W : World} {g : Nat} {o : Obj} (h : w.heap[g]? = some o) (k : w.heap[g]? = some o → W.heap[g]? = some o := by (intro h_; (with_reducible repeat (first | refine blk_drewN ?_ _ | refine blk_drew ?_ | refine blk_alloc ?_ _)); exact h_)) : W.heap[g]? = some o := k h
/-- What a slice reads, in a later world. -/
theorem cb_ {α : Type} {d : Kd α} {w W1 W : World} {A : Option Addr} {n : Nat} {xs : List α} (h : d.C w A n xs) (hb : Below w.heap.size w W1) (k : d.C W1 A n xs → d.C W A n xs := by (intro h_; repeat (first | exact h_ | (with_reducible refine Kd.C_alloc ?_ _) | (with_reducible refine Kd.C_drewN ?_ _) | (with_reducible refine Kd.C_drew ?_)))) : d.C W A n xs := k (Kd.C_below h hb)
/-- Nothing elder turns. -/
theorem hb_ {w0 w W : World} (h : Below w0.heap.size w0 w) (k : Below w0.heap.size w0 w → Below w0.heap.size w0 W := by (intro h_; repeat (first | (with_reducible first | exact h_ | apply below_alloc | apply pw_below_drewN | apply below_drew1) | exact h_))) : Below w0.heap.size w0 W := k h
theorem hb1_ {w0 w W : World} {g : Nat} (h : Below w0.heap.size w0 w) (hg : w0.heap.size ≤ g) (k : Below w0.heap.size w0 w → w0.heap.size ≤ g → Below w0.heap.size w0 W := by (intro h_ g_; repeat (first | (with_reducible first | exact h_ | apply below_alloc | apply pw_below_drewN | apply below_drew1 | refine below_set ?_ g_) | exact h_))) : Below w0.heap.size w0 W := k h hg
theorem hb2_ {w0 w W : World} {g g' : Nat} (h : Below w0.heap.size w0 w) (hg : w0.heap.size ≤ g) (hg' : w0.heap.size ≤ g') (k : Below w0.heap.size w0 w → w0.heap.size ≤ g → w0.heap.size ≤ g' → Below w0.heap.size w0 W := by (intro h_ g_ g2_; repeat (first | (with_reducible first | exact h_ | apply below_alloc | apply pw_below_drewN | apply below_drew1 | refine below_set ?_ g_ | refine below_set ?_ g2_) | exact h_))) : Below w0.heap.size w0 W := k h hg hg'
/-- A row of the call's own that stays. -/
theorem ra_ {α : Type} {d : Kd α} {e base : Nat} {ok : Nat → Prop} {w W : World} {v : Value} {xs : List α} (h : d.R e w base ok v xs) (k : d.R e w base ok v xs → d.R e W base ok v xs := by (intro h_; (with_reducible repeat (first | apply Kd.R_alloc | apply Kd.R_drewN | apply Kd.R_drew)); exact h_)) : d.R e W base ok v xs := k h
/-- What an operation puts, written out. -/
theorem nm_ {P : Program} {md : Region.Mode} {ops : Array Oper} {Q : Exit → Act → World → Prop} {S : World → Prop} {ds : List Nat} {fuel : Nat} {l : Array Bool} {a a' : Act} {w : World} {d : Option Tmp} {v : Value} (N : Option Tmp) (h : wpAnyLast P md ops Q S ds fuel l a' w) (hd : d = N := by rfl)
  (ha : a.put N v = a' := by (simp only [Act.put, List.setIfInBounds_toArray, List.set_cons_zero, List.set_cons_succ, i64_w, i32_w]; rfl)) : wpAnyLast P md ops Q S ds fuel l (a.put d v) w := by
 subst hd
 rw [ha]
 exact h
/-- What an address reads, in a later world. -/
theorem up_ {w W : World} {p : Addr} {v : Value} (hb : Below w.heap.size w W) (h : w.cell? p = some v) : W.cell? p = some v := (hb.cell (World.block_lt_of_cell? w _ h)).trans h
/-- What a way's end owes first. -/
theorem er_ {p q : Prop} (hq : q) (hp : p := by first | rfl | (simp [errW_none, errW_some] <;> rfl) | (simp [*, errW_none, errW_some] <;> rfl)) : p ∧ q := ⟨hp, hq⟩
section
variable {P : Program} {ops rest : List Oper} {opsA : Array Oper} {o : Oper} {a : Act} {Q : Exit → Act → World → Prop}
theorem box_ (N : Tmp) {W : World} {cs : Array Value} {t : TypeId} (h : ∀ g, g = W.heap.size → ∀ w1, w1.heap[g]? = some (.cells cs t (0, 0)) → Below W.heap.size W w1 → wpList P opsA Q rest (a.put o.dst (.pointer (some ⟨g, 0, none⟩))) w1)
  (hgd : o.guard = none := by rfl) (hd : o.dst = some N := by rfl) (hrun : (execOp a.eval o).run P W = .ok (.value (.pointer (some ⟨W.heap.size, 0, none⟩))) (W.alloc (.cells cs t (0, 0))) := by first | (go_simp; done) | (go_simp; rfl)) : wpList P opsA Q (o :: rest) a W :=
 box_event hgd hd hrun h
theorem gos_ {oi : Oper} {N : Option Tmp} {w : World} {K : Act → World → Prop} {f : FuncId} {fn : Func} {as_ : Array Operand} {ts : Array TypeId} (hf : P.funcs[f]? = some fn) (args : Array Value)
  (h : Calls P f args w fun e w' => ∃ v, e = .returned v ∧ K (a.put N v) w') (hname : (fn.name == "runtime.NumGoroutine") = false := by kernel_rfl) (hb : fn.body.isSome = true := by rfl)
  (hw : Region.wanted oi (yielded opsA a.tmps) = true := by rfl) (hN : oi.dst = N := by rfl) (hop : oi.op = .call { callee := .value (.func f), args := as_, argTypes := ts } := by rfl)
  (hargs : as_.map a.eval = args := by (try simp only [List.map_toArray, List.map_cons, List.map_nil]); first | done | rfl | (simp only [List.length_drop, List.length_take]; rfl) | (simp only [Int.ofNat_lt, Int.ofNat_le, gt_iff_lt, ge_iff_le]; rfl)) : if Region.wanted oi (yielded opsA a.tmps) = true then Oper.wp P oi a w K Q else K (a.put N undef) w :=
 goes_ hf hname hb args hw hN hop hargs h
end
theorem bc2 {w : World} {g : Nat} {t : TypeId} {a0 a1 : Value} (h : w.heap[g]? = some (.cells #[a0, a1] t (0, 0))) : w.cell? ⟨g, 0, none⟩ = some a0 ∧ w.cell? ⟨g, 1, none⟩ = some a1 := ⟨(blk_cell h 0).trans rfl, (blk_cell h 1).trans rfl⟩
theorem bf2 {w : World} {g : Nat} {t : TypeId} {a0 a1 : Value} (h : w.heap[g]? = some (.cells #[a0, a1] t (0, 0))) : w.cell? ⟨g, 0, none⟩ = some a0 ∧ w.cell? ⟨g, 1, none⟩ = some a1 ∧ w.frozen? ⟨g, 0, none⟩ = false ∧ w.frozen? ⟨g, 1, none⟩ = false := ⟨(blk_cell h 0).trans rfl, (blk_cell h 1).trans rfl, blk_frozen h 0, blk_frozen h 1⟩
theorem bc3 {w : World} {g : Nat} {t : TypeId} {a0 a1 a2 : Value} (h : w.heap[g]? = some (.cells #[a0, a1, a2] t (0, 0))) : w.cell? ⟨g, 0, none⟩ = some a0 ∧ w.cell? ⟨g, 1, none⟩ = some a1 ∧ w.cell? ⟨g, 2, none⟩ = some a2 := ⟨(blk_cell h 0).trans rfl, (blk_cell h 1).trans rfl, (blk_cell h 2).trans rfl⟩
theorem ap3 {a0 a1 a2 q : Prop} (h : a0 ∧ a1 ∧ a2) (k : q) : a0 ∧ a1 ∧ a2 ∧ q := by
 obtain ⟨h0, h1, h2⟩ := h
 exact ⟨h0, h1, h2, k⟩
theorem bf3 {w : World} {g : Nat} {t : TypeId} {a0 a1 a2 : Value} (h : w.heap[g]? = some (.cells #[a0, a1, a2] t (0, 0))) : w.cell? ⟨g, 0, none⟩ = some a0 ∧ w.cell? ⟨g, 1, none⟩ = some a1 ∧ w.cell? ⟨g, 2, none⟩ = some a2 ∧ w.frozen? ⟨g, 0, none⟩ = false ∧ w.frozen? ⟨g, 1, none⟩ = false ∧ w.frozen? ⟨g, 2, none⟩ = false := ⟨(blk_cell h 0).trans rfl, (blk_cell h 1).trans rfl, (blk_cell h 2).trans rfl, blk_frozen h 0, blk_frozen h 1, blk_frozen h 2⟩
theorem bc7 {w : World} {g : Nat} {t : TypeId} {a0 a1 a2 a3 a4 a5 a6 : Value} (h : w.heap[g]? = some (.cells #[a0, a1, a2, a3, a4, a5, a6] t (0, 0))) : w.cell? ⟨g, 0, none⟩ = some a0 ∧ w.cell? ⟨g, 1, none⟩ = some a1 ∧ w.cell? ⟨g, 2, none⟩ = some a2 ∧ w.cell? ⟨g, 3, none⟩ = some a3 ∧ w.cell? ⟨g, 4, none⟩ = some a4 ∧ w.cell? ⟨g, 5, none⟩ = some a5 ∧ w.cell? ⟨g, 6, none⟩ = some a6 := ⟨(blk_cell h 0).trans rfl, (blk_cell h 1).trans rfl, (blk_cell h 2).trans rfl, (blk_cell h 3).trans rfl, (blk_cell h 4).trans rfl, (blk_cell h 5).trans rfl, (blk_cell h 6).trans rfl⟩
theorem ap7 {a0 a1 a2 a3 a4 a5 a6 q : Prop} (h : a0 ∧ a1 ∧ a2 ∧ a3 ∧ a4 ∧ a5 ∧ a6) (k : q) : a0 ∧ a1 ∧ a2 ∧ a3 ∧ a4 ∧ a5 ∧ a6 ∧ q := by
 obtain ⟨h0, h1, h2, h3, h4, h5, h6⟩ := h
 exact ⟨h0, h1, h2, h3, h4, h5, h6, k⟩
theorem bf7 {w : World} {g : Nat} {t : TypeId} {a0 a1 a2 a3 a4 a5 a6 : Value} (h : w.heap[g]? = some (.cells #[a0, a1, a2, a3, a4, a5, a6] t (0, 0))) : w.cell? ⟨g, 0, none⟩ = some a0 ∧ w.cell? ⟨g, 1, none⟩ = some a1 ∧ w.cell? ⟨g, 2, none⟩ = some a2 ∧ w.cell? ⟨g, 3, none⟩ = some a3 ∧ w.cell? ⟨g, 4, none⟩ = some a4 ∧ w.cell? ⟨g, 5, none⟩ = some a5 ∧ w.cell? ⟨g, 6, none⟩ = some a6 ∧ w.frozen? ⟨g, 0, none⟩ = false ∧ w.frozen? ⟨g, 1, none⟩ = false ∧ w.frozen? ⟨g, 2, none⟩ = false ∧ w.frozen? ⟨g, 3, none⟩ = false ∧ w.frozen? ⟨g, 4, none⟩ = false ∧ w.frozen? ⟨g, 5, none⟩ = false ∧ w.frozen? ⟨g, 6, none⟩ = false := ⟨(blk_cell h 0).trans rfl, (blk_cell h 1).trans rfl, (blk_cell h 2).trans rfl, (blk_cell h 3).trans rfl, (blk_cell h 4).trans rfl, (blk_cell h 5).trans rfl, (blk_cell h 6).trans rfl, blk_frozen h 0, blk_frozen h 1, blk_frozen h 2, blk_frozen h 3, blk_frozen h 4, blk_frozen h 5, blk_frozen h 6⟩
variable {P : Program} {ops : Array Oper} {Q : Exit → Act → World → Prop} {S : World → Prop} {ds : List Nat} {T : Bool × List (List Nat × List Nat)} {B : List Nat}
/-- An operation that reads no memory. -/
theorem pu_ (HT : Aside0 (rtab .any ops = T)) (i : Nat) (N : Option Tmp) {oi : Oper} {v : Value} {fuel : Nat} {l : Array Bool} {a a' : Act} {w : World} (h : wpAnyLast P .any ops Q S ds fuel (l.setIfInBounds i true) a' w)
  (hi : ops[i]? = some oi := by rfl) (hN : oi.dst = N := by rfl) (hk : anyT T l.toList (l.setIfInBounds i true).toList i = true := by kernel_rfl) (hQ : ∀ c a w, Q (.panic c) (a.put oi.dst v) w → Q (.panic c) a w := by exact fun _ _ _ h => h)
  (hw : Region.wanted oi (yielded ops a.tmps) = true := by kernel_rfl) (hv : ∀ w, (execOp a.eval oi).run P w = .ok (.value v) w := by (intro w'; go_simp; with_reducible rfl))
  (ha : a.put N v = a' := by (simp only [Act.put, List.setIfInBounds_toArray, List.set_cons_zero, List.set_cons_succ, i64_w, i32_w]; rfl)) : wpAnyLast P .any ops Q S ds (fuel + 1) l a w :=
 pure_ (i := i) _ hi hN (any_of HT.out hk) hQ (Or.inl ⟨hw, hv⟩) ha h
/-- An operation whose guard fails. -/
theorem sk_ (HT : Aside0 (rtab .any ops = T)) (i : Nat) (N : Option Tmp) {oi : Oper} {fuel : Nat} {l : Array Bool} {a a' : Act} {w : World} (h : wpAnyLast P .any ops Q S ds fuel (l.setIfInBounds i true) a' w)
  (hi : ops[i]? = some oi := by rfl) (hN : oi.dst = N := by rfl) (hk : anyT T l.toList (l.setIfInBounds i true).toList i = true := by kernel_rfl) (hQ : ∀ c a w, Q (.panic c) (a.put oi.dst undef) w → Q (.panic c) a w := by exact fun _ _ _ h => h)
  (hw : Region.wanted oi (yielded ops a.tmps) = false := by kernel_rfl)
  (ha : a.put N undef = a' := by (simp only [Act.put, List.setIfInBounds_toArray, List.set_cons_zero, List.set_cons_succ]; rfl)) : wpAnyLast P .any ops Q S ds (fuel + 1) l a w :=
 pure_ (i := i) _ hi hN (any_of HT.out hk) hQ (Or.inr ⟨hw, rfl⟩) ha h
/-- An operation that reads what S holds. -/
theorem tk_ (HT : Aside0 (rtab .any ops = T)) (HW : Aside0 (waitsOk T.2 B = true)) (i : Nat) (N : Option Tmp) {oi : Oper} {v : Value} {fuel : Nat} {l : Array Bool} {a a' : Act} {w : World} (hS : S w) (h : wpAnyLast P .any ops Q S ds fuel (l.setIfInBounds i true) a' w)
  (hi : ops[i]? = some oi := by rfl) (hN : oi.dst = N := by rfl) (hk : takeW T B ds l.toList (l.setIfInBounds i true).toList i = true := by kernel_rfl) (hQ : ∀ c a w, Q (.panic c) (a.put oi.dst v) w → Q (.panic c) a w := by exact fun _ _ _ h => h)
  (hw : Region.wanted oi (yielded ops a.tmps) = true := by kernel_rfl) (hv : ∀ w, S w → (execOp a.eval oi).run P w = .ok (.value v) w := by (intro w' hs; (repeat (obtain ⟨_, hs⟩ := hs)); go_simp; with_reducible rfl))
  (ha : a.put N v = a' := by (simp only [Act.put, List.setIfInBounds_toArray, List.set_cons_zero, List.set_cons_succ, i64_w, i32_w]; rfl)) : wpAnyLast P .any ops Q S ds (fuel + 1) l a w :=
 take_ (i := i) _ hi hN (take_ofW HT.out HW.out hk) hQ (Or.inl ⟨hw, hv⟩) hS ha h
/-- A call or a making; behind it S is shown anew. -/
theorem on_ (HT : Aside0 (rtab .any ops = T)) (i : Nat) (N : Option Tmp) {oi : Oper} {fuel : Nat} {l : Array Bool} {a : Act} {w : World}
  (h : ∀ K : Act → World → Prop, Shut (∀ a' w', S w' → (S w' → wpAnyLast P .any ops Q S ds fuel (l.setIfInBounds i true) a' w') → K a' w') → if Region.wanted oi (yielded ops a.tmps) = true then Oper.wp P oi a w K Q else K (a.put N undef) w)
  (hi : ops[i]? = some oi := by rfl) (hN : oi.dst = N := by rfl) (hk : (readyT T.2 l.toList == [i] && l.toList.set i true == (l.setIfInBounds i true).toList) = true := by kernel_rfl) (hd : i ∉ ds := by decide) : wpAnyLast P .any ops Q S ds (fuel + 1) l a w :=
 one_ (i := i) _ hi hN (one_of HT.out hk) hd h
end Go.Proofs.Ytackcingpffidaa.P
namespace Go.Proofs.Ytackcingpffidaa.P
set_option linter.unusedVariables false
open Go.RowKit Go.Proofs.YtackcingpffidaaW.PrintWords Go.Proofs.YtackcingpffidaaW.PrintLast Go.Proofs.YtackcingpffidaaW.PrintMore
section
variable {P : Program} {ops : Array Oper} {Q : Exit → Act → World → Prop} {S : World → Prop} {ds : List Nat} {T : Bool × List (List Nat × List Nat)} {B : List Nat}
/-- A call by its contract, what follows told by K. -/
theorem cK_ {oi : Oper} {N : Option Tmp} {a : Act} {w : World} {K : Act → World → Prop} {f : FuncId} {fn : Func} {ops2 : Array Operand} {ts : Array TypeId} {args : Array Value} {v : Value} (hf : P.funcs[f]? = some fn)
  (hc : Calls P f args w fun e w' => e = .returned v ∧ Below w.heap.size w w') (h : ∀ w', Below w.heap.size w w' → K (a.put N v) w') (hN : oi.dst = N := by rfl)
  (hop : oi.op = .call { callee := .value (.func f), args := ops2, argTypes := ts } := by rfl) (hw : Region.wanted oi (yielded ops a.tmps) = true := by rfl) (hname : (fn.name == "runtime.NumGoroutine") = false := by rfl) (hb : fn.body.isSome = true := by rfl)
  (hargs : ops2.map a.eval = args := by ((try simp only [List.map_toArray, List.map_cons, List.map_nil]); first | done | rfl)) : if Region.wanted oi (yielded ops a.tmps) = true then Oper.wp P oi a w K Q else K (a.put N undef) w :=
 goes_ hf hname hb args hw hN hop hargs (hc.mono fun e w' hh => ⟨v, hh.1, h w' hh.2⟩)
/-- A call that alone may come up; HY: what stands since the world V. -/
theorem cl_ {V : World} (HT : Aside0 (rtab .any ops = T)) (i : Nat) (N : Option Tmp) {oi : Oper} {fuel : Nat} {l : Array Bool} {a a' : Act} {w : World} {f : FuncId} {fn : Func} {ops2 : Array Operand} {ts : Array TypeId} {args : Array Value} {v : Value} (hf : P.funcs[f]? = some fn)
  (hc : Calls P f args w fun e w' => e = .returned v ∧ Below w.heap.size w w') (HY : Aside0 (Below V.heap.size V w)) (HS : Aside0 (∀ W, Below V.heap.size V W → S W)) (h : ∀ w', Aside0 (Below V.heap.size V w') → S w' → wpAnyLast P .any ops Q S ds fuel (l.setIfInBounds i true) a' w')
  (hi : ops[i]? = some oi := by rfl) (hN : oi.dst = N := by rfl) (hop : oi.op = .call { callee := .value (.func f), args := ops2, argTypes := ts } := by rfl) (hk : (readyT T.2 l.toList == [i] && l.toList.set i true == (l.setIfInBounds i true).toList) = true := by kernel_rfl) (hd : i ∉ ds := by decide)
  (hw : Region.wanted oi (yielded ops a.tmps) = true := by rfl) (hname : (fn.name == "runtime.NumGoroutine") = false := by rfl) (hb : fn.body.isSome = true := by rfl)
  (hargs : ops2.map a.eval = args := by ((try simp only [List.map_toArray, List.map_cons, List.map_nil]); first | done | rfl))
  (ha : a.put N v = a' := by (simp only [Act.put, List.setIfInBounds_toArray, List.set_cons_zero, List.set_cons_succ, i64_w, i32_w]; rfl)) : wpAnyLast P .any ops Q S ds (fuel + 1) l a w :=
 on_ HT i N (fun K hK => cK_ hf hc (fun w' hb => hK.out _ _ (HS.out _ (HY.out.trans (hb.mono HY.out.size))) fun s => by rw [ha]; exact h w' ⟨HY.out.trans (hb.mono HY.out.size)⟩ s) hN hop hw hname hb hargs) hi hN hk hd
/-- The same where several may come up (two_, three_). -/
theorem ck_ {V : World} {W : Act → World → Prop} {K : Act → World → Prop} (hK : Shut (∀ a' w', S w' → (S w' → W a' w') → K a' w')) {oi : Oper} {N : Option Tmp} {a a' : Act} {w : World} {f : FuncId} {fn : Func} {ops2 : Array Operand} {ts : Array TypeId} {args : Array Value} {v : Value} (hf : P.funcs[f]? = some fn)
  (hc : Calls P f args w fun e w' => e = .returned v ∧ Below w.heap.size w w') (HY : Aside0 (Below V.heap.size V w)) (HS : Aside0 (∀ W, Below V.heap.size V W → S W)) (h : ∀ w', Aside0 (Below V.heap.size V w') → Below w.heap.size w w' → S w' → W a' w') (hN : oi.dst = N := by rfl)
  (hop : oi.op = .call { callee := .value (.func f), args := ops2, argTypes := ts } := by rfl) (hw : Region.wanted oi (yielded ops a.tmps) = true := by rfl) (hname : (fn.name == "runtime.NumGoroutine") = false := by rfl) (hb : fn.body.isSome = true := by rfl)
  (hargs : ops2.map a.eval = args := by ((try simp only [List.map_toArray, List.map_cons, List.map_nil]); first | done | rfl))
  (ha : a.put N v = a' := by (simp only [Act.put, List.setIfInBounds_toArray, List.set_cons_zero, List.set_cons_succ, i64_w, i32_w]; rfl)) : if Region.wanted oi (yielded ops a.tmps) = true then Oper.wp P oi a w K Q else K (a.put N undef) w :=
 cK_ hf hc (fun w' hb => hK.out _ _ (HS.out _ (HY.out.trans (hb.mono HY.out.size))) fun s => by rw [ha]; exact h w' ⟨HY.out.trans (hb.mono HY.out.size)⟩ hb s) hN hop hw hname hb hargs
/-- A making of a block, where several may come up. -/
theorem ak_ {V : World} {W : Act → World → Prop} {K : Act → World → Prop} (hK : Shut (∀ a' w', S w' → (S w' → W a' w') → K a' w')) {oi : Oper} {a : Act} {a' : Nat → Act} {w : World} (N : Tmp) (cs : Array Value) (t : TypeId) (HY : Aside0 (Below V.heap.size V w)) (HS : Aside0 (∀ W, Below V.heap.size V W → S W))
  (h : ∀ g w', g = w.heap.size → Aside0 (V.heap.size ≤ g) → Aside0 (w'.heap[g]? = some (.cells cs t (0, 0))) → Aside0 (Below V.heap.size V w') → Below w.heap.size w w' → S w' → W (a' g) w') (hN : oi.dst = some N := by rfl)
  (hr : (execOp a.eval oi).run P w = .ok (.value (.pointer (some ⟨w.heap.size, 0, none⟩))) (w.alloc (.cells cs t (0, 0))) := by first | (go_simp; done) | (go_simp; rfl)) (hw : Region.wanted oi (yielded ops a.tmps) = true := by rfl)
  (ha : ∀ g, a.put (some N) (.pointer (some ⟨g, 0, none⟩)) = a' g := by (intro g; simp only [Act.put, List.setIfInBounds_toArray, List.set_cons_zero, List.set_cons_succ, i64_w, i32_w]; rfl)) : if Region.wanted oi (yielded ops a.tmps) = true then Oper.wp P oi a w K Q else K (a.put (some N) undef) w := by
 have h0 := box_step (Q := Q) (Kc := K) hw hN hr (fun g hg w' hbx hb => hK.out _ _ (HS.out _ (HY.out.trans (hb.mono HY.out.size))) fun s => by rw [hN, ha]; exact h g w' hg ⟨by rw [hg]; exact HY.out.size⟩ ⟨hbx⟩ ⟨HY.out.trans (hb.mono HY.out.size)⟩ hb s)
 rw [hN] at h0
 exact h0
/-- A making that alone may come up. -/
theorem al_ {V : World} (HT : Aside0 (rtab .any ops = T)) (i : Nat) {oi : Oper} {fuel : Nat} {l : Array Bool} {a : Act} {a' : Nat → Act} {w : World} (N : Tmp) (cs : Array Value) (t : TypeId) (HY : Aside0 (Below V.heap.size V w)) (HS : Aside0 (∀ W, Below V.heap.size V W → S W))
  (h : ∀ g w', g = w.heap.size → Aside0 (V.heap.size ≤ g) → Aside0 (w'.heap[g]? = some (.cells cs t (0, 0))) → Aside0 (Below V.heap.size V w') → Below w.heap.size w w' → S w' → wpAnyLast P .any ops Q S ds fuel (l.setIfInBounds i true) (a' g) w')
  (hi : ops[i]? = some oi := by rfl) (hN : oi.dst = some N := by rfl) (hk : (readyT T.2 l.toList == [i] && l.toList.set i true == (l.setIfInBounds i true).toList) = true := by kernel_rfl) (hd : i ∉ ds := by decide)
  (hr : (execOp a.eval oi).run P w = .ok (.value (.pointer (some ⟨w.heap.size, 0, none⟩))) (w.alloc (.cells cs t (0, 0))) := by first | (go_simp; done) | (go_simp; rfl)) (hw : Region.wanted oi (yielded ops a.tmps) = true := by rfl)
  (ha : ∀ g, a.put (some N) (.pointer (some ⟨g, 0, none⟩)) = a' g := by (intro g; simp only [Act.put, List.setIfInBounds_toArray, List.set_cons_zero, List.set_cons_succ, i64_w, i32_w]; rfl)) : wpAnyLast P .any ops Q S ds (fuel + 1) l a w :=
 on_ HT i (some N) (fun K hK => ak_ hK N cs t HY HS h hN hr hw ha) hi hN hk hd
/-- Two operations may come up; three. -/
theorem tw_ (HT : Aside0 (rtab .any ops = T)) (i j : Nat) (Ni Nj : Option Tmp) {oi oj : Oper} {fuel : Nat} {l : Array Bool} {a : Act} {w : World}
  (h1 : ∀ K : Act → World → Prop, Shut (∀ a' w', S w' → (S w' → wpAnyLast P .any ops Q S ds fuel (l.setIfInBounds i true) a' w') → K a' w') → if Region.wanted oi (yielded ops a.tmps) = true then Oper.wp P oi a w K Q else K (a.put Ni undef) w)
  (h2 : ∀ K : Act → World → Prop, Shut (∀ a' w', S w' → (S w' → wpAnyLast P .any ops Q S ds fuel (l.setIfInBounds j true) a' w') → K a' w') → if Region.wanted oj (yielded ops a.tmps) = true then Oper.wp P oj a w K Q else K (a.put Nj undef) w)
  (hi : ops[i]? = some oi := by rfl) (hj : ops[j]? = some oj := by rfl) (hNi : oi.dst = Ni := by rfl) (hNj : oj.dst = Nj := by rfl)
  (hk : (readyT T.2 l.toList == [i, j] && l.toList.set i true == (l.setIfInBounds i true).toList && l.toList.set j true == (l.setIfInBounds j true).toList) = true := by kernel_rfl) (hdi : i ∉ ds := by decide) (hdj : j ∉ ds := by decide) : wpAnyLast P .any ops Q S ds (fuel + 1) l a w :=
 two_ _ _ hi hj hNi hNj (two_of HT.out hk) hdi hdj h1 h2
/-- A store that alone may come up: the world behind it is w1. -/
theorem st_ (HT : Aside0 (rtab .any ops = T)) (i : Nat) {oi : Oper} {fuel : Nat} {l : Array Bool} {a : Act} {w : World} (w1 : World) (hrun : (execOp a.eval oi).run P w = .ok .skip w1) (hS : S w1) (h : S w1 → wpAnyLast P .any ops Q S ds fuel (l.setIfInBounds i true) a w1)
  (hi : ops[i]? = some oi := by rfl) (hN : oi.dst = none := by rfl) (hk : (readyT T.2 l.toList == [i] && l.toList.set i true == (l.setIfInBounds i true).toList) = true := by kernel_rfl) (hd : i ∉ ds := by decide)
  (hw : Region.wanted oi (yielded ops a.tmps) = true := by rfl) : wpAnyLast P .any ops Q S ds (fuel + 1) l a w :=
 on_ HT i none (fun K hK => skip_ hw hN hrun (hK.out _ _ hS h)) hi hN hk hd
end
/-- A sketch's slices lie in a world. -/
structure SK (w : World) (A2 : Option Addr) (c2 : Nat) (l2 : List Int) (A4 : Option Addr) (c4 : Nat) (l4 : List Int) (A5 : Option Addr) (c5 : Nat) (l5 : List S39) (A6 : Option Addr) (c6 : Nat) (l6 : List Int) : Prop where
  r2 : Kd.C (Kd.int .u64) w A2 l2.length l2
  h2 : l2.length ≤ c2
  r4 : Kd.C (Kd.int .i64) w A4 l4.length l4
  h4 : l4.length ≤ c4
  r5 : Kd.C k39 w A5 l5.length l5
  h5 : l5.length ≤ c5
  r6 : Kd.C (Kd.int .i64) w A6 l6.length l6
  h6 : l6.length ≤ c6
theorem SK.below {w W : World} {A2 : Option Addr} {c2 : Nat} {l2 : List Int} {A4 : Option Addr} {c4 : Nat} {l4 : List Int} {A5 : Option Addr} {c5 : Nat} {l5 : List S39} {A6 : Option Addr} {c6 : Nat} {l6 : List Int} (h : SK w A2 c2 l2 A4 c4 l4 A5 c5 l5 A6 c6 l6) (hb : Below w.heap.size w W) : SK W A2 c2 l2 A4 c4 l4 A5 c5 l5 A6 c6 l6 :=
 ⟨Kd.C_below h.r2 hb, h.h2, Kd.C_below h.r4 hb, h.h4, Kd.C_below h.r5 hb, h.h5, Kd.C_below h.r6 hb, h.h6⟩
theorem un8 {w : World} {A2 : Option Addr} {c2 : Nat} {l2 : List Int} {A4 : Option Addr} {c4 : Nat} {l4 : List Int} {A5 : Option Addr} {c5 : Nat} {l5 : List S39} {A6 : Option Addr} {c6 : Nat} {l6 : List Int} {H C : Prop}
  (f : Kd.C (Kd.int .u64) w A2 l2.length l2 → l2.length ≤ c2 → Kd.C (Kd.int .i64) w A4 l4.length l4 → l4.length ≤ c4 → Kd.C k39 w A5 l5.length l5 → l5.length ≤ c5 → Kd.C (Kd.int .i64) w A6 l6.length l6 → l6.length ≤ c6 → H → C) (h : SK w A2 c2 l2 A4 c4 l4 A5 c5 l5 A6 c6 l6) (e : H) : C :=
 f h.r2 h.h2 h.r4 h.h4 h.r5 h.h5 h.r6 h.h6 e
/-- What a call's own boxes hold: a sketch, a predicate, a value, two numbers; q: what else. -/
def sk7 (g : Nat) (a0 a1 : Int) (A2 : Option Addr) (c2 : Nat) (l2 : List Int) (b3 : Bool) (A4 : Option Addr) (c4 : Nat) (l4 : List Int) (A5 : Option Addr) (c5 : Nat) (l5 : List S39) (A6 : Option Addr) (c6 : Nat) (l6 : List Int) (W : World) (q : Prop) : Prop :=
 W.cell? ⟨g, 0, none⟩ = some (.int .i64 a0) ∧ W.cell? ⟨g, 1, none⟩ = some (.int .i64 a1) ∧ W.cell? ⟨g, 2, none⟩ = some (.slice A2 l2.length c2) ∧ W.cell? ⟨g, 3, none⟩ = some (.bool b3) ∧ W.cell? ⟨g, 4, none⟩ = some (.slice A4 l4.length c4) ∧ W.cell? ⟨g, 5, none⟩ = some (.slice A5 l5.length c5) ∧ W.cell? ⟨g, 6, none⟩ = some (.slice A6 l6.length c6) ∧ q
def p5 (g : Nat) (p0 op : Int) (v : S39) (W : World) (q : Prop) : Prop :=
 W.cell? ⟨g, 0, none⟩ = some (.int .i64 p0) ∧ W.cell? ⟨g, 1, none⟩ = some (.int .i64 op) ∧ W.cell? ⟨g, 2, none⟩ = some (.int .i64 v.f0) ∧ W.cell? ⟨g, 3, none⟩ = some (.int .i64 v.f1) ∧ W.cell? ⟨g, 4, none⟩ = some (.string v.f2) ∧ q
def v3 (g : Nat) (v : S39) (W : World) (q : Prop) : Prop := W.cell? ⟨g, 0, none⟩ = some (.int .i64 v.f0) ∧ W.cell? ⟨g, 1, none⟩ = some (.int .i64 v.f1) ∧ W.cell? ⟨g, 2, none⟩ = some (.string v.f2) ∧ q
def i2 (g : Nat) (a b : Int) (W : World) (q : Prop) : Prop := W.cell? ⟨g, 0, none⟩ = some (.int .i64 a) ∧ W.cell? ⟨g, 1, none⟩ = some (.int .i64 b) ∧ q
theorem sk7_of {W : World} {g : Nat} {t : TypeId} {a0 a1 : Int} {A2 : Option Addr} {c2 : Nat} {l2 : List Int} {b3 : Bool} {A4 : Option Addr} {c4 : Nat} {l4 : List Int} {A5 : Option Addr} {c5 : Nat} {l5 : List S39} {A6 : Option Addr} {c6 : Nat} {l6 : List Int} {q : Prop}
    (h : W.heap[g]? = some (.cells #[.int .i64 a0, .int .i64 a1, .slice A2 l2.length c2, .bool b3, .slice A4 l4.length c4, .slice A5 l5.length c5, .slice A6 l6.length c6] t (0, 0))) (k : q) : sk7 g a0 a1 A2 c2 l2 b3 A4 c4 l4 A5 c5 l5 A6 c6 l6 W q := ap7 (bc7 h) k
theorem v3_of {W : World} {g : Nat} {t : TypeId} {v : S39} {q : Prop} (h : W.heap[g]? = some (.cells #[.int .i64 v.f0, .int .i64 v.f1, .string v.f2] t (0, 0))) (k : q) : v3 g v W q := ap3 (bc3 h) k
section
variable {P : Program} {md : Region.Mode} {ops : Array Oper} {Q : Exit → Act → World → Prop} {S : World → Prop} {ds : List Nat}
/-- Some destinations filled, written out. -/
theorem pr_ {fuel : Nat} {l : Array Bool} {a a' : Act} {s : List (Tmp × Value)} {w : World} (h : wpAnyLast P md ops Q S ds fuel l a' w) (ha : putAll a s = a' := by (simp only [putAll, Act.put, List.setIfInBounds_toArray, List.set_cons_zero, List.set_cons_succ]; rfl)) : wpAnyLast P md ops Q S ds fuel l (putAll a s) w := norm_ ha h
theorem pl_ {fuel : Nat} {l : Array Bool} {a a' : Act} {s : List (Tmp × Value)} {w : World} (h : wpAnyLast P md ops Q S ds fuel l (putAll a' s) w) (ha : a = putAll a' s := by (simp only [putAll, Act.put, List.setIfInBounds_toArray, List.set_cons_zero, List.set_cons_succ])) : wpAnyLast P md ops Q S ds fuel l a w := norm_ ha h
end
/-- A call's last: two numbers are returned. -/
theorem ret2_ {b : Nat} {w0 w : World} {g : Nat} {t : TypeId} {x y : Value} (hb : w.heap[g]? = some (.cells #[x, y] t (0, 0))) (HB : Below b w0 w) (hg : b ≤ g) (u0 u1 : Value) {p : World → Prop} (h : ∀ W, W.cell? ⟨g, 0, none⟩ = some u0 → W.cell? ⟨g, 1, none⟩ = some u1 → Below b w0 W → p W) : p ((w.setCell ⟨g, 0, none⟩ u0).setCell ⟨g, 1, none⟩ u1) := by
 have P2 : ((w.setCell ⟨g, 0, none⟩ u0).setCell ⟨g, 1, none⟩ u1).heap[g]? = some (.cells #[u0, u1] t (0, 0)) := blk_put (cs' := #[u0, u1]) (blk_put (cs' := #[u0, y]) hb 0 u0 rfl) 1 u1 rfl
 exact h _ ((blk_cell P2 0).trans rfl) ((blk_cell P2 1).trans rfl) ((HB.setCell (p := ⟨g, 0, none⟩) hg u0).setCell (p := ⟨g, 1, none⟩) hg u1)
def put3 (w : World) (g : Nat) (u0 u1 u2 : Value) : World := ((w.setCell ⟨g, 0, none⟩ u0).setCell ⟨g, 1, none⟩ u1).setCell ⟨g, 2, none⟩ u2
theorem put3_blk {w : World} {g : Nat} {t : TypeId} {a0 a1 a2 : Value} (h : w.heap[g]? = some (.cells #[a0, a1, a2] t (0, 0))) (u0 u1 u2 : Value) : (put3 w g u0 u1 u2).heap[g]? = some (.cells #[u0, u1, u2] t (0, 0)) :=
 blk_put (cs' := #[u0, u1, u2]) (blk_put (cs' := #[u0, u1, a2]) (blk_put (cs' := #[u0, a1, a2]) h 0 u0 rfl) 1 u1 rfl) 2 u2 rfl
theorem put3_below {b : Nat} {w0 w : World} (h : Below b w0 w) {g : Nat} (hg : b ≤ g) (u0 u1 u2 : Value) : Below b w0 (put3 w g u0 u1 u2) :=
 ((h.setCell (p := ⟨g, 0, none⟩) hg u0).setCell (p := ⟨g, 1, none⟩) hg u1).setCell (p := ⟨g, 2, none⟩) hg u2
end Go.Proofs.Ytackcingpffidaa.P
namespace Go.Proofs.Ytackcingpffidaa.P
open Go.RowKit Go.Proofs.YtackcingpffidaaW.PrintWords Go.Proofs.YtackcingpffidaaW.PrintLast Go.Proofs.YtackcingpffidaaW.PrintMore
attribute [local go_sem] max2_int min2_int max_two min_two max_three min_three max_four min_four Go.Proofs.YtackcingpffidaaQ.str_gtr Go.Proofs.YtackcingpffidaaQ.str_leq Go.Proofs.YtackcingpffidaaQ.str_geq   -- for this text's walks alone
set_option linter.unusedVariables false
set_option linter.unusedSimpArgs false
/-! ### value_Valid: function 107 -/
def value_Valid.f (a0_0 : Int) (a0_1 : Int) (a0_2 : ByteArray) : Option (Bool) := if a0_0 = 0 then (if a0_1 = 0 then (some (a0_2.toList == ([] : List UInt8))) else (some false)) else (if a0_0 = 1 then (if a0_2.toList = ([] : List UInt8) then (if a0_1 = 0 then (some true) else (some (a0_1 == 1))) else (some false)) else (if a0_0 = 2 then (some (a0_2.toList == ([] : List UInt8))) else (if a0_0 = 3 then (if a0_1 = 0 then (some (decide ((a0_2.size : Int) ≤ 4096))) else (some false)) else (some false))))
set_option maxHeartbeats 8000000 in
set_option maxRecDepth 100000 in
theorem value_Valid.calls (a0_0 : Int) (a0_1 : Int) (a0_2 : ByteArray) (r : Bool) (w : World) (h : value_Valid.f a0_0 a0_1 a0_2 = some r) :
  Calls Try.prog 107 #[.agg #[.int .i64 a0_0, .int .i64 a0_1, .string a0_2]] w fun e w' => e = .returned (.bool r) ∧ Below w.heap.size w w' := by
 have hu39 := Try.underlying39
 have HB := Aside0.mk (Below.refl w.heap.size w)
 have H : (if a0_0 = 0 then (if a0_1 = 0 then (some (a0_2.toList == ([] : List UInt8))) else (some false)) else (if a0_0 = 1 then (if a0_2.toList = ([] : List UInt8) then (if a0_1 = 0 then (some true) else (some (a0_1 == 1))) else (some false)) else (if a0_0 = 2 then (some (a0_2.toList == ([] : List UInt8))) else (if a0_0 = 3 then (if a0_1 = 0 then (some (decide ((a0_2.size : Int) ≤ 4096))) else (some false)) else (some false))))) = some r := h
 clear h
 by_cases c2 : a0_0 = 0
 ·rw [if_pos c2] at H
  have c2b0 : (a0_0 == 0) = true := beq_iff_eq.mpr c2
  have c2b1 : (a0_0 != 0) = false := bne_eq_false_iff_eq.mpr c2
  clear c2
  by_cases c3 : a0_1 = 0
  ·rw [if_pos c3] at H
   have c3b0 : (a0_1 == 0) = true := beq_iff_eq.mpr c3
   have c3b1 : (a0_1 != 0) = false := bne_eq_false_iff_eq.mpr c3
   clear c3
   obtain rfl := Option.some.inj H
   go_enter Try.func107, Try.ntmps107
   go_wp2_with (first | ((with_reducible refine gate_dst (N := 1) rfl ?_); (try (refine gate_guard (by rfl) ?_; dsimp only)); refine box_ 1 (cs := #[.int .i64 a0_0, .int .i64 a0_1, .string a0_2]) (t := 39) ?_; intro gb357 hg w4 hbox hb; have BK357 := Aside0.mk (hbox); have GW357 := Aside0.mk ((by rw [hg]; exact (below_size (hb_ HB.out)) : w.heap.size ≤ gb357)); have GE357 := Aside0.mk ((by rw [hg]; exact (below_size (hb_ HB.out)) : w.heap.size ≤ gb357)); replace HB := Aside0.mk (below_step (hb_ HB.out) hb); clear hb hbox hg; obtain ⟨hcz5_0, hcz5_1, hcz5_2, hfz5_0, hfz5_1, hfz5_2⟩ := bf3 BK357.out))
   go_ret
   exact er_ ((hb1_ HB.out GE357.out))
  ·rw [if_neg c3] at H
   have c3b0 : (a0_1 == 0) = false := beq_eq_false_iff_ne.mpr c3
   have c3b1 : (a0_1 != 0) = true := bne_iff_ne.mpr c3
   obtain rfl := Option.some.inj H
   go_enter Try.func107, Try.ntmps107
   go_wp2_with (first | ((with_reducible refine gate_dst (N := 1) rfl ?_); (try (refine gate_guard (by rfl) ?_; dsimp only)); refine box_ 1 (cs := #[.int .i64 a0_0, .int .i64 a0_1, .string a0_2]) (t := 39) ?_; intro gb357 hg w6 hbox hb; have BK357 := Aside0.mk (hbox); have GW357 := Aside0.mk ((by rw [hg]; exact (below_size (hb_ HB.out)) : w.heap.size ≤ gb357)); have GE357 := Aside0.mk ((by rw [hg]; exact (below_size (hb_ HB.out)) : w.heap.size ≤ gb357)); replace HB := Aside0.mk (below_step (hb_ HB.out) hb); clear hb hbox hg; obtain ⟨hcz7_0, hcz7_1, hcz7_2, hfz7_0, hfz7_1, hfz7_2⟩ := bf3 BK357.out))
   go_ret
   exact er_ ((hb1_ HB.out GE357.out))
 ·rw [if_neg c2] at H
  have c2b0 : (a0_0 == 0) = false := beq_eq_false_iff_ne.mpr c2
  have c2b1 : (a0_0 != 0) = true := bne_iff_ne.mpr c2
  by_cases c8 : a0_0 = 1
  ·rw [if_pos c8] at H
   have c8b0 : (a0_0 == 1) = true := beq_iff_eq.mpr c8
   have c8b1 : (a0_0 != 1) = false := bne_eq_false_iff_eq.mpr c8
   clear c8
   by_cases c9 : a0_2.toList = ([] : List UInt8)
   ·rw [if_pos c9] at H
    have c9b0 : (a0_2.toList == ([] : List UInt8)) = true := beq_iff_eq.mpr c9
    have c9b1 : (a0_2.toList != ([] : List UInt8)) = false := bne_eq_false_iff_eq.mpr c9
    clear c9
    by_cases c10 : a0_1 = 0
    ·rw [if_pos c10] at H
     have c10b0 : (a0_1 == 0) = true := beq_iff_eq.mpr c10
     have c10b1 : (a0_1 != 0) = false := bne_eq_false_iff_eq.mpr c10
     clear c10
     obtain rfl := Option.some.inj H
     go_enter Try.func107, Try.ntmps107
     go_wp2_with (first | ((with_reducible refine gate_dst (N := 1) rfl ?_); (try (refine gate_guard (by rfl) ?_; dsimp only)); refine box_ 1 (cs := #[.int .i64 a0_0, .int .i64 a0_1, .string a0_2]) (t := 39) ?_; intro gb357 hg w11 hbox hb; have BK357 := Aside0.mk (hbox); have GW357 := Aside0.mk ((by rw [hg]; exact (below_size (hb_ HB.out)) : w.heap.size ≤ gb357)); have GE357 := Aside0.mk ((by rw [hg]; exact (below_size (hb_ HB.out)) : w.heap.size ≤ gb357)); replace HB := Aside0.mk (below_step (hb_ HB.out) hb); clear hb hbox hg; obtain ⟨hcz12_0, hcz12_1, hcz12_2, hfz12_0, hfz12_1, hfz12_2⟩ := bf3 BK357.out))
     go_ret
     exact er_ ((hb1_ HB.out GE357.out))
    ·rw [if_neg c10] at H
     have c10b0 : (a0_1 == 0) = false := beq_eq_false_iff_ne.mpr c10
     have c10b1 : (a0_1 != 0) = true := bne_iff_ne.mpr c10
     obtain rfl := Option.some.inj H
     go_enter Try.func107, Try.ntmps107
     go_wp2_with (first | ((with_reducible refine gate_dst (N := 1) rfl ?_); (try (refine gate_guard (by rfl) ?_; dsimp only)); refine box_ 1 (cs := #[.int .i64 a0_0, .int .i64 a0_1, .string a0_2]) (t := 39) ?_; intro gb357 hg w13 hbox hb; have BK357 := Aside0.mk (hbox); have GW357 := Aside0.mk ((by rw [hg]; exact (below_size (hb_ HB.out)) : w.heap.size ≤ gb357)); have GE357 := Aside0.mk ((by rw [hg]; exact (below_size (hb_ HB.out)) : w.heap.size ≤ gb357)); replace HB := Aside0.mk (below_step (hb_ HB.out) hb); clear hb hbox hg; obtain ⟨hcz14_0, hcz14_1, hcz14_2, hfz14_0, hfz14_1, hfz14_2⟩ := bf3 BK357.out))
     go_ret
     exact er_ ((hb1_ HB.out GE357.out))
   ·rw [if_neg c9] at H
    have c9b0 : (a0_2.toList == ([] : List UInt8)) = false := beq_eq_false_iff_ne.mpr c9
    have c9b1 : (a0_2.toList != ([] : List UInt8)) = true := bne_iff_ne.mpr c9
    obtain rfl := Option.some.inj H
    go_enter Try.func107, Try.ntmps107
    go_wp2_with (first | ((with_reducible refine gate_dst (N := 1) rfl ?_); (try (refine gate_guard (by rfl) ?_; dsimp only)); refine box_ 1 (cs := #[.int .i64 a0_0, .int .i64 a0_1, .string a0_2]) (t := 39) ?_; intro gb357 hg w15 hbox hb; have BK357 := Aside0.mk (hbox); have GW357 := Aside0.mk ((by rw [hg]; exact (below_size (hb_ HB.out)) : w.heap.size ≤ gb357)); have GE357 := Aside0.mk ((by rw [hg]; exact (below_size (hb_ HB.out)) : w.heap.size ≤ gb357)); replace HB := Aside0.mk (below_step (hb_ HB.out) hb); clear hb hbox hg; obtain ⟨hcz16_0, hcz16_1, hcz16_2, hfz16_0, hfz16_1, hfz16_2⟩ := bf3 BK357.out))
    go_ret
    exact er_ ((hb1_ HB.out GE357.out))
  ·rw [if_neg c8] at H
   have c8b0 : (a0_0 == 1) = false := beq_eq_false_iff_ne.mpr c8
   have c8b1 : (a0_0 != 1) = true := bne_iff_ne.mpr c8
   by_cases c17 : a0_0 = 2
   ·rw [if_pos c17] at H
    have c17b0 : (a0_0 == 2) = true := beq_iff_eq.mpr c17
    have c17b1 : (a0_0 != 2) = false := bne_eq_false_iff_eq.mpr c17
    clear c17
    obtain rfl := Option.some.inj H
    go_enter Try.func107, Try.ntmps107
    go_wp2_with (first | ((with_reducible refine gate_dst (N := 1) rfl ?_); (try (refine gate_guard (by rfl) ?_; dsimp only)); refine box_ 1 (cs := #[.int .i64 a0_0, .int .i64 a0_1, .string a0_2]) (t := 39) ?_; intro gb357 hg w18 hbox hb; have BK357 := Aside0.mk (hbox); have GW357 := Aside0.mk ((by rw [hg]; exact (below_size (hb_ HB.out)) : w.heap.size ≤ gb357)); have GE357 := Aside0.mk ((by rw [hg]; exact (below_size (hb_ HB.out)) : w.heap.size ≤ gb357)); replace HB := Aside0.mk (below_step (hb_ HB.out) hb); clear hb hbox hg; obtain ⟨hcz19_0, hcz19_1, hcz19_2, hfz19_0, hfz19_1, hfz19_2⟩ := bf3 BK357.out))
    go_ret
    exact er_ ((hb1_ HB.out GE357.out))
   ·rw [if_neg c17] at H
    have c17b0 : (a0_0 == 2) = false := beq_eq_false_iff_ne.mpr c17
    have c17b1 : (a0_0 != 2) = true := bne_iff_ne.mpr c17
    by_cases c20 : a0_0 = 3
    ·rw [if_pos c20] at H
     have c20b0 : (a0_0 == 3) = true := beq_iff_eq.mpr c20
     have c20b1 : (a0_0 != 3) = false := bne_eq_false_iff_eq.mpr c20
     clear c20
     by_cases c21 : a0_1 = 0
     ·rw [if_pos c21] at H
      have c21b0 : (a0_1 == 0) = true := beq_iff_eq.mpr c21
      have c21b1 : (a0_1 != 0) = false := bne_eq_false_iff_eq.mpr c21
      clear c21
      obtain rfl := Option.some.inj H
      go_enter Try.func107, Try.ntmps107
      go_wp2_with (first | ((with_reducible refine gate_dst (N := 1) rfl ?_); (try (refine gate_guard (by rfl) ?_; dsimp only)); refine box_ 1 (cs := #[.int .i64 a0_0, .int .i64 a0_1, .string a0_2]) (t := 39) ?_; intro gb357 hg w22 hbox hb; have BK357 := Aside0.mk (hbox); have GW357 := Aside0.mk ((by rw [hg]; exact (below_size (hb_ HB.out)) : w.heap.size ≤ gb357)); have GE357 := Aside0.mk ((by rw [hg]; exact (below_size (hb_ HB.out)) : w.heap.size ≤ gb357)); replace HB := Aside0.mk (below_step (hb_ HB.out) hb); clear hb hbox hg; obtain ⟨hcz23_0, hcz23_1, hcz23_2, hfz23_0, hfz23_1, hfz23_2⟩ := bf3 BK357.out))
      go_ret
      exact er_ ((hb1_ HB.out GE357.out))
     ·rw [if_neg c21] at H
      have c21b0 : (a0_1 == 0) = false := beq_eq_false_iff_ne.mpr c21
      have c21b1 : (a0_1 != 0) = true := bne_iff_ne.mpr c21
      obtain rfl := Option.some.inj H
      go_enter Try.func107, Try.ntmps107
      go_wp2_with (first | ((with_reducible refine gate_dst (N := 1) rfl ?_); (try (refine gate_guard (by rfl) ?_; dsimp only)); refine box_ 1 (cs := #[.int .i64 a0_0, .int .i64 a0_1, .string a0_2]) (t := 39) ?_; intro gb357 hg w24 hbox hb; have BK357 := Aside0.mk (hbox); have GW357 := Aside0.mk ((by rw [hg]; exact (below_size (hb_ HB.out)) : w.heap.size ≤ gb357)); have GE357 := Aside0.mk ((by rw [hg]; exact (below_size (hb_ HB.out)) : w.heap.size ≤ gb357)); replace HB := Aside0.mk (below_step (hb_ HB.out) hb); clear hb hbox hg; obtain ⟨hcz25_0, hcz25_1, hcz25_2, hfz25_0, hfz25_1, hfz25_2⟩ := bf3 BK357.out))
      go_ret
      exact er_ ((hb1_ HB.out GE357.out))
    ·rw [if_neg c20] at H
     have c20b0 : (a0_0 == 3) = false := beq_eq_false_iff_ne.mpr c20
     have c20b1 : (a0_0 != 3) = true := bne_iff_ne.mpr c20
     obtain rfl := Option.some.inj H
     go_enter Try.func107, Try.ntmps107
     go_wp2_with (first | ((with_reducible refine gate_dst (N := 1) rfl ?_); (try (refine gate_guard (by rfl) ?_; dsimp only)); refine box_ 1 (cs := #[.int .i64 a0_0, .int .i64 a0_1, .string a0_2]) (t := 39) ?_; intro gb357 hg w26 hbox hb; have BK357 := Aside0.mk (hbox); have GW357 := Aside0.mk ((by rw [hg]; exact (below_size (hb_ HB.out)) : w.heap.size ≤ gb357)); have GE357 := Aside0.mk ((by rw [hg]; exact (below_size (hb_ HB.out)) : w.heap.size ≤ gb357)); replace HB := Aside0.mk (below_step (hb_ HB.out) hb); clear hb hbox hg; obtain ⟨hcz27_0, hcz27_1, hcz27_2, hfz27_0, hfz27_1, hfz27_2⟩ := bf3 BK357.out))
     go_ret
     exact er_ ((hb1_ HB.out GE357.out))
/-! ### value_sign: function 99 -/
def value_sign.f (a0 : Bool) (a1 : Bool) : Option (Int) := if a0 = true then (some (-1)) else (if a1 = true then (some 1) else (some 0))
set_option maxHeartbeats 8000000 in
set_option maxRecDepth 100000 in
theorem value_sign.calls (a0 : Bool) (a1 : Bool) (r : Int) (w : World) (h : value_sign.f a0 a1 = some r) :
  Calls Try.prog 99 #[.bool a0, .bool a1] w fun e w' => e = .returned (.int .i64 r) ∧ Drawn0 w w' := by
 have H : (if a0 = true then (some (-1)) else (if a1 = true then (some 1) else (some 0))) = some r := h
 clear h
 by_cases c3 : a0 = true
 ·subst c3
  have H1 : (some (-1)) = some r := by rw [if_pos rfl] at H; exact H
  clear H
  have H := H1
  clear H1
  obtain rfl := Option.some.inj H
  go_enter Try.func99, Try.ntmps99
  go_wp2
  go_ret
  exact ⟨by first | rfl | (simp; done) | (simp [*]; done), by repeat (first | exact Drawn0.refl _ | apply Drawn0.step)⟩
 ·replace c3 := Bool.eq_false_iff.mpr c3
  subst c3
  have H1 : (if a1 = true then (some 1) else (some 0)) = some r := by rw [if_neg (show ¬ (false = true) by decide)] at H; exact H
  clear H
  have H := H1
  clear H1
  by_cases c4 : a1 = true
  ·subst c4
   have H1 : (some 1) = some r := by rw [if_pos rfl] at H; exact H
   clear H
   have H := H1
   clear H1
   obtain rfl := Option.some.inj H
   go_enter Try.func99, Try.ntmps99
   go_wp2
   go_ret
   exact ⟨by first | rfl | (simp; done) | (simp [*]; done), by repeat (first | exact Drawn0.refl _ | apply Drawn0.step)⟩
  ·replace c4 := Bool.eq_false_iff.mpr c4
   subst c4
   have H1 : (some 0) = some r := by rw [if_neg (show ¬ (false = true) by decide)] at H; exact H
   clear H
   have H := H1
   clear H1
   obtain rfl := Option.some.inj H
   go_enter Try.func99, Try.ntmps99
   go_wp2
   go_ret
   exact ⟨by first | rfl | (simp; done) | (simp [*]; done), by repeat (first | exact Drawn0.refl _ | apply Drawn0.step)⟩
-- NOT PRINTED: function 133 (bytealg_abigen_runtime_cmpstring)
-- NOT PRINTED: function 122 (bytealg_CompareString)
/-! ### strings_Compare: function 100 -/
def strings_Compare.f (a0 : ByteArray) (a1 : ByteArray) : Option (Int) := some (Lib.compareBytes a0.data.toList a1.data.toList)
set_option maxHeartbeats 1000000 in
set_option maxRecDepth 100000 in
theorem bytealg_CompareString_any (a b : ByteArray) (w : World) :
  Calls Try.prog 122 #[.string a, .string b] w fun e w' => e = .returned (.int .i64 (Lib.compareBytes a.data.toList b.data.toList)) ∧ w' = w := by
 go_enter Try.func122, Try.ntmps122
 go_wp2
 rw [run_callFunc_extern Try.func133 (by kernel_rfl) (by kernel_rfl) (by kernel_rfl) (e := Extern.BytealgCompare.compare) (by kernel_rfl), Lib.run_compareString]
 simp only [Result.andThen]
 rw [Oper.upon_value]
 go_wp2
 go_ret
 exact ⟨rfl, rfl⟩
set_option maxHeartbeats 1000000 in
theorem strings_Compare.calls (a0 : ByteArray) (a1 : ByteArray) (r : Int) (w : World) (h : strings_Compare.f a0 a1 = some r) :
  Calls Try.prog 100 #[.string a0, .string a1] w fun e w' => e = .returned (.int .i64 r) ∧ Drawn0 w w' := by
 obtain rfl := Option.some.inj h
 go_enter Try.func100, Try.ntmps100
 go_wp2_with (go_at_call 122; refine (bytealg_CompareString_any _ _ _).mono ?_; rintro e w' ⟨rfl, rfl⟩)
 go_ret
 exact ⟨rfl, Drawn0.refl _⟩
/-! ### value_Compare: function 53 -/
def value_Compare.f (a0_0 : Int) (a0_1 : Int) (a0_2 : ByteArray) (a1_0 : Int) (a1_1 : Int) (a1_2 : ByteArray) : Option (Int) := if a0_0 = a1_0 then (if a0_0 = 3 then ((strings_Compare.f a0_2 a1_2).bind fun t361 => (some t361)) else (if a0_0 = 1 then ((value_sign.f (decide (a0_1 < a1_1)) (decide (a0_1 > a1_1))).bind fun t362 => (some t362)) else (if a0_0 = 2 then ((value_sign.f (decide (a0_1 < a1_1)) (decide (a0_1 > a1_1))).bind fun t363 => (some t363)) else (some 0)))) else ((value_sign.f (decide (a0_0 < a1_0)) true).bind fun t360 => (some t360))
set_option maxHeartbeats 8000000 in
set_option maxRecDepth 100000 in
theorem value_Compare.calls (a0_0 : Int) (a0_1 : Int) (a0_2 : ByteArray) (a1_0 : Int) (a1_1 : Int) (a1_2 : ByteArray) (r : Int) (w : World) (h : value_Compare.f a0_0 a0_1 a0_2 a1_0 a1_1 a1_2 = some r) :
  Calls Try.prog 53 #[.agg #[.int .i64 a0_0, .int .i64 a0_1, .string a0_2], .agg #[.int .i64 a1_0, .int .i64 a1_1, .string a1_2]] w fun e w' => e = .returned (.int .i64 r) ∧ Below w.heap.size w w' := by
 have hu39 := Try.underlying39
 have HB := Aside0.mk (Below.refl w.heap.size w)
 have H : (if a0_0 = a1_0 then (if a0_0 = 3 then ((strings_Compare.f a0_2 a1_2).bind fun t361 => (some t361)) else (if a0_0 = 1 then ((value_sign.f (decide (a0_1 < a1_1)) (decide (a0_1 > a1_1))).bind fun t362 => (some t362)) else (if a0_0 = 2 then ((value_sign.f (decide (a0_1 < a1_1)) (decide (a0_1 > a1_1))).bind fun t363 => (some t363)) else (some 0)))) else ((value_sign.f (decide (a0_0 < a1_0)) true).bind fun t360 => (some t360))) = some r := h
 clear h
 by_cases c3 : a0_0 = a1_0
 ·rw [if_pos c3] at H
  have c3b0 : (a0_0 == a1_0) = true := beq_iff_eq.mpr c3
  have c3b1 : (a0_0 != a1_0) = false := bne_eq_false_iff_eq.mpr c3
  clear c3
  by_cases c4 : a0_0 = 3
  ·rw [if_pos c4] at H
   have c4b0 : (a0_0 == 3) = true := beq_iff_eq.mpr c4
   have c4b1 : (a0_0 != 3) = false := bne_eq_false_iff_eq.mpr c4
   clear c4
   replace H := Option.bind_eq_some_iff.mp H
   obtain ⟨t361, A50, H⟩ := H
   replace H : (some t361) = some r := H
   have A5 := Aside0.mk A50
   clear A50
   obtain rfl := Option.some.inj H
   go_enter Try.func53, Try.ntmps53
   go_wp2_with (first | ((with_reducible refine gate_dst (N := 2) rfl ?_); refine box_ 2 (cs := #[.int .i64 a0_0, .int .i64 a0_1, .string a0_2]) (t := 39) ?_; intro gb358 hg w6 hbox hb; have BK358 := Aside0.mk (hbox); have GW358 := Aside0.mk ((by rw [hg]; exact (below_size (hb_ HB.out)) : w.heap.size ≤ gb358)); have GE358 := Aside0.mk ((by rw [hg]; exact (below_size (hb_ HB.out)) : w.heap.size ≤ gb358)); replace HB := Aside0.mk (below_step (hb_ HB.out) hb); clear hb hbox hg) | ((with_reducible refine gate_dst (N := 3) rfl ?_); refine box_ 3 (cs := #[.int .i64 a1_0, .int .i64 a1_1, .string a1_2]) (t := 39) ?_; intro gb359 hg w7 hbox hb; have BK359 := Aside0.mk (hbox); have GW359 := Aside0.mk ((by rw [hg]; exact (below_size (hb1_ HB.out GE358.out)) : w.heap.size ≤ gb359)); have GE359 := Aside0.mk ((by rw [hg]; exact (below_size (hb1_ HB.out GE358.out)) : w.heap.size ≤ gb359)); have NB358_359 := Aside0.mk ((by rw [hg]; exact Nat.ne_of_lt (blk_lt (bk_ BK358.out)) : gb358 ≠ gb359)); have NB359_358 := Aside0.mk ((by rw [hg]; exact Nat.ne_of_gt (blk_lt (bk_ BK358.out)) : gb359 ≠ gb358)); replace BK358 := Aside0.mk (blk_below (bk_ BK358.out) hb); replace HB := Aside0.mk (below_step (hb1_ HB.out GE358.out) hb); clear hb hbox hg; have hnb8 := NB358_359.out; have hnc8 := NB359_358.out; obtain ⟨hcz9_0, hcz9_1, hcz9_2, hfz9_0, hfz9_1, hfz9_2⟩ := bf3 BK358.out; obtain ⟨hcz10_0, hcz10_1, hcz10_2, hfz10_0, hfz10_1, hfz10_2⟩ := bf3 BK359.out) | ((with_reducible refine gate_callee (f := 100) rfl ?_); refine goesL_ (some 28) rfl rfl Try.func100 (by kernel_rfl) rfl #[.string a0_2, .string a1_2] rfl (by (try simp only [List.map_toArray, List.map_cons, List.map_nil]); first | done | rfl | (simp only [List.length_drop, List.length_take]; rfl) | (simp only [Int.ofNat_lt, Int.ofNat_le, gt_iff_lt, ge_iff_le]; rfl)) ?_; (with_reducible refine (strings_Compare.calls a0_2 a1_2 t361 _ A5.out).mono ?_); rintro e w' ⟨rfl, ⟨nd, rfl⟩⟩; refine ⟨_, rfl, ?_⟩))
   go_ret
   exact er_ ((hb2_ HB.out GE358.out GE359.out))
  ·rw [if_neg c4] at H
   have c4b0 : (a0_0 == 3) = false := beq_eq_false_iff_ne.mpr c4
   have c4b1 : (a0_0 != 3) = true := bne_iff_ne.mpr c4
   by_cases c11 : a0_0 = 1
   ·rw [if_pos c11] at H
    have c11b0 : (a0_0 == 1) = true := beq_iff_eq.mpr c11
    have c11b1 : (a0_0 != 1) = false := bne_eq_false_iff_eq.mpr c11
    clear c11
    replace H := Option.bind_eq_some_iff.mp H
    obtain ⟨t362, A120, H⟩ := H
    replace H : (some t362) = some r := H
    have A12 := Aside0.mk A120
    clear A120
    obtain rfl := Option.some.inj H
    go_enter Try.func53, Try.ntmps53
    go_wp2_with (first | ((with_reducible refine gate_dst (N := 2) rfl ?_); refine box_ 2 (cs := #[.int .i64 a0_0, .int .i64 a0_1, .string a0_2]) (t := 39) ?_; intro gb358 hg w13 hbox hb; have BK358 := Aside0.mk (hbox); have GW358 := Aside0.mk ((by rw [hg]; exact (below_size (hb_ HB.out)) : w.heap.size ≤ gb358)); have GE358 := Aside0.mk ((by rw [hg]; exact (below_size (hb_ HB.out)) : w.heap.size ≤ gb358)); replace HB := Aside0.mk (below_step (hb_ HB.out) hb); clear hb hbox hg) | ((with_reducible refine gate_dst (N := 3) rfl ?_); refine box_ 3 (cs := #[.int .i64 a1_0, .int .i64 a1_1, .string a1_2]) (t := 39) ?_; intro gb359 hg w14 hbox hb; have BK359 := Aside0.mk (hbox); have GW359 := Aside0.mk ((by rw [hg]; exact (below_size (hb1_ HB.out GE358.out)) : w.heap.size ≤ gb359)); have GE359 := Aside0.mk ((by rw [hg]; exact (below_size (hb1_ HB.out GE358.out)) : w.heap.size ≤ gb359)); have NB358_359 := Aside0.mk ((by rw [hg]; exact Nat.ne_of_lt (blk_lt (bk_ BK358.out)) : gb358 ≠ gb359)); have NB359_358 := Aside0.mk ((by rw [hg]; exact Nat.ne_of_gt (blk_lt (bk_ BK358.out)) : gb359 ≠ gb358)); replace BK358 := Aside0.mk (blk_below (bk_ BK358.out) hb); replace HB := Aside0.mk (below_step (hb1_ HB.out GE358.out) hb); clear hb hbox hg; have hnb15 := NB358_359.out; have hnc15 := NB359_358.out; obtain ⟨hcz16_0, hcz16_1, hcz16_2, hfz16_0, hfz16_1, hfz16_2⟩ := bf3 BK358.out; obtain ⟨hcz17_0, hcz17_1, hcz17_2, hfz17_0, hfz17_1, hfz17_2⟩ := bf3 BK359.out) | ((with_reducible refine gate_callee (f := 99) rfl ?_); refine goesL_ (some 39) rfl rfl Try.func99 (by kernel_rfl) rfl #[.bool (decide (a0_1 < a1_1)), .bool (decide (a0_1 > a1_1))] rfl (by (try simp only [List.map_toArray, List.map_cons, List.map_nil]); first | done | rfl | (simp only [List.length_drop, List.length_take]; rfl) | (simp only [Int.ofNat_lt, Int.ofNat_le, gt_iff_lt, ge_iff_le]; rfl)) ?_; (with_reducible refine (value_sign.calls (decide (a0_1 < a1_1)) (decide (a0_1 > a1_1)) t362 _ A12.out).mono ?_); rintro e w' ⟨rfl, ⟨nd, rfl⟩⟩; refine ⟨_, rfl, ?_⟩))
    go_ret
    exact er_ ((hb2_ HB.out GE358.out GE359.out))
   ·rw [if_neg c11] at H
    have c11b0 : (a0_0 == 1) = false := beq_eq_false_iff_ne.mpr c11
    have c11b1 : (a0_0 != 1) = true := bne_iff_ne.mpr c11
    by_cases c18 : a0_0 = 2
    ·rw [if_pos c18] at H
     have c18b0 : (a0_0 == 2) = true := beq_iff_eq.mpr c18
     have c18b1 : (a0_0 != 2) = false := bne_eq_false_iff_eq.mpr c18
     clear c18
     replace H := Option.bind_eq_some_iff.mp H
     obtain ⟨t363, A190, H⟩ := H
     replace H : (some t363) = some r := H
     have A19 := Aside0.mk A190
     clear A190
     obtain rfl := Option.some.inj H
     go_enter Try.func53, Try.ntmps53
     go_wp2_with (first | ((with_reducible refine gate_dst (N := 2) rfl ?_); refine box_ 2 (cs := #[.int .i64 a0_0, .int .i64 a0_1, .string a0_2]) (t := 39) ?_; intro gb358 hg w20 hbox hb; have BK358 := Aside0.mk (hbox); have GW358 := Aside0.mk ((by rw [hg]; exact (below_size (hb_ HB.out)) : w.heap.size ≤ gb358)); have GE358 := Aside0.mk ((by rw [hg]; exact (below_size (hb_ HB.out)) : w.heap.size ≤ gb358)); replace HB := Aside0.mk (below_step (hb_ HB.out) hb); clear hb hbox hg) | ((with_reducible refine gate_dst (N := 3) rfl ?_); refine box_ 3 (cs := #[.int .i64 a1_0, .int .i64 a1_1, .string a1_2]) (t := 39) ?_; intro gb359 hg w21 hbox hb; have BK359 := Aside0.mk (hbox); have GW359 := Aside0.mk ((by rw [hg]; exact (below_size (hb1_ HB.out GE358.out)) : w.heap.size ≤ gb359)); have GE359 := Aside0.mk ((by rw [hg]; exact (below_size (hb1_ HB.out GE358.out)) : w.heap.size ≤ gb359)); have NB358_359 := Aside0.mk ((by rw [hg]; exact Nat.ne_of_lt (blk_lt (bk_ BK358.out)) : gb358 ≠ gb359)); have NB359_358 := Aside0.mk ((by rw [hg]; exact Nat.ne_of_gt (blk_lt (bk_ BK358.out)) : gb359 ≠ gb358)); replace BK358 := Aside0.mk (blk_below (bk_ BK358.out) hb); replace HB := Aside0.mk (below_step (hb1_ HB.out GE358.out) hb); clear hb hbox hg; have hnb22 := NB358_359.out; have hnc22 := NB359_358.out; obtain ⟨hcz23_0, hcz23_1, hcz23_2, hfz23_0, hfz23_1, hfz23_2⟩ := bf3 BK358.out; obtain ⟨hcz24_0, hcz24_1, hcz24_2, hfz24_0, hfz24_1, hfz24_2⟩ := bf3 BK359.out) | ((with_reducible refine gate_callee (f := 99) rfl ?_); refine goesL_ (some 39) rfl rfl Try.func99 (by kernel_rfl) rfl #[.bool (decide (a0_1 < a1_1)), .bool (decide (a0_1 > a1_1))] rfl (by (try simp only [List.map_toArray, List.map_cons, List.map_nil]); first | done | rfl | (simp only [List.length_drop, List.length_take]; rfl) | (simp only [Int.ofNat_lt, Int.ofNat_le, gt_iff_lt, ge_iff_le]; rfl)) ?_; (with_reducible refine (value_sign.calls (decide (a0_1 < a1_1)) (decide (a0_1 > a1_1)) t363 _ A19.out).mono ?_); rintro e w' ⟨rfl, ⟨nd, rfl⟩⟩; refine ⟨_, rfl, ?_⟩))
     go_ret
     exact er_ ((hb2_ HB.out GE358.out GE359.out))
    ·rw [if_neg c18] at H
     have c18b0 : (a0_0 == 2) = false := beq_eq_false_iff_ne.mpr c18
     have c18b1 : (a0_0 != 2) = true := bne_iff_ne.mpr c18
     obtain rfl := Option.some.inj H
     go_enter Try.func53, Try.ntmps53
     go_wp2_with (first | ((with_reducible refine gate_dst (N := 2) rfl ?_); refine box_ 2 (cs := #[.int .i64 a0_0, .int .i64 a0_1, .string a0_2]) (t := 39) ?_; intro gb358 hg w25 hbox hb; have BK358 := Aside0.mk (hbox); have GW358 := Aside0.mk ((by rw [hg]; exact (below_size (hb_ HB.out)) : w.heap.size ≤ gb358)); have GE358 := Aside0.mk ((by rw [hg]; exact (below_size (hb_ HB.out)) : w.heap.size ≤ gb358)); replace HB := Aside0.mk (below_step (hb_ HB.out) hb); clear hb hbox hg) | ((with_reducible refine gate_dst (N := 3) rfl ?_); refine box_ 3 (cs := #[.int .i64 a1_0, .int .i64 a1_1, .string a1_2]) (t := 39) ?_; intro gb359 hg w26 hbox hb; have BK359 := Aside0.mk (hbox); have GW359 := Aside0.mk ((by rw [hg]; exact (below_size (hb1_ HB.out GE358.out)) : w.heap.size ≤ gb359)); have GE359 := Aside0.mk ((by rw [hg]; exact (below_size (hb1_ HB.out GE358.out)) : w.heap.size ≤ gb359)); have NB358_359 := Aside0.mk ((by rw [hg]; exact Nat.ne_of_lt (blk_lt (bk_ BK358.out)) : gb358 ≠ gb359)); have NB359_358 := Aside0.mk ((by rw [hg]; exact Nat.ne_of_gt (blk_lt (bk_ BK358.out)) : gb359 ≠ gb358)); replace BK358 := Aside0.mk (blk_below (bk_ BK358.out) hb); replace HB := Aside0.mk (below_step (hb1_ HB.out GE358.out) hb); clear hb hbox hg; have hnb27 := NB358_359.out; have hnc27 := NB359_358.out; obtain ⟨hcz28_0, hcz28_1, hcz28_2, hfz28_0, hfz28_1, hfz28_2⟩ := bf3 BK358.out; obtain ⟨hcz29_0, hcz29_1, hcz29_2, hfz29_0, hfz29_1, hfz29_2⟩ := bf3 BK359.out))
     go_ret
     exact er_ ((hb2_ HB.out GE358.out GE359.out))
 ·rw [if_neg c3] at H
  have c3b0 : (a0_0 == a1_0) = false := beq_eq_false_iff_ne.mpr c3
  have c3b1 : (a0_0 != a1_0) = true := bne_iff_ne.mpr c3
  replace H := Option.bind_eq_some_iff.mp H
  obtain ⟨t360, A300, H⟩ := H
  replace H : (some t360) = some r := H
  have A30 := Aside0.mk A300
  clear A300
  obtain rfl := Option.some.inj H
  go_enter Try.func53, Try.ntmps53
  go_wp2_with (first | ((with_reducible refine gate_dst (N := 2) rfl ?_); refine box_ 2 (cs := #[.int .i64 a0_0, .int .i64 a0_1, .string a0_2]) (t := 39) ?_; intro gb358 hg w31 hbox hb; have BK358 := Aside0.mk (hbox); have GW358 := Aside0.mk ((by rw [hg]; exact (below_size (hb_ HB.out)) : w.heap.size ≤ gb358)); have GE358 := Aside0.mk ((by rw [hg]; exact (below_size (hb_ HB.out)) : w.heap.size ≤ gb358)); replace HB := Aside0.mk (below_step (hb_ HB.out) hb); clear hb hbox hg) | ((with_reducible refine gate_dst (N := 3) rfl ?_); refine box_ 3 (cs := #[.int .i64 a1_0, .int .i64 a1_1, .string a1_2]) (t := 39) ?_; intro gb359 hg w32 hbox hb; have BK359 := Aside0.mk (hbox); have GW359 := Aside0.mk ((by rw [hg]; exact (below_size (hb1_ HB.out GE358.out)) : w.heap.size ≤ gb359)); have GE359 := Aside0.mk ((by rw [hg]; exact (below_size (hb1_ HB.out GE358.out)) : w.heap.size ≤ gb359)); have NB358_359 := Aside0.mk ((by rw [hg]; exact Nat.ne_of_lt (blk_lt (bk_ BK358.out)) : gb358 ≠ gb359)); have NB359_358 := Aside0.mk ((by rw [hg]; exact Nat.ne_of_gt (blk_lt (bk_ BK358.out)) : gb359 ≠ gb358)); replace BK358 := Aside0.mk (blk_below (bk_ BK358.out) hb); replace HB := Aside0.mk (below_step (hb1_ HB.out GE358.out) hb); clear hb hbox hg; have hnb33 := NB358_359.out; have hnc33 := NB359_358.out; obtain ⟨hcz34_0, hcz34_1, hcz34_2, hfz34_0, hfz34_1, hfz34_2⟩ := bf3 BK358.out; obtain ⟨hcz35_0, hcz35_1, hcz35_2, hfz35_0, hfz35_1, hfz35_2⟩ := bf3 BK359.out) | ((with_reducible refine gate_callee (f := 99) rfl ?_); refine goesL_ (some 15) rfl rfl Try.func99 (by kernel_rfl) rfl #[.bool (decide (a0_0 < a1_0)), .bool true] rfl (by (try simp only [List.map_toArray, List.map_cons, List.map_nil]); first | done | rfl | (simp only [List.length_drop, List.length_take]; rfl) | (simp only [Int.ofNat_lt, Int.ofNat_le, gt_iff_lt, ge_iff_le]; rfl)) ?_; (with_reducible refine (value_sign.calls (decide (a0_0 < a1_0)) true t360 _ A30.out).mono ?_); rintro e w' ⟨rfl, ⟨nd, rfl⟩⟩; refine ⟨_, rfl, ?_⟩))
  go_ret
  exact er_ ((hb2_ HB.out GE358.out GE359.out))
/-! ### value_Equal: function 59 -/
def value_Equal.f (a0_0 : Int) (a0_1 : Int) (a0_2 : ByteArray) (a1_0 : Int) (a1_1 : Int) (a1_2 : ByteArray) : Option (Bool) := (value_Compare.f a0_0 a0_1 a0_2 a1_0 a1_1 a1_2).bind fun t366 => (some (t366 == 0))
set_option maxHeartbeats 8000000 in
set_option maxRecDepth 100000 in
theorem value_Equal.calls (a0_0 : Int) (a0_1 : Int) (a0_2 : ByteArray) (a1_0 : Int) (a1_1 : Int) (a1_2 : ByteArray) (r : Bool) (w : World) (h : value_Equal.f a0_0 a0_1 a0_2 a1_0 a1_1 a1_2 = some r) :
  Calls Try.prog 59 #[.agg #[.int .i64 a0_0, .int .i64 a0_1, .string a0_2], .agg #[.int .i64 a1_0, .int .i64 a1_1, .string a1_2]] w fun e w' => e = .returned (.bool r) ∧ Below w.heap.size w w' := by
 have hu39 := Try.underlying39
 have HB := Aside0.mk (Below.refl w.heap.size w)
 have H : ((value_Compare.f a0_0 a0_1 a0_2 a1_0 a1_1 a1_2).bind fun t366 => (some (t366 == 0))) = some r := h
 clear h
 replace H := Option.bind_eq_some_iff.mp H
 obtain ⟨t366, A30, H⟩ := H
 replace H : (some (t366 == 0)) = some r := H
 have A3 := Aside0.mk A30
 clear A30
 obtain rfl := Option.some.inj H
 go_enter Try.func59, Try.ntmps59
 go_wp2_with (first | ((with_reducible refine gate_dst (N := 2) rfl ?_); refine box_ 2 (cs := #[.int .i64 a0_0, .int .i64 a0_1, .string a0_2]) (t := 39) ?_; intro gb364 hg w4 hbox hb; have BK364 := Aside0.mk (hbox); have GW364 := Aside0.mk ((by rw [hg]; exact (below_size (hb_ HB.out)) : w.heap.size ≤ gb364)); have GE364 := Aside0.mk ((by rw [hg]; exact (below_size (hb_ HB.out)) : w.heap.size ≤ gb364)); replace HB := Aside0.mk (below_step (hb_ HB.out) hb); clear hb hbox hg) | ((with_reducible refine gate_dst (N := 3) rfl ?_); refine box_ 3 (cs := #[.int .i64 a1_0, .int .i64 a1_1, .string a1_2]) (t := 39) ?_; intro gb365 hg w5 hbox hb; have BK365 := Aside0.mk (hbox); have GW365 := Aside0.mk ((by rw [hg]; exact (below_size (hb1_ HB.out GE364.out)) : w.heap.size ≤ gb365)); have GE365 := Aside0.mk ((by rw [hg]; exact (below_size (hb1_ HB.out GE364.out)) : w.heap.size ≤ gb365)); have NB364_365 := Aside0.mk ((by rw [hg]; exact Nat.ne_of_lt (blk_lt (bk_ BK364.out)) : gb364 ≠ gb365)); have NB365_364 := Aside0.mk ((by rw [hg]; exact Nat.ne_of_gt (blk_lt (bk_ BK364.out)) : gb365 ≠ gb364)); replace BK364 := Aside0.mk (blk_below (bk_ BK364.out) hb); replace HB := Aside0.mk (below_step (hb1_ HB.out GE364.out) hb); clear hb hbox hg; have hnb6 := NB364_365.out; have hnc6 := NB365_364.out; obtain ⟨hcz7_0, hcz7_1, hcz7_2, hfz7_0, hfz7_1, hfz7_2⟩ := bf3 BK364.out; obtain ⟨hcz8_0, hcz8_1, hcz8_2, hfz8_0, hfz8_1, hfz8_2⟩ := bf3 BK365.out) | ((with_reducible refine gate_callee (f := 53) rfl ?_); refine goesL_ (some 7) rfl rfl Try.func53 (by kernel_rfl) rfl #[.agg #[.int .i64 a0_0, .int .i64 a0_1, .string a0_2], .agg #[.int .i64 a1_0, .int .i64 a1_1, .string a1_2]] rfl (by (try simp only [List.map_toArray, List.map_cons, List.map_nil]); first | done | rfl | (simp only [List.length_drop, List.length_take]; rfl) | (simp only [Int.ofNat_lt, Int.ofNat_le, gt_iff_lt, ge_iff_le]; rfl)) ?_; (with_reducible refine (value_Compare.calls a0_0 a0_1 a0_2 a1_0 a1_1 a1_2 t366 _ A3.out).mono ?_); rintro e w9 ⟨rfl, hb⟩; refine ⟨_, rfl, ?_⟩; replace BK364 := Aside0.mk (blk_below (bk_ BK364.out) hb); replace BK365 := Aside0.mk (blk_below (bk_ BK365.out) hb); replace HB := Aside0.mk (below_step (hb2_ HB.out GE364.out GE365.out) hb); (try clear hb)))
 go_ret
 exact er_ ((hb2_ HB.out GE364.out GE365.out))
/-! ### checksum_Mix: function 101 -/
def checksum_Mix.f (a0 : Int) : Option (Int) := some (Go.bits .xor .u64 (IntKind.u64.wrap ((Go.bits .xor .u64 (IntKind.u64.wrap ((Go.bits .xor .u64 a0 (a0 / 1073741824)) * 13787848793156543929)) ((IntKind.u64.wrap ((Go.bits .xor .u64 a0 (a0 / 1073741824)) * 13787848793156543929)) / 134217728)) * 10723151780598845931)) ((IntKind.u64.wrap ((Go.bits .xor .u64 (IntKind.u64.wrap ((Go.bits .xor .u64 a0 (a0 / 1073741824)) * 13787848793156543929)) ((IntKind.u64.wrap ((Go.bits .xor .u64 a0 (a0 / 1073741824)) * 13787848793156543929)) / 134217728)) * 10723151780598845931)) / 2147483648))
set_option maxHeartbeats 8000000 in
set_option maxRecDepth 100000 in
theorem checksum_Mix.calls (a0 : Int) (r : Int) (w : World) (h : checksum_Mix.f a0 = some r) :
  Calls Try.prog 101 #[.int .u64 a0] w fun e w' => e = .returned (.int .u64 r) ∧ Drawn0 w w' := by
 have H : (some (Go.bits .xor .u64 (IntKind.u64.wrap ((Go.bits .xor .u64 (IntKind.u64.wrap ((Go.bits .xor .u64 a0 (a0 / 1073741824)) * 13787848793156543929)) ((IntKind.u64.wrap ((Go.bits .xor .u64 a0 (a0 / 1073741824)) * 13787848793156543929)) / 134217728)) * 10723151780598845931)) ((IntKind.u64.wrap ((Go.bits .xor .u64 (IntKind.u64.wrap ((Go.bits .xor .u64 a0 (a0 / 1073741824)) * 13787848793156543929)) ((IntKind.u64.wrap ((Go.bits .xor .u64 a0 (a0 / 1073741824)) * 13787848793156543929)) / 134217728)) * 10723151780598845931)) / 2147483648))) = some r := h
 clear h
 obtain rfl := Option.some.inj H
 go_enter Try.func101, Try.ntmps101
 go_wp2
 go_ret
 exact ⟨by first | rfl | (simp; done) | (simp [*]; done), by repeat (first | exact Drawn0.refl _ | apply Drawn0.step)⟩
/-! ### checksum_Hash: function 102 -/
/-- The eight bytes of a group, with zeros behind what there is. -/
def checksum_Hash.pad (x : List Int) : List Int := x ++ List.replicate (8 - x.length) 0
/-- A group as a number, i bytes of it. -/
def checksum_Hash.word (g : List Int) : Nat → Int
 | 0 => 0
 | i + 1 => Go.bits .or .u64 (checksum_Hash.word g i) (IntKind.u64.wrap (IntKind.u64.wrap (rd g (i : Int)) * 2 ^ (8 * i)))
def checksum_Hash.l0 : Nat → List Int → Int → Int → Option Int
 | 0, _, _, _ => none
 | k + 1, l, h, n => if n < (l.length : Int) then (if 0 ≤ n then (checksum_Mix.f (Go.bits .xor .u64 h (checksum_Hash.word (checksum_Hash.pad ((l.take (if (l.length : Int) < wrap64 (n + 8) then (l.length : Int) else wrap64 (n + 8)).toNat).drop n.toNat)) 8))).bind fun t => checksum_Hash.l0 k l t (wrap64 (n + 8)) else none) else some h
def checksum_Hash.f (k : Nat) (a0 : Int) (l1 : List Int) : Option (Int) := if l1.length ≤ 140737488351232 then (checksum_Mix.f (Go.bits .xor .u64 a0 (l1.length : Int))).bind fun t => checksum_Hash.l0 k l1 t 0 else none
set_option maxHeartbeats 1000000 in
set_option maxRecDepth 100000 in
theorem checksum_Hash.calls (k : Nat) (a0 : Int) (A1 : Option Addr) (c1 : Nat) (l1 : List Int) (r : Int) (w : World) (hr1 : Kd.C (Kd.int .u8) w A1 l1.length l1) (hc1 : l1.length ≤ c1) (h : checksum_Hash.f k a0 l1 = some r) :
  Calls Try.prog 102 #[.int .u64 a0, .slice A1 l1.length c1] w fun e w' => e = .returned (.int .u64 r) ∧ Below w.heap.size w w' := by
 have HR1 := Aside0.mk hr1
 have HC1 := Aside0.mk hc1
 clear hr1 hc1
 have HB := Aside0.mk (Below.refl w.heap.size w)
 unfold checksum_Hash.f at h
 by_cases hl : l1.length ≤ 140737488351232
 ·rw [if_pos hl] at h
  obtain ⟨t, h1, h2⟩ := Option.bind_eq_some_iff.mp h
  have A1_ := Aside0.mk h1
  have H' := Aside0.mk h2
  clear h h1 h2
  go_enter Try.func102, Try.ntmps102
  go_wp2_with (first | ((with_reducible refine gate_callee (f := 101) rfl ?_); refine goesL_ (some 15) rfl rfl Try.func101 (by kernel_rfl) rfl #[.int .u64 (Go.bits .xor .u64 a0 (l1.length : Int))] rfl (by (try simp only [List.map_toArray, List.map_cons, List.map_nil]); rfl) ?_; (with_reducible refine (checksum_Mix.calls _ t _ A1_.out).mono ?_); rintro e w' ⟨rfl, ⟨nd, rfl⟩⟩; refine ⟨_, rfl, ?_⟩))
  go_loopg [5, 6] k (fun kq v5 v6 w' => ∃ (h_ n_ : Int), v5 = .int .u64 h_ ∧ v6 = .int .i64 n_ ∧ Aside0 (checksum_Hash.l0 kq l1 h_ n_ = some r) ∧ Aside0 (kq ≤ k) ∧ Aside0 (Below w.heap.size w w'))
  case atStart => exact ⟨t, 0, rfl, rfl, H', ⟨Nat.le_refl _⟩, ⟨(hb_ HB.out)⟩⟩
  case round =>
   clear H'
   obtain ⟨h_, n_, rfl, rfl, HA, HK1, HB⟩ := hrel
   cases gk with
   | zero => exact absurd HA.out (by simp [checksum_Hash.l0])
   | succ k1 =>
    have H := HA.out
    clear HA
    simp only [checksum_Hash.l0] at H
    by_cases c2 : n_ < (l1.length : Int)
    ·rw [if_pos c2] at H
     have c2b0 : decide (n_ < (l1.length : Int)) = true := decide_eq_true c2
     by_cases c3 : 0 ≤ n_
     ·rw [if_pos c3] at H
      have hw8 : wrap64 (n_ + 8) = n_ + 8 := by unfold wrap64; omega
      obtain ⟨m_, hm⟩ : ∃ m_ : Int, m_ = (if (l1.length : Int) < wrap64 (n_ + 8) then (l1.length : Int) else wrap64 (n_ + 8)) := ⟨_, rfl⟩
      rw [← hm] at H
      have hm1 : n_ ≤ m_ := by rw [hm]; split <;> omega
      have hm2 : m_ ≤ (l1.length : Int) := by rw [hm]; split <;> omega
      have hm8 : m_ ≤ n_ + 8 := by rw [hm]; split <;> omega
      obtain ⟨t2, h3, h4⟩ := Option.bind_eq_some_iff.mp H
      have A2_ := Aside0.mk h3
      have H' := Aside0.mk h4
      clear H h3 h4
      obtain ⟨i025, hi025, _, hsz25, _⟩ := info_parts info5
      obtain ⟨A25, hcut25, hA25, hC25⟩ := print_mid_of (P := Try.prog) (Value.int .u8) 0 27 5 .i64 .i64 Try.underlying27 hi025 hsz25 A1 c1 l1 n_ m_ c3 hm1 hm2 HC1.out
      obtain ⟨x_, hx⟩ : ∃ x_ : List Int, x_ = (l1.take m_.toNat).drop n_.toNat := ⟨_, rfl⟩
      rw [← hx] at hcut25 hA25 hC25 A2_
      have hxl : x_.length ≤ 8 := by rw [hx, List.length_drop, List.length_take]; omega
      have hxm : x_.length = m_.toNat - n_.toNat := by rw [hx, List.length_drop, List.length_take]; omega
      have HXe := Aside0.mk hx
      clear hx
      have HX := Aside0.mk (hA25 _ (Kd.reads_of_C (Kd.C_below HR1.out HB.out)))
      clear hA25
      have hmin : (if (l1.length : Int) < IntKind.i64.wrap (n_ + 8) then (l1.length : Int) else IntKind.i64.wrap (n_ + 8)) = m_ := by rw [hm, i64_w]
      clear hm hw8
      go_wp2_with fail
      have BK := Aside0.mk (blk_new wr (.cells #[.int .u8 0, .int .u8 0, .int .u8 0, .int .u8 0, .int .u8 0, .int .u8 0, .int .u8 0, .int .u8 0] 138))
      have HX2 := Aside0.mk (ReadsOf.below HX.out (below_alloc (Below.refl _ _) (.cells #[.int .u8 0, .int .u8 0, .int .u8 0, .int .u8 0, .int .u8 0, .int .u8 0, .int .u8 0, .int .u8 0] 138)))
      have hge0 := below_size HB.out
      have hgs : wr.heap.size < (wr.alloc (.cells #[.int .u8 0, .int .u8 0, .int .u8 0, .int .u8 0, .int .u8 0, .int .u8 0, .int .u8 0, .int .u8 0] 138)).heap.size := by simp
      have HB2 := Aside0.mk (below_alloc HB.out (.cells #[.int .u8 0, .int .u8 0, .int .u8 0, .int .u8 0, .int .u8 0, .int .u8 0, .int .u8 0, .int .u8 0] 138))
      clear HB HX
      have HB := HB2
      clear HB2
      have hge := below_size HB.out
      generalize wr.alloc (.cells #[.int .u8 0, .int .u8 0, .int .u8 0, .int .u8 0, .int .u8 0, .int .u8 0, .int .u8 0, .int .u8 0] 138) = w2 at *
      have hsrc : 0 < x_.length → ∃ ad, A25 = some ad ∧ ∀ j v, (x_.map (Value.int .u8))[j]? = some v → w2.drew.cell? (ad.add j) = some v := by
       intro hp
       obtain ⟨ad, e, hc⟩ := HX2.out.2.2 hp
       refine ⟨ad, e, fun j v hj => ?_⟩
       rw [List.getElem?_map] at hj
       obtain ⟨y, hy, rfl⟩ := Option.map_eq_some_iff.1 hj
       obtain ⟨hjl, hy2⟩ := List.getElem?_eq_some_iff.1 hy
       have := hc j hjl
       rw [List.getD_eq_getElem?_getD, hy] at this
       exact this
      have hsrc := Aside0.mk hsrc
      go_region_law (refine step_copy_splice rfl (.tmp 22) (.tmp 30) 27 27 rfl 5 Try.underlying27 (by rw [hi025]; simp [hsz25]) (some ⟨wr.heap.size, 0, none⟩) A25 8 8 (m_.toNat - n_.toNat) (c1 - n_.toNat) (by simp [Act.eval, Act.put]) (by simp [Act.eval, Act.put]) wr.heap.size 0 [.int .u8 0, .int .u8 0, .int .u8 0, .int .u8 0, .int .u8 0, .int .u8 0, .int .u8 0, .int .u8 0] 138 (blk_drew BK.out) (x_.map (Value.int .u8)) (by rw [List.length_map, hxm]; exact (Nat.min_eq_left (by omega)).symm) (fun hp => ⟨rfl, hsrc.out (by rw [List.length_map] at hp; exact hp)⟩) (by rw [List.length_map]; simp; omega) (by intro u hu; obtain ⟨_, _, rfl⟩ := List.mem_map.1 hu; rfl) wr.heap.size w2 (below_drew1 (Below.refl _ _)) (by omega) ?_; intro w4 hg4 hb4)
      have hsp : splice [.int .u8 0, .int .u8 0, .int .u8 0, .int .u8 0, .int .u8 0, .int .u8 0, .int .u8 0, .int .u8 0] 0 (x_.map (Value.int .u8)) = (checksum_Hash.pad x_).map (Value.int .u8) := by
       unfold splice checksum_Hash.pad
       rw [List.map_append, List.map_replicate, List.take_zero, List.nil_append, Nat.zero_add, List.length_map]
       congr 1
       exact List.drop_replicate (n := 8) (a := Value.int .u8 0) (i := x_.length)
      have HG := Aside0.mk (show w4.heap[wr.heap.size]? = some (.cells ((checksum_Hash.pad x_).map (Value.int .u8)).toArray 138 (0, 0)) from by have h_ := hg4; unfold Hid at h_; rw [hsp] at h_; exact h_)
      have HB4 := Aside0.mk (HB.out.trans (hb4.mono hge0))
      clear hg4 hsp hsrc HX2 BK
      clear HB hb4 hgs hge
      have HB := HB4
      clear HB4
      generalize wr.heap.size = g_ at *
      go_wp2
      go_loopg [8, 32] 8 (fun kq v8 v32 w' => ∃ (i_ : Nat), kq + i_ = 8 ∧ v8 = .int .u64 (checksum_Hash.word (checksum_Hash.pad x_) i_) ∧ v32 = .int .i64 (i_ : Int) ∧ Aside0 (w'.heap[g_]? = some (.cells ((checksum_Hash.pad x_).map (Value.int .u8)).toArray 138 (0, 0))) ∧ Aside0 (Below w.heap.size w w'))
      case atStart => exact ⟨0, rfl, rfl, rfl, HG, HB⟩
      case round =>
       clear HG HB
       obtain ⟨i_, hgi, rfl, rfl, HG, HB⟩ := hrel
       have hpl : (checksum_Hash.pad x_).length = 8 := by unfold checksum_Hash.pad; rw [List.length_append, List.length_replicate]; omega
       by_cases ci : i_ < 8
       ·cases gk with
        | zero => exact absurd hgi (by omega)
        | succ k2 =>
         have cib : decide ((i_ : Int) < 8) = true := decide_eq_true (by omega)
         have hcell : wr.cell? ⟨g_, i_, none⟩ = some (.int .u8 (rd (checksum_Hash.pad x_) (i_ : Int))) := by
          have hget : (checksum_Hash.pad x_)[i_]? = some (rd (checksum_Hash.pad x_) (i_ : Int)) := by
           unfold rd
           rw [Int.toNat_natCast, List.getD_eq_getElem?_getD, List.getElem?_eq_getElem (by omega)]
           rfl
          simp [World.cell?, HG.out, hget]
         have p1 : (0 : Int) ≤ (i_ : Int) := by omega
         have p2 : (i_ : Int) < 8 := by omega
         have hw1 : wrap64 (8 * (i_ : Int)) = ((8 * i_ : Nat) : Int) := by unfold wrap64; omega
         have hw2 : ((8 * i_ : Nat) : Int) ≤ 64 := by omega
         go_wp2
         go_roundg k2
         case measure => omega
         case rel => exact ⟨i_ + 1, by omega, rfl, by first | rfl | (congr 1; omega), HG, HB⟩
       ·have cib : decide ((i_ : Int) < 8) = false := decide_eq_false (by omega)
        obtain rfl : i_ = 8 := by omega
        go_wp2_with (first | ((with_reducible refine gate_callee (f := 101) rfl ?_); refine goesL_ (some 49) rfl rfl Try.func101 (by kernel_rfl) rfl #[.int .u64 (Go.bits .xor .u64 h_ (checksum_Hash.word (checksum_Hash.pad x_) 8))] rfl (by (try simp only [List.map_toArray, List.map_cons, List.map_nil]); rfl) ?_; (with_reducible refine (checksum_Mix.calls _ t2 _ A2_.out).mono ?_); rintro e w' ⟨rfl, ⟨nd, rfl⟩⟩; refine ⟨_, rfl, ?_⟩))
        go_roundg k1
        case measure => have := HK1.out; omega
        case rel => exact ⟨t2, wrap64 (n_ + 8), rfl, by congr 1; unfold wrap64; omega, H', ⟨by have := HK1.out; omega⟩, ⟨(hb_ HB.out)⟩⟩
     ·rw [if_neg c3] at H
      exact absurd H (by simp)
    ·rw [if_neg c2] at H
     have c2b0 : decide (n_ < (l1.length : Int)) = false := decide_eq_false c2
     clear c2
     obtain rfl := Option.some.inj H
     go_wp2
     go_ret
     exact ⟨rfl, (hb_ HB.out)⟩
 ·rw [if_neg hl] at h
  exact absurd h (by simp)
/-! ### laminaref16_values: function 80 -/
def laminaref16_values.f (a0_0 : Int) (a0_1 : Int) (l0_2 : List Int) (a0_3 : Bool) (l0_4 : List Int) (l0_5 : List (S39)) (l0_6 : List Int) : Option (Int) := some (wrap64 (a0_0 - a0_1))
set_option maxHeartbeats 8000000 in
set_option maxRecDepth 100000 in
theorem laminaref16_values.calls (a0_0 : Int) (a0_1 : Int) (A0_2 : Option Addr) (c0_2 : Nat) (l0_2 : List Int) (a0_3 : Bool) (A0_4 : Option Addr) (c0_4 : Nat) (l0_4 : List Int) (A0_5 : Option Addr) (c0_5 : Nat) (l0_5 : List (S39)) (A0_6 : Option Addr) (c0_6 : Nat) (l0_6 : List Int) (r : Int) (w : World) (hr0_2 : Kd.C (Kd.int .u64) w A0_2 l0_2.length l0_2) (hc0_2 : l0_2.length ≤ c0_2) (hr0_4 : Kd.C (Kd.int .i64) w A0_4 l0_4.length l0_4) (hc0_4 : l0_4.length ≤ c0_4) (hr0_5 : Kd.C k39 w A0_5 l0_5.length l0_5) (hc0_5 : l0_5.length ≤ c0_5) (hr0_6 : Kd.C (Kd.int .i64) w A0_6 l0_6.length l0_6) (hc0_6 : l0_6.length ≤ c0_6) (h : laminaref16_values.f a0_0 a0_1 l0_2 a0_3 l0_4 l0_5 l0_6 = some r) :
  Calls Try.prog 80 #[.agg #[.int .i64 a0_0, .int .i64 a0_1, .slice A0_2 l0_2.length c0_2, .bool a0_3, .slice A0_4 l0_4.length c0_4, .slice A0_5 l0_5.length c0_5, .slice A0_6 l0_6.length c0_6]] w fun e w' => e = .returned (.int .i64 r) ∧ Below w.heap.size w w' := by
 have hu26 := Try.underlying26
 have HR0_2 := Aside0.mk hr0_2
 have HC0_2 := Aside0.mk hc0_2
 clear hr0_2 hc0_2
 have HR0_4 := Aside0.mk hr0_4
 have HC0_4 := Aside0.mk hc0_4
 clear hr0_4 hc0_4
 have HR0_5 := Aside0.mk hr0_5
 have HC0_5 := Aside0.mk hc0_5
 clear hr0_5 hc0_5
 have HR0_6 := Aside0.mk hr0_6
 have HC0_6 := Aside0.mk hc0_6
 clear hr0_6 hc0_6
 have HB := Aside0.mk (Below.refl w.heap.size w)
 have H : (some (wrap64 (a0_0 - a0_1))) = some r := h
 clear h
 obtain rfl := Option.some.inj H
 go_enter Try.func80, Try.ntmps80
 go_wp2_with (first | ((with_reducible refine gate_dst (N := 1) rfl ?_); refine box_ 1 (cs := #[.int .i64 a0_0, .int .i64 a0_1, .slice A0_2 l0_2.length c0_2, .bool a0_3, .slice A0_4 l0_4.length c0_4, .slice A0_5 l0_5.length c0_5, .slice A0_6 l0_6.length c0_6]) (t := 26) ?_; intro gb101 hg w2 hbox hb; have BK101 := Aside0.mk (hbox); have GW101 := Aside0.mk ((by rw [hg]; exact (below_size (hb_ HB.out)) : w.heap.size ≤ gb101)); have GE101 := Aside0.mk ((by rw [hg]; exact (below_size (hb_ HB.out)) : w.heap.size ≤ gb101)); replace HB := Aside0.mk (below_step (hb_ HB.out) hb); clear hb hbox hg; obtain ⟨hcz3_0, hcz3_1, hcz3_2, hcz3_3, hcz3_4, hcz3_5, hcz3_6, hfz3_0, hfz3_1, hfz3_2, hfz3_3, hfz3_4, hfz3_5, hfz3_6⟩ := bf7 BK101.out))
 go_ret
 exact er_ ((hb1_ HB.out GE101.out))
/-! ### laminaref16_validCounters: function 38 -/
mutual
def laminaref16_validCounters.l0 : Nat → Int → Int → Int → List Int → Bool → List Int → List (S39) → List Int → Option (Bool)
 | 0, _, _, _, _, _, _, _, _ => none
 | k + 1, x3, x107000, x107001, x107002, x107003, x107004, x107005, x107006 => if x3 < 4 then ((laminaref16_values.f x107000 x107001 x107002 x107003 x107004 x107005 x107006).bind fun t107 => (laminaref16_validCounters.l1 k x3 t107 0 x107000 x107001 x107002 x107003 x107004 x107005 x107006)) else (some true)
def laminaref16_validCounters.l1 : Nat → Int → Int → Int → Int → Int → List Int → Bool → List Int → List (S39) → List Int → Option (Bool)
 | 0, _, _, _, _, _, _, _, _, _, _ => none
 | k + 1, x3, x4, x5, x107000, x107001, x107002, x107003, x107004, x107005, x107006 => if x5 < 64 then (if 0 ≤ (wrap64 ((wrap64 (x3 * 64)) + x5)) then (if (wrap64 ((wrap64 (x3 * 64)) + x5)) < (x107004.length : Int) then (if (rd x107004 (wrap64 ((wrap64 (x3 * 64)) + x5))) < 0 then (some false) else (if (rd x107004 (wrap64 ((wrap64 (x3 * 64)) + x5))) > x4 then (some false) else (laminaref16_validCounters.l1 k x3 (wrap64 (x4 - (rd x107004 (wrap64 ((wrap64 (x3 * 64)) + x5))))) (wrap64 (x5 + 1)) x107000 x107001 x107002 x107003 x107004 x107005 x107006))) else (none)) else (none)) else (if x4 = 0 then (laminaref16_validCounters.l0 k (wrap64 (x3 + 1)) x107000 x107001 x107002 x107003 x107004 x107005 x107006) else (some false))
end
def laminaref16_validCounters.f (k : Nat) (a0_0 : Int) (a0_1 : Int) (l0_2 : List Int) (a0_3 : Bool) (l0_4 : List Int) (l0_5 : List (S39)) (l0_6 : List Int) : Option (Bool) := if (l0_4.length : Int) = 256 then (laminaref16_validCounters.l0 k 0 a0_0 a0_1 l0_2 a0_3 l0_4 l0_5 l0_6) else (some false)
set_option maxHeartbeats 8000000 in
set_option maxRecDepth 100000 in
theorem laminaref16_validCounters.calls (k : Nat) (a0_0 : Int) (a0_1 : Int) (A0_2 : Option Addr) (c0_2 : Nat) (l0_2 : List Int) (a0_3 : Bool) (A0_4 : Option Addr) (c0_4 : Nat) (l0_4 : List Int) (A0_5 : Option Addr) (c0_5 : Nat) (l0_5 : List (S39)) (A0_6 : Option Addr) (c0_6 : Nat) (l0_6 : List Int) (r : Bool) (w : World) (hr0_2 : Kd.C (Kd.int .u64) w A0_2 l0_2.length l0_2) (hc0_2 : l0_2.length ≤ c0_2) (hr0_4 : Kd.C (Kd.int .i64) w A0_4 l0_4.length l0_4) (hc0_4 : l0_4.length ≤ c0_4) (hr0_5 : Kd.C k39 w A0_5 l0_5.length l0_5) (hc0_5 : l0_5.length ≤ c0_5) (hr0_6 : Kd.C (Kd.int .i64) w A0_6 l0_6.length l0_6) (hc0_6 : l0_6.length ≤ c0_6) (h : laminaref16_validCounters.f k a0_0 a0_1 l0_2 a0_3 l0_4 l0_5 l0_6 = some r) :
  Calls Try.prog 38 #[.agg #[.int .i64 a0_0, .int .i64 a0_1, .slice A0_2 l0_2.length c0_2, .bool a0_3, .slice A0_4 l0_4.length c0_4, .slice A0_5 l0_5.length c0_5, .slice A0_6 l0_6.length c0_6]] w fun e w' => e = .returned (.bool r) ∧ Below w.heap.size w w' := by
 have hu26 := Try.underlying26
 have HR0_2 := Aside0.mk hr0_2
 have HC0_2 := Aside0.mk hc0_2
 clear hr0_2 hc0_2
 have HR0_4 := Aside0.mk hr0_4
 have HC0_4 := Aside0.mk hc0_4
 clear hr0_4 hc0_4
 have HR0_5 := Aside0.mk hr0_5
 have HC0_5 := Aside0.mk hc0_5
 clear hr0_5 hc0_5
 have HR0_6 := Aside0.mk hr0_6
 have HC0_6 := Aside0.mk hc0_6
 clear hr0_6 hc0_6
 have HB := Aside0.mk (Below.refl w.heap.size w)
 have H : (if (l0_4.length : Int) = 256 then (laminaref16_validCounters.l0 k 0 a0_0 a0_1 l0_2 a0_3 l0_4 l0_5 l0_6) else (some false)) = some r := h
 clear h
 by_cases c2 : (l0_4.length : Int) = 256
 ·rw [if_pos c2] at H
  have c2b0 : ((l0_4.length : Int) == 256) = true := beq_iff_eq.mpr c2
  have c2b1 : ((l0_4.length : Int) != 256) = false := bne_eq_false_iff_eq.mpr c2
  clear c2
  have H' := Aside0.mk H
  clear H
  go_enter Try.func38, Try.ntmps38
  go_wp2_with (first | ((with_reducible refine gate_dst (N := 1) rfl ?_); refine box_ 1 (cs := #[.int .i64 a0_0, .int .i64 a0_1, .slice A0_2 l0_2.length c0_2, .bool a0_3, .slice A0_4 l0_4.length c0_4, .slice A0_5 l0_5.length c0_5, .slice A0_6 l0_6.length c0_6]) (t := 26) ?_; intro gb106 hg w3 hbox hb; have BK106 := Aside0.mk (hbox); have GW106 := Aside0.mk ((by rw [hg]; exact (below_size (hb_ HB.out)) : w.heap.size ≤ gb106)); have GE106 := Aside0.mk ((by rw [hg]; exact (below_size (hb_ HB.out)) : w.heap.size ≤ gb106)); replace HB := Aside0.mk (below_step (hb_ HB.out) hb); clear hb hbox hg; obtain ⟨hcz4_0, hcz4_1, hcz4_2, hcz4_3, hcz4_4, hcz4_5, hcz4_6, hfz4_0, hfz4_1, hfz4_2, hfz4_3, hfz4_4, hfz4_5, hfz4_6⟩ := bf7 BK106.out))
  go_loopg [3] k (fun kq v3 w' => ∃ (x3_1 : Int), v3 = .int .i64 x3_1 ∧ Aside0 (laminaref16_validCounters.l0 kq x3_1 a0_0 a0_1 l0_2 a0_3 l0_4 l0_5 l0_6 = some r) ∧ Aside0 (kq ≤ k) ∧ Aside0 (w'.heap[gb106]? = some (.cells #[.int .i64 a0_0, .int .i64 a0_1, (.slice A0_2 l0_2.length c0_2), .bool a0_3, (.slice A0_4 l0_4.length c0_4), (.slice A0_5 l0_5.length c0_5), (.slice A0_6 l0_6.length c0_6)] 26 (0, 0))) ∧ Aside0 (Below w.heap.size w w'))
  case atStart => exact ⟨(0), (by first | rfl | (simp; done) | (simp [*]; done)), H', ⟨Nat.le_refl _⟩, ⟨by (with_reducible repeat (first | refine blk_drewN ?_ _ | refine blk_drew ?_ | refine blk_alloc ?_ _)); exact BK106.out⟩, ⟨(hb1_ HB.out GE106.out)⟩⟩
  case round =>
   clear H'
   try clear c2
   try clear c2b0
   try clear c2b1
   try clear p2
   try clear c3
   try clear hcz4_0 hcz4_1 hcz4_2 hcz4_3 hcz4_4 hcz4_5 hcz4_6 hfz4_0 hfz4_1 hfz4_2 hfz4_3 hfz4_4 hfz4_5 hfz4_6
   obtain ⟨x3_1, rfl, HA, HK1, BK106, HB⟩ := hrel
   cases gk with
   | zero => exact absurd HA.out (by simp [laminaref16_validCounters.l0])
   | succ k1 =>
    have H := HA.out
    clear HA
    simp only [laminaref16_validCounters.l0] at H
    by_cases c5 : x3_1 < 4
    ·rw [if_pos c5] at H
     have c5b0 : decide (x3_1 < 4) = true := decide_eq_true c5
     clear c5
     replace H := Option.bind_eq_some_iff.mp H
     obtain ⟨t107, A60, H⟩ := H
     replace H : (laminaref16_validCounters.l1 k1 x3_1 t107 0 a0_0 a0_1 l0_2 a0_3 l0_4 l0_5 l0_6) = some r := H
     have A6 := Aside0.mk A60
     clear A60
     have H' := Aside0.mk H
     clear H
     obtain ⟨hcz7_0, hcz7_1, hcz7_2, hcz7_3, hcz7_4, hcz7_5, hcz7_6, hfz7_0, hfz7_1, hfz7_2, hfz7_3, hfz7_4, hfz7_5, hfz7_6⟩ := bf7 BK106.out
     go_wp2_with (first | ((with_reducible refine gate_callee (f := 80) rfl ?_); refine goesL_ (some 16) rfl rfl Try.func80 (by kernel_rfl) rfl #[.agg #[.int .i64 a0_0, .int .i64 a0_1, .slice A0_2 l0_2.length c0_2, .bool a0_3, .slice A0_4 l0_4.length c0_4, .slice A0_5 l0_5.length c0_5, .slice A0_6 l0_6.length c0_6]] rfl (by (try simp only [List.map_toArray, List.map_cons, List.map_nil]); first | done | rfl | (simp only [List.length_drop, List.length_take]; rfl) | (simp only [Int.ofNat_lt, Int.ofNat_le, gt_iff_lt, ge_iff_le]; rfl)) ?_; (with_reducible refine (laminaref16_values.calls a0_0 a0_1 _ _ l0_2 a0_3 _ _ l0_4 _ _ l0_5 _ _ l0_6 t107 _ ?side1 ?side2 ?side3 ?side4 ?side5 ?side6 ?side7 ?side8 A6.out).mono ?_); (case side1 => exact cb_ HR0_2.out HB.out); (case side2 => exact HC0_2.out); (case side3 => exact cb_ HR0_4.out HB.out); (case side4 => exact HC0_4.out); (case side5 => exact cb_ HR0_5.out HB.out); (case side6 => exact HC0_5.out); (case side7 => exact cb_ HR0_6.out HB.out); (case side8 => exact HC0_6.out); rintro e w8 ⟨rfl, hb⟩; refine ⟨_, rfl, ?_⟩; replace BK106 := Aside0.mk (blk_below (bk_ BK106.out) hb); replace HB := Aside0.mk (below_step (hb1_ HB.out GE106.out) hb); (try clear hb)))
     go_loopg [4, 5] k1 (fun kq v4 v5 w' => ∃ (x4_2 : Int) (x5_2 : Int), v4 = .int .i64 x4_2 ∧ v5 = .int .i64 x5_2 ∧ Aside0 (laminaref16_validCounters.l1 kq x3_1 x4_2 x5_2 a0_0 a0_1 l0_2 a0_3 l0_4 l0_5 l0_6 = some r) ∧ Aside0 (kq ≤ k1) ∧ Aside0 (w'.heap[gb106]? = some (.cells #[.int .i64 a0_0, .int .i64 a0_1, (.slice A0_2 l0_2.length c0_2), .bool a0_3, (.slice A0_4 l0_4.length c0_4), (.slice A0_5 l0_5.length c0_5), (.slice A0_6 l0_6.length c0_6)] 26 (0, 0))) ∧ Aside0 (Below w.heap.size w w'))
     case atStart => exact ⟨(t107), (0), (by first | rfl | (simp; done) | (simp [*]; done)), (by first | rfl | (simp; done) | (simp [*]; done)), H', ⟨Nat.le_refl _⟩, ⟨by (with_reducible repeat (first | refine blk_drewN ?_ _ | refine blk_drew ?_ | refine blk_alloc ?_ _)); exact BK106.out⟩, ⟨(hb1_ HB.out GE106.out)⟩⟩
     case round =>
      clear H'
      try clear c2
      try clear c2b0
      try clear c2b1
      try clear p2
      try clear c3
      try clear c5
      try clear c5b0
      try clear c8
      try clear hcz4_0 hcz4_1 hcz4_2 hcz4_3 hcz4_4 hcz4_5 hcz4_6 hfz4_0 hfz4_1 hfz4_2 hfz4_3 hfz4_4 hfz4_5 hfz4_6
      try clear hcz7_0 hcz7_1 hcz7_2 hcz7_3 hcz7_4 hcz7_5 hcz7_6 hfz7_0 hfz7_1 hfz7_2 hfz7_3 hfz7_4 hfz7_5 hfz7_6
      try clear p2
      obtain ⟨x4_2, x5_2, rfl, rfl, HA, HK2, BK106, HB⟩ := hrel
      cases gk with
      | zero => exact absurd HA.out (by simp [laminaref16_validCounters.l1])
      | succ k2 =>
       have H := HA.out
       clear HA
       simp only [laminaref16_validCounters.l1] at H
       by_cases c9 : x5_2 < 64
       ·rw [if_pos c9] at H
        have c9b0 : decide (x5_2 < 64) = true := decide_eq_true c9
        clear c9
        obtain ⟨ji10, hji10⟩ : ∃ j_ : Int, (wrap64 ((wrap64 (x3_1 * 64)) + x5_2)) = j_ := ⟨_, rfl⟩
        replace H : (if 0 ≤ (ji10) then (if (ji10) < (l0_4.length : Int) then (if (rd l0_4 (ji10)) < 0 then (some false) else (if (rd l0_4 (ji10)) > x4_2 then (some false) else (laminaref16_validCounters.l1 k2 x3_1 (wrap64 (x4_2 - (rd l0_4 (ji10)))) (wrap64 (x5_2 + 1)) a0_0 a0_1 l0_2 a0_3 l0_4 l0_5 l0_6))) else (none)) else (none)) = some r := by first | (rw [hji10] at H; exact H) | (simp only [hji10] at H ⊢; exact H)
        have hji10w : (IntKind.i64.wrap ((wrap64 (x3_1 * 64)) + x5_2)) = ji10 := (i64_w _).trans hji10
        by_cases c11 : 0 ≤ (ji10)
        ·rw [if_pos c11] at H
         have c11b0 : decide (0 ≤ (ji10)) = true := decide_eq_true c11
         clear c11
         by_cases c12 : (ji10) < (l0_4.length : Int)
         ·rw [if_pos c12] at H
          have c12b0 : decide ((ji10) < (l0_4.length : Int)) = true := decide_eq_true c12
          clear c12
          by_cases c13 : (rd l0_4 (ji10)) < 0
          ·rw [if_pos c13] at H
           have c13b0 : decide ((rd l0_4 (ji10)) < 0) = true := decide_eq_true c13
           clear c13
           obtain rfl := Option.some.inj H
           obtain ⟨hcz14_0, hcz14_1, hcz14_2, hcz14_3, hcz14_4, hcz14_5, hcz14_6, hfz14_0, hfz14_1, hfz14_2, hfz14_3, hfz14_4, hfz14_5, hfz14_6⟩ := bf7 BK106.out
           have p108 : 0 ≤ ((ji10) : Int) := of_decide_eq_true (by first | (with_reducible assumption) | assumption)
           have q108 : (ji10) < (l0_4.length : Int) := of_decide_eq_true (by first | (with_reducible assumption) | assumption)
           obtain ⟨ad108, e108, hx108_0⟩ := Kd.at_int HR0_4.out (ji10) p108 q108
           cases e108
           replace hx108_0 := up_ HB.out hx108_0
           replace p108 := eq_true p108
           replace q108 := eq_true q108
           go_wp2
           go_ret
           exact ⟨by first | rfl | (simp [errW_none, errW_some] <;> rfl) | (simp only [← hji10]; first | rfl | (simp [errW_none, errW_some] <;> rfl)) | (simp [*, errW_none, errW_some] <;> rfl), (hb1_ HB.out GE106.out)⟩
          ·rw [if_neg c13] at H
           have c13b0 : decide ((rd l0_4 (ji10)) < 0) = false := decide_eq_false c13
           clear c13
           by_cases c15 : (rd l0_4 (ji10)) > x4_2
           ·rw [if_pos c15] at H
            have c15b0 : decide (x4_2 < (rd l0_4 (ji10))) = true := decide_eq_true c15
            clear c15
            obtain rfl := Option.some.inj H
            obtain ⟨hcz16_0, hcz16_1, hcz16_2, hcz16_3, hcz16_4, hcz16_5, hcz16_6, hfz16_0, hfz16_1, hfz16_2, hfz16_3, hfz16_4, hfz16_5, hfz16_6⟩ := bf7 BK106.out
            have p108 : 0 ≤ ((ji10) : Int) := of_decide_eq_true (by first | (with_reducible assumption) | assumption)
            have q108 : (ji10) < (l0_4.length : Int) := of_decide_eq_true (by first | (with_reducible assumption) | assumption)
            obtain ⟨ad108, e108, hx108_0⟩ := Kd.at_int HR0_4.out (ji10) p108 q108
            cases e108
            replace hx108_0 := up_ HB.out hx108_0
            replace p108 := eq_true p108
            replace q108 := eq_true q108
            go_wp2
            go_ret
            exact ⟨by first | rfl | (simp [errW_none, errW_some] <;> rfl) | (simp only [← hji10]; first | rfl | (simp [errW_none, errW_some] <;> rfl)) | (simp [*, errW_none, errW_some] <;> rfl), (hb1_ HB.out GE106.out)⟩
           ·rw [if_neg c15] at H
            have c15b0 : decide (x4_2 < (rd l0_4 (ji10))) = false := decide_eq_false c15
            clear c15
            have H' := Aside0.mk H
            clear H
            obtain ⟨hcz17_0, hcz17_1, hcz17_2, hcz17_3, hcz17_4, hcz17_5, hcz17_6, hfz17_0, hfz17_1, hfz17_2, hfz17_3, hfz17_4, hfz17_5, hfz17_6⟩ := bf7 BK106.out
            have p108 : 0 ≤ ((ji10) : Int) := of_decide_eq_true (by first | (with_reducible assumption) | assumption)
            have q108 : (ji10) < (l0_4.length : Int) := of_decide_eq_true (by first | (with_reducible assumption) | assumption)
            obtain ⟨ad108, e108, hx108_0⟩ := Kd.at_int HR0_4.out (ji10) p108 q108
            cases e108
            replace hx108_0 := up_ HB.out hx108_0
            replace p108 := eq_true p108
            replace q108 := eq_true q108
            go_wp2
            go_roundg k2
            case measure => have := HK1.out; have := HK2.out; omega
            case rel => exact ⟨(wrap64 (x4_2 - (rd l0_4 (ji10)))), (wrap64 (x5_2 + 1)), (by first | rfl | (simp; done) | (simp only [← hji10] <;> (first | rfl | simp)) | (simp [*]; done)), (by first | rfl | (simp; done) | (simp [*]; done)), H', ⟨by have := HK1.out; have := HK2.out; omega⟩, ⟨by (with_reducible repeat (first | refine blk_drewN ?_ _ | refine blk_drew ?_ | refine blk_alloc ?_ _)); exact BK106.out⟩, ⟨(hb1_ HB.out GE106.out)⟩⟩
         ·rw [if_neg c12] at H
          exact absurd H (by simp)
        ·rw [if_neg c11] at H
         exact absurd H (by simp)
       ·rw [if_neg c9] at H
        have c9b0 : decide (x5_2 < 64) = false := decide_eq_false c9
        clear c9
        by_cases c18 : x4_2 = 0
        ·rw [if_pos c18] at H
         have c18b0 : (x4_2 == 0) = true := beq_iff_eq.mpr c18
         have c18b1 : (x4_2 != 0) = false := bne_eq_false_iff_eq.mpr c18
         clear c18
         have H' := Aside0.mk H
         clear H
         go_wp2
         go_roundg k2
         case measure => have := HK1.out; have := HK2.out; omega
         case rel => exact ⟨(wrap64 (x3_1 + 1)), (by first | rfl | (simp; done) | (simp [*]; done)), H', ⟨by have := HK1.out; have := HK2.out; omega⟩, ⟨by (with_reducible repeat (first | refine blk_drewN ?_ _ | refine blk_drew ?_ | refine blk_alloc ?_ _)); exact BK106.out⟩, ⟨(hb1_ HB.out GE106.out)⟩⟩
        ·rw [if_neg c18] at H
         have c18b0 : (x4_2 == 0) = false := beq_eq_false_iff_ne.mpr c18
         have c18b1 : (x4_2 != 0) = true := bne_iff_ne.mpr c18
         obtain rfl := Option.some.inj H
         go_wp2
         go_ret
         exact er_ ((hb1_ HB.out GE106.out))
    ·rw [if_neg c5] at H
     have c5b0 : decide (x3_1 < 4) = false := decide_eq_false c5
     clear c5
     obtain rfl := Option.some.inj H
     go_wp2
     go_ret
     exact er_ ((hb1_ HB.out GE106.out))
 ·rw [if_neg c2] at H
  have c2b0 : ((l0_4.length : Int) == 256) = false := beq_eq_false_iff_ne.mpr c2
  have c2b1 : ((l0_4.length : Int) != 256) = true := bne_iff_ne.mpr c2
  obtain rfl := Option.some.inj H
  go_enter Try.func38, Try.ntmps38
  go_wp2_with (first | ((with_reducible refine gate_dst (N := 1) rfl ?_); refine box_ 1 (cs := #[.int .i64 a0_0, .int .i64 a0_1, .slice A0_2 l0_2.length c0_2, .bool a0_3, .slice A0_4 l0_4.length c0_4, .slice A0_5 l0_5.length c0_5, .slice A0_6 l0_6.length c0_6]) (t := 26) ?_; intro gb106 hg w19 hbox hb; have BK106 := Aside0.mk (hbox); have GW106 := Aside0.mk ((by rw [hg]; exact (below_size (hb_ HB.out)) : w.heap.size ≤ gb106)); have GE106 := Aside0.mk ((by rw [hg]; exact (below_size (hb_ HB.out)) : w.heap.size ≤ gb106)); replace HB := Aside0.mk (below_step (hb_ HB.out) hb); clear hb hbox hg; obtain ⟨hcz20_0, hcz20_1, hcz20_2, hcz20_3, hcz20_4, hcz20_5, hcz20_6, hfz20_0, hfz20_1, hfz20_2, hfz20_3, hfz20_4, hfz20_5, hfz20_6⟩ := bf7 BK106.out))
  go_ret
  exact er_ ((hb1_ HB.out GE106.out))
/-! ### laminaref16_span: function 76 -/
def laminaref16_span.f (a0 : Int) (a1 : Int) : Option (Int × Int) := some (a0, a1)
set_option maxHeartbeats 8000000 in
set_option maxRecDepth 100000 in
theorem laminaref16_span.calls (a0 : Int) (a1 : Int) (r1 : Int) (r2 : Int) (w : World) (h : laminaref16_span.f a0 a1 = some (r1, r2)) :
  Calls Try.prog 76 #[.int .i64 a0, .int .i64 a1] w fun e w' => e = .returned (.agg #[.int .i64 r1, .int .i64 r2]) ∧ Below w.heap.size w w' := by
 have hu44 := Try.underlying44
 have HB := Aside0.mk (Below.refl w.heap.size w)
 have H : (some (a0, a1)) = some (r1, r2) := h
 clear h
 simp only [Option.some.injEq, Prod.mk.injEq] at H
 obtain ⟨rfl, rfl⟩ := H
 go_enter Try.func76, Try.ntmps76
 go_wp2_with (first | ((with_reducible refine gate_dst (N := 4) rfl ?_); refine box_ 4 (cs := #[.int .i64 0, .int .i64 0]) (t := 44) ?_; intro gb132 hg w3 hbox hb; have BK132 := Aside0.mk (hbox); have GW132 := Aside0.mk ((by rw [hg]; exact (below_size (hb_ HB.out)) : w.heap.size ≤ gb132)); have GE132 := Aside0.mk ((by rw [hg]; exact (below_size (hb_ HB.out)) : w.heap.size ≤ gb132)); replace HB := Aside0.mk (below_step (hb_ HB.out) hb); clear hb hbox hg; obtain ⟨hcz4_0, hcz4_1, hfz4_0, hfz4_1⟩ := bf2 BK132.out))
 refine bodyPost_ret (results_cell_row rfl _ _ gb132 44 #[.int .i64 a0, .int .i64 a1] (0, 0) _ rfl (by (with_reducible repeat (first | refine blk_drewN ?_ _ | refine blk_drew ?_ | refine blk_alloc ?_ _)); refine blk_put (cs := #[.int .i64 a0, .int .i64 0]) ?_ 1 _ rfl; (with_reducible repeat (first | refine blk_drewN ?_ _ | refine blk_drew ?_ | refine blk_alloc ?_ _)); refine blk_put (cs := #[.int .i64 0, .int .i64 0]) ?_ 0 _ rfl; (with_reducible repeat (first | refine blk_drewN ?_ _ | refine blk_drew ?_ | refine blk_alloc ?_ _)); exact BK132.out) Try.underlying44 rfl (by kernel_rfl)) rfl ?_
 exact er_ ((hb1_ HB.out GE132.out))
/-! ### laminaref04_sign: function 82 -/
def laminaref04_sign.f (a0 : Bool) (a1 : Bool) : Option (Int) := if a0 = true then (some (-1)) else (if a1 = true then (some 1) else (some 0))
set_option maxHeartbeats 8000000 in
set_option maxRecDepth 100000 in
theorem laminaref04_sign.calls (a0 : Bool) (a1 : Bool) (r : Int) (w : World) (h : laminaref04_sign.f a0 a1 = some r) :
  Calls Try.prog 82 #[.bool a0, .bool a1] w fun e w' => e = .returned (.int .i64 r) ∧ Drawn0 w w' := by
 have H : (if a0 = true then (some (-1)) else (if a1 = true then (some 1) else (some 0))) = some r := h
 clear h
 by_cases c3 : a0 = true
 ·subst c3
  have H1 : (some (-1)) = some r := by rw [if_pos rfl] at H; exact H
  clear H
  have H := H1
  clear H1
  obtain rfl := Option.some.inj H
  go_enter Try.func82, Try.ntmps82
  go_wp2
  go_ret
  exact ⟨by first | rfl | (simp; done) | (simp [*]; done), by repeat (first | exact Drawn0.refl _ | apply Drawn0.step)⟩
 ·replace c3 := Bool.eq_false_iff.mpr c3
  subst c3
  have H1 : (if a1 = true then (some 1) else (some 0)) = some r := by rw [if_neg (show ¬ (false = true) by decide)] at H; exact H
  clear H
  have H := H1
  clear H1
  by_cases c4 : a1 = true
  ·subst c4
   have H1 : (some 1) = some r := by rw [if_pos rfl] at H; exact H
   clear H
   have H := H1
   clear H1
   obtain rfl := Option.some.inj H
   go_enter Try.func82, Try.ntmps82
   go_wp2
   go_ret
   exact ⟨by first | rfl | (simp; done) | (simp [*]; done), by repeat (first | exact Drawn0.refl _ | apply Drawn0.step)⟩
  ·replace c4 := Bool.eq_false_iff.mpr c4
   subst c4
   have H1 : (some 0) = some r := by rw [if_neg (show ¬ (false = true) by decide)] at H; exact H
   clear H
   have H := H1
   clear H1
   obtain rfl := Option.some.inj H
   go_enter Try.func82, Try.ntmps82
   go_wp2
   go_ret
   exact ⟨by first | rfl | (simp; done) | (simp [*]; done), by repeat (first | exact Drawn0.refl _ | apply Drawn0.step)⟩
/-! ### laminaref04_Compare: function 32 -/
def laminaref04_Compare.f (a0_0 : Int) (a0_1 : Int) (a0_2 : ByteArray) (a1_0 : Int) (a1_1 : Int) (a1_2 : ByteArray) : Option (Int) := if a0_0 = a1_0 then (if a0_0 = 3 then ((laminaref04_sign.f (Op.bytesLess a0_2.toList a1_2.toList) (Op.bytesLess a1_2.toList a0_2.toList)).bind fun t136 => (some t136)) else ((laminaref04_sign.f (decide (a0_1 < a1_1)) (decide (a0_1 > a1_1))).bind fun t137 => (some t137))) else ((laminaref04_sign.f (decide (a0_0 < a1_0)) true).bind fun t135 => (some t135))
set_option maxHeartbeats 8000000 in
set_option maxRecDepth 100000 in
theorem laminaref04_Compare.calls (a0_0 : Int) (a0_1 : Int) (a0_2 : ByteArray) (a1_0 : Int) (a1_1 : Int) (a1_2 : ByteArray) (r : Int) (w : World) (h : laminaref04_Compare.f a0_0 a0_1 a0_2 a1_0 a1_1 a1_2 = some r) :
  Calls Try.prog 32 #[.agg #[.int .i64 a0_0, .int .i64 a0_1, .string a0_2], .agg #[.int .i64 a1_0, .int .i64 a1_1, .string a1_2]] w fun e w' => e = .returned (.int .i64 r) ∧ Below w.heap.size w w' := by
 have hu39 := Try.underlying39
 have HB := Aside0.mk (Below.refl w.heap.size w)
 have H : (if a0_0 = a1_0 then (if a0_0 = 3 then ((laminaref04_sign.f (Op.bytesLess a0_2.toList a1_2.toList) (Op.bytesLess a1_2.toList a0_2.toList)).bind fun t136 => (some t136)) else ((laminaref04_sign.f (decide (a0_1 < a1_1)) (decide (a0_1 > a1_1))).bind fun t137 => (some t137))) else ((laminaref04_sign.f (decide (a0_0 < a1_0)) true).bind fun t135 => (some t135))) = some r := h
 clear h
 by_cases c3 : a0_0 = a1_0
 ·rw [if_pos c3] at H
  have c3b0 : (a0_0 == a1_0) = true := beq_iff_eq.mpr c3
  have c3b1 : (a0_0 != a1_0) = false := bne_eq_false_iff_eq.mpr c3
  clear c3
  by_cases c4 : a0_0 = 3
  ·rw [if_pos c4] at H
   have c4b0 : (a0_0 == 3) = true := beq_iff_eq.mpr c4
   have c4b1 : (a0_0 != 3) = false := bne_eq_false_iff_eq.mpr c4
   clear c4
   replace H := Option.bind_eq_some_iff.mp H
   obtain ⟨t136, A50, H⟩ := H
   replace H : (some t136) = some r := H
   have A5 := Aside0.mk A50
   clear A50
   obtain rfl := Option.some.inj H
   go_enter Try.func32, Try.ntmps32
   go_wp2_with (first | ((with_reducible refine gate_dst (N := 2) rfl ?_); refine box_ 2 (cs := #[.int .i64 a0_0, .int .i64 a0_1, .string a0_2]) (t := 39) ?_; intro gb133 hg w6 hbox hb; have BK133 := Aside0.mk (hbox); have GW133 := Aside0.mk ((by rw [hg]; exact (below_size (hb_ HB.out)) : w.heap.size ≤ gb133)); have GE133 := Aside0.mk ((by rw [hg]; exact (below_size (hb_ HB.out)) : w.heap.size ≤ gb133)); replace HB := Aside0.mk (below_step (hb_ HB.out) hb); clear hb hbox hg) | ((with_reducible refine gate_dst (N := 3) rfl ?_); refine box_ 3 (cs := #[.int .i64 a1_0, .int .i64 a1_1, .string a1_2]) (t := 39) ?_; intro gb134 hg w7 hbox hb; have BK134 := Aside0.mk (hbox); have GW134 := Aside0.mk ((by rw [hg]; exact (below_size (hb1_ HB.out GE133.out)) : w.heap.size ≤ gb134)); have GE134 := Aside0.mk ((by rw [hg]; exact (below_size (hb1_ HB.out GE133.out)) : w.heap.size ≤ gb134)); have NB133_134 := Aside0.mk ((by rw [hg]; exact Nat.ne_of_lt (blk_lt (bk_ BK133.out)) : gb133 ≠ gb134)); have NB134_133 := Aside0.mk ((by rw [hg]; exact Nat.ne_of_gt (blk_lt (bk_ BK133.out)) : gb134 ≠ gb133)); replace BK133 := Aside0.mk (blk_below (bk_ BK133.out) hb); replace HB := Aside0.mk (below_step (hb1_ HB.out GE133.out) hb); clear hb hbox hg; have hnb8 := NB133_134.out; have hnc8 := NB134_133.out; obtain ⟨hcz9_0, hcz9_1, hcz9_2, hfz9_0, hfz9_1, hfz9_2⟩ := bf3 BK133.out; obtain ⟨hcz10_0, hcz10_1, hcz10_2, hfz10_0, hfz10_1, hfz10_2⟩ := bf3 BK134.out) | ((with_reducible refine gate_callee (f := 82) rfl ?_); refine goesL_ (some 29) rfl rfl Try.func82 (by kernel_rfl) rfl #[.bool (Op.bytesLess a0_2.toList a1_2.toList), .bool (Op.bytesLess a1_2.toList a0_2.toList)] rfl (by (try simp only [List.map_toArray, List.map_cons, List.map_nil]); first | done | rfl | (simp only [List.length_drop, List.length_take]; rfl) | (simp only [Int.ofNat_lt, Int.ofNat_le, gt_iff_lt, ge_iff_le]; rfl)) ?_; (with_reducible refine (laminaref04_sign.calls (Op.bytesLess a0_2.toList a1_2.toList) (Op.bytesLess a1_2.toList a0_2.toList) t136 _ A5.out).mono ?_); rintro e w' ⟨rfl, ⟨nd, rfl⟩⟩; refine ⟨_, rfl, ?_⟩))
   go_ret
   exact er_ ((hb2_ HB.out GE133.out GE134.out))
  ·rw [if_neg c4] at H
   have c4b0 : (a0_0 == 3) = false := beq_eq_false_iff_ne.mpr c4
   have c4b1 : (a0_0 != 3) = true := bne_iff_ne.mpr c4
   replace H := Option.bind_eq_some_iff.mp H
   obtain ⟨t137, A110, H⟩ := H
   replace H : (some t137) = some r := H
   have A11 := Aside0.mk A110
   clear A110
   obtain rfl := Option.some.inj H
   go_enter Try.func32, Try.ntmps32
   go_wp2_with (first | ((with_reducible refine gate_dst (N := 2) rfl ?_); refine box_ 2 (cs := #[.int .i64 a0_0, .int .i64 a0_1, .string a0_2]) (t := 39) ?_; intro gb133 hg w12 hbox hb; have BK133 := Aside0.mk (hbox); have GW133 := Aside0.mk ((by rw [hg]; exact (below_size (hb_ HB.out)) : w.heap.size ≤ gb133)); have GE133 := Aside0.mk ((by rw [hg]; exact (below_size (hb_ HB.out)) : w.heap.size ≤ gb133)); replace HB := Aside0.mk (below_step (hb_ HB.out) hb); clear hb hbox hg) | ((with_reducible refine gate_dst (N := 3) rfl ?_); refine box_ 3 (cs := #[.int .i64 a1_0, .int .i64 a1_1, .string a1_2]) (t := 39) ?_; intro gb134 hg w13 hbox hb; have BK134 := Aside0.mk (hbox); have GW134 := Aside0.mk ((by rw [hg]; exact (below_size (hb1_ HB.out GE133.out)) : w.heap.size ≤ gb134)); have GE134 := Aside0.mk ((by rw [hg]; exact (below_size (hb1_ HB.out GE133.out)) : w.heap.size ≤ gb134)); have NB133_134 := Aside0.mk ((by rw [hg]; exact Nat.ne_of_lt (blk_lt (bk_ BK133.out)) : gb133 ≠ gb134)); have NB134_133 := Aside0.mk ((by rw [hg]; exact Nat.ne_of_gt (blk_lt (bk_ BK133.out)) : gb134 ≠ gb133)); replace BK133 := Aside0.mk (blk_below (bk_ BK133.out) hb); replace HB := Aside0.mk (below_step (hb1_ HB.out GE133.out) hb); clear hb hbox hg; have hnb14 := NB133_134.out; have hnc14 := NB134_133.out; obtain ⟨hcz15_0, hcz15_1, hcz15_2, hfz15_0, hfz15_1, hfz15_2⟩ := bf3 BK133.out; obtain ⟨hcz16_0, hcz16_1, hcz16_2, hfz16_0, hfz16_1, hfz16_2⟩ := bf3 BK134.out) | ((with_reducible refine gate_callee (f := 82) rfl ?_); refine goesL_ (some 40) rfl rfl Try.func82 (by kernel_rfl) rfl #[.bool (decide (a0_1 < a1_1)), .bool (decide (a0_1 > a1_1))] rfl (by (try simp only [List.map_toArray, List.map_cons, List.map_nil]); first | done | rfl | (simp only [List.length_drop, List.length_take]; rfl) | (simp only [Int.ofNat_lt, Int.ofNat_le, gt_iff_lt, ge_iff_le]; rfl)) ?_; (with_reducible refine (laminaref04_sign.calls (decide (a0_1 < a1_1)) (decide (a0_1 > a1_1)) t137 _ A11.out).mono ?_); rintro e w' ⟨rfl, ⟨nd, rfl⟩⟩; refine ⟨_, rfl, ?_⟩))
   go_ret
   exact er_ ((hb2_ HB.out GE133.out GE134.out))
 ·rw [if_neg c3] at H
  have c3b0 : (a0_0 == a1_0) = false := beq_eq_false_iff_ne.mpr c3
  have c3b1 : (a0_0 != a1_0) = true := bne_iff_ne.mpr c3
  replace H := Option.bind_eq_some_iff.mp H
  obtain ⟨t135, A170, H⟩ := H
  replace H : (some t135) = some r := H
  have A17 := Aside0.mk A170
  clear A170
  obtain rfl := Option.some.inj H
  go_enter Try.func32, Try.ntmps32
  go_wp2_with (first | ((with_reducible refine gate_dst (N := 2) rfl ?_); refine box_ 2 (cs := #[.int .i64 a0_0, .int .i64 a0_1, .string a0_2]) (t := 39) ?_; intro gb133 hg w18 hbox hb; have BK133 := Aside0.mk (hbox); have GW133 := Aside0.mk ((by rw [hg]; exact (below_size (hb_ HB.out)) : w.heap.size ≤ gb133)); have GE133 := Aside0.mk ((by rw [hg]; exact (below_size (hb_ HB.out)) : w.heap.size ≤ gb133)); replace HB := Aside0.mk (below_step (hb_ HB.out) hb); clear hb hbox hg) | ((with_reducible refine gate_dst (N := 3) rfl ?_); refine box_ 3 (cs := #[.int .i64 a1_0, .int .i64 a1_1, .string a1_2]) (t := 39) ?_; intro gb134 hg w19 hbox hb; have BK134 := Aside0.mk (hbox); have GW134 := Aside0.mk ((by rw [hg]; exact (below_size (hb1_ HB.out GE133.out)) : w.heap.size ≤ gb134)); have GE134 := Aside0.mk ((by rw [hg]; exact (below_size (hb1_ HB.out GE133.out)) : w.heap.size ≤ gb134)); have NB133_134 := Aside0.mk ((by rw [hg]; exact Nat.ne_of_lt (blk_lt (bk_ BK133.out)) : gb133 ≠ gb134)); have NB134_133 := Aside0.mk ((by rw [hg]; exact Nat.ne_of_gt (blk_lt (bk_ BK133.out)) : gb134 ≠ gb133)); replace BK133 := Aside0.mk (blk_below (bk_ BK133.out) hb); replace HB := Aside0.mk (below_step (hb1_ HB.out GE133.out) hb); clear hb hbox hg; have hnb20 := NB133_134.out; have hnc20 := NB134_133.out; obtain ⟨hcz21_0, hcz21_1, hcz21_2, hfz21_0, hfz21_1, hfz21_2⟩ := bf3 BK133.out; obtain ⟨hcz22_0, hcz22_1, hcz22_2, hfz22_0, hfz22_1, hfz22_2⟩ := bf3 BK134.out) | ((with_reducible refine gate_callee (f := 82) rfl ?_); refine goesL_ (some 15) rfl rfl Try.func82 (by kernel_rfl) rfl #[.bool (decide (a0_0 < a1_0)), .bool true] rfl (by (try simp only [List.map_toArray, List.map_cons, List.map_nil]); first | done | rfl | (simp only [List.length_drop, List.length_take]; rfl) | (simp only [Int.ofNat_lt, Int.ofNat_le, gt_iff_lt, ge_iff_le]; rfl)) ?_; (with_reducible refine (laminaref04_sign.calls (decide (a0_0 < a1_0)) true t135 _ A17.out).mono ?_); rintro e w' ⟨rfl, ⟨nd, rfl⟩⟩; refine ⟨_, rfl, ?_⟩))
  go_ret
  exact er_ ((hb2_ HB.out GE133.out GE134.out))
end Go.Proofs.Ytackcingpffidaa.P
