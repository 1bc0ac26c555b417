/- What Go functions of the given program return, told as Lean functions, and the walks that show it, with plain facts on them: Px0, U0, UB, U1, UC, varint_Decode, varint_UnZigZag, value_decodeText, HR, laminaref01_Decode, laminaref04_Integer, laminaref01_UnZigZag, HR2, HR3, value_Valid, value_sign, strings_Compare. Conditions: the hypotheses that stand at each theorem. -/
import Derived.Test.YtackcingpffidaaProg
import Derived.Below
import Derived.Deep.Draws
import Derived.Deep.AppendLies
import Derived.Maps.AppendAt
import Derived.OwnWalk
import Derived.Laws.BytesArg
import Derived.Laws.MakeOwn
import Derived.Laws.OwnMore
import Derived.Deep.OwnRows
import Derived.Tactics
import Derived.Lib.ConvBytes
import Derived.Laws.Slices
import Derived.WalkKit
import Derived.KernelRfl
import Derived.RowKit3
import Derived.Deep.LoopGhost
import Derived.Deep.QuietTactic
import Derived.BigQuiet
import Derived.WideLaws
import Derived.Deep.DeepCutAuto
import Derived.Deep.CutBlock
import Derived.Deep.RegionHeld3
import Derived.Laws.Rows
import Derived.Lib.AppendStr
import Derived.ArgAppend
import Derived.Laws.IdiomCopy
import Derived.OrdersHeld
import Derived.Laws.BitsLemmas
import Derived.RowKit
import Derived.Lib.Bytealg
import Derived.Lib.Strings
import Derived.Lib.Slices
import Derived.Lib.Walk
import Derived.Laws.CopyOwn
import Derived.Deep.RegionLaw
import Derived.Test.YtackcingpffidaaQ
import Derived.Test.YtackcingpffidaaWWords
import Derived.Test.YtackcingpffidaaWLast
import Derived.Test.YtackcingpffidaaWTab
import Derived.Test.YtackcingpffidaaWFour
import Derived.Test.YtackcingpffidaaWQPut
import Derived.Test.YtackcingpffidaaWApart
import Derived.Test.YtackcingpffidaaWArr
import Derived.Test.YtackcingpffidaaWZeros
import Derived.Test.YtackcingpffidaaWFoot
import Derived.Test.YtackcingpffidaaWKept
import Derived.Test.YtackcingpffidaaWShare
import Derived.Test.YtackcingpffidaaWN
import Derived.Test.YtackcingpffidaaWEqStruct
import Derived.Test.YtackcingpffidaaWRepsOne
import Derived.Test.YtackcingpffidaaWGuard
import Derived.Test.YtackcingpffidaaWNEv
import Derived.Test.YtackcingpffidaaWMore
namespace Go.Proofs.Ytackcingpffidaa.P
open Go.RowKit Go.Proofs.YtackcingpffidaaW.PrintWords Go.Proofs.YtackcingpffidaaW.PrintLast Go.Proofs.YtackcingpffidaaW.PrintMore
attribute [local go_sem] max2_int min2_int max_two min_two max_three min_three max_four min_four Go.Proofs.YtackcingpffidaaQ.str_gtr Go.Proofs.YtackcingpffidaaQ.str_leq Go.Proofs.YtackcingpffidaaQ.str_geq   -- for this text's walks alone
set_option linter.unusedVariables false
set_option linter.unusedSimpArgs false
def errW : Option Int → Value
 | none => .nilIface
 | some c => .iface 0 (.int .i64 c)
theorem errW_none : errW none = .nilIface := rfl
theorem errW_some (c : Int) : errW (some c) = .iface 0 (.int .i64 c) := rfl
theorem info3 : (Try.prog.info? 3).map (fun i => (i.zero, i.size, i.bytes)) = some (some (.int .i64 0), 1, 8) := by kernel_rfl
theorem info5 : (Try.prog.info? 5).map (fun i => (i.zero, i.size, i.bytes)) = some (some (.int .u8 0), 1, 1) := by kernel_rfl
theorem info39 : (Try.prog.info? 39).map (fun i => (i.zero, i.size, i.bytes)) = some (some (.agg #[(.int .i64 0), (.int .i64 0), (.string ⟨#[]⟩)]), 3, 32) := by kernel_rfl
theorem info53 : (Try.prog.info? 53).map (fun i => (i.zero, i.size, i.bytes)) = some (some (.int .u64 0), 1, 8) := by kernel_rfl
-- the values' own types
/-! #### struct type 39 -/
structure S39 where
  f0 : Int
  f1 : Int
  f2 : ByteArray
def z39 : S39 := ⟨(0 : Int), (0 : Int), (⟨#[]⟩ : ByteArray)⟩
def k39 : Kd S39 := Kd.iso (Kd.pair (Kd.int .i64) (Kd.pair (Kd.int .i64) Kd.string)) (fun x : S39 => (x.f0, x.f1, x.f2))
theorem k39_open {w : World} {x : S39} {cs : List Value} (h : k39.K w x cs) : cs = [.int .i64 x.f0, .int .i64 x.f1, .string x.f2] := by
 obtain ⟨_, _, rfl, rfl, ⟨_, _, rfl, rfl, rfl⟩⟩ := h
 exact rfl
theorem k39_openM {w : World} {base : Nat} {ok : Nat → Prop} {x : S39} {cs : List Value} (h : k39.M w base ok x cs) : cs = [.int .i64 x.f0, .int .i64 x.f1, .string x.f2] := by
 obtain ⟨_, _, rfl, rfl, ⟨_, _, rfl, rfl, rfl⟩⟩ := h
 exact rfl
theorem k39_mk (w : World) (x : S39)  : k39.K w x [.int .i64 x.f0, .int .i64 x.f1, .string x.f2] := ⟨[.int .i64 x.f0], [.int .i64 x.f1, .string x.f2], rfl, rfl, ⟨[.int .i64 x.f1], [.string x.f2], rfl, rfl, rfl⟩⟩
theorem k39_mkM (w : World) (base : Nat) (ok : Nat → Prop) (x : S39)  : k39.M w base ok x [.int .i64 x.f0, .int .i64 x.f1, .string x.f2] := ⟨[.int .i64 x.f0], [.int .i64 x.f1, .string x.f2], rfl, rfl, ⟨[.int .i64 x.f1], [.string x.f2], rfl, rfl, rfl⟩⟩
def rd_T39 (xs : List S39) (i : Int) : S39 := xs.getD i.toNat z39
theorem at_T39 {w : World} {A : Option Addr} {n : Nat} {xs : List S39} (h : Kd.C k39 w A n xs) (i : Int) (h0 : 0 ≤ i) (h1 : i < n) : ∃ ad , A = some ad ∧ w.cell? (ad.add (i.toNat * 3)) = some (.int .i64 (rd_T39 xs i).f0) ∧ w.cell? ⟨(ad.add (i.toNat * 3)).block, (ad.add (i.toNat * 3)).off + 1, none⟩ = some (.int .i64 (rd_T39 xs i).f1) ∧ w.cell? ⟨(ad.add (i.toNat * 3)).block, (ad.add (i.toNat * 3)).off + 2, none⟩ = some (.string (rd_T39 xs i).f2) := by
 obtain ⟨ad, c, e, _, hK, hc0⟩ := Kd.C_get h z39 i h0 h1
 have hc : ∀ j u, c[j]? = some u → w.cell? (ad.add (i.toNat * 3 + j)) = some u := hc0
 obtain rfl := k39_open hK
 exact ⟨ad, e, hc 0 _ rfl, by rw [← add_field _ _ 1 (by omega)]; exact hc 1 _ rfl, by rw [← add_field _ _ 2 (by omega)]; exact hc 2 _ rfl⟩
def rd_L5 (xs : List (List Int)) (i : Int) : (List Int) := xs.getD i.toNat ([] : List Int)
end Go.Proofs.Ytackcingpffidaa.P
namespace Go.Proofs.Ytackcingpffidaa.P
open Go.RowKit Go.Proofs.YtackcingpffidaaW.PrintWords Go.Proofs.YtackcingpffidaaW.PrintLast Go.Proofs.YtackcingpffidaaW.PrintMore
theorem int_eq {a b : Int} (h : a = b) : Value.int .i64 a = .int .i64 b := by rw [h]
theorem addr_add2 (ad : Addr) (a b : Nat) : ad.add (a + b) = (ad.add a).add b := by
 unfold Addr.add
 by_cases ha : a = 0
 ·subst ha
  simp
 ·by_cases hb : b = 0
  ·subst hb
   simp
  ·simp [ha, hb, Nat.add_assoc]
/-- One row of counters: none below 0 or above what is left, and nothing left at the end. -/
def rowB : List Int → Int → Bool
 | [], left => left == 0
 | c :: cs, left => if c < 0 then false else if left < c then false else rowB cs (wrap64 (left - c))
/-- The last m rows of counters. -/
def cntF (l : List Int) (n : Int) : Nat → Bool
 | 0 => true
 | m + 1 => rowB ((l.take ((3 - m + 1) * 64)).drop ((3 - m) * 64)) n && cntF l n m
def cntB (l : List Int) (n : Int) : Bool := l.length == 256 && cntF l n 4
/-- A block that stays while others are made and draws go on. -/
theorem bk_ {w W : World} {g : Nat} {o : Obj} (h : w.heap[g]? = some o) (k : w.heap[g]? = some o → W.heap[g]? = some o := by (intro h_; (with_reducible repeat (first | refine blk_drewN ?_ _ | refine blk_drew ?_ | refine blk_alloc ?_ _)); exact h_)) : W.heap[g]? = some o := k h
/-- What a slice reads, in a later world. -/
theorem cb_ {α : Type} {d : Kd α} {w W1 W : World} {A : Option Addr} {n : Nat} {xs : List α} (h : d.C w A n xs) (hb : Below w.heap.size w W1) (k : d.C W1 A n xs → d.C W A n xs := by (intro h_; repeat (first | exact h_ | (with_reducible refine Kd.C_alloc ?_ _) | (with_reducible refine Kd.C_drewN ?_ _) | (with_reducible refine Kd.C_drew ?_)))) : d.C W A n xs := k (Kd.C_below h hb)
/-- Nothing elder turns. -/
theorem hb_ {w0 w W : World} (h : Below w0.heap.size w0 w) (k : Below w0.heap.size w0 w → Below w0.heap.size w0 W := by (intro h_; repeat (first | (with_reducible first | exact h_ | apply below_alloc | apply pw_below_drewN | apply below_drew1) | exact h_))) : Below w0.heap.size w0 W := k h
theorem hb1_ {w0 w W : World} {g : Nat} (h : Below w0.heap.size w0 w) (hg : w0.heap.size ≤ g) (k : Below w0.heap.size w0 w → w0.heap.size ≤ g → Below w0.heap.size w0 W := by (intro h_ g_; repeat (first | (with_reducible first | exact h_ | apply below_alloc | apply pw_below_drewN | apply below_drew1 | refine below_set ?_ g_) | exact h_))) : Below w0.heap.size w0 W := k h hg
theorem hb2_ {w0 w W : World} {g g' : Nat} (h : Below w0.heap.size w0 w) (hg : w0.heap.size ≤ g) (hg' : w0.heap.size ≤ g') (k : Below w0.heap.size w0 w → w0.heap.size ≤ g → w0.heap.size ≤ g' → Below w0.heap.size w0 W := by (intro h_ g_ g2_; repeat (first | (with_reducible first | exact h_ | apply below_alloc | apply pw_below_drewN | apply below_drew1 | refine below_set ?_ g_ | refine below_set ?_ g2_) | exact h_))) : Below w0.heap.size w0 W := k h hg hg'
/-- A row of the call's own that stays. -/
theorem ra_ {α : Type} {d : Kd α} {e base : Nat} {ok : Nat → Prop} {w W : World} {v : Value} {xs : List α} (h : d.R e w base ok v xs) (k : d.R e w base ok v xs → d.R e W base ok v xs := by (intro h_; (with_reducible repeat (first | apply Kd.R_alloc | apply Kd.R_drewN | apply Kd.R_drew)); exact h_)) : d.R e W base ok v xs := k h
/-- What an operation puts, written out. -/
theorem nm_ {P : Program} {md : Region.Mode} {ops : Array Oper} {Q : Exit → Act → World → Prop} {S : World → Prop} {ds : List Nat} {fuel : Nat} {l : Array Bool} {a a' : Act} {w : World} {d : Option Tmp} {v : Value} (N : Option Tmp) (h : wpAnyLast P md ops Q S ds fuel l a' w) (hd : d = N := by rfl)
  (ha : a.put N v = a' := by (simp only [Act.put, List.setIfInBounds_toArray, List.set_cons_zero, List.set_cons_succ, i64_w, i32_w]; rfl)) : wpAnyLast P md ops Q S ds fuel l (a.put d v) w := by
 subst hd
 rw [ha]
 exact h
/-- What an address reads, in a later world. -/
theorem up_ {w W : World} {p : Addr} {v : Value} (hb : Below w.heap.size w W) (h : w.cell? p = some v) : W.cell? p = some v := (hb.cell (World.block_lt_of_cell? w _ h)).trans h
/-- What a way's end owes first. -/
theorem er_ {p q : Prop} (hq : q) (hp : p := by first | rfl | (simp [errW_none, errW_some] <;> rfl) | (simp [*, errW_none, errW_some] <;> rfl)) : p ∧ q := ⟨hp, hq⟩
section
variable {P : Program} {ops rest : List Oper} {opsA : Array Oper} {o : Oper} {a : Act} {Q : Exit → Act → World → Prop}
theorem box_ (N : Tmp) {W : World} {cs : Array Value} {t : TypeId} (h : ∀ g, g = W.heap.size → ∀ w1, w1.heap[g]? = some (.cells cs t (0, 0)) → Below W.heap.size W w1 → wpList P opsA Q rest (a.put o.dst (.pointer (some ⟨g, 0, none⟩))) w1)
  (hgd : o.guard = none := by rfl) (hd : o.dst = some N := by rfl) (hrun : (execOp a.eval o).run P W = .ok (.value (.pointer (some ⟨W.heap.size, 0, none⟩))) (W.alloc (.cells cs t (0, 0))) := by first | (go_simp; done) | (go_simp; rfl)) : wpList P opsA Q (o :: rest) a W :=
 box_event hgd hd hrun h
theorem gos_ {oi : Oper} {N : Option Tmp} {w : World} {K : Act → World → Prop} {f : FuncId} {fn : Func} {as_ : Array Operand} {ts : Array TypeId} (hf : P.funcs[f]? = some fn) (args : Array Value)
  (h : Calls P f args w fun e w' => ∃ v, e = .returned v ∧ K (a.put N v) w') (hname : (fn.name == "runtime.NumGoroutine") = false := by kernel_rfl) (hb : fn.body.isSome = true := by rfl)
  (hw : Region.wanted oi (yielded opsA a.tmps) = true := by rfl) (hN : oi.dst = N := by rfl) (hop : oi.op = .call { callee := .value (.func f), args := as_, argTypes := ts } := by rfl)
  (hargs : as_.map a.eval = args := by (try simp only [List.map_toArray, List.map_cons, List.map_nil]); first | done | rfl | (simp only [List.length_drop, List.length_take]; rfl) | (simp only [Int.ofNat_lt, Int.ofNat_le, gt_iff_lt, ge_iff_le]; rfl)) : if Region.wanted oi (yielded opsA a.tmps) = true then Oper.wp P oi a w K Q else K (a.put N undef) w :=
 goes_ hf hname hb args hw hN hop hargs h
end
theorem bc2 {w : World} {g : Nat} {t : TypeId} {a0 a1 : Value} (h : w.heap[g]? = some (.cells #[a0, a1] t (0, 0))) : w.cell? ⟨g, 0, none⟩ = some a0 ∧ w.cell? ⟨g, 1, none⟩ = some a1 := ⟨(blk_cell h 0).trans rfl, (blk_cell h 1).trans rfl⟩
theorem bf2 {w : World} {g : Nat} {t : TypeId} {a0 a1 : Value} (h : w.heap[g]? = some (.cells #[a0, a1] t (0, 0))) : w.cell? ⟨g, 0, none⟩ = some a0 ∧ w.cell? ⟨g, 1, none⟩ = some a1 ∧ w.frozen? ⟨g, 0, none⟩ = false ∧ w.frozen? ⟨g, 1, none⟩ = false := ⟨(blk_cell h 0).trans rfl, (blk_cell h 1).trans rfl, blk_frozen h 0, blk_frozen h 1⟩
theorem bc3 {w : World} {g : Nat} {t : TypeId} {a0 a1 a2 : Value} (h : w.heap[g]? = some (.cells #[a0, a1, a2] t (0, 0))) : w.cell? ⟨g, 0, none⟩ = some a0 ∧ w.cell? ⟨g, 1, none⟩ = some a1 ∧ w.cell? ⟨g, 2, none⟩ = some a2 := ⟨(blk_cell h 0).trans rfl, (blk_cell h 1).trans rfl, (blk_cell h 2).trans rfl⟩
theorem ap3 {a0 a1 a2 q : Prop} (h : a0 ∧ a1 ∧ a2) (k : q) : a0 ∧ a1 ∧ a2 ∧ q := by
 obtain ⟨h0, h1, h2⟩ := h
 exact ⟨h0, h1, h2, k⟩
theorem bf3 {w : World} {g : Nat} {t : TypeId} {a0 a1 a2 : Value} (h : w.heap[g]? = some (.cells #[a0, a1, a2] t (0, 0))) : w.cell? ⟨g, 0, none⟩ = some a0 ∧ w.cell? ⟨g, 1, none⟩ = some a1 ∧ w.cell? ⟨g, 2, none⟩ = some a2 ∧ w.frozen? ⟨g, 0, none⟩ = false ∧ w.frozen? ⟨g, 1, none⟩ = false ∧ w.frozen? ⟨g, 2, none⟩ = false := ⟨(blk_cell h 0).trans rfl, (blk_cell h 1).trans rfl, (blk_cell h 2).trans rfl, blk_frozen h 0, blk_frozen h 1, blk_frozen h 2⟩
theorem bc7 {w : World} {g : Nat} {t : TypeId} {a0 a1 a2 a3 a4 a5 a6 : Value} (h : w.heap[g]? = some (.cells #[a0, a1, a2, a3, a4, a5, a6] t (0, 0))) : w.cell? ⟨g, 0, none⟩ = some a0 ∧ w.cell? ⟨g, 1, none⟩ = some a1 ∧ w.cell? ⟨g, 2, none⟩ = some a2 ∧ w.cell? ⟨g, 3, none⟩ = some a3 ∧ w.cell? ⟨g, 4, none⟩ = some a4 ∧ w.cell? ⟨g, 5, none⟩ = some a5 ∧ w.cell? ⟨g, 6, none⟩ = some a6 := ⟨(blk_cell h 0).trans rfl, (blk_cell h 1).trans rfl, (blk_cell h 2).trans rfl, (blk_cell h 3).trans rfl, (blk_cell h 4).trans rfl, (blk_cell h 5).trans rfl, (blk_cell h 6).trans rfl⟩
theorem ap7 {a0 a1 a2 a3 a4 a5 a6 q : Prop} (h : a0 ∧ a1 ∧ a2 ∧ a3 ∧ a4 ∧ a5 ∧ a6) (k : q) : a0 ∧ a1 ∧ a2 ∧ a3 ∧ a4 ∧ a5 ∧ a6 ∧ q := by
 obtain ⟨h0, h1, h2, h3, h4, h5, h6⟩ := h
 exact ⟨h0, h1, h2, h3, h4, h5, h6, k⟩
theorem bf7 {w : World} {g : Nat} {t : TypeId} {a0 a1 a2 a3 a4 a5 a6 : Value} (h : w.heap[g]? = some (.cells #[a0, a1, a2, a3, a4, a5, a6] t (0, 0))) : w.cell? ⟨g, 0, none⟩ = some a0 ∧ w.cell? ⟨g, 1, none⟩ = some a1 ∧ w.cell? ⟨g, 2, none⟩ = some a2 ∧ w.cell? ⟨g, 3, none⟩ = some a3 ∧ w.cell? ⟨g, 4, none⟩ = some a4 ∧ w.cell? ⟨g, 5, none⟩ = some a5 ∧ w.cell? ⟨g, 6, none⟩ = some a6 ∧ w.frozen? ⟨g, 0, none⟩ = false ∧ w.frozen? ⟨g, 1, none⟩ = false ∧ w.frozen? ⟨g, 2, none⟩ = false ∧ w.frozen? ⟨g, 3, none⟩ = false ∧ w.frozen? ⟨g, 4, none⟩ = false ∧ w.frozen? ⟨g, 5, none⟩ = false ∧ w.frozen? ⟨g, 6, none⟩ = false := ⟨(blk_cell h 0).trans rfl, (blk_cell h 1).trans rfl, (blk_cell h 2).trans rfl, (blk_cell h 3).trans rfl, (blk_cell h 4).trans rfl, (blk_cell h 5).trans rfl, (blk_cell h 6).trans rfl, blk_frozen h 0, blk_frozen h 1, blk_frozen h 2, blk_frozen h 3, blk_frozen h 4, blk_frozen h 5, blk_frozen h 6⟩
variable {P : Program} {ops : Array Oper} {Q : Exit → Act → World → Prop} {S : World → Prop} {ds : List Nat} {T : Bool × List (List Nat × List Nat)} {B : List Nat}
/-- An operation that reads no memory. -/
theorem pu_ (HT : Aside0 (rtab .any ops = T)) (i : Nat) (N : Option Tmp) {oi : Oper} {v : Value} {fuel : Nat} {l : Array Bool} {a a' : Act} {w : World} (h : wpAnyLast P .any ops Q S ds fuel (l.setIfInBounds i true) a' w)
  (hi : ops[i]? = some oi := by rfl) (hN : oi.dst = N := by rfl) (hk : anyT T l.toList (l.setIfInBounds i true).toList i = true := by kernel_rfl) (hQ : ∀ c a w, Q (.panic c) (a.put oi.dst v) w → Q (.panic c) a w := by exact fun _ _ _ h => h)
  (hw : Region.wanted oi (yielded ops a.tmps) = true := by kernel_rfl) (hv : ∀ w, (execOp a.eval oi).run P w = .ok (.value v) w := by (intro w'; go_simp; with_reducible rfl))
  (ha : a.put N v = a' := by (simp only [Act.put, List.setIfInBounds_toArray, List.set_cons_zero, List.set_cons_succ, i64_w, i32_w]; rfl)) : wpAnyLast P .any ops Q S ds (fuel + 1) l a w :=
 pure_ (i := i) _ hi hN (any_of HT.out hk) hQ (Or.inl ⟨hw, hv⟩) ha h
/-- An operation whose guard fails. -/
theorem sk_ (HT : Aside0 (rtab .any ops = T)) (i : Nat) (N : Option Tmp) {oi : Oper} {fuel : Nat} {l : Array Bool} {a a' : Act} {w : World} (h : wpAnyLast P .any ops Q S ds fuel (l.setIfInBounds i true) a' w)
  (hi : ops[i]? = some oi := by rfl) (hN : oi.dst = N := by rfl) (hk : anyT T l.toList (l.setIfInBounds i true).toList i = true := by kernel_rfl) (hQ : ∀ c a w, Q (.panic c) (a.put oi.dst undef) w → Q (.panic c) a w := by exact fun _ _ _ h => h)
  (hw : Region.wanted oi (yielded ops a.tmps) = false := by kernel_rfl)
  (ha : a.put N undef = a' := by (simp only [Act.put, List.setIfInBounds_toArray, List.set_cons_zero, List.set_cons_succ]; rfl)) : wpAnyLast P .any ops Q S ds (fuel + 1) l a w :=
 pure_ (i := i) _ hi hN (any_of HT.out hk) hQ (Or.inr ⟨hw, rfl⟩) ha h
/-- An operation that reads what S holds. -/
theorem tk_ (HT : Aside0 (rtab .any ops = T)) (HW : Aside0 (waitsOk T.2 B = true)) (i : Nat) (N : Option Tmp) {oi : Oper} {v : Value} {fuel : Nat} {l : Array Bool} {a a' : Act} {w : World} (hS : S w) (h : wpAnyLast P .any ops Q S ds fuel (l.setIfInBounds i true) a' w)
  (hi : ops[i]? = some oi := by rfl) (hN : oi.dst = N := by rfl) (hk : takeW T B ds l.toList (l.setIfInBounds i true).toList i = true := by kernel_rfl) (hQ : ∀ c a w, Q (.panic c) (a.put oi.dst v) w → Q (.panic c) a w := by exact fun _ _ _ h => h)
  (hw : Region.wanted oi (yielded ops a.tmps) = true := by kernel_rfl) (hv : ∀ w, S w → (execOp a.eval oi).run P w = .ok (.value v) w := by (intro w' hs; (repeat (obtain ⟨_, hs⟩ := hs)); go_simp; with_reducible rfl))
  (ha : a.put N v = a' := by (simp only [Act.put, List.setIfInBounds_toArray, List.set_cons_zero, List.set_cons_succ, i64_w, i32_w]; rfl)) : wpAnyLast P .any ops Q S ds (fuel + 1) l a w :=
 take_ (i := i) _ hi hN (take_ofW HT.out HW.out hk) hQ (Or.inl ⟨hw, hv⟩) hS ha h
/-- A call or a making; behind it S is shown anew. -/
theorem on_ (HT : Aside0 (rtab .any ops = T)) (i : Nat) (N : Option Tmp) {oi : Oper} {fuel : Nat} {l : Array Bool} {a : Act} {w : World}
  (h : ∀ K : Act → World → Prop, Shut (∀ a' w', S w' → (S w' → wpAnyLast P .any ops Q S ds fuel (l.setIfInBounds i true) a' w') → K a' w') → if Region.wanted oi (yielded ops a.tmps) = true then Oper.wp P oi a w K Q else K (a.put N undef) w)
  (hi : ops[i]? = some oi := by rfl) (hN : oi.dst = N := by rfl) (hk : (readyT T.2 l.toList == [i] && l.toList.set i true == (l.setIfInBounds i true).toList) = true := by kernel_rfl) (hd : i ∉ ds := by decide) : wpAnyLast P .any ops Q S ds (fuel + 1) l a w :=
 one_ (i := i) _ hi hN (one_of HT.out hk) hd h
end Go.Proofs.Ytackcingpffidaa.P
namespace Go.Proofs.Ytackcingpffidaa.P
set_option linter.unusedVariables false
open Go.RowKit Go.Proofs.YtackcingpffidaaW.PrintWords Go.Proofs.YtackcingpffidaaW.PrintLast Go.Proofs.YtackcingpffidaaW.PrintMore
section
variable {P : Program} {ops : Array Oper} {Q : Exit → Act → World → Prop} {S : World → Prop} {ds : List Nat} {T : Bool × List (List Nat × List Nat)} {B : List Nat}
/-- A call by its contract, what follows told by K. -/
theorem cK_ {oi : Oper} {N : Option Tmp} {a : Act} {w : World} {K : Act → World → Prop} {f : FuncId} {fn : Func} {ops2 : Array Operand} {ts : Array TypeId} {args : Array Value} {v : Value} (hf : P.funcs[f]? = some fn)
  (hc : Calls P f args w fun e w' => e = .returned v ∧ Below w.heap.size w w') (h : ∀ w', Below w.heap.size w w' → K (a.put N v) w') (hN : oi.dst = N := by rfl)
  (hop : oi.op = .call { callee := .value (.func f), args := ops2, argTypes := ts } := by rfl) (hw : Region.wanted oi (yielded ops a.tmps) = true := by rfl) (hname : (fn.name == "runtime.NumGoroutine") = false := by rfl) (hb : fn.body.isSome = true := by rfl)
  (hargs : ops2.map a.eval = args := by ((try simp only [List.map_toArray, List.map_cons, List.map_nil]); first | done | rfl)) : if Region.wanted oi (yielded ops a.tmps) = true then Oper.wp P oi a w K Q else K (a.put N undef) w :=
 goes_ hf hname hb args hw hN hop hargs (hc.mono fun e w' hh => ⟨v, hh.1, h w' hh.2⟩)
/-- A call that alone may come up; HY: what stands since the world V. -/
theorem cl_ {V : World} (HT : Aside0 (rtab .any ops = T)) (i : Nat) (N : Option Tmp) {oi : Oper} {fuel : Nat} {l : Array Bool} {a a' : Act} {w : World} {f : FuncId} {fn : Func} {ops2 : Array Operand} {ts : Array TypeId} {args : Array Value} {v : Value} (hf : P.funcs[f]? = some fn)
  (hc : Calls P f args w fun e w' => e = .returned v ∧ Below w.heap.size w w') (HY : Aside0 (Below V.heap.size V w)) (HS : Aside0 (∀ W, Below V.heap.size V W → S W)) (h : ∀ w', Aside0 (Below V.heap.size V w') → S w' → wpAnyLast P .any ops Q S ds fuel (l.setIfInBounds i true) a' w')
  (hi : ops[i]? = some oi := by rfl) (hN : oi.dst = N := by rfl) (hop : oi.op = .call { callee := .value (.func f), args := ops2, argTypes := ts } := by rfl) (hk : (readyT T.2 l.toList == [i] && l.toList.set i true == (l.setIfInBounds i true).toList) = true := by kernel_rfl) (hd : i ∉ ds := by decide)
  (hw : Region.wanted oi (yielded ops a.tmps) = true := by rfl) (hname : (fn.name == "runtime.NumGoroutine") = false := by rfl) (hb : fn.body.isSome = true := by rfl)
  (hargs : ops2.map a.eval = args := by ((try simp only [List.map_toArray, List.map_cons, List.map_nil]); first | done | rfl))
  (ha : a.put N v = a' := by (simp only [Act.put, List.setIfInBounds_toArray, List.set_cons_zero, List.set_cons_succ, i64_w, i32_w]; rfl)) : wpAnyLast P .any ops Q S ds (fuel + 1) l a w :=
 on_ HT i N (fun K hK => cK_ hf hc (fun w' hb => hK.out _ _ (HS.out _ (HY.out.trans (hb.mono HY.out.size))) fun s => by rw [ha]; exact h w' ⟨HY.out.trans (hb.mono HY.out.size)⟩ s) hN hop hw hname hb hargs) hi hN hk hd
/-- The same where several may come up (two_, three_). -/
theorem ck_ {V : World} {W : Act → World → Prop} {K : Act → World → Prop} (hK : Shut (∀ a' w', S w' → (S w' → W a' w') → K a' w')) {oi : Oper} {N : Option Tmp} {a a' : Act} {w : World} {f : FuncId} {fn : Func} {ops2 : Array Operand} {ts : Array TypeId} {args : Array Value} {v : Value} (hf : P.funcs[f]? = some fn)
  (hc : Calls P f args w fun e w' => e = .returned v ∧ Below w.heap.size w w') (HY : Aside0 (Below V.heap.size V w)) (HS : Aside0 (∀ W, Below V.heap.size V W → S W)) (h : ∀ w', Aside0 (Below V.heap.size V w') → Below w.heap.size w w' → S w' → W a' w') (hN : oi.dst = N := by rfl)
  (hop : oi.op = .call { callee := .value (.func f), args := ops2, argTypes := ts } := by rfl) (hw : Region.wanted oi (yielded ops a.tmps) = true := by rfl) (hname : (fn.name == "runtime.NumGoroutine") = false := by rfl) (hb : fn.body.isSome = true := by rfl)
  (hargs : ops2.map a.eval = args := by ((try simp only [List.map_toArray, List.map_cons, List.map_nil]); first | done | rfl))
  (ha : a.put N v = a' := by (simp only [Act.put, List.setIfInBounds_toArray, List.set_cons_zero, List.set_cons_succ, i64_w, i32_w]; rfl)) : if Region.wanted oi (yielded ops a.tmps) = true then Oper.wp P oi a w K Q else K (a.put N undef) w :=
 cK_ hf hc (fun w' hb => hK.out _ _ (HS.out _ (HY.out.trans (hb.mono HY.out.size))) fun s => by rw [ha]; exact h w' ⟨HY.out.trans (hb.mono HY.out.size)⟩ hb s) hN hop hw hname hb hargs
/-- A making of a block, where several may come up. -/
theorem ak_ {V : World} {W : Act → World → Prop} {K : Act → World → Prop} (hK : Shut (∀ a' w', S w' → (S w' → W a' w') → K a' w')) {oi : Oper} {a : Act} {a' : Nat → Act} {w : World} (N : Tmp) (cs : Array Value) (t : TypeId) (HY : Aside0 (Below V.heap.size V w)) (HS : Aside0 (∀ W, Below V.heap.size V W → S W))
  (h : ∀ g w', g = w.heap.size → Aside0 (V.heap.size ≤ g) → Aside0 (w'.heap[g]? = some (.cells cs t (0, 0))) → Aside0 (Below V.heap.size V w') → Below w.heap.size w w' → S w' → W (a' g) w') (hN : oi.dst = some N := by rfl)
  (hr : (execOp a.eval oi).run P w = .ok (.value (.pointer (some ⟨w.heap.size, 0, none⟩))) (w.alloc (.cells cs t (0, 0))) := by first | (go_simp; done) | (go_simp; rfl)) (hw : Region.wanted oi (yielded ops a.tmps) = true := by rfl)
  (ha : ∀ g, a.put (some N) (.pointer (some ⟨g, 0, none⟩)) = a' g := by (intro g; simp only [Act.put, List.setIfInBounds_toArray, List.set_cons_zero, List.set_cons_succ, i64_w, i32_w]; rfl)) : if Region.wanted oi (yielded ops a.tmps) = true then Oper.wp P oi a w K Q else K (a.put (some N) undef) w := by
 have h0 := box_step (Q := Q) (Kc := K) hw hN hr (fun g hg w' hbx hb => hK.out _ _ (HS.out _ (HY.out.trans (hb.mono HY.out.size))) fun s => by rw [hN, ha]; exact h g w' hg ⟨by rw [hg]; exact HY.out.size⟩ ⟨hbx⟩ ⟨HY.out.trans (hb.mono HY.out.size)⟩ hb s)
 rw [hN] at h0
 exact h0
/-- A making that alone may come up. -/
theorem al_ {V : World} (HT : Aside0 (rtab .any ops = T)) (i : Nat) {oi : Oper} {fuel : Nat} {l : Array Bool} {a : Act} {a' : Nat → Act} {w : World} (N : Tmp) (cs : Array Value) (t : TypeId) (HY : Aside0 (Below V.heap.size V w)) (HS : Aside0 (∀ W, Below V.heap.size V W → S W))
  (h : ∀ g w', g = w.heap.size → Aside0 (V.heap.size ≤ g) → Aside0 (w'.heap[g]? = some (.cells cs t (0, 0))) → Aside0 (Below V.heap.size V w') → Below w.heap.size w w' → S w' → wpAnyLast P .any ops Q S ds fuel (l.setIfInBounds i true) (a' g) w')
  (hi : ops[i]? = some oi := by rfl) (hN : oi.dst = some N := by rfl) (hk : (readyT T.2 l.toList == [i] && l.toList.set i true == (l.setIfInBounds i true).toList) = true := by kernel_rfl) (hd : i ∉ ds := by decide)
  (hr : (execOp a.eval oi).run P w = .ok (.value (.pointer (some ⟨w.heap.size, 0, none⟩))) (w.alloc (.cells cs t (0, 0))) := by first | (go_simp; done) | (go_simp; rfl)) (hw : Region.wanted oi (yielded ops a.tmps) = true := by rfl)
  (ha : ∀ g, a.put (some N) (.pointer (some ⟨g, 0, none⟩)) = a' g := by (intro g; simp only [Act.put, List.setIfInBounds_toArray, List.set_cons_zero, List.set_cons_succ, i64_w, i32_w]; rfl)) : wpAnyLast P .any ops Q S ds (fuel + 1) l a w :=
 on_ HT i (some N) (fun K hK => ak_ hK N cs t HY HS h hN hr hw ha) hi hN hk hd
/-- Two operations may come up; three. -/
theorem tw_ (HT : Aside0 (rtab .any ops = T)) (i j : Nat) (Ni Nj : Option Tmp) {oi oj : Oper} {fuel : Nat} {l : Array Bool} {a : Act} {w : World}
  (h1 : ∀ K : Act → World → Prop, Shut (∀ a' w', S w' → (S w' → wpAnyLast P .any ops Q S ds fuel (l.setIfInBounds i true) a' w') → K a' w') → if Region.wanted oi (yielded ops a.tmps) = true then Oper.wp P oi a w K Q else K (a.put Ni undef) w)
  (h2 : ∀ K : Act → World → Prop, Shut (∀ a' w', S w' → (S w' → wpAnyLast P .any ops Q S ds fuel (l.setIfInBounds j true) a' w') → K a' w') → if Region.wanted oj (yielded ops a.tmps) = true then Oper.wp P oj a w K Q else K (a.put Nj undef) w)
  (hi : ops[i]? = some oi := by rfl) (hj : ops[j]? = some oj := by rfl) (hNi : oi.dst = Ni := by rfl) (hNj : oj.dst = Nj := by rfl)
  (hk : (readyT T.2 l.toList == [i, j] && l.toList.set i true == (l.setIfInBounds i true).toList && l.toList.set j true == (l.setIfInBounds j true).toList) = true := by kernel_rfl) (hdi : i ∉ ds := by decide) (hdj : j ∉ ds := by decide) : wpAnyLast P .any ops Q S ds (fuel + 1) l a w :=
 two_ _ _ hi hj hNi hNj (two_of HT.out hk) hdi hdj h1 h2
/-- A store that alone may come up: the world behind it is w1. -/
theorem st_ (HT : Aside0 (rtab .any ops = T)) (i : Nat) {oi : Oper} {fuel : Nat} {l : Array Bool} {a : Act} {w : World} (w1 : World) (hrun : (execOp a.eval oi).run P w = .ok .skip w1) (hS : S w1) (h : S w1 → wpAnyLast P .any ops Q S ds fuel (l.setIfInBounds i true) a w1)
  (hi : ops[i]? = some oi := by rfl) (hN : oi.dst = none := by rfl) (hk : (readyT T.2 l.toList == [i] && l.toList.set i true == (l.setIfInBounds i true).toList) = true := by kernel_rfl) (hd : i ∉ ds := by decide)
  (hw : Region.wanted oi (yielded ops a.tmps) = true := by rfl) : wpAnyLast P .any ops Q S ds (fuel + 1) l a w :=
 on_ HT i none (fun K hK => skip_ hw hN hrun (hK.out _ _ hS h)) hi hN hk hd
end
/-- A sketch's slices lie in a world. -/
structure SK (w : World) (A2 : Option Addr) (c2 : Nat) (l2 : List Int) (A4 : Option Addr) (c4 : Nat) (l4 : List Int) (A5 : Option Addr) (c5 : Nat) (l5 : List S39) (A6 : Option Addr) (c6 : Nat) (l6 : List Int) : Prop where
  r2 : Kd.C (Kd.int .u64) w A2 l2.length l2
  h2 : l2.length ≤ c2
  r4 : Kd.C (Kd.int .i64) w A4 l4.length l4
  h4 : l4.length ≤ c4
  r5 : Kd.C k39 w A5 l5.length l5
  h5 : l5.length ≤ c5
  r6 : Kd.C (Kd.int .i64) w A6 l6.length l6
  h6 : l6.length ≤ c6
theorem SK.below {w W : World} {A2 : Option Addr} {c2 : Nat} {l2 : List Int} {A4 : Option Addr} {c4 : Nat} {l4 : List Int} {A5 : Option Addr} {c5 : Nat} {l5 : List S39} {A6 : Option Addr} {c6 : Nat} {l6 : List Int} (h : SK w A2 c2 l2 A4 c4 l4 A5 c5 l5 A6 c6 l6) (hb : Below w.heap.size w W) : SK W A2 c2 l2 A4 c4 l4 A5 c5 l5 A6 c6 l6 :=
 ⟨Kd.C_below h.r2 hb, h.h2, Kd.C_below h.r4 hb, h.h4, Kd.C_below h.r5 hb, h.h5, Kd.C_below h.r6 hb, h.h6⟩
theorem un8 {w : World} {A2 : Option Addr} {c2 : Nat} {l2 : List Int} {A4 : Option Addr} {c4 : Nat} {l4 : List Int} {A5 : Option Addr} {c5 : Nat} {l5 : List S39} {A6 : Option Addr} {c6 : Nat} {l6 : List Int} {H C : Prop}
  (f : Kd.C (Kd.int .u64) w A2 l2.length l2 → l2.length ≤ c2 → Kd.C (Kd.int .i64) w A4 l4.length l4 → l4.length ≤ c4 → Kd.C k39 w A5 l5.length l5 → l5.length ≤ c5 → Kd.C (Kd.int .i64) w A6 l6.length l6 → l6.length ≤ c6 → H → C) (h : SK w A2 c2 l2 A4 c4 l4 A5 c5 l5 A6 c6 l6) (e : H) : C :=
 f h.r2 h.h2 h.r4 h.h4 h.r5 h.h5 h.r6 h.h6 e
/-- What a call's own boxes hold: a sketch, a predicate, a value, two numbers; q: what else. -/
def sk7 (g : Nat) (a0 a1 : Int) (A2 : Option Addr) (c2 : Nat) (l2 : List Int) (b3 : Bool) (A4 : Option Addr) (c4 : Nat) (l4 : List Int) (A5 : Option Addr) (c5 : Nat) (l5 : List S39) (A6 : Option Addr) (c6 : Nat) (l6 : List Int) (W : World) (q : Prop) : Prop :=
 W.cell? ⟨g, 0, none⟩ = some (.int .i64 a0) ∧ W.cell? ⟨g, 1, none⟩ = some (.int .i64 a1) ∧ W.cell? ⟨g, 2, none⟩ = some (.slice A2 l2.length c2) ∧ W.cell? ⟨g, 3, none⟩ = some (.bool b3) ∧ W.cell? ⟨g, 4, none⟩ = some (.slice A4 l4.length c4) ∧ W.cell? ⟨g, 5, none⟩ = some (.slice A5 l5.length c5) ∧ W.cell? ⟨g, 6, none⟩ = some (.slice A6 l6.length c6) ∧ q
def p5 (g : Nat) (p0 op : Int) (v : S39) (W : World) (q : Prop) : Prop :=
 W.cell? ⟨g, 0, none⟩ = some (.int .i64 p0) ∧ W.cell? ⟨g, 1, none⟩ = some (.int .i64 op) ∧ W.cell? ⟨g, 2, none⟩ = some (.int .i64 v.f0) ∧ W.cell? ⟨g, 3, none⟩ = some (.int .i64 v.f1) ∧ W.cell? ⟨g, 4, none⟩ = some (.string v.f2) ∧ q
def v3 (g : Nat) (v : S39) (W : World) (q : Prop) : Prop := W.cell? ⟨g, 0, none⟩ = some (.int .i64 v.f0) ∧ W.cell? ⟨g, 1, none⟩ = some (.int .i64 v.f1) ∧ W.cell? ⟨g, 2, none⟩ = some (.string v.f2) ∧ q
def i2 (g : Nat) (a b : Int) (W : World) (q : Prop) : Prop := W.cell? ⟨g, 0, none⟩ = some (.int .i64 a) ∧ W.cell? ⟨g, 1, none⟩ = some (.int .i64 b) ∧ q
theorem sk7_of {W : World} {g : Nat} {t : TypeId} {a0 a1 : Int} {A2 : Option Addr} {c2 : Nat} {l2 : List Int} {b3 : Bool} {A4 : Option Addr} {c4 : Nat} {l4 : List Int} {A5 : Option Addr} {c5 : Nat} {l5 : List S39} {A6 : Option Addr} {c6 : Nat} {l6 : List Int} {q : Prop}
    (h : W.heap[g]? = some (.cells #[.int .i64 a0, .int .i64 a1, .slice A2 l2.length c2, .bool b3, .slice A4 l4.length c4, .slice A5 l5.length c5, .slice A6 l6.length c6] t (0, 0))) (k : q) : sk7 g a0 a1 A2 c2 l2 b3 A4 c4 l4 A5 c5 l5 A6 c6 l6 W q := ap7 (bc7 h) k
theorem v3_of {W : World} {g : Nat} {t : TypeId} {v : S39} {q : Prop} (h : W.heap[g]? = some (.cells #[.int .i64 v.f0, .int .i64 v.f1, .string v.f2] t (0, 0))) (k : q) : v3 g v W q := ap3 (bc3 h) k
section
variable {P : Program} {md : Region.Mode} {ops : Array Oper} {Q : Exit → Act → World → Prop} {S : World → Prop} {ds : List Nat}
/-- Some destinations filled, written out. -/
theorem pr_ {fuel : Nat} {l : Array Bool} {a a' : Act} {s : List (Tmp × Value)} {w : World} (h : wpAnyLast P md ops Q S ds fuel l a' w) (ha : putAll a s = a' := by (simp only [putAll, Act.put, List.setIfInBounds_toArray, List.set_cons_zero, List.set_cons_succ]; rfl)) : wpAnyLast P md ops Q S ds fuel l (putAll a s) w := norm_ ha h
theorem pl_ {fuel : Nat} {l : Array Bool} {a a' : Act} {s : List (Tmp × Value)} {w : World} (h : wpAnyLast P md ops Q S ds fuel l (putAll a' s) w) (ha : a = putAll a' s := by (simp only [putAll, Act.put, List.setIfInBounds_toArray, List.set_cons_zero, List.set_cons_succ])) : wpAnyLast P md ops Q S ds fuel l a w := norm_ ha h
end
/-- A call's last: two numbers are returned. -/
theorem ret2_ {b : Nat} {w0 w : World} {g : Nat} {t : TypeId} {x y : Value} (hb : w.heap[g]? = some (.cells #[x, y] t (0, 0))) (HB : Below b w0 w) (hg : b ≤ g) (u0 u1 : Value) {p : World → Prop} (h : ∀ W, W.cell? ⟨g, 0, none⟩ = some u0 → W.cell? ⟨g, 1, none⟩ = some u1 → Below b w0 W → p W) : p ((w.setCell ⟨g, 0, none⟩ u0).setCell ⟨g, 1, none⟩ u1) := by
 have P2 : ((w.setCell ⟨g, 0, none⟩ u0).setCell ⟨g, 1, none⟩ u1).heap[g]? = some (.cells #[u0, u1] t (0, 0)) := blk_put (cs' := #[u0, u1]) (blk_put (cs' := #[u0, y]) hb 0 u0 rfl) 1 u1 rfl
 exact h _ ((blk_cell P2 0).trans rfl) ((blk_cell P2 1).trans rfl) ((HB.setCell (p := ⟨g, 0, none⟩) hg u0).setCell (p := ⟨g, 1, none⟩) hg u1)
def put3 (w : World) (g : Nat) (u0 u1 u2 : Value) : World := ((w.setCell ⟨g, 0, none⟩ u0).setCell ⟨g, 1, none⟩ u1).setCell ⟨g, 2, none⟩ u2
theorem put3_blk {w : World} {g : Nat} {t : TypeId} {a0 a1 a2 : Value} (h : w.heap[g]? = some (.cells #[a0, a1, a2] t (0, 0))) (u0 u1 u2 : Value) : (put3 w g u0 u1 u2).heap[g]? = some (.cells #[u0, u1, u2] t (0, 0)) :=
 blk_put (cs' := #[u0, u1, u2]) (blk_put (cs' := #[u0, u1, a2]) (blk_put (cs' := #[u0, a1, a2]) h 0 u0 rfl) 1 u1 rfl) 2 u2 rfl
theorem put3_below {b : Nat} {w0 w : World} (h : Below b w0 w) {g : Nat} (hg : b ≤ g) (u0 u1 u2 : Value) : Below b w0 (put3 w g u0 u1 u2) :=
 ((h.setCell (p := ⟨g, 0, none⟩) hg u0).setCell (p := ⟨g, 1, none⟩) hg u1).setCell (p := ⟨g, 2, none⟩) hg u2
end Go.Proofs.Ytackcingpffidaa.P
namespace Go.Proofs.Ytackcingpffidaa.P
open Go.RowKit Go.Proofs.YtackcingpffidaaW.PrintWords Go.Proofs.YtackcingpffidaaW.PrintLast Go.Proofs.YtackcingpffidaaW.PrintMore
attribute [local go_sem] max2_int min2_int max_two min_two max_three min_three max_four min_four Go.Proofs.YtackcingpffidaaQ.str_gtr Go.Proofs.YtackcingpffidaaQ.str_leq Go.Proofs.YtackcingpffidaaQ.str_geq   -- for this text's walks alone
set_option linter.unusedVariables false
set_option linter.unusedSimpArgs false
/-! ### varint_Decode: function 94 -/
mutual
def varint_Decode.j0 : Nat → List Int → Int → Bool → Option (Int × Int × Int)
 | 0, _, _, _ => none
 | k + 1, x0, x1, x17 => if x17 = true then (some (0, 0, 1)) else (varint_Decode.l0 k x0 x1 0 0)
def varint_Decode.l0 : Nat → List Int → Int → Int → Int → Option (Int × Int × Int)
 | 0, _, _, _, _ => none
 | k + 1, x0, x1, x7, x18 => if x18 < 10 then (if (wrap64 (x1 + x18)) ≥ (x0.length : Int) then (some (0, 0, 2)) else (if 0 ≤ (wrap64 (x1 + x18)) then (if (wrap64 (x1 + x18)) < (x0.length : Int) then (if x18 = 9 then (varint_Decode.j2 k x0 x1 x7 x18 (rd x0 (wrap64 (x1 + x18))) x18 (decide ((rd x0 (wrap64 (x1 + x18))) > 1))) else (varint_Decode.j2 k x0 x1 x7 x18 (rd x0 (wrap64 (x1 + x18))) x18 false)) else (none)) else (none))) else (some (0, 0, 4))
def varint_Decode.j2 : Nat → List Int → Int → Int → Int → Int → Int → Bool → Option (Int × Int × Int)
 | 0, _, _, _, _, _, _, _ => none
 | k + 1, x0, x1, x7, x8, x9, x18, x38 => if x38 = true then (some (0, 0, 4)) else (if 0 ≤ (wrap64 (7 * x8)) then (if x9 ≥ 128 then (varint_Decode.l0 k x0 x1 (Go.bits .or .u64 x7 (shl .u64 (IntKind.u64.wrap (Go.bits .and .u8 x9 127)) (wrap64 (7 * x8)))) (wrap64 (x18 + 1))) else (if x9 = 0 then (if x8 > 0 then (some (0, 0, 4)) else (some (Go.bits .or .u64 x7 (shl .u64 (IntKind.u64.wrap (Go.bits .and .u8 x9 127)) (wrap64 (7 * x8))), wrap64 ((wrap64 (x1 + x8)) + 1), 0))) else (some (Go.bits .or .u64 x7 (shl .u64 (IntKind.u64.wrap (Go.bits .and .u8 x9 127)) (wrap64 (7 * x8))), wrap64 ((wrap64 (x1 + x8)) + 1), 0)))) else (none))
end
def varint_Decode.f (k : Nat) (l0 : List Int) (a1 : Int) : Option (Int × Int × Int) := if a1 < 0 then (varint_Decode.j0 k l0 a1 true) else (varint_Decode.j0 k l0 a1 (decide (a1 > (l0.length : Int))))
theorem varint_Decode.mono_l : ∀ k, (∀ y0 y1 y2, LeO (varint_Decode.j0 k y0 y1 y2) (varint_Decode.j0 (k + 1) y0 y1 y2)) ∧ (∀ y0 y1 y2 y3, LeO (varint_Decode.l0 k y0 y1 y2 y3) (varint_Decode.l0 (k + 1) y0 y1 y2 y3)) ∧ (∀ y0 y1 y2 y3 y4 y5 y6, LeO (varint_Decode.j2 k y0 y1 y2 y3 y4 y5 y6) (varint_Decode.j2 (k + 1) y0 y1 y2 y3 y4 y5 y6))
 | 0 => ⟨fun _ _ _ r h => by simp [varint_Decode.j0] at h, fun _ _ _ _ r h => by simp [varint_Decode.l0] at h, fun _ _ _ _ _ _ _ r h => by simp [varint_Decode.j2] at h⟩
 | k + 1 => by
  obtain ⟨ih0, ih1, ih2⟩ := varint_Decode.mono_l k
  refine ⟨?_, ?_, ?_⟩
  ·intro y0 y1 y2
   unfold varint_Decode.j0
   repeat' first
   | (with_reducible exact ih0 _ _ _)
   | (with_reducible exact ih1 _ _ _ _)
   | (with_reducible exact ih2 _ _ _ _ _ _ _)
   | (with_reducible exact LeO.refl _)
   | (with_reducible exact LeO.none _)
   | (with_reducible refine LeO.ite ?_ ?_)
   | (with_reducible refine LeO.bind ?_ (fun _ => ?_))
   | exact ih0 _ _ _
   | exact ih1 _ _ _ _
   | exact ih2 _ _ _ _ _ _ _
   | exact LeO.none _
   | refine LeO.ite ?_ ?_
   | refine LeO.bind ?_ (fun _ => ?_)
  ·intro y0 y1 y2 y3
   unfold varint_Decode.l0
   repeat' first
   | (with_reducible exact ih0 _ _ _)
   | (with_reducible exact ih1 _ _ _ _)
   | (with_reducible exact ih2 _ _ _ _ _ _ _)
   | (with_reducible exact LeO.refl _)
   | (with_reducible exact LeO.none _)
   | (with_reducible refine LeO.ite ?_ ?_)
   | (with_reducible refine LeO.bind ?_ (fun _ => ?_))
   | exact ih0 _ _ _
   | exact ih1 _ _ _ _
   | exact ih2 _ _ _ _ _ _ _
   | exact LeO.none _
   | refine LeO.ite ?_ ?_
   | refine LeO.bind ?_ (fun _ => ?_)
  ·intro y0 y1 y2 y3 y4 y5 y6
   unfold varint_Decode.j2
   repeat' first
   | (with_reducible exact ih0 _ _ _)
   | (with_reducible exact ih1 _ _ _ _)
   | (with_reducible exact ih2 _ _ _ _ _ _ _)
   | (with_reducible exact LeO.refl _)
   | (with_reducible exact LeO.none _)
   | (with_reducible refine LeO.ite ?_ ?_)
   | (with_reducible refine LeO.bind ?_ (fun _ => ?_))
   | exact ih0 _ _ _
   | exact ih1 _ _ _ _
   | exact ih2 _ _ _ _ _ _ _
   | exact LeO.none _
   | refine LeO.ite ?_ ?_
   | refine LeO.bind ?_ (fun _ => ?_)
theorem varint_Decode.mono : ∀ a0 a1 k, LeO (varint_Decode.f k a0 a1) (varint_Decode.f (k + 1) a0 a1) := by
 intro a0 a1 k
 obtain ⟨ih0, ih1, ih2⟩ := varint_Decode.mono_l k
 unfold varint_Decode.f
 repeat' first
   | (with_reducible exact ih0 _ _ _)
   | (with_reducible exact ih1 _ _ _ _)
   | (with_reducible exact ih2 _ _ _ _ _ _ _)
   | (with_reducible exact LeO.refl _)
   | (with_reducible exact LeO.none _)
   | (with_reducible refine LeO.ite ?_ ?_)
   | (with_reducible refine LeO.bind ?_ (fun _ => ?_))
   | exact ih0 _ _ _
   | exact ih1 _ _ _ _
   | exact ih2 _ _ _ _ _ _ _
   | exact LeO.none _
   | refine LeO.ite ?_ ?_
   | refine LeO.bind ?_ (fun _ => ?_)
set_option maxHeartbeats 8000000 in
set_option maxRecDepth 100000 in
theorem varint_Decode.calls (k : Nat) (A0 : Option Addr) (c0 : Nat) (l0 : List Int) (a1 : Int) (r1 : Int) (r2 : Int) (r3 : Int) (w : World) (hr0 : Kd.C (Kd.int .u8) w A0 l0.length l0) (hc0 : l0.length ≤ c0) (h : varint_Decode.f k l0 a1 = some (r1, r2, r3)) :
  Calls Try.prog 94 #[.slice A0 l0.length c0, .int .i64 a1] w fun e w' => e = .returned (.tuple #[.int .u64 r1, .int .i64 r2, .int .i64 r3]) ∧ Drawn0 w w' := by
 have HR0 := Aside0.mk hr0
 have HC0 := Aside0.mk hc0
 clear hr0 hc0
 have H : (if a1 < 0 then (varint_Decode.j0 k l0 a1 true) else (varint_Decode.j0 k l0 a1 (decide (a1 > (l0.length : Int))))) = some (r1, r2, r3) := h
 clear h
 have HC3 := Aside0.mk H
 clear H
 go_enter Try.func94, Try.ntmps94
 go_upto_region 1 with (fail)
 go_cut [17] (fun v17 wc => ∃ (kq : Nat) (x17_2 : Bool), v17 = .bool x17_2 ∧ Aside0 (varint_Decode.j0 kq l0 a1 x17_2 = some (r1, r2, r3)) ∧ Aside0 (kq ≤ k) ∧ Drawn0 w wc)
 case first =>
  have H := HC3.out
  clear HC3
  by_cases c4 : a1 < 0
  ·rw [if_pos c4] at H
   have c4b0 : decide (a1 < 0) = true := decide_eq_true c4
   clear c4
   (first | rw [c4b0] | (simp only [i64_w, i32_w]; rw [c4b0]) | skip)
   have H' := Aside0.mk H
   clear H
   go_wp2
   go_meet
   case rel => exact ⟨_, (true), (by first | rfl | (simp; done) | (simp [*]; done)), H', ⟨by first | omega | exact Nat.le_refl _⟩, by repeat (first | exact Drawn0.refl _ | apply Drawn0.step)⟩
  ·rw [if_neg c4] at H
   have c4b0 : decide (a1 < 0) = false := decide_eq_false c4
   clear c4
   (first | rw [c4b0] | (simp only [i64_w, i32_w]; rw [c4b0]) | skip)
   have H' := Aside0.mk H
   clear H
   go_wp2
   go_meet
   case rel => exact ⟨_, (decide (a1 > (l0.length : Int))), (by first | rfl | (simp; done) | (simp [*]; done)), H', ⟨by first | omega | exact Nat.le_refl _⟩, by repeat (first | exact Drawn0.refl _ | apply Drawn0.step)⟩
 case rest =>
  clear HC3
  try clear p2
  try clear c4
  try clear c4b0
  obtain ⟨kq, x17_2, rfl, HA, HJ2, ⟨mc2, rfl⟩⟩ := hcut
  cases kq with
  | zero => exact absurd HA.out (by simp [varint_Decode.j0])
  | succ kj2 =>
   have H := HA.out
   clear HA
   simp only [varint_Decode.j0] at H
   by_cases c5 : x17_2 = true
   ·subst c5
    have H1 : (some (0, 0, 1)) = some (r1, r2, r3) := by rw [if_pos rfl] at H; exact H
    clear H
    have H := H1
    clear H1
    simp only [Option.some.injEq, Prod.mk.injEq] at H
    obtain ⟨rfl, rfl, rfl⟩ := H
    go_wp2
    go_ret3
    exact ⟨by first | rfl | (simp; done) | (simp [*]; done), by repeat (first | exact Drawn0.refl _ | apply Drawn0.step)⟩
   ·replace c5 := Bool.eq_false_iff.mpr c5
    subst c5
    have H1 : (varint_Decode.l0 kj2 l0 a1 0 0) = some (r1, r2, r3) := by rw [if_neg (show ¬ (false = true) by decide)] at H; exact H
    clear H
    have H := H1
    clear H1
    have H' := Aside0.mk H
    clear H
    go_wp2
    go_loopg [7, 18] kj2 (fun kq v7 v18 w' => ∃ (x7_2 : Int) (x18_2 : Int), v7 = .int .u64 x7_2 ∧ v18 = .int .i64 x18_2 ∧ Aside0 (varint_Decode.l0 kq l0 a1 x7_2 x18_2 = some (r1, r2, r3)) ∧ Aside0 (kq ≤ kj2) ∧ Drawn0 w w')
    case atStart => exact ⟨(0), (0), (by first | rfl | (simp; done) | (simp [*]; done)), (by first | rfl | (simp; done) | (simp [*]; done)), H', ⟨Nat.le_refl _⟩, by repeat (first | exact Drawn0.refl _ | apply Drawn0.step)⟩
    case round =>
     clear H'
     try clear c2
     try clear p2
     try clear c4
     try clear c4b0
     try clear c5
     try clear p2
     obtain ⟨x7_2, x18_2, rfl, rfl, HA, HK2, ⟨m2, rfl⟩⟩ := hrel
     cases gk with
     | zero => exact absurd HA.out (by simp [varint_Decode.l0])
     | succ k2 =>
      have H := HA.out
      clear HA
      simp only [varint_Decode.l0] at H
      by_cases c6 : x18_2 < 10
      ·rw [if_pos c6] at H
       have c6b0 : decide (x18_2 < 10) = true := decide_eq_true c6
       clear c6
       by_cases c7 : (wrap64 (a1 + x18_2)) ≥ (l0.length : Int)
       ·rw [if_pos c7] at H
        have c7b0 : decide ((l0.length : Int) ≤ (wrap64 (a1 + x18_2))) = true := decide_eq_true c7
        clear c7
        simp only [Option.some.injEq, Prod.mk.injEq] at H
        obtain ⟨rfl, rfl, rfl⟩ := H
        go_wp2
        go_ret3
        exact ⟨by first | rfl | (simp; done) | (simp [*]; done), by repeat (first | exact Drawn0.refl _ | apply Drawn0.step)⟩
       ·rw [if_neg c7] at H
        have c7b0 : decide ((l0.length : Int) ≤ (wrap64 (a1 + x18_2))) = false := decide_eq_false c7
        clear c7
        obtain ⟨ji8, hji8⟩ : ∃ j_ : Int, (wrap64 (a1 + x18_2)) = j_ := ⟨_, rfl⟩
        replace H : (if 0 ≤ (ji8) then (if (ji8) < (l0.length : Int) then (if x18_2 = 9 then (varint_Decode.j2 k2 l0 a1 x7_2 x18_2 (rd l0 (ji8)) x18_2 (decide ((rd l0 (ji8)) > 1))) else (varint_Decode.j2 k2 l0 a1 x7_2 x18_2 (rd l0 (ji8)) x18_2 false)) else (none)) else (none)) = some (r1, r2, r3) := by first | (rw [hji8] at H; exact H) | (simp only [hji8] at H ⊢; exact H)
        (try rw [hji8] at c7b0)
        have hji8w : (IntKind.i64.wrap (a1 + x18_2)) = ji8 := (i64_w _).trans hji8
        by_cases c9 : 0 ≤ (ji8)
        ·rw [if_pos c9] at H
         have c9b0 : decide (0 ≤ (ji8)) = true := decide_eq_true c9
         clear c9
         by_cases c10 : (ji8) < (l0.length : Int)
         ·rw [if_pos c10] at H
          have c10b0 : decide ((ji8) < (l0.length : Int)) = true := decide_eq_true c10
          clear c10
          have HC11 := Aside0.mk H
          clear H
          have p405 : 0 ≤ ((ji8) : Int) := of_decide_eq_true (by first | (with_reducible assumption) | assumption)
          have q405 : (ji8) < (l0.length : Int) := of_decide_eq_true (by first | (with_reducible assumption) | assumption)
          obtain ⟨ad405, e405, hx405_0⟩ := Kd.at_int HR0.out (ji8) p405 q405
          cases e405
          replace p405 := eq_true p405
          replace q405 := eq_true q405
          go_upto_region 10 with (fail)
          go_cut [38] (fun v38 wc => ∃ (kq : Nat) (x38_10 : Bool), v38 = .bool x38_10 ∧ Aside0 (varint_Decode.j2 kq l0 a1 x7_2 x18_2 (rd l0 (ji8)) x18_2 x38_10 = some (r1, r2, r3)) ∧ Aside0 (kq ≤ k2) ∧ Drawn0 w wc)
          case first =>
           have H := HC11.out
           clear HC11
           by_cases c12 : x18_2 = 9
           ·rw [if_pos c12] at H
            have c12b0 : (x18_2 == 9) = true := beq_iff_eq.mpr c12
            have c12b1 : (x18_2 != 9) = false := bne_eq_false_iff_eq.mpr c12
            clear c12
            (first | rw [c12b0] | (simp only [i64_w, i32_w]; rw [c12b0]) | skip)
            have H' := Aside0.mk H
            clear H
            go_wp2
            go_meet
            case rel => exact ⟨_, (decide ((rd l0 (ji8)) > 1)), (by first | rfl | (simp; done) | (simp only [← hji8] <;> (first | rfl | simp)) | (simp [*]; done)), H', ⟨by have := HJ2.out; have := HK2.out; first | omega | exact Nat.le_refl _⟩, by repeat (first | exact Drawn0.refl _ | apply Drawn0.step)⟩
           ·rw [if_neg c12] at H
            have c12b0 : (x18_2 == 9) = false := beq_eq_false_iff_ne.mpr c12
            have c12b1 : (x18_2 != 9) = true := bne_iff_ne.mpr c12
            (first | rw [c12b0] | (simp only [i64_w, i32_w]; rw [c12b0]) | skip)
            have H' := Aside0.mk H
            clear H
            go_wp2
            go_meet
            case rel => exact ⟨_, (false), (by first | rfl | (simp; done) | (simp [*]; done)), H', ⟨by have := HJ2.out; have := HK2.out; first | omega | exact Nat.le_refl _⟩, by repeat (first | exact Drawn0.refl _ | apply Drawn0.step)⟩
          case rest =>
           clear HC11
           try clear c1
           try clear c2
           try clear p2
           try clear c4
           try clear c4b0
           try clear p4
           try clear q4
           try clear hx4
           try clear c5
           try clear c6
           try clear c6b0
           try clear p6
           try clear c7
           try clear c7b0
           try clear c9
           try clear c9b0
           try clear c10
           try clear c10b0
           try clear c12
           try clear c12b0
           try clear c12b1
           try clear hx405_0
           try clear p2
           try clear p405
           try clear q405
           obtain ⟨kq, x38_10, rfl, HA, HJ10, ⟨mc10, rfl⟩⟩ := hcut
           cases kq with
           | zero => exact absurd HA.out (by simp [varint_Decode.j2])
           | succ kj10 =>
            have H := HA.out
            clear HA
            simp only [varint_Decode.j2] at H
            by_cases c13 : x38_10 = true
            ·subst c13
             have H1 : (some (0, 0, 4)) = some (r1, r2, r3) := by rw [if_pos rfl] at H; exact H
             clear H
             have H := H1
             clear H1
             simp only [Option.some.injEq, Prod.mk.injEq] at H
             obtain ⟨rfl, rfl, rfl⟩ := H
             go_wp2
             go_ret3
             exact ⟨by first | rfl | (simp; done) | (simp only [← hji8] <;> (first | rfl | simp)) | (simp [*]; done), by repeat (first | exact Drawn0.refl _ | apply Drawn0.step)⟩
            ·replace c13 := Bool.eq_false_iff.mpr c13
             subst c13
             have H1 : (if 0 ≤ (wrap64 (7 * x18_2)) then (if (rd l0 (ji8)) ≥ 128 then (varint_Decode.l0 kj10 l0 a1 (Go.bits .or .u64 x7_2 (shl .u64 (IntKind.u64.wrap (Go.bits .and .u8 (rd l0 (ji8)) 127)) (wrap64 (7 * x18_2)))) (wrap64 (x18_2 + 1))) else (if (rd l0 (ji8)) = 0 then (if x18_2 > 0 then (some (0, 0, 4)) else (some (Go.bits .or .u64 x7_2 (shl .u64 (IntKind.u64.wrap (Go.bits .and .u8 (rd l0 (ji8)) 127)) (wrap64 (7 * x18_2))), wrap64 ((wrap64 (a1 + x18_2)) + 1), 0))) else (some (Go.bits .or .u64 x7_2 (shl .u64 (IntKind.u64.wrap (Go.bits .and .u8 (rd l0 (ji8)) 127)) (wrap64 (7 * x18_2))), wrap64 ((wrap64 (a1 + x18_2)) + 1), 0)))) else (none)) = some (r1, r2, r3) := by rw [if_neg (show ¬ (false = true) by decide)] at H; exact H
             clear H
             have H := H1
             clear H1
             obtain ⟨ji14, hji14⟩ : ∃ j_ : Int, (wrap64 (7 * x18_2)) = j_ := ⟨_, rfl⟩
             replace H : (if 0 ≤ (ji14) then (if (rd l0 (ji8)) ≥ 128 then (varint_Decode.l0 kj10 l0 a1 (Go.bits .or .u64 x7_2 (shl .u64 (IntKind.u64.wrap (Go.bits .and .u8 (rd l0 (ji8)) 127)) (ji14))) (wrap64 (x18_2 + 1))) else (if (rd l0 (ji8)) = 0 then (if x18_2 > 0 then (some (0, 0, 4)) else (some (Go.bits .or .u64 x7_2 (shl .u64 (IntKind.u64.wrap (Go.bits .and .u8 (rd l0 (ji8)) 127)) (ji14)), wrap64 ((wrap64 (a1 + x18_2)) + 1), 0))) else (some (Go.bits .or .u64 x7_2 (shl .u64 (IntKind.u64.wrap (Go.bits .and .u8 (rd l0 (ji8)) 127)) (ji14)), wrap64 ((wrap64 (a1 + x18_2)) + 1), 0)))) else (none)) = some (r1, r2, r3) := by first | (rw [hji14] at H; exact H) | (simp only [hji14] at H ⊢; exact H)
             have hji14w : (IntKind.i64.wrap (7 * x18_2)) = ji14 := (i64_w _).trans hji14
             by_cases c15 : 0 ≤ (ji14)
             ·rw [if_pos c15] at H
              have c15b0 := eq_true c15
              have c15b1 : decide (0 ≤ (ji14)) = true := decide_eq_true c15
              clear c15
              obtain ⟨ji16, hji16⟩ : ∃ j_ : Int, (shl .u64 (IntKind.u64.wrap (Go.bits .and .u8 (rd l0 (ji8)) 127)) (ji14)) = j_ := ⟨_, rfl⟩
              replace H : (if (rd l0 (ji8)) ≥ 128 then (varint_Decode.l0 kj10 l0 a1 (Go.bits .or .u64 x7_2 (ji16)) (wrap64 (x18_2 + 1))) else (if (rd l0 (ji8)) = 0 then (if x18_2 > 0 then (some (0, 0, 4)) else (some (Go.bits .or .u64 x7_2 (ji16), wrap64 ((wrap64 (a1 + x18_2)) + 1), 0))) else (some (Go.bits .or .u64 x7_2 (ji16), wrap64 ((wrap64 (a1 + x18_2)) + 1), 0)))) = some (r1, r2, r3) := by first | (rw [hji16] at H; exact H) | (simp only [hji16] at H ⊢; exact H)
              have hji16_ : (IntKind.u64.wrap ((IntKind.u64.wrap (Go.bits .and .u8 (rd l0 (ji8)) 127)) * 2 ^ min (ji14).toNat 64)) = ji16 := hji16
              have hji16z : (ji14) ≤ 64 → (IntKind.u64.wrap ((IntKind.u64.wrap (Go.bits .and .u8 (rd l0 (ji8)) 127)) * 2 ^ (ji14).toNat)) = ji16 := shl_small hji16
              by_cases c17 : (rd l0 (ji8)) ≥ 128
              ·rw [if_pos c17] at H
               have c17b0 : decide (128 ≤ (rd l0 (ji8))) = true := decide_eq_true c17
               clear c17
               have H' := Aside0.mk H
               clear H
               go_wp2
               go_roundg kj10
               case measure => have := HJ2.out; have := HK2.out; have := HJ10.out; omega
               case rel => exact ⟨(Go.bits .or .u64 x7_2 (ji16)), (wrap64 (x18_2 + 1)), (by first | rfl | (simp; done) | (simp only [← hji16] <;> (first | rfl | simp)) | (simp [*]; done)), (by first | rfl | (simp; done) | (simp [*]; done)), H', ⟨by have := HJ2.out; have := HK2.out; have := HJ10.out; omega⟩, by repeat (first | exact Drawn0.refl _ | apply Drawn0.step)⟩
              ·rw [if_neg c17] at H
               have c17b0 : decide (128 ≤ (rd l0 (ji8))) = false := decide_eq_false c17
               clear c17
               by_cases c18 : (rd l0 (ji8)) = 0
               ·rw [if_pos c18] at H
                have c18b0 : ((rd l0 (ji8)) == 0) = true := beq_iff_eq.mpr c18
                have c18b1 : ((rd l0 (ji8)) != 0) = false := bne_eq_false_iff_eq.mpr c18
                clear c18
                by_cases c19 : x18_2 > 0
                ·rw [if_pos c19] at H
                 have c19b0 : decide (0 < x18_2) = true := decide_eq_true c19
                 clear c19
                 simp only [Option.some.injEq, Prod.mk.injEq] at H
                 obtain ⟨rfl, rfl, rfl⟩ := H
                 go_wp2
                 go_ret3
                 exact ⟨by first | rfl | (simp; done) | (simp only [← hji8, ← hji14, ← hji16] <;> (first | rfl | simp)) | (simp [*]; done), by repeat (first | exact Drawn0.refl _ | apply Drawn0.step)⟩
                ·rw [if_neg c19] at H
                 have c19b0 : decide (0 < x18_2) = false := decide_eq_false c19
                 clear c19
                 simp only [Option.some.injEq, Prod.mk.injEq] at H
                 obtain ⟨rfl, rfl, rfl⟩ := H
                 go_wp2
                 go_ret3
                 exact ⟨by first | rfl | (simp; done) | (simp only [← hji8, ← hji14, ← hji16] <;> (first | rfl | simp)) | (simp [*]; done), by repeat (first | exact Drawn0.refl _ | apply Drawn0.step)⟩
               ·rw [if_neg c18] at H
                have c18b0 : ((rd l0 (ji8)) == 0) = false := beq_eq_false_iff_ne.mpr c18
                have c18b1 : ((rd l0 (ji8)) != 0) = true := bne_iff_ne.mpr c18
                simp only [Option.some.injEq, Prod.mk.injEq] at H
                obtain ⟨rfl, rfl, rfl⟩ := H
                go_wp2
                go_ret3
                exact ⟨by first | rfl | (simp; done) | (simp only [← hji8, ← hji14, ← hji16] <;> (first | rfl | simp)) | (simp [*]; done), by repeat (first | exact Drawn0.refl _ | apply Drawn0.step)⟩
             ·rw [if_neg c15] at H
              exact absurd H (by simp)
         ·rw [if_neg c10] at H
          exact absurd H (by simp)
        ·rw [if_neg c9] at H
         exact absurd H (by simp)
      ·rw [if_neg c6] at H
       have c6b0 : decide (x18_2 < 10) = false := decide_eq_false c6
       clear c6
       simp only [Option.some.injEq, Prod.mk.injEq] at H
       obtain ⟨rfl, rfl, rfl⟩ := H
       go_wp2
       go_ret3
       exact ⟨by first | rfl | (simp; done) | (simp [*]; done), by repeat (first | exact Drawn0.refl _ | apply Drawn0.step)⟩
/-! ### varint_UnZigZag: function 95 -/
def varint_UnZigZag.f (a0 : Int) : Option (Int) := some (Go.bits .xor .i64 (wrap64 (a0 / 2)) (wrap64 (-(wrap64 (Go.bits .and .u64 a0 1)))))
set_option maxHeartbeats 8000000 in
set_option maxRecDepth 100000 in
theorem varint_UnZigZag.calls (a0 : Int) (r : Int) (w : World) (h : varint_UnZigZag.f a0 = some r) :
  Calls Try.prog 95 #[.int .u64 a0] w fun e w' => e = .returned (.int .i64 r) ∧ Drawn0 w w' := by
 have H : (some (Go.bits .xor .i64 (wrap64 (a0 / 2)) (wrap64 (-(wrap64 (Go.bits .and .u64 a0 1)))))) = some r := h
 clear h
 obtain rfl := Option.some.inj H
 go_enter Try.func95, Try.ntmps95
 go_wp2
 go_ret
 exact ⟨by first | rfl | (simp; done) | (simp [*]; done), by repeat (first | exact Drawn0.refl _ | apply Drawn0.step)⟩
/-! ### value_decodeText: function 96 -/
def value_decodeText.f (k : Nat) (l0 : List Int) (a1 : Int) : Option (Int × Int × ByteArray × Int × Int) := (varint_Decode.f k l0 a1).bind fun bt407 => (if bt407.2.2 = 0 then (if bt407.1 > 4096 then (some (0, 0, (⟨#[]⟩ : ByteArray), 0, 3)) else (if (wrap64 (bt407.1)) > (wrap64 ((l0.length : Int) - bt407.2.1)) then (some (0, 0, (⟨#[]⟩ : ByteArray), 0, 2)) else (if 0 ≤ bt407.2.1 then (if bt407.2.1 ≤ (wrap64 (bt407.2.1 + (wrap64 (bt407.1)))) then (if (wrap64 (bt407.2.1 + (wrap64 (bt407.1)))) ≤ (l0.length : Int) then (some (3, 0, strOfNums ((l0.take ((wrap64 (bt407.2.1 + (wrap64 (bt407.1)))) : Int).toNat).drop (bt407.2.1 : Int).toNat), wrap64 (bt407.2.1 + (wrap64 (bt407.1))), 0)) else (none)) else (none)) else (none)))) else (some (0, 0, (⟨#[]⟩ : ByteArray), 0, bt407.2.2)))
theorem value_decodeText.mono : ∀ a0 a1 k, LeO (value_decodeText.f k a0 a1) (value_decodeText.f (k + 1) a0 a1) := by
 intro a0 a1 k
 unfold value_decodeText.f
 repeat' first
   | (with_reducible exact varint_Decode.mono _ _ _)
   | (with_reducible exact LeO.refl _)
   | (with_reducible exact LeO.none _)
   | (with_reducible refine LeO.ite ?_ ?_)
   | (with_reducible refine LeO.bind ?_ (fun _ => ?_))
   | exact varint_Decode.mono _ _ _
   | exact LeO.none _
   | refine LeO.ite ?_ ?_
   | refine LeO.bind ?_ (fun _ => ?_)
set_option maxHeartbeats 8000000 in
set_option maxRecDepth 100000 in
theorem value_decodeText.calls (k : Nat) (A0 : Option Addr) (c0 : Nat) (l0 : List Int) (a1 : Int) (r1 : Int) (r2 : Int) (r3 : ByteArray) (r4 : Int) (r5 : Int) (w : World) (hr0 : Kd.C (Kd.int .u8) w A0 l0.length l0) (hc0 : l0.length ≤ c0) (h : value_decodeText.f k l0 a1 = some (r1, r2, r3, r4, r5)) :
  Calls Try.prog 96 #[.slice A0 l0.length c0, .int .i64 a1] w fun e w' => e = .returned (.tuple #[.agg #[.int .i64 r1, .int .i64 r2, .string r3], .int .i64 r4, .int .i64 r5]) ∧ Below w.heap.size w w' := by
 have hu39 := Try.underlying39
 have HR0 := Aside0.mk hr0
 have HC0 := Aside0.mk hc0
 clear hr0 hc0
 have HB := Aside0.mk (Below.refl w.heap.size w)
 have H : ((varint_Decode.f k l0 a1).bind fun bt407 => (if bt407.2.2 = 0 then (if bt407.1 > 4096 then (some (0, 0, (⟨#[]⟩ : ByteArray), 0, 3)) else (if (wrap64 (bt407.1)) > (wrap64 ((l0.length : Int) - bt407.2.1)) then (some (0, 0, (⟨#[]⟩ : ByteArray), 0, 2)) else (if 0 ≤ bt407.2.1 then (if bt407.2.1 ≤ (wrap64 (bt407.2.1 + (wrap64 (bt407.1)))) then (if (wrap64 (bt407.2.1 + (wrap64 (bt407.1)))) ≤ (l0.length : Int) then (some (3, 0, strOfNums ((l0.take ((wrap64 (bt407.2.1 + (wrap64 (bt407.1)))) : Int).toNat).drop (bt407.2.1 : Int).toNat), wrap64 (bt407.2.1 + (wrap64 (bt407.1))), 0)) else (none)) else (none)) else (none)))) else (some (0, 0, (⟨#[]⟩ : ByteArray), 0, bt407.2.2)))) = some (r1, r2, r3, r4, r5) := h
 clear h
 replace H := Option.bind_eq_some_iff.mp H
 obtain ⟨⟨t407, t408, t409⟩, A30, H⟩ := H
 replace H : (if t409 = 0 then (if t407 > 4096 then (some (0, 0, (⟨#[]⟩ : ByteArray), 0, 3)) else (if (wrap64 (t407)) > (wrap64 ((l0.length : Int) - t408)) then (some (0, 0, (⟨#[]⟩ : ByteArray), 0, 2)) else (if 0 ≤ t408 then (if t408 ≤ (wrap64 (t408 + (wrap64 (t407)))) then (if (wrap64 (t408 + (wrap64 (t407)))) ≤ (l0.length : Int) then (some (3, 0, strOfNums ((l0.take ((wrap64 (t408 + (wrap64 (t407)))) : Int).toNat).drop (t408 : Int).toNat), wrap64 (t408 + (wrap64 (t407))), 0)) else (none)) else (none)) else (none)))) else (some (0, 0, (⟨#[]⟩ : ByteArray), 0, t409))) = some (r1, r2, r3, r4, r5) := H
 have A3 := Aside0.mk A30
 clear A30
 by_cases c4 : t409 = 0
 ·rw [if_pos c4] at H
  have c4b0 : (t409 == 0) = true := beq_iff_eq.mpr c4
  have c4b1 : (t409 != 0) = false := bne_eq_false_iff_eq.mpr c4
  clear c4
  by_cases c5 : t407 > 4096
  ·rw [if_pos c5] at H
   have c5b0 : decide (4096 < t407) = true := decide_eq_true c5
   clear c5
   simp only [Option.some.injEq, Prod.mk.injEq] at H
   obtain ⟨rfl, rfl, rfl, rfl, rfl⟩ := H
   go_enter Try.func96, Try.ntmps96
   go_wp2_with (first | ((with_reducible refine gate_dst (N := 4) rfl ?_); refine box_ 4 (cs := #[.int .i64 0, .int .i64 0, .string (⟨#[]⟩ : ByteArray)]) (t := 39) ?_; intro gb406 hg w6 hbox hb; have BK406 := Aside0.mk (hbox); have GW406 := Aside0.mk ((by rw [hg]; exact (below_size (hb_ HB.out)) : w.heap.size ≤ gb406)); have GE406 := Aside0.mk ((by rw [hg]; exact (below_size (hb_ HB.out)) : w.heap.size ≤ gb406)); replace HB := Aside0.mk (below_step (hb_ HB.out) hb); clear hb hbox hg) | ((with_reducible refine gate_callee (f := 94) rfl ?_); refine goesL_ (some 13) rfl rfl Try.func94 (by kernel_rfl) rfl #[.slice A0 l0.length c0, .int .i64 a1] rfl (by (try simp only [List.map_toArray, List.map_cons, List.map_nil]); first | done | rfl | (simp only [List.length_drop, List.length_take]; rfl) | (simp only [Int.ofNat_lt, Int.ofNat_le, gt_iff_lt, ge_iff_le]; rfl)) ?_; (with_reducible refine (varint_Decode.calls k _ _ l0 a1 t407 t408 t409 _ ?side1 ?side2 A3.out).mono ?_); (case side1 => exact cb_ HR0.out HB.out); (case side2 => exact HC0.out); rintro e w' ⟨rfl, ⟨nd, rfl⟩⟩; refine ⟨_, rfl, ?_⟩; (try (rw [drewN_self w6]; generalize hq_ : World.drewN w6 _ = w6; have n0_ : Aside0 (w6.heap[gb406]? = some (.cells #[.int .i64 0, .int .i64 0, .string (⟨#[]⟩ : ByteArray)] 39 (0, 0))) := ⟨by rw [← hq_]; exact (bk_ BK406.out)⟩; have n1_ : Aside0 (Below w.heap.size w w6) := ⟨by rw [← hq_]; exact (hb1_ HB.out GE406.out)⟩; clear BK406 HB hq_; have BK406 := n0_; have HB := n1_; clear n0_ n1_)); obtain ⟨hcz7_0, hcz7_1, hcz7_2, hfz7_0, hfz7_1, hfz7_2⟩ := bf3 BK406.out))
   refine bodyPost_ret (results_ctt rfl _ _ gb406 39 #[.int .i64 0, .int .i64 0, .string (⟨#[]⟩ : ByteArray)] (0, 0) _ rfl (by (with_reducible repeat (first | refine blk_drewN ?_ _ | refine blk_drew ?_ | refine blk_alloc ?_ _)); refine blk_put (cs := #[.int .i64 0, .int .i64 0, .string (⟨#[]⟩ : ByteArray)]) ?_ 2 _ rfl; (with_reducible repeat (first | refine blk_drewN ?_ _ | refine blk_drew ?_ | refine blk_alloc ?_ _)); refine blk_put (cs := #[.int .i64 0, .int .i64 0, .string (⟨#[]⟩ : ByteArray)]) ?_ 1 _ rfl; (with_reducible repeat (first | refine blk_drewN ?_ _ | refine blk_drew ?_ | refine blk_alloc ?_ _)); refine blk_put (cs := #[.int .i64 0, .int .i64 0, .string (⟨#[]⟩ : ByteArray)]) ?_ 0 _ rfl; (with_reducible repeat (first | refine blk_drewN ?_ _ | refine blk_drew ?_ | refine blk_alloc ?_ _)); exact BK406.out) Try.underlying39 rfl (by kernel_rfl)) rfl ?_
   exact er_ ((hb1_ HB.out GE406.out))
  ·rw [if_neg c5] at H
   have c5b0 : decide (4096 < t407) = false := decide_eq_false c5
   clear c5
   by_cases c8 : (wrap64 (t407)) > (wrap64 ((l0.length : Int) - t408))
   ·rw [if_pos c8] at H
    have c8b0 : decide ((wrap64 ((l0.length : Int) - t408)) < (wrap64 (t407))) = true := decide_eq_true c8
    clear c8
    simp only [Option.some.injEq, Prod.mk.injEq] at H
    obtain ⟨rfl, rfl, rfl, rfl, rfl⟩ := H
    go_enter Try.func96, Try.ntmps96
    go_wp2_with (first | ((with_reducible refine gate_dst (N := 4) rfl ?_); refine box_ 4 (cs := #[.int .i64 0, .int .i64 0, .string (⟨#[]⟩ : ByteArray)]) (t := 39) ?_; intro gb406 hg w9 hbox hb; have BK406 := Aside0.mk (hbox); have GW406 := Aside0.mk ((by rw [hg]; exact (below_size (hb_ HB.out)) : w.heap.size ≤ gb406)); have GE406 := Aside0.mk ((by rw [hg]; exact (below_size (hb_ HB.out)) : w.heap.size ≤ gb406)); replace HB := Aside0.mk (below_step (hb_ HB.out) hb); clear hb hbox hg) | ((with_reducible refine gate_callee (f := 94) rfl ?_); refine goesL_ (some 13) rfl rfl Try.func94 (by kernel_rfl) rfl #[.slice A0 l0.length c0, .int .i64 a1] rfl (by (try simp only [List.map_toArray, List.map_cons, List.map_nil]); first | done | rfl | (simp only [List.length_drop, List.length_take]; rfl) | (simp only [Int.ofNat_lt, Int.ofNat_le, gt_iff_lt, ge_iff_le]; rfl)) ?_; (with_reducible refine (varint_Decode.calls k _ _ l0 a1 t407 t408 t409 _ ?side1 ?side2 A3.out).mono ?_); (case side1 => exact cb_ HR0.out HB.out); (case side2 => exact HC0.out); rintro e w' ⟨rfl, ⟨nd, rfl⟩⟩; refine ⟨_, rfl, ?_⟩; (try (rw [drewN_self w9]; generalize hq_ : World.drewN w9 _ = w9; have n0_ : Aside0 (w9.heap[gb406]? = some (.cells #[.int .i64 0, .int .i64 0, .string (⟨#[]⟩ : ByteArray)] 39 (0, 0))) := ⟨by rw [← hq_]; exact (bk_ BK406.out)⟩; have n1_ : Aside0 (Below w.heap.size w w9) := ⟨by rw [← hq_]; exact (hb1_ HB.out GE406.out)⟩; clear BK406 HB hq_; have BK406 := n0_; have HB := n1_; clear n0_ n1_)); obtain ⟨hcz10_0, hcz10_1, hcz10_2, hfz10_0, hfz10_1, hfz10_2⟩ := bf3 BK406.out))
    refine bodyPost_ret (results_ctt rfl _ _ gb406 39 #[.int .i64 0, .int .i64 0, .string (⟨#[]⟩ : ByteArray)] (0, 0) _ rfl (by (with_reducible repeat (first | refine blk_drewN ?_ _ | refine blk_drew ?_ | refine blk_alloc ?_ _)); refine blk_put (cs := #[.int .i64 0, .int .i64 0, .string (⟨#[]⟩ : ByteArray)]) ?_ 2 _ rfl; (with_reducible repeat (first | refine blk_drewN ?_ _ | refine blk_drew ?_ | refine blk_alloc ?_ _)); refine blk_put (cs := #[.int .i64 0, .int .i64 0, .string (⟨#[]⟩ : ByteArray)]) ?_ 1 _ rfl; (with_reducible repeat (first | refine blk_drewN ?_ _ | refine blk_drew ?_ | refine blk_alloc ?_ _)); refine blk_put (cs := #[.int .i64 0, .int .i64 0, .string (⟨#[]⟩ : ByteArray)]) ?_ 0 _ rfl; (with_reducible repeat (first | refine blk_drewN ?_ _ | refine blk_drew ?_ | refine blk_alloc ?_ _)); exact BK406.out) Try.underlying39 rfl (by kernel_rfl)) rfl ?_
    exact er_ ((hb1_ HB.out GE406.out))
   ·rw [if_neg c8] at H
    have c8b0 : decide ((wrap64 ((l0.length : Int) - t408)) < (wrap64 (t407))) = false := decide_eq_false c8
    clear c8
    by_cases c11 : 0 ≤ t408
    ·rw [if_pos c11] at H
     have c11b0 := eq_true c11
     have c11b1 : decide (0 ≤ t408) = true := decide_eq_true c11
     clear c11
     by_cases c12 : t408 ≤ (wrap64 (t408 + (wrap64 (t407))))
     ·rw [if_pos c12] at H
      have c12b0 := eq_true c12
      have c12b1 : decide (t408 ≤ (wrap64 (t408 + (wrap64 (t407))))) = true := decide_eq_true c12
      by_cases c13 : (wrap64 (t408 + (wrap64 (t407)))) ≤ (l0.length : Int)
      ·rw [if_pos c13] at H
       have c13b0 := eq_true c13
       have c13b1 : decide ((wrap64 (t408 + (wrap64 (t407)))) ≤ (l0.length : Int)) = true := decide_eq_true c13
       simp only [Option.some.injEq, Prod.mk.injEq] at H
       obtain ⟨rfl, rfl, rfl, rfl, rfl⟩ := H
       go_enter Try.func96, Try.ntmps96
       go_wp2_with (first | ((with_reducible refine gate_dst (N := 4) rfl ?_); refine box_ 4 (cs := #[.int .i64 0, .int .i64 0, .string (⟨#[]⟩ : ByteArray)]) (t := 39) ?_; intro gb406 hg w14 hbox hb; have BK406 := Aside0.mk (hbox); have GW406 := Aside0.mk ((by rw [hg]; exact (below_size (hb_ HB.out)) : w.heap.size ≤ gb406)); have GE406 := Aside0.mk ((by rw [hg]; exact (below_size (hb_ HB.out)) : w.heap.size ≤ gb406)); replace HB := Aside0.mk (below_step (hb_ HB.out) hb); clear hb hbox hg) | ((with_reducible refine gate_callee (f := 94) rfl ?_); refine goesL_ (some 13) rfl rfl Try.func94 (by kernel_rfl) rfl #[.slice A0 l0.length c0, .int .i64 a1] rfl (by (try simp only [List.map_toArray, List.map_cons, List.map_nil]); first | done | rfl | (simp only [List.length_drop, List.length_take]; rfl) | (simp only [Int.ofNat_lt, Int.ofNat_le, gt_iff_lt, ge_iff_le]; rfl)) ?_; (with_reducible refine (varint_Decode.calls k _ _ l0 a1 t407 t408 t409 _ ?side1 ?side2 A3.out).mono ?_); (case side1 => exact cb_ HR0.out HB.out); (case side2 => exact HC0.out); rintro e w' ⟨rfl, ⟨nd, rfl⟩⟩; refine ⟨_, rfl, ?_⟩; (try (rw [drewN_self w14]; generalize hq_ : World.drewN w14 _ = w14; have n0_ : Aside0 (w14.heap[gb406]? = some (.cells #[.int .i64 0, .int .i64 0, .string (⟨#[]⟩ : ByteArray)] 39 (0, 0))) := ⟨by rw [← hq_]; exact (bk_ BK406.out)⟩; have n1_ : Aside0 (Below w.heap.size w w14) := ⟨by rw [← hq_]; exact (hb1_ HB.out GE406.out)⟩; clear BK406 HB hq_; have BK406 := n0_; have HB := n1_; clear n0_ n1_)); obtain ⟨i015, hi015, _, hsz15, _⟩ := info_parts info5; obtain ⟨A15, hcut15, hA15, hC15⟩ := print_mid_of (P := Try.prog) (Value.int .u8) 0 27 5 .i64 .i64 Try.underlying27 hi015 hsz15 A0 c0 l0 t408 (wrap64 (t408 + (wrap64 (t407)))) (of_decide_eq_true (by first | (with_reducible assumption) | assumption)) (by first | omega | exact of_decide_eq_true (by first | (with_reducible assumption) | assumption)) (of_decide_eq_true (by first | (with_reducible assumption) | assumption)) HC0.out; have HR410 := Aside0.mk (Kd.C_of_reads (h1 := fun _ => rfl) (hA15 _ (Kd.reads_of_C HR0.out))); have HC410 := Aside0.mk hC15; clear hA15 hC15 hi015 hsz15; have hcv16 := Kd.C_string (P := Try.prog) (A := A15) (c := (c0 - t408.toNat)) Try.underlying27 Try.underlying5 Try.underlying9 (Kd.C_below HR410.out HB.out); (try rw [show ((l0.take (((wrap64 (t408 + (wrap64 (t407))))) : Int).toNat).drop ((t408) : Int).toNat).length = (((wrap64 (t408 + (wrap64 (t407))))) : Int).toNat - ((t408) : Int).toNat from by (rw [List.length_drop, List.length_take]; omega)] at hcv16); obtain ⟨hcz17_0, hcz17_1, hcz17_2, hfz17_0, hfz17_1, hfz17_2⟩ := bf3 BK406.out))
       refine bodyPost_ret (results_ctt rfl _ _ gb406 39 #[.int .i64 3, .int .i64 0, .string (strOfNums ((l0.take ((wrap64 (t408 + (wrap64 (t407)))) : Int).toNat).drop (t408 : Int).toNat))] (0, 0) _ rfl (by (with_reducible repeat (first | refine blk_drewN ?_ _ | refine blk_drew ?_ | refine blk_alloc ?_ _)); refine blk_put (cs := #[.int .i64 3, .int .i64 0, .string (⟨#[]⟩ : ByteArray)]) ?_ 2 _ rfl; (with_reducible repeat (first | refine blk_drewN ?_ _ | refine blk_drew ?_ | refine blk_alloc ?_ _)); refine blk_put (cs := #[.int .i64 3, .int .i64 0, .string (⟨#[]⟩ : ByteArray)]) ?_ 1 _ rfl; (with_reducible repeat (first | refine blk_drewN ?_ _ | refine blk_drew ?_ | refine blk_alloc ?_ _)); refine blk_put (cs := #[.int .i64 0, .int .i64 0, .string (⟨#[]⟩ : ByteArray)]) ?_ 0 _ rfl; (with_reducible repeat (first | refine blk_drewN ?_ _ | refine blk_drew ?_ | refine blk_alloc ?_ _)); exact BK406.out) Try.underlying39 rfl (by kernel_rfl)) rfl ?_
       exact er_ ((hb1_ HB.out GE406.out))
      ·rw [if_neg c13] at H
       exact absurd H (by simp)
     ·rw [if_neg c12] at H
      exact absurd H (by simp)
    ·rw [if_neg c11] at H
     exact absurd H (by simp)
 ·rw [if_neg c4] at H
  have c4b0 : (t409 == 0) = false := beq_eq_false_iff_ne.mpr c4
  have c4b1 : (t409 != 0) = true := bne_iff_ne.mpr c4
  simp only [Option.some.injEq, Prod.mk.injEq] at H
  obtain ⟨rfl, rfl, rfl, rfl, rfl⟩ := H
  go_enter Try.func96, Try.ntmps96
  go_wp2_with (first | ((with_reducible refine gate_dst (N := 4) rfl ?_); refine box_ 4 (cs := #[.int .i64 0, .int .i64 0, .string (⟨#[]⟩ : ByteArray)]) (t := 39) ?_; intro gb406 hg w18 hbox hb; have BK406 := Aside0.mk (hbox); have GW406 := Aside0.mk ((by rw [hg]; exact (below_size (hb_ HB.out)) : w.heap.size ≤ gb406)); have GE406 := Aside0.mk ((by rw [hg]; exact (below_size (hb_ HB.out)) : w.heap.size ≤ gb406)); replace HB := Aside0.mk (below_step (hb_ HB.out) hb); clear hb hbox hg) | ((with_reducible refine gate_callee (f := 94) rfl ?_); refine goesL_ (some 13) rfl rfl Try.func94 (by kernel_rfl) rfl #[.slice A0 l0.length c0, .int .i64 a1] rfl (by (try simp only [List.map_toArray, List.map_cons, List.map_nil]); first | done | rfl | (simp only [List.length_drop, List.length_take]; rfl) | (simp only [Int.ofNat_lt, Int.ofNat_le, gt_iff_lt, ge_iff_le]; rfl)) ?_; (with_reducible refine (varint_Decode.calls k _ _ l0 a1 t407 t408 t409 _ ?side1 ?side2 A3.out).mono ?_); (case side1 => exact cb_ HR0.out HB.out); (case side2 => exact HC0.out); rintro e w' ⟨rfl, ⟨nd, rfl⟩⟩; refine ⟨_, rfl, ?_⟩; (try (rw [drewN_self w18]; generalize hq_ : World.drewN w18 _ = w18; have n0_ : Aside0 (w18.heap[gb406]? = some (.cells #[.int .i64 0, .int .i64 0, .string (⟨#[]⟩ : ByteArray)] 39 (0, 0))) := ⟨by rw [← hq_]; exact (bk_ BK406.out)⟩; have n1_ : Aside0 (Below w.heap.size w w18) := ⟨by rw [← hq_]; exact (hb1_ HB.out GE406.out)⟩; clear BK406 HB hq_; have BK406 := n0_; have HB := n1_; clear n0_ n1_)); obtain ⟨hcz19_0, hcz19_1, hcz19_2, hfz19_0, hfz19_1, hfz19_2⟩ := bf3 BK406.out))
  refine bodyPost_ret (results_ctt rfl _ _ gb406 39 #[.int .i64 0, .int .i64 0, .string (⟨#[]⟩ : ByteArray)] (0, 0) _ rfl (by (with_reducible repeat (first | refine blk_drewN ?_ _ | refine blk_drew ?_ | refine blk_alloc ?_ _)); refine blk_put (cs := #[.int .i64 0, .int .i64 0, .string (⟨#[]⟩ : ByteArray)]) ?_ 2 _ rfl; (with_reducible repeat (first | refine blk_drewN ?_ _ | refine blk_drew ?_ | refine blk_alloc ?_ _)); refine blk_put (cs := #[.int .i64 0, .int .i64 0, .string (⟨#[]⟩ : ByteArray)]) ?_ 1 _ rfl; (with_reducible repeat (first | refine blk_drewN ?_ _ | refine blk_drew ?_ | refine blk_alloc ?_ _)); refine blk_put (cs := #[.int .i64 0, .int .i64 0, .string (⟨#[]⟩ : ByteArray)]) ?_ 0 _ rfl; (with_reducible repeat (first | refine blk_drewN ?_ _ | refine blk_drew ?_ | refine blk_alloc ?_ _)); exact BK406.out) Try.underlying39 rfl (by kernel_rfl)) rfl ?_
  exact er_ ((hb1_ HB.out GE406.out))
end Go.Proofs.Ytackcingpffidaa.P
namespace Go.Proofs.Ytackcingpffidaa.P
open Go.RowKit Go.Proofs.YtackcingpffidaaW.PrintWords Go.Proofs.YtackcingpffidaaW.PrintLast Go.Proofs.YtackcingpffidaaW.PrintMore
set_option linter.unusedVariables false
set_option linter.unusedSimpArgs false
/-- What a reader gives: the number, the offset and the error behind it. -/
def vintS (k : Nat) (l : List Int) (t e : Int) : Option (Int × Int × Int) := if e = 0 then varint_Decode.f k l t else some (0, t, e)
def numS (k : Nat) (l : List Int) (t e : Int) : Option (Int × Int × Int) := (vintS k l t e).bind fun x => if x.2.2 = 0 then (if 2147483647 < x.1 then some (0, x.2.1, 6) else some (wrap64 x.1, x.2.1, 0)) else some (0, x.2.1, x.2.2)
def limS (k : Nat) (m : Int) (l : List Int) (t e : Int) : Option (Int × Int × Int) := (numS k l t e).bind fun x => if x.2.2 = 0 then (if m < x.1 then some (0, x.2.1, 18) else some x) else some (0, x.2.1, x.2.2)
def flagS (l : List Int) (t e : Int) : Option (Bool × Int × Int) := if e = 0 then (if t = (l.length : Int) then some (false, t, 2) else if 0 ≤ t ∧ t < (l.length : Int) then (if 1 < rd l t then some (false, t, 4) else some (rd l t == 1, t + 1, 0)) else none) else some (false, t, e)
theorem vintS.mono (k : Nat) (l : List Int) (t e : Int) : LeO (vintS k l t e) (vintS (k + 1) l t e) := LeO.ite (varint_Decode.mono _ _ _) (LeO.refl _)
theorem numS.mono (k : Nat) (l : List Int) (t e : Int) : LeO (numS k l t e) (numS (k + 1) l t e) := LeO.bind (vintS.mono k l t e) fun _ => LeO.refl _
theorem limS.mono (k : Nat) (m : Int) (l : List Int) (t e : Int) : LeO (limS k m l t e) (limS (k + 1) m l t e) := LeO.bind (numS.mono k l t e) fun _ => LeO.refl _
/-- A reader: its block, and the bytes that it reads, elder than w0. -/
def RDo (y : TypeId) (A : Option Addr) (l : List Int) (c : Nat) (t e : Int) : Obj := .cells #[.slice A l.length c, .int .i64 t, .int .i64 e] y (0, 0)
theorem dr_ {P : Program} {f : FuncId} {args : Array Value} {w : World} {v : Value} (h : Calls P f args w fun e w' => e = .returned v ∧ Drawn0 w w') : Calls P f args w fun e w' => e = .returned v ∧ Below w.heap.size w w' :=
 h.mono fun e w' hh => ⟨hh.1, by obtain ⟨n, rfl⟩ := hh.2; exact pw_below_drewN (Below.refl _ _) n⟩
theorem rd_set1 {w : World} {y : TypeId} {A : Option Addr} {l : List Int} {c : Nat} {t e : Int} {g : Nat} (h : w.heap[g]? = some (RDo y A l c t e)) (t' : Int) : (w.setCell ⟨g, 1, none⟩ (.int .i64 t')).heap[g]? = some (RDo y A l c t' e) := blk_put (cs' := #[.slice A l.length c, .int .i64 t', .int .i64 e]) h 1 _ rfl
theorem rd_set2 {w : World} {y : TypeId} {A : Option Addr} {l : List Int} {c : Nat} {t e : Int} {g : Nat} (h : w.heap[g]? = some (RDo y A l c t e)) (e' : Int) : (w.setCell ⟨g, 2, none⟩ (.int .i64 e')).heap[g]? = some (RDo y A l c t e') := blk_put (cs' := #[.slice A l.length c, .int .i64 t, .int .i64 e']) h 2 _ rfl
/-- What a reader's call leaves. -/
def RDp (y : TypeId) (w0 w : World) (g : Nat) (A : Option Addr) (l : List Int) (c : Nat) (t e : Int) (W : World) : Prop := W.heap[g]? = some (RDo y A l c t e) ∧ Below w0.heap.size w0 W ∧ KeepBut w W g none
theorem RDp.of {w0 w W : World} {g : Nat} {y : TypeId} {A : Option Addr} {l : List Int} {c : Nat} {t e : Int} (hB : Below w0.heap.size w0 w) (hG : w.heap[g]? = some (RDo y A l c t e)) (h : Below w.heap.size w W) : RDp y w0 w g A l c t e W :=
 ⟨blk_below hG h, hB.trans (h.mono hB.size), KeepBut.of_below h g none⟩
theorem RDp.set2 {w0 w W : World} {g : Nat} {y : TypeId} {A : Option Addr} {l : List Int} {c : Nat} {t e : Int} (h : RDp y w0 w g A l c t e W) (hg : w0.heap.size ≤ g) (e' : Int) : RDp y w0 w g A l c t e' (W.setCell ⟨g, 2, none⟩ (.int .i64 e')) :=
 ⟨rd_set2 h.1 e', h.2.1.setCell (p := ⟨g, 2, none⟩) hg _, h.2.2.set_ 2 _⟩
theorem RDp.set1 {w0 w W : World} {g : Nat} {y : TypeId} {A : Option Addr} {l : List Int} {c : Nat} {t e : Int} (h : RDp y w0 w g A l c t e W) (hg : w0.heap.size ≤ g) (t' : Int) : RDp y w0 w g A l c t' e (W.setCell ⟨g, 1, none⟩ (.int .i64 t')) :=
 ⟨rd_set1 h.1 t', h.2.1.setCell (p := ⟨g, 1, none⟩) hg _, h.2.2.set_ 1 _⟩
def f49_T3 : Bool × List (List Nat × List Nat) := (true, [([], []), ([0], [0]), ([1], [1]), ([2], [2]), ([], []), ([4], [4]), ([5], [5]), ([6], [6]), ([3, 7], [3, 7]), ([8], [8]), ([9], [9]), ([9], [9]), ([9], [9]), ([10, 8, 0, 1, 2, 3, 4, 5, 6, 7, 8, 9, 10], [10]), ([11, 13, 0, 1, 2, 3, 4, 5, 6, 7, 8, 9, 10, 11, 13], [11]), ([12, 14, 0, 1, 2, 3, 4, 5, 6, 7, 8, 9, 10, 11, 12, 13, 14], [12])])
def f49_B3 : List Nat := [0, 1, 3, 7, 0, 16, 48, 112, 255, 511, 1023, 1023, 1023, 2047, 12287, 32767]
set_option maxRecDepth 100000 in
theorem f49_tab3 : rtab .any (opsOf Try.f49 3) = f49_T3 := by kernel_rfl
theorem f49_bits3 : waitsOk f49_T3.2 f49_B3 = true := by kernel_rfl
set_option maxHeartbeats 4000000 in
set_option maxRecDepth 100000 in
theorem f49_calls (k : Nat) (w0 w : World) (g : Nat) (A : Option Addr) (c : Nat) (l : List Int) (t e n t' e' : Int) (hA : Kd.C (Kd.int .u8) w0 A l.length l) (hc : l.length ≤ c) (hB : Below w0.heap.size w0 w) (hg : w0.heap.size ≤ g) (hG : w.heap[g]? = some (RDo 69 A l c t e)) (h : vintS k l t e = some (n, t', e')) :
  Calls Try.prog 49 #[.pointer (some ⟨g, 0, none⟩)] w fun x w' => x = .returned (.int .u64 n) ∧ RDp 69 w0 w g A l c t' e' w' := by
 have HA := Aside0.mk hA
 have HB := Aside0.mk hB
 have HG := Aside0.mk hG
 have HS : Aside0 (∀ W, Below w.heap.size w W → W.cell? ⟨g, 0, none⟩ = some (.slice A l.length c) ∧ W.cell? ⟨g, 1, none⟩ = some (.int .i64 t) ∧ W.cell? ⟨g, 2, none⟩ = some (.int .i64 e) ∧ True) := ⟨fun W hb => ap3 (bc3 (blk_below hG hb)) trivial⟩
 clear hA hB hG
 unfold vintS at h
 obtain ⟨t0, t1, t2, _⟩ := HS.out w (Below.refl _ _)
 go_enter Try.func49, Try.ntmps49
 by_cases he : e = 0
 ·rw [if_pos he] at h
  subst he
  have HH := Aside0.mk h
  clear h
  go_upto_region 3 with (fail)
  clear t0 t1 t2
  have HY := Aside0.mk (below_drew1 (Below.refl w.heap.size w))
  refine start_ (n := 16) (S := fun W => W.cell? ⟨g, 0, none⟩ = some (.slice A l.length c) ∧ W.cell? ⟨g, 1, none⟩ = some (.int .i64 t) ∧ W.cell? ⟨g, 2, none⟩ = some (.int .i64 0) ∧ True) (ds := []) #[false, false, false, false, false, false, false, false, false, false, false, false, false, false, false, false] (by kernel_rfl) rfl rfl (HS.out _ HY.out) (fun hHeld => ?_)
  refine with_tabW f49_tab3 f49_bits3 (fun HT_ HW_ => ?_)
  generalize w.drew = wd at HY hHeld ⊢
  refine pu_ HT_ 0 (some 12) ?_
  refine pu_ HT_ 1 (some 13) ?_
  refine pu_ HT_ 2 (some 14) ?_
  refine tk_ HT_ HW_ 3 (some 15) hHeld ?_
  refine pu_ HT_ 4 (some 16) ?_
  refine pu_ HT_ 5 (some 17) ?_
  refine pu_ HT_ 6 (some 18) ?_
  refine tk_ HT_ HW_ 7 (some 19) hHeld ?_
  refine cl_ HT_ 8 (some 20) Try.func94 (dr_ (varint_Decode.calls k A c l t n t' e' _ (Kd.C_below HA.out (HB.out.trans (HY.out.mono HB.out.size))) hc HH.out)) HY HS (fun w9 HY hHeld => ?_)
  refine pu_ HT_ 9 (some 11) ?_
  refine pu_ HT_ 10 (some 21) ?_
  refine pu_ HT_ 11 (some 22) ?_
  refine pu_ HT_ 12 (some 23) ?_
  refine pu_ HT_ 13 (some 3) ?_
  refine pu_ HT_ 14 (some 4) ?_
  refine pu_ HT_ 15 (some 5) ?_
  refine done_ (done_of HT_.out (by kernel_rfl)) ?_
  clear HT_ HW_ hHeld
  obtain ⟨t0, t1, t2, _⟩ := HS.out w9 HY.out
  have z1 := blk_frozen (blk_below HG.out HY.out) 1
  have z2 := blk_frozen (blk_below HG.out HY.out) 2
  go_wp2
  go_ret
  exact ⟨rfl, ((RDp.of HB.out HG.out HY.out).set1 hg t').set2 hg e'⟩
 ·rw [if_neg he] at h
  obtain ⟨rfl, h2⟩ := Prod.mk.inj (Option.some.inj h)
  obtain ⟨rfl, rfl⟩ := Prod.mk.inj h2
  have hb : (e != 0) = true := by simp [he]
  clear h h2 he
  go_wp2
  go_ret
  exact ⟨rfl, RDp.of HB.out HG.out (Below.refl _ _)⟩
set_option maxHeartbeats 4000000 in
set_option maxRecDepth 100000 in
theorem f47_calls (k : Nat) (w0 w : World) (g : Nat) (A : Option Addr) (c : Nat) (l : List Int) (t e n t' e' : Int) (hA : Kd.C (Kd.int .u8) w0 A l.length l) (hc : l.length ≤ c) (hB : Below w0.heap.size w0 w) (hg : w0.heap.size ≤ g) (hG : w.heap[g]? = some (RDo 69 A l c t e)) (h : numS k l t e = some (n, t', e')) :
  Calls Try.prog 47 #[.pointer (some ⟨g, 0, none⟩)] w fun x w' => x = .returned (.int .i64 n) ∧ RDp 69 w0 w g A l c t' e' w' := by
 unfold numS at h
 obtain ⟨⟨m, t1_, e1_⟩, hv, hs⟩ := Option.bind_eq_some_iff.mp h
 have HV := Aside0.mk hv
 have HA := Aside0.mk hA
 have HB := Aside0.mk hB
 have HG := Aside0.mk hG
 have HH := Aside0.mk hs
 clear hA hB hG h hv hs
 go_enter Try.func47, Try.ntmps47
 go_upto_region 2 with (go_at_call 49; refine (f49_calls k w0 w g A c l t e m t1_ e1_ HA.out hc HB.out hg HG.out HV.out).mono ?_; rintro e w9 ⟨rfl, hp⟩; have HP := Aside0.mk hp; clear hp)
 obtain ⟨t0, t1, t2⟩ := bc3 HP.out.1
 have z2 := blk_frozen HP.out.1 2
 by_cases he : e1_ = 0
 ·subst he
  have HH2 := HH.out
  rw [if_pos rfl] at HH2
  by_cases hm : 2147483647 < m
  ·have hb : decide (2147483647 < m) = true := decide_eq_true hm
   rw [if_pos hm] at HH2
   obtain ⟨rfl, h2⟩ := Prod.mk.inj (Option.some.inj HH2)
   obtain ⟨rfl, rfl⟩ := Prod.mk.inj h2
   clear HH HH2 h2 hm
   go_wp2
   go_ret
   exact ⟨rfl, HP.out.set2 hg 6⟩
  ·have hb : decide (2147483647 < m) = false := decide_eq_false hm
   rw [if_neg hm] at HH2
   obtain ⟨rfl, h2⟩ := Prod.mk.inj (Option.some.inj HH2)
   obtain ⟨rfl, rfl⟩ := Prod.mk.inj h2
   clear HH HH2 h2 hm
   go_wp2
   go_ret
   exact ⟨rfl, HP.out⟩
 ·have hb : (e1_ == 0) = false := by simp [he]
  have hb2 : (e1_ != 0) = true := by simp [he]
  have HH2 := HH.out
  rw [if_neg he] at HH2
  obtain ⟨rfl, h2⟩ := Prod.mk.inj (Option.some.inj HH2)
  obtain ⟨rfl, rfl⟩ := Prod.mk.inj h2
  clear HH HH2 h2 he
  go_wp2
  go_ret
  exact ⟨rfl, HP.out⟩
set_option maxHeartbeats 4000000 in
set_option maxRecDepth 100000 in
theorem f48_calls (k : Nat) (lim : Int) (w0 w : World) (g : Nat) (A : Option Addr) (c : Nat) (l : List Int) (t e n t' e' : Int) (hA : Kd.C (Kd.int .u8) w0 A l.length l) (hc : l.length ≤ c) (hB : Below w0.heap.size w0 w) (hg : w0.heap.size ≤ g) (hG : w.heap[g]? = some (RDo 69 A l c t e)) (h : limS k lim l t e = some (n, t', e')) :
  Calls Try.prog 48 #[.pointer (some ⟨g, 0, none⟩), .int .i64 lim] w fun x w' => x = .returned (.int .i64 n) ∧ RDp 69 w0 w g A l c t' e' w' := by
 unfold limS at h
 obtain ⟨⟨m, t1_, e1_⟩, hv, hs⟩ := Option.bind_eq_some_iff.mp h
 have HV := Aside0.mk hv
 have HA := Aside0.mk hA
 have HB := Aside0.mk hB
 have HG := Aside0.mk hG
 have HH := Aside0.mk hs
 clear hA hB hG h hv hs
 go_enter Try.func48, Try.ntmps48
 go_upto_region 2 with (go_at_call 47; refine (f47_calls k w0 w g A c l t e m t1_ e1_ HA.out hc HB.out hg HG.out HV.out).mono ?_; rintro e w9 ⟨rfl, hp⟩; have HP := Aside0.mk hp; clear hp)
 obtain ⟨t0, t1, t2⟩ := bc3 HP.out.1
 have z2 := blk_frozen HP.out.1 2
 by_cases he : e1_ = 0
 ·subst he
  have HH2 := HH.out
  rw [if_pos rfl] at HH2
  by_cases hm : lim < m
  ·have hb : decide (lim < m) = true := decide_eq_true hm
   rw [if_pos hm] at HH2
   obtain ⟨rfl, h2⟩ := Prod.mk.inj (Option.some.inj HH2)
   obtain ⟨rfl, rfl⟩ := Prod.mk.inj h2
   clear HH HH2 h2 hm
   go_wp2
   go_ret
   exact ⟨rfl, HP.out.set2 hg 18⟩
  ·have hb : decide (lim < m) = false := decide_eq_false hm
   rw [if_neg hm] at HH2
   obtain ⟨rfl, h2⟩ := Prod.mk.inj (Option.some.inj HH2)
   obtain ⟨rfl, rfl⟩ := Prod.mk.inj h2
   clear HH HH2 h2 hm
   go_wp2
   go_ret
   exact ⟨rfl, HP.out⟩
 ·have hb : (e1_ == 0) = false := by simp [he]
  have hb2 : (e1_ != 0) = true := by simp [he]
  have HH2 := HH.out
  rw [if_neg he] at HH2
  obtain ⟨rfl, h2⟩ := Prod.mk.inj (Option.some.inj HH2)
  obtain ⟨rfl, rfl⟩ := Prod.mk.inj h2
  clear HH HH2 h2 he
  go_wp2
  go_ret
  exact ⟨rfl, HP.out⟩
end Go.Proofs.Ytackcingpffidaa.P
namespace Go.Proofs.Ytackcingpffidaa.P
open Go.RowKit Go.Proofs.YtackcingpffidaaW.PrintWords Go.Proofs.YtackcingpffidaaW.PrintLast Go.Proofs.YtackcingpffidaaW.PrintMore
attribute [local go_sem] max2_int min2_int max_two min_two max_three min_three max_four min_four Go.Proofs.YtackcingpffidaaQ.str_gtr Go.Proofs.YtackcingpffidaaQ.str_leq Go.Proofs.YtackcingpffidaaQ.str_geq   -- for this text's walks alone
set_option linter.unusedVariables false
set_option linter.unusedSimpArgs false
/-! ### laminaref01_Decode: function 110 -/
mutual
def laminaref01_Decode.j0 : Nat → List Int → Int → Bool → Option (Int × Int × Int)
 | 0, _, _, _ => none
 | k + 1, x0, x1, x18 => if x18 = true then (some (0, 0, 1)) else (laminaref01_Decode.l0 k x0 x1 0 1 0)
def laminaref01_Decode.l0 : Nat → List Int → Int → Int → Int → Int → Option (Int × Int × Int)
 | 0, _, _, _, _, _ => none
 | k + 1, x0, x1, x7, x8, x9 => if (wrap64 (x1 + x9)) ≥ (x0.length : Int) then (some (0, 0, 2)) else (if 0 ≤ (wrap64 (x1 + x9)) then (if (wrap64 (x1 + x9)) < (x0.length : Int) then (if x9 = 9 then (if (rd x0 (wrap64 (x1 + x9))) > 1 then (laminaref01_Decode.j2 k x0 x1 x7 x8 x9 (rd x0 (wrap64 (x1 + x9))) true) else (if x9 > 0 then (laminaref01_Decode.j2 k x0 x1 x7 x8 x9 (rd x0 (wrap64 (x1 + x9))) ((rd x0 (wrap64 (x1 + x9))) == 0)) else (laminaref01_Decode.j2 k x0 x1 x7 x8 x9 (rd x0 (wrap64 (x1 + x9))) false))) else (if x9 > 0 then (laminaref01_Decode.j2 k x0 x1 x7 x8 x9 (rd x0 (wrap64 (x1 + x9))) ((rd x0 (wrap64 (x1 + x9))) == 0)) else (laminaref01_Decode.j2 k x0 x1 x7 x8 x9 (rd x0 (wrap64 (x1 + x9))) false))) else (none)) else (none))
def laminaref01_Decode.j2 : Nat → List Int → Int → Int → Int → Int → Int → Bool → Option (Int × Int × Int)
 | 0, _, _, _, _, _, _, _ => none
 | k + 1, x0, x1, x7, x8, x9, x10, x46 => if x46 = true then (some (0, 0, 4)) else (if x10 < 128 then (some (IntKind.u64.wrap (x7 + (IntKind.u64.wrap ((IntKind.u64.wrap (Int.tmod x10 128)) * x8))), wrap64 ((wrap64 (x1 + x9)) + 1), 0)) else (laminaref01_Decode.l0 k x0 x1 (IntKind.u64.wrap (x7 + (IntKind.u64.wrap ((IntKind.u64.wrap (Int.tmod x10 128)) * x8)))) (IntKind.u64.wrap (x8 * 128)) (wrap64 (x9 + 1))))
end
def laminaref01_Decode.f (k : Nat) (l0 : List Int) (a1 : Int) : Option (Int × Int × Int) := if a1 < 0 then (laminaref01_Decode.j0 k l0 a1 true) else (laminaref01_Decode.j0 k l0 a1 (decide (a1 > (l0.length : Int))))
theorem laminaref01_Decode.mono_l : ∀ k, (∀ y0 y1 y2, LeO (laminaref01_Decode.j0 k y0 y1 y2) (laminaref01_Decode.j0 (k + 1) y0 y1 y2)) ∧ (∀ y0 y1 y2 y3 y4, LeO (laminaref01_Decode.l0 k y0 y1 y2 y3 y4) (laminaref01_Decode.l0 (k + 1) y0 y1 y2 y3 y4)) ∧ (∀ y0 y1 y2 y3 y4 y5 y6, LeO (laminaref01_Decode.j2 k y0 y1 y2 y3 y4 y5 y6) (laminaref01_Decode.j2 (k + 1) y0 y1 y2 y3 y4 y5 y6))
 | 0 => ⟨fun _ _ _ r h => by simp [laminaref01_Decode.j0] at h, fun _ _ _ _ _ r h => by simp [laminaref01_Decode.l0] at h, fun _ _ _ _ _ _ _ r h => by simp [laminaref01_Decode.j2] at h⟩
 | k + 1 => by
  obtain ⟨ih0, ih1, ih2⟩ := laminaref01_Decode.mono_l k
  refine ⟨?_, ?_, ?_⟩
  ·intro y0 y1 y2
   unfold laminaref01_Decode.j0
   repeat' first
   | (with_reducible exact ih0 _ _ _)
   | (with_reducible exact ih1 _ _ _ _ _)
   | (with_reducible exact ih2 _ _ _ _ _ _ _)
   | (with_reducible exact LeO.refl _)
   | (with_reducible exact LeO.none _)
   | (with_reducible refine LeO.ite ?_ ?_)
   | (with_reducible refine LeO.bind ?_ (fun _ => ?_))
   | exact ih0 _ _ _
   | exact ih1 _ _ _ _ _
   | exact ih2 _ _ _ _ _ _ _
   | exact LeO.none _
   | refine LeO.ite ?_ ?_
   | refine LeO.bind ?_ (fun _ => ?_)
  ·intro y0 y1 y2 y3 y4
   unfold laminaref01_Decode.l0
   repeat' first
   | (with_reducible exact ih0 _ _ _)
   | (with_reducible exact ih1 _ _ _ _ _)
   | (with_reducible exact ih2 _ _ _ _ _ _ _)
   | (with_reducible exact LeO.refl _)
   | (with_reducible exact LeO.none _)
   | (with_reducible refine LeO.ite ?_ ?_)
   | (with_reducible refine LeO.bind ?_ (fun _ => ?_))
   | exact ih0 _ _ _
   | exact ih1 _ _ _ _ _
   | exact ih2 _ _ _ _ _ _ _
   | exact LeO.none _
   | refine LeO.ite ?_ ?_
   | refine LeO.bind ?_ (fun _ => ?_)
  ·intro y0 y1 y2 y3 y4 y5 y6
   unfold laminaref01_Decode.j2
   repeat' first
   | (with_reducible exact ih0 _ _ _)
   | (with_reducible exact ih1 _ _ _ _ _)
   | (with_reducible exact ih2 _ _ _ _ _ _ _)
   | (with_reducible exact LeO.refl _)
   | (with_reducible exact LeO.none _)
   | (with_reducible refine LeO.ite ?_ ?_)
   | (with_reducible refine LeO.bind ?_ (fun _ => ?_))
   | exact ih0 _ _ _
   | exact ih1 _ _ _ _ _
   | exact ih2 _ _ _ _ _ _ _
   | exact LeO.none _
   | refine LeO.ite ?_ ?_
   | refine LeO.bind ?_ (fun _ => ?_)
theorem laminaref01_Decode.mono : ∀ a0 a1 k, LeO (laminaref01_Decode.f k a0 a1) (laminaref01_Decode.f (k + 1) a0 a1) := by
 intro a0 a1 k
 obtain ⟨ih0, ih1, ih2⟩ := laminaref01_Decode.mono_l k
 unfold laminaref01_Decode.f
 repeat' first
   | (with_reducible exact ih0 _ _ _)
   | (with_reducible exact ih1 _ _ _ _ _)
   | (with_reducible exact ih2 _ _ _ _ _ _ _)
   | (with_reducible exact LeO.refl _)
   | (with_reducible exact LeO.none _)
   | (with_reducible refine LeO.ite ?_ ?_)
   | (with_reducible refine LeO.bind ?_ (fun _ => ?_))
   | exact ih0 _ _ _
   | exact ih1 _ _ _ _ _
   | exact ih2 _ _ _ _ _ _ _
   | exact LeO.none _
   | refine LeO.ite ?_ ?_
   | refine LeO.bind ?_ (fun _ => ?_)
set_option maxHeartbeats 8000000 in
set_option maxRecDepth 100000 in
theorem laminaref01_Decode.calls (k : Nat) (A0 : Option Addr) (c0 : Nat) (l0 : List Int) (a1 : Int) (r1 : Int) (r2 : Int) (r3 : Int) (w : World) (hr0 : Kd.C (Kd.int .u8) w A0 l0.length l0) (hc0 : l0.length ≤ c0) (h : laminaref01_Decode.f k l0 a1 = some (r1, r2, r3)) :
  Calls Try.prog 110 #[.slice A0 l0.length c0, .int .i64 a1] w fun e w' => e = .returned (.tuple #[.int .u64 r1, .int .i64 r2, .int .i64 r3]) ∧ Drawn0 w w' := by
 have HR0 := Aside0.mk hr0
 have HC0 := Aside0.mk hc0
 clear hr0 hc0
 have H : (if a1 < 0 then (laminaref01_Decode.j0 k l0 a1 true) else (laminaref01_Decode.j0 k l0 a1 (decide (a1 > (l0.length : Int))))) = some (r1, r2, r3) := h
 clear h
 have HC3 := Aside0.mk H
 clear H
 go_enter Try.func110, Try.ntmps110
 go_upto_region 1 with (fail)
 go_cut [18] (fun v18 wc => ∃ (kq : Nat) (x18_2 : Bool), v18 = .bool x18_2 ∧ Aside0 (laminaref01_Decode.j0 kq l0 a1 x18_2 = some (r1, r2, r3)) ∧ Aside0 (kq ≤ k) ∧ Drawn0 w wc)
 case first =>
  have H := HC3.out
  clear HC3
  by_cases c4 : a1 < 0
  ·rw [if_pos c4] at H
   have c4b0 : decide (a1 < 0) = true := decide_eq_true c4
   clear c4
   (first | rw [c4b0] | (simp only [i64_w, i32_w]; rw [c4b0]) | skip)
   have H' := Aside0.mk H
   clear H
   go_wp2
   go_meet
   case rel => exact ⟨_, (true), (by first | rfl | (simp; done) | (simp [*]; done)), H', ⟨by first | omega | exact Nat.le_refl _⟩, by repeat (first | exact Drawn0.refl _ | apply Drawn0.step)⟩
  ·rw [if_neg c4] at H
   have c4b0 : decide (a1 < 0) = false := decide_eq_false c4
   clear c4
   (first | rw [c4b0] | (simp only [i64_w, i32_w]; rw [c4b0]) | skip)
   have H' := Aside0.mk H
   clear H
   go_wp2
   go_meet
   case rel => exact ⟨_, (decide (a1 > (l0.length : Int))), (by first | rfl | (simp; done) | (simp [*]; done)), H', ⟨by first | omega | exact Nat.le_refl _⟩, by repeat (first | exact Drawn0.refl _ | apply Drawn0.step)⟩
 case rest =>
  clear HC3
  try clear c1
  try clear p2
  try clear c4
  try clear c4b0
  obtain ⟨kq, x18_2, rfl, HA, HJ2, ⟨mc2, rfl⟩⟩ := hcut
  cases kq with
  | zero => exact absurd HA.out (by simp [laminaref01_Decode.j0])
  | succ kj2 =>
   have H := HA.out
   clear HA
   simp only [laminaref01_Decode.j0] at H
   by_cases c5 : x18_2 = true
   ·subst c5
    have H1 : (some (0, 0, 1)) = some (r1, r2, r3) := by rw [if_pos rfl] at H; exact H
    clear H
    have H := H1
    clear H1
    simp only [Option.some.injEq, Prod.mk.injEq] at H
    obtain ⟨rfl, rfl, rfl⟩ := H
    go_wp2
    go_ret3
    exact ⟨by first | rfl | (simp; done) | (simp [*]; done), by repeat (first | exact Drawn0.refl _ | apply Drawn0.step)⟩
   ·replace c5 := Bool.eq_false_iff.mpr c5
    subst c5
    have H1 : (laminaref01_Decode.l0 kj2 l0 a1 0 1 0) = some (r1, r2, r3) := by rw [if_neg (show ¬ (false = true) by decide)] at H; exact H
    clear H
    have H := H1
    clear H1
    have H' := Aside0.mk H
    clear H
    go_wp2
    go_loopg [7, 8, 9] kj2 (fun kq v7 v8 v9 w' => ∃ (x7_2 : Int) (x8_2 : Int) (x9_2 : Int), v7 = .int .u64 x7_2 ∧ v8 = .int .u64 x8_2 ∧ v9 = .int .i64 x9_2 ∧ Aside0 (laminaref01_Decode.l0 kq l0 a1 x7_2 x8_2 x9_2 = some (r1, r2, r3)) ∧ Aside0 (kq ≤ kj2) ∧ Drawn0 w w')
    case atStart => exact ⟨(0), (1), (0), (by first | rfl | (simp; done) | (simp [*]; done)), (by first | rfl | (simp; done) | (simp [*]; done)), (by first | rfl | (simp; done) | (simp [*]; done)), H', ⟨Nat.le_refl _⟩, by repeat (first | exact Drawn0.refl _ | apply Drawn0.step)⟩
    case round =>
     clear H'
     try clear c1
     try clear c2
     try clear p2
     try clear c4
     try clear c4b0
     try clear c5
     try clear p2
     obtain ⟨x7_2, x8_2, x9_2, rfl, rfl, rfl, HA, HK2, ⟨m2, rfl⟩⟩ := hrel
     cases gk with
     | zero => exact absurd HA.out (by simp [laminaref01_Decode.l0])
     | succ k2 =>
      have H := HA.out
      clear HA
      simp only [laminaref01_Decode.l0] at H
      by_cases c6 : (wrap64 (a1 + x9_2)) ≥ (l0.length : Int)
      ·rw [if_pos c6] at H
       have c6b0 : decide ((l0.length : Int) ≤ (wrap64 (a1 + x9_2))) = true := decide_eq_true c6
       clear c6
       simp only [Option.some.injEq, Prod.mk.injEq] at H
       obtain ⟨rfl, rfl, rfl⟩ := H
       go_wp2
       go_ret3
       exact ⟨by first | rfl | (simp; done) | (simp [*]; done), by repeat (first | exact Drawn0.refl _ | apply Drawn0.step)⟩
      ·rw [if_neg c6] at H
       have c6b0 : decide ((l0.length : Int) ≤ (wrap64 (a1 + x9_2))) = false := decide_eq_false c6
       clear c6
       obtain ⟨ji7, hji7⟩ : ∃ j_ : Int, (wrap64 (a1 + x9_2)) = j_ := ⟨_, rfl⟩
       replace H : (if 0 ≤ (ji7) then (if (ji7) < (l0.length : Int) then (if x9_2 = 9 then (if (rd l0 (ji7)) > 1 then (laminaref01_Decode.j2 k2 l0 a1 x7_2 x8_2 x9_2 (rd l0 (ji7)) true) else (if x9_2 > 0 then (laminaref01_Decode.j2 k2 l0 a1 x7_2 x8_2 x9_2 (rd l0 (ji7)) ((rd l0 (ji7)) == 0)) else (laminaref01_Decode.j2 k2 l0 a1 x7_2 x8_2 x9_2 (rd l0 (ji7)) false))) else (if x9_2 > 0 then (laminaref01_Decode.j2 k2 l0 a1 x7_2 x8_2 x9_2 (rd l0 (ji7)) ((rd l0 (ji7)) == 0)) else (laminaref01_Decode.j2 k2 l0 a1 x7_2 x8_2 x9_2 (rd l0 (ji7)) false))) else (none)) else (none)) = some (r1, r2, r3) := by first | (rw [hji7] at H; exact H) | (simp only [hji7] at H ⊢; exact H)
       (try rw [hji7] at c6b0)
       have hji7w : (IntKind.i64.wrap (a1 + x9_2)) = ji7 := (i64_w _).trans hji7
       by_cases c8 : 0 ≤ (ji7)
       ·rw [if_pos c8] at H
        have c8b0 : decide (0 ≤ (ji7)) = true := decide_eq_true c8
        clear c8
        by_cases c9 : (ji7) < (l0.length : Int)
        ·rw [if_pos c9] at H
         have c9b0 : decide ((ji7) < (l0.length : Int)) = true := decide_eq_true c9
         clear c9
         have HC10 := Aside0.mk H
         clear H
         have p331 : 0 ≤ ((ji7) : Int) := of_decide_eq_true (by first | (with_reducible assumption) | assumption)
         have q331 : (ji7) < (l0.length : Int) := of_decide_eq_true (by first | (with_reducible assumption) | assumption)
         obtain ⟨ad331, e331, hx331_0⟩ := Kd.at_int HR0.out (ji7) p331 q331
         cases e331
         replace p331 := eq_true p331
         replace q331 := eq_true q331
         go_upto_region 9 with (fail)
         go_cut [46] (fun v46 wc => ∃ (kq : Nat) (x46_9 : Bool), v46 = .bool x46_9 ∧ Aside0 (laminaref01_Decode.j2 kq l0 a1 x7_2 x8_2 x9_2 (rd l0 (ji7)) x46_9 = some (r1, r2, r3)) ∧ Aside0 (kq ≤ k2) ∧ Drawn0 w wc)
         case first =>
          have H := HC10.out
          clear HC10
          by_cases c11 : x9_2 = 9
          ·rw [if_pos c11] at H
           have c11b0 : (x9_2 == 9) = true := beq_iff_eq.mpr c11
           have c11b1 : (x9_2 != 9) = false := bne_eq_false_iff_eq.mpr c11
           clear c11
           (first | rw [c11b0] | (simp only [i64_w, i32_w]; rw [c11b0]) | skip)
           by_cases c12 : (rd l0 (ji7)) > 1
           ·rw [if_pos c12] at H
            have c12b0 : decide (1 < (rd l0 (ji7))) = true := decide_eq_true c12
            clear c12
            have H' := Aside0.mk H
            clear H
            go_wp2
            go_meet
            case rel => exact ⟨_, (true), (by first | rfl | (simp; done) | (simp [*]; done)), H', ⟨by have := HJ2.out; have := HK2.out; first | omega | exact Nat.le_refl _⟩, by repeat (first | exact Drawn0.refl _ | apply Drawn0.step)⟩
           ·rw [if_neg c12] at H
            have c12b0 : decide (1 < (rd l0 (ji7))) = false := decide_eq_false c12
            clear c12
            by_cases c13 : x9_2 > 0
            ·rw [if_pos c13] at H
             have c13b0 : decide (0 < x9_2) = true := decide_eq_true c13
             clear c13
             have H' := Aside0.mk H
             clear H
             go_wp2
             go_meet
             case rel => exact ⟨_, (((rd l0 (ji7)) == 0)), (by first | rfl | (simp; done) | (simp only [← hji7] <;> (first | rfl | simp)) | (simp [*]; done)), H', ⟨by have := HJ2.out; have := HK2.out; first | omega | exact Nat.le_refl _⟩, by repeat (first | exact Drawn0.refl _ | apply Drawn0.step)⟩
            ·rw [if_neg c13] at H
             have c13b0 : decide (0 < x9_2) = false := decide_eq_false c13
             clear c13
             have H' := Aside0.mk H
             clear H
             go_wp2
             go_meet
             case rel => exact ⟨_, (false), (by first | rfl | (simp; done) | (simp [*]; done)), H', ⟨by have := HJ2.out; have := HK2.out; first | omega | exact Nat.le_refl _⟩, by repeat (first | exact Drawn0.refl _ | apply Drawn0.step)⟩
          ·rw [if_neg c11] at H
           have c11b0 : (x9_2 == 9) = false := beq_eq_false_iff_ne.mpr c11
           have c11b1 : (x9_2 != 9) = true := bne_iff_ne.mpr c11
           (first | rw [c11b0] | (simp only [i64_w, i32_w]; rw [c11b0]) | skip)
           by_cases c14 : x9_2 > 0
           ·rw [if_pos c14] at H
            have c14b0 : decide (0 < x9_2) = true := decide_eq_true c14
            clear c14
            have H' := Aside0.mk H
            clear H
            go_wp2
            go_meet
            case rel => exact ⟨_, (((rd l0 (ji7)) == 0)), (by first | rfl | (simp; done) | (simp only [← hji7] <;> (first | rfl | simp)) | (simp [*]; done)), H', ⟨by have := HJ2.out; have := HK2.out; first | omega | exact Nat.le_refl _⟩, by repeat (first | exact Drawn0.refl _ | apply Drawn0.step)⟩
           ·rw [if_neg c14] at H
            have c14b0 : decide (0 < x9_2) = false := decide_eq_false c14
            clear c14
            have H' := Aside0.mk H
            clear H
            go_wp2
            go_meet
            case rel => exact ⟨_, (false), (by first | rfl | (simp; done) | (simp [*]; done)), H', ⟨by have := HJ2.out; have := HK2.out; first | omega | exact Nat.le_refl _⟩, by repeat (first | exact Drawn0.refl _ | apply Drawn0.step)⟩
         case rest =>
          clear HC10
          try clear c1
          try clear c2
          try clear p2
          try clear p3
          try clear q3
          try clear hx3
          try clear c4
          try clear c4b0
          try clear c5
          try clear c6
          try clear c6b0
          try clear p6
          try clear c8
          try clear c8b0
          try clear c9
          try clear c9b0
          try clear c11
          try clear c11b0
          try clear c11b1
          try clear c12
          try clear c12b0
          try clear c13
          try clear c13b0
          try clear c14
          try clear c14b0
          try clear hx331_0
          try clear p2
          try clear p331
          try clear q331
          obtain ⟨kq, x46_9, rfl, HA, HJ9, ⟨mc9, rfl⟩⟩ := hcut
          cases kq with
          | zero => exact absurd HA.out (by simp [laminaref01_Decode.j2])
          | succ kj9 =>
           have H := HA.out
           clear HA
           simp only [laminaref01_Decode.j2] at H
           by_cases c15 : x46_9 = true
           ·subst c15
            have H1 : (some (0, 0, 4)) = some (r1, r2, r3) := by rw [if_pos rfl] at H; exact H
            clear H
            have H := H1
            clear H1
            simp only [Option.some.injEq, Prod.mk.injEq] at H
            obtain ⟨rfl, rfl, rfl⟩ := H
            go_wp2
            go_ret3
            exact ⟨by first | rfl | (simp; done) | (simp only [← hji7] <;> (first | rfl | simp)) | (simp [*]; done), by repeat (first | exact Drawn0.refl _ | apply Drawn0.step)⟩
           ·replace c15 := Bool.eq_false_iff.mpr c15
            subst c15
            have H1 : (if (rd l0 (ji7)) < 128 then (some (IntKind.u64.wrap (x7_2 + (IntKind.u64.wrap ((IntKind.u64.wrap (Int.tmod (rd l0 (ji7)) 128)) * x8_2))), wrap64 ((wrap64 (a1 + x9_2)) + 1), 0)) else (laminaref01_Decode.l0 kj9 l0 a1 (IntKind.u64.wrap (x7_2 + (IntKind.u64.wrap ((IntKind.u64.wrap (Int.tmod (rd l0 (ji7)) 128)) * x8_2)))) (IntKind.u64.wrap (x8_2 * 128)) (wrap64 (x9_2 + 1)))) = some (r1, r2, r3) := by rw [if_neg (show ¬ (false = true) by decide)] at H; exact H
            clear H
            have H := H1
            clear H1
            by_cases c16 : (rd l0 (ji7)) < 128
            ·rw [if_pos c16] at H
             have c16b0 : decide ((rd l0 (ji7)) < 128) = true := decide_eq_true c16
             clear c16
             simp only [Option.some.injEq, Prod.mk.injEq] at H
             obtain ⟨rfl, rfl, rfl⟩ := H
             go_wp2
             go_ret3
             exact ⟨by first | rfl | (simp; done) | (simp only [← hji7] <;> (first | rfl | simp)) | (simp [*]; done), by repeat (first | exact Drawn0.refl _ | apply Drawn0.step)⟩
            ·rw [if_neg c16] at H
             have c16b0 : decide ((rd l0 (ji7)) < 128) = false := decide_eq_false c16
             clear c16
             have H' := Aside0.mk H
             clear H
             go_wp2
             go_roundg kj9
             case measure => have := HJ2.out; have := HK2.out; have := HJ9.out; omega
             case rel => exact ⟨(IntKind.u64.wrap (x7_2 + (IntKind.u64.wrap ((IntKind.u64.wrap (Int.tmod (rd l0 (ji7)) 128)) * x8_2)))), (IntKind.u64.wrap (x8_2 * 128)), (wrap64 (x9_2 + 1)), (by first | rfl | (simp; done) | (simp only [← hji7] <;> (first | rfl | simp)) | (simp [*]; done)), (by first | rfl | (simp; done) | (simp [*]; done)), (by first | rfl | (simp; done) | (simp [*]; done)), H', ⟨by have := HJ2.out; have := HK2.out; have := HJ9.out; omega⟩, by repeat (first | exact Drawn0.refl _ | apply Drawn0.step)⟩
        ·rw [if_neg c9] at H
         exact absurd H (by simp)
       ·rw [if_neg c8] at H
        exact absurd H (by simp)
/-! ### laminaref04_Integer: function 126 -/
def laminaref04_Integer.f (a0 : Int) : Option (Int × Int × ByteArray) := some (2, a0, (⟨#[]⟩ : ByteArray))
set_option maxHeartbeats 8000000 in
set_option maxRecDepth 100000 in
theorem laminaref04_Integer.calls (a0 : Int) (r1 : Int) (r2 : Int) (r3 : ByteArray) (w : World) (h : laminaref04_Integer.f a0 = some (r1, r2, r3)) :
  Calls Try.prog 126 #[.int .i64 a0] w fun e w' => e = .returned (.agg #[.int .i64 r1, .int .i64 r2, .string r3]) ∧ Below w.heap.size w w' := by
 have hu39 := Try.underlying39
 have HB := Aside0.mk (Below.refl w.heap.size w)
 have H : (some (2, a0, (⟨#[]⟩ : ByteArray))) = some (r1, r2, r3) := h
 clear h
 simp only [Option.some.injEq, Prod.mk.injEq] at H
 obtain ⟨rfl, rfl, rfl⟩ := H
 go_enter Try.func126, Try.ntmps126
 go_wp2_with (first | ((with_reducible refine gate_dst (N := 2) rfl ?_); refine box_ 2 (cs := #[.int .i64 0, .int .i64 0, .string (⟨#[]⟩ : ByteArray)]) (t := 39) ?_; intro gb332 hg w2 hbox hb; have BK332 := Aside0.mk (hbox); have GW332 := Aside0.mk ((by rw [hg]; exact (below_size (hb_ HB.out)) : w.heap.size ≤ gb332)); have GE332 := Aside0.mk ((by rw [hg]; exact (below_size (hb_ HB.out)) : w.heap.size ≤ gb332)); replace HB := Aside0.mk (below_step (hb_ HB.out) hb); clear hb hbox hg; obtain ⟨hcz3_0, hcz3_1, hcz3_2, hfz3_0, hfz3_1, hfz3_2⟩ := bf3 BK332.out))
 refine bodyPost_ret (results_cell_row rfl _ _ gb332 39 #[.int .i64 2, .int .i64 a0, .string (⟨#[]⟩ : ByteArray)] (0, 0) _ rfl (by (with_reducible repeat (first | refine blk_drewN ?_ _ | refine blk_drew ?_ | refine blk_alloc ?_ _)); refine blk_put (cs := #[.int .i64 2, .int .i64 a0, .string (⟨#[]⟩ : ByteArray)]) ?_ 2 _ rfl; (with_reducible repeat (first | refine blk_drewN ?_ _ | refine blk_drew ?_ | refine blk_alloc ?_ _)); refine blk_put (cs := #[.int .i64 2, .int .i64 0, .string (⟨#[]⟩ : ByteArray)]) ?_ 1 _ rfl; (with_reducible repeat (first | refine blk_drewN ?_ _ | refine blk_drew ?_ | refine blk_alloc ?_ _)); refine blk_put (cs := #[.int .i64 0, .int .i64 0, .string (⟨#[]⟩ : ByteArray)]) ?_ 0 _ rfl; (with_reducible repeat (first | refine blk_drewN ?_ _ | refine blk_drew ?_ | refine blk_alloc ?_ _)); exact BK332.out) Try.underlying39 rfl (by kernel_rfl)) rfl ?_
 exact er_ ((hb1_ HB.out GE332.out))
/-! ### laminaref01_UnZigZag: function 127 -/
def laminaref01_UnZigZag.f (a0 : Int) : Option (Int) := if (Int.tmod a0 2) = 0 then (some (wrap64 (IntKind.u64.wrap (Int.tdiv a0 2)))) else (some (wrap64 ((wrap64 (-(wrap64 (IntKind.u64.wrap (Int.tdiv a0 2))))) - 1)))
set_option maxHeartbeats 8000000 in
set_option maxRecDepth 100000 in
theorem laminaref01_UnZigZag.calls (a0 : Int) (r : Int) (w : World) (h : laminaref01_UnZigZag.f a0 = some r) :
  Calls Try.prog 127 #[.int .u64 a0] w fun e w' => e = .returned (.int .i64 r) ∧ Drawn0 w w' := by
 have H : (if (Int.tmod a0 2) = 0 then (some (wrap64 (IntKind.u64.wrap (Int.tdiv a0 2)))) else (some (wrap64 ((wrap64 (-(wrap64 (IntKind.u64.wrap (Int.tdiv a0 2))))) - 1)))) = some r := h
 clear h
 by_cases c2 : (Int.tmod a0 2) = 0
 ·rw [if_pos c2] at H
  have c2b0 : ((Int.tmod a0 2) == 0) = true := beq_iff_eq.mpr c2
  have c2b1 : ((Int.tmod a0 2) != 0) = false := bne_eq_false_iff_eq.mpr c2
  clear c2
  obtain rfl := Option.some.inj H
  go_enter Try.func127, Try.ntmps127
  go_wp2
  go_ret
  exact ⟨by first | rfl | (simp; done) | (simp [*]; done), by repeat (first | exact Drawn0.refl _ | apply Drawn0.step)⟩
 ·rw [if_neg c2] at H
  have c2b0 : ((Int.tmod a0 2) == 0) = false := beq_eq_false_iff_ne.mpr c2
  have c2b1 : ((Int.tmod a0 2) != 0) = true := bne_iff_ne.mpr c2
  obtain rfl := Option.some.inj H
  go_enter Try.func127, Try.ntmps127
  go_wp2
  go_ret
  exact ⟨by first | rfl | (simp; done) | (simp [*]; done), by repeat (first | exact Drawn0.refl _ | apply Drawn0.step)⟩
end Go.Proofs.Ytackcingpffidaa.P
namespace Go.Proofs.Ytackcingpffidaa.P
open Go.RowKit Go.Proofs.YtackcingpffidaaW.PrintWords Go.Proofs.YtackcingpffidaaW.PrintLast Go.Proofs.YtackcingpffidaaW.PrintMore
set_option linter.unusedVariables false
set_option linter.unusedSimpArgs false
def cnumS (k : Nat) (l : List Int) (t e : Int) : Option (Int × Int × Int) := if e = 0 then (laminaref01_Decode.f k l t).bind fun x => if x.2.2 = 0 then some (x.1, x.2.1, 0) else some (0, t, x.2.2) else some (0, t, e)
def csmallS (k : Nat) (l : List Int) (t e : Int) : Option (Int × Int × Int) := (cnumS k l t e).bind fun x => if 2147483647 < x.1 then some (0, x.2.1, if x.2.2 = 0 then 6 else x.2.2) else some (wrap64 x.1, x.2.1, x.2.2)
def ccountS (k : Nat) (m : Int) (l : List Int) (t e : Int) : Option (Int × Int × Int) := (csmallS k l t e).bind fun x => if m < x.1 then some (0, x.2.1, if x.2.2 = 0 then 18 else x.2.2) else some x
theorem cnumS.mono (k : Nat) (l : List Int) (t e : Int) : LeO (cnumS k l t e) (cnumS (k + 1) l t e) := LeO.ite (LeO.bind (laminaref01_Decode.mono _ _ _) fun _ => LeO.refl _) (LeO.refl _)
theorem csmallS.mono (k : Nat) (l : List Int) (t e : Int) : LeO (csmallS k l t e) (csmallS (k + 1) l t e) := LeO.bind (cnumS.mono k l t e) fun _ => LeO.refl _
theorem ccountS.mono (k : Nat) (m : Int) (l : List Int) (t e : Int) : LeO (ccountS k m l t e) (ccountS (k + 1) m l t e) := LeO.bind (csmallS.mono k l t e) fun _ => LeO.refl _
theorem RDp.trans {y : TypeId} {w0 w W W2 : World} {g : Nat} {A : Option Addr} {l : List Int} {c : Nat} {t e t' e' : Int} (h : RDp y w0 w g A l c t e W) (h2 : RDp y w0 W g A l c t' e' W2) : RDp y w0 w g A l c t' e' W2 :=
 ⟨h2.1, h2.2.1, Nat.le_trans h.2.2.1 h2.2.2.1, fun i hi h3 h4 => (h2.2.2.2 i (Nat.lt_of_lt_of_le hi h.2.2.1) h3 h4).trans (h.2.2.2 i hi h3 h4)⟩
theorem RDp.refl {y : TypeId} {w0 w : World} {g : Nat} {A : Option Addr} {l : List Int} {c : Nat} {t e : Int} (hB : Below w0.heap.size w0 w) (hG : w.heap[g]? = some (RDo y A l c t e)) : RDp y w0 w g A l c t e w := RDp.of hB hG (Below.refl _ _)
def f87_T3 : Bool × List (List Nat × List Nat) := (true, [([], []), ([0], [0]), ([1], [1]), ([2], [2]), ([], []), ([4], [4]), ([5], [5]), ([6], [6]), ([3, 7], [3, 7]), ([8], [8]), ([9], [9]), ([9], [9]), ([9], [9]), ([10, 8, 0, 1, 2, 3, 4, 5, 6, 7, 8, 9, 10], [10]), ([11, 13, 0, 1, 2, 3, 4, 5, 6, 7, 8, 9, 10, 11, 13], [11]), ([12, 14, 0, 1, 2, 3, 4, 5, 6, 7, 8, 9, 10, 11, 12, 13, 14], [12])])
def f87_B3 : List Nat := [0, 1, 3, 7, 0, 16, 48, 112, 255, 511, 1023, 1023, 1023, 2047, 12287, 32767]
set_option maxRecDepth 100000 in
theorem f87_tab3 : rtab .any (opsOf Try.f87 3) = f87_T3 := by kernel_rfl
theorem f87_bits3 : waitsOk f87_T3.2 f87_B3 = true := by kernel_rfl
set_option maxHeartbeats 4000000 in
set_option maxRecDepth 100000 in
theorem f90_calls (x : Int) (w0 w : World) (g : Nat) (A : Option Addr) (c : Nat) (l : List Int) (t e e2 : Int) (hB : Below w0.heap.size w0 w) (hg : w0.heap.size ≤ g) (hG : w.heap[g]? = some (RDo 106 A l c t e)) (h : (if e = 0 then x else e) = e2) :
  Calls Try.prog 90 #[.pointer (some ⟨g, 0, none⟩), .int .i64 x] w fun r w' => r = .returned (.tuple #[]) ∧ RDp 106 w0 w g A l c t e2 w' := by
 have HP := Aside0.mk (RDp.refl hB hG)
 obtain ⟨t0, t1, t2⟩ := bc3 hG
 have z2 := blk_frozen hG 2
 clear hG hB
 by_cases he : e = 0
 ·subst he
  rw [if_pos rfl] at h
  subst h
  go_enter Try.func90, Try.ntmps90
  go_wp2
  go_end0
  exact ⟨rfl, HP.out.set2 hg x⟩
 ·have hb : (e == 0) = false := by simp [he]
  rw [if_neg he] at h
  subst h
  clear he
  go_enter Try.func90, Try.ntmps90
  go_wp2
  go_end0
  exact ⟨rfl, HP.out⟩
set_option maxHeartbeats 4000000 in
set_option maxRecDepth 100000 in
theorem f87_calls (k : Nat) (w0 w : World) (g : Nat) (A : Option Addr) (c : Nat) (l : List Int) (t e n t' e' : Int) (hA : Kd.C (Kd.int .u8) w0 A l.length l) (hc : l.length ≤ c) (hB : Below w0.heap.size w0 w) (hg : w0.heap.size ≤ g) (hG : w.heap[g]? = some (RDo 106 A l c t e)) (h : cnumS k l t e = some (n, t', e')) :
  Calls Try.prog 87 #[.pointer (some ⟨g, 0, none⟩)] w fun x w' => x = .returned (.int .u64 n) ∧ RDp 106 w0 w g A l c t' e' w' := by
 have HA := Aside0.mk hA
 have HB := Aside0.mk hB
 have HG := Aside0.mk hG
 have HS : Aside0 (∀ W, Below w.heap.size w W → W.cell? ⟨g, 0, none⟩ = some (.slice A l.length c) ∧ W.cell? ⟨g, 1, none⟩ = some (.int .i64 t) ∧ W.cell? ⟨g, 2, none⟩ = some (.int .i64 e) ∧ True) := ⟨fun W hb => ap3 (bc3 (blk_below hG hb)) trivial⟩
 clear hA hB hG
 unfold cnumS at h
 obtain ⟨t0, t1, t2, _⟩ := HS.out w (Below.refl _ _)
 go_enter Try.func87, Try.ntmps87
 by_cases he : e = 0
 ·rw [if_pos he] at h
  subst he
  obtain ⟨⟨n1, t1_, e1_⟩, hd, hs⟩ := Option.bind_eq_some_iff.mp h
  have HD := Aside0.mk hd
  have HH := Aside0.mk hs
  clear h hd hs
  go_upto_region 3 with (fail)
  clear t0 t1 t2
  have HY := Aside0.mk (below_drew1 (Below.refl w.heap.size w))
  refine start_ (n := 16) (S := fun W => W.cell? ⟨g, 0, none⟩ = some (.slice A l.length c) ∧ W.cell? ⟨g, 1, none⟩ = some (.int .i64 t) ∧ W.cell? ⟨g, 2, none⟩ = some (.int .i64 0) ∧ True) (ds := []) #[false, false, false, false, false, false, false, false, false, false, false, false, false, false, false, false] (by kernel_rfl) rfl rfl (HS.out _ HY.out) (fun hHeld => ?_)
  refine with_tabW f87_tab3 f87_bits3 (fun HT_ HW_ => ?_)
  generalize w.drew = wd at HY hHeld ⊢
  refine pu_ HT_ 0 (some 12) ?_
  refine pu_ HT_ 1 (some 13) ?_
  refine pu_ HT_ 2 (some 14) ?_
  refine tk_ HT_ HW_ 3 (some 15) hHeld ?_
  refine pu_ HT_ 4 (some 16) ?_
  refine pu_ HT_ 5 (some 17) ?_
  refine pu_ HT_ 6 (some 18) ?_
  refine tk_ HT_ HW_ 7 (some 19) hHeld ?_
  refine cl_ HT_ 8 (some 20) Try.func110 (dr_ (laminaref01_Decode.calls k A c l t n1 t1_ e1_ _ (Kd.C_below HA.out (HB.out.trans (HY.out.mono HB.out.size))) hc HD.out)) HY HS (fun w9 HY hHeld => ?_)
  refine pu_ HT_ 9 (some 11) ?_
  refine pu_ HT_ 10 (some 21) ?_
  refine pu_ HT_ 11 (some 22) ?_
  refine pu_ HT_ 12 (some 23) ?_
  refine pu_ HT_ 13 (some 3) ?_
  refine pu_ HT_ 14 (some 4) ?_
  refine pu_ HT_ 15 (some 5) ?_
  refine done_ (done_of HT_.out (by kernel_rfl)) ?_
  clear HT_ HW_ hHeld
  have HP := Aside0.mk (RDp.of HB.out HG.out HY.out)
  obtain ⟨t0, t1, t2⟩ := bc3 HP.out.1
  have z1 := blk_frozen HP.out.1 1
  have HH2 := HH.out
  by_cases he : e1_ = 0
  ·subst he
   rw [if_pos rfl] at HH2
   obtain ⟨rfl, h2⟩ := Prod.mk.inj (Option.some.inj HH2)
   obtain ⟨rfl, rfl⟩ := Prod.mk.inj h2
   clear HH HH2 h2
   go_wp2
   go_ret
   exact ⟨rfl, HP.out.set1 hg t1_⟩
  ·have hb : (e1_ != 0) = true := by simp [he]
   rw [if_neg he] at HH2
   obtain ⟨rfl, h2⟩ := Prod.mk.inj (Option.some.inj HH2)
   obtain ⟨rfl, rfl⟩ := Prod.mk.inj h2
   clear HH HH2 h2 he
   go_wp2_with (go_at_call 90; refine (f90_calls e1_ w0 _ g A c l t 0 e1_ HP.out.2.1 hg HP.out.1 (if_pos rfl)).mono ?_; rintro r w8 ⟨rfl, hp⟩; have HP2 := Aside0.mk (HP.out.trans hp); clear hp)
   go_ret
   exact ⟨rfl, HP2.out⟩
 ·rw [if_neg he] at h
  obtain ⟨rfl, h2⟩ := Prod.mk.inj (Option.some.inj h)
  obtain ⟨rfl, rfl⟩ := Prod.mk.inj h2
  have hb : (e != 0) = true := by simp [he]
  clear h h2 he
  go_wp2
  go_ret
  exact ⟨rfl, RDp.refl HB.out HG.out⟩
set_option maxHeartbeats 4000000 in
set_option maxRecDepth 100000 in
theorem f85_calls (k : Nat) (w0 w : World) (g : Nat) (A : Option Addr) (c : Nat) (l : List Int) (t e n t' e' : Int) (hA : Kd.C (Kd.int .u8) w0 A l.length l) (hc : l.length ≤ c) (hB : Below w0.heap.size w0 w) (hg : w0.heap.size ≤ g) (hG : w.heap[g]? = some (RDo 106 A l c t e)) (h : csmallS k l t e = some (n, t', e')) :
  Calls Try.prog 85 #[.pointer (some ⟨g, 0, none⟩)] w fun x w' => x = .returned (.int .i64 n) ∧ RDp 106 w0 w g A l c t' e' w' := by
 unfold csmallS at h
 obtain ⟨⟨m, t1_, e1_⟩, hv, hs⟩ := Option.bind_eq_some_iff.mp h
 have HV := Aside0.mk hv
 have HA := Aside0.mk hA
 have HB := Aside0.mk hB
 have HG := Aside0.mk hG
 have HH := Aside0.mk hs
 clear hA hB hG h hv hs
 go_enter Try.func85, Try.ntmps85
 go_upto_region 2 with (go_at_call 87; refine (f87_calls k w0 w g A c l t e m t1_ e1_ HA.out hc HB.out hg HG.out HV.out).mono ?_; rintro e w9 ⟨rfl, hp⟩; have HP := Aside0.mk hp; clear hp)
 have HH2 := HH.out
 by_cases hm : 2147483647 < m
 ·have hb : decide (2147483647 < m) = true := decide_eq_true hm
  rw [if_pos hm] at HH2
  obtain ⟨rfl, h2⟩ := Prod.mk.inj (Option.some.inj HH2)
  obtain ⟨q1, q2⟩ := Prod.mk.inj h2
  have HQ := Aside0.mk (And.intro q1 q2)
  clear HH HH2 h2 hm q1 q2
  go_wp2_with (go_at_call 90; refine (f90_calls 6 w0 _ g A c l t1_ e1_ _ HP.out.2.1 hg HP.out.1 rfl).mono ?_; rintro r w8 ⟨rfl, hp⟩; have HP2 := Aside0.mk (HP.out.trans hp); clear hp)
  go_ret
  obtain ⟨q1, q2⟩ := HQ.out
  subst q1
  subst q2
  exact ⟨rfl, HP2.out⟩
 ·have hb : decide (2147483647 < m) = false := decide_eq_false hm
  rw [if_neg hm] at HH2
  obtain ⟨rfl, h2⟩ := Prod.mk.inj (Option.some.inj HH2)
  obtain ⟨rfl, rfl⟩ := Prod.mk.inj h2
  clear HH HH2 h2 hm
  go_wp2
  go_ret
  exact ⟨rfl, HP.out⟩
set_option maxHeartbeats 4000000 in
set_option maxRecDepth 100000 in
theorem f86_calls (k : Nat) (lim : Int) (w0 w : World) (g : Nat) (A : Option Addr) (c : Nat) (l : List Int) (t e n t' e' : Int) (hA : Kd.C (Kd.int .u8) w0 A l.length l) (hc : l.length ≤ c) (hB : Below w0.heap.size w0 w) (hg : w0.heap.size ≤ g) (hG : w.heap[g]? = some (RDo 106 A l c t e)) (h : ccountS k lim l t e = some (n, t', e')) :
  Calls Try.prog 86 #[.pointer (some ⟨g, 0, none⟩), .int .i64 lim] w fun x w' => x = .returned (.int .i64 n) ∧ RDp 106 w0 w g A l c t' e' w' := by
 unfold ccountS at h
 obtain ⟨⟨m, t1_, e1_⟩, hv, hs⟩ := Option.bind_eq_some_iff.mp h
 have HV := Aside0.mk hv
 have HA := Aside0.mk hA
 have HB := Aside0.mk hB
 have HG := Aside0.mk hG
 have HH := Aside0.mk hs
 clear hA hB hG h hv hs
 go_enter Try.func86, Try.ntmps86
 go_upto_region 2 with (go_at_call 85; refine (f85_calls k w0 w g A c l t e m t1_ e1_ HA.out hc HB.out hg HG.out HV.out).mono ?_; rintro e w9 ⟨rfl, hp⟩; have HP := Aside0.mk hp; clear hp)
 have HH2 := HH.out
 by_cases hm : lim < m
 ·have hb : decide (lim < m) = true := decide_eq_true hm
  rw [if_pos hm] at HH2
  obtain ⟨rfl, h2⟩ := Prod.mk.inj (Option.some.inj HH2)
  obtain ⟨q1, q2⟩ := Prod.mk.inj h2
  have HQ := Aside0.mk (And.intro q1 q2)
  clear HH HH2 h2 hm q1 q2
  go_wp2_with (go_at_call 90; refine (f90_calls 18 w0 _ g A c l t1_ e1_ _ HP.out.2.1 hg HP.out.1 rfl).mono ?_; rintro r w8 ⟨rfl, hp⟩; have HP2 := Aside0.mk (HP.out.trans hp); clear hp)
  go_ret
  obtain ⟨q1, q2⟩ := HQ.out
  subst q1
  subst q2
  exact ⟨rfl, HP2.out⟩
 ·have hb : decide (lim < m) = false := decide_eq_false hm
  rw [if_neg hm] at HH2
  obtain ⟨rfl, h2⟩ := Prod.mk.inj (Option.some.inj HH2)
  obtain ⟨rfl, rfl⟩ := Prod.mk.inj h2
  clear HH HH2 h2 hm
  go_wp2
  go_ret
  exact ⟨rfl, HP.out⟩
def f50_T5 : Bool × List (List Nat × List Nat) := (true, [([], []), ([0], [0]), ([1], [1]), ([2], [2]), ([], []), ([4], [4]), ([5], [5]), ([6], [6]), ([7], [7]), ([3, 8], [3, 8]), ([9], [9])])
def f50_B5 : List Nat := [0, 1, 3, 7, 0, 16, 48, 112, 240, 511, 1023]
set_option maxRecDepth 100000 in
theorem f50_tab5 : rtab .any (opsOf Try.f50 5) = f50_T5 := by kernel_rfl
theorem f50_bits5 : waitsOk f50_T5.2 f50_B5 = true := by kernel_rfl
def f50_T7 : Bool × List (List Nat × List Nat) := (true, [([], []), ([0], [0]), ([1], [1]), ([2], [2]), ([], []), ([4], [4]), ([5], [5]), ([6], [6]), ([3, 7], [3, 7]), ([8], [8]), ([9], [9]), ([10], [10])])
def f50_B7 : List Nat := [0, 1, 3, 7, 0, 16, 48, 112, 255, 511, 1023, 2047]
set_option maxRecDepth 100000 in
theorem f50_tab7 : rtab .any (opsOf Try.f50 7) = f50_T7 := by kernel_rfl
theorem f50_bits7 : waitsOk f50_T7.2 f50_B7 = true := by kernel_rfl
def f50_T2 : Bool × List (List Nat × List Nat) := (true, [([], []), ([0], [0]), ([1], [1]), ([2], [2]), ([], []), ([4], [4]), ([5], [5]), ([6], [6]), ([7], [7]), ([3, 8], [3, 8]), ([9], [9]), ([10], [10]), ([11, 0, 1, 2, 3, 4, 5, 6, 7, 8, 9, 10, 11], [11])])
def f50_B2 : List Nat := [0, 1, 3, 7, 0, 16, 48, 112, 240, 511, 1023, 2047, 4095]
set_option maxRecDepth 100000 in
theorem f50_tab2 : rtab .any (opsOf Try.f50 2) = f50_T2 := by kernel_rfl
theorem f50_bits2 : waitsOk f50_T2.2 f50_B2 = true := by kernel_rfl
def f88_T3 : Bool × List (List Nat × List Nat) := (true, [([], []), ([0], [0]), ([1], [1]), ([2], [2]), ([], []), ([4], [4]), ([5], [5]), ([6], [6]), ([7], [7]), ([3, 8], [3, 8])])
def f88_B3 : List Nat := [0, 1, 3, 7, 0, 16, 48, 112, 240, 511]
set_option maxRecDepth 100000 in
theorem f88_tab3 : rtab .any (opsOf Try.f88 3) = f88_T3 := by kernel_rfl
theorem f88_bits3 : waitsOk f88_T3.2 f88_B3 = true := by kernel_rfl
def f88_T6 : Bool × List (List Nat × List Nat) := (true, [([], []), ([0], [0]), ([1], [1]), ([2], [2]), ([], []), ([4], [4]), ([5], [5]), ([6], [6]), ([3, 7], [3, 7]), ([8], [8]), ([9, 0, 1, 2, 3, 4, 5, 6, 7, 8, 9], [9])])
def f88_B6 : List Nat := [0, 1, 3, 7, 0, 16, 48, 112, 255, 511, 1023]
set_option maxRecDepth 100000 in
theorem f88_tab6 : rtab .any (opsOf Try.f88 6) = f88_T6 := by kernel_rfl
theorem f88_bits6 : waitsOk f88_T6.2 f88_B6 = true := by kernel_rfl
set_option maxHeartbeats 4000000 in
set_option maxRecDepth 100000 in
theorem f50_calls (w0 w : World) (g : Nat) (A : Option Addr) (c : Nat) (l : List Int) (t e : Int) (r : Bool) (t' e' : Int) (hA : Kd.C (Kd.int .u8) w0 A l.length l) (hB : Below w0.heap.size w0 w) (hg : w0.heap.size ≤ g) (hG : w.heap[g]? = some (RDo 69 A l c t e)) (h : flagS l t e = some (r, t', e')) :
  Calls Try.prog 50 #[.pointer (some ⟨g, 0, none⟩)] w fun x w' => x = .returned (.bool r) ∧ RDp 69 w0 w g A l c t' e' w' := by
 have HP := Aside0.mk (RDp.refl hB hG)
 have HA := Aside0.mk hA
 have HB := Aside0.mk hB
 have hl : l.length ≤ 9223372036854775807 := hA.2.1
 have HG0 := Aside0.mk hG
 clear hA hB hG
 unfold flagS at h
 obtain ⟨t0, t1, t2⟩ := bc3 HP.out.1
 go_enter Try.func50, Try.ntmps50
 by_cases he : e = 0
 rotate_left
 ·rw [if_neg he] at h
  obtain ⟨rfl, h2⟩ := Prod.mk.inj (Option.some.inj h)
  obtain ⟨rfl, rfl⟩ := Prod.mk.inj h2
  have hb : (e != 0) = true := by simp [he]
  clear h h2 he
  go_wp2
  go_ret
  exact ⟨rfl, HP.out⟩
 rw [if_pos he] at h
 subst he
 have HS : Aside0 (∀ W, Below w.heap.size w W → W.cell? ⟨g, 0, none⟩ = some (.slice A l.length c) ∧ W.cell? ⟨g, 1, none⟩ = some (.int .i64 t) ∧ W.cell? ⟨g, 2, none⟩ = some (.int .i64 0) ∧ True) := ⟨fun W hb => ap3 (bc3 (blk_below HP.out.1 hb)) trivial⟩
 go_upto_region 5 with (fail)
 clear t0 t1 t2
 have HY := Aside0.mk (below_drew1 (Below.refl w.heap.size w))
 refine start_ (n := 11) (S := fun W => W.cell? ⟨g, 0, none⟩ = some (.slice A l.length c) ∧ W.cell? ⟨g, 1, none⟩ = some (.int .i64 t) ∧ W.cell? ⟨g, 2, none⟩ = some (.int .i64 0) ∧ True) (ds := []) #[false, false, false, false, false, false, false, false, false, false, false] (by kernel_rfl) rfl rfl (HS.out _ HY.out) (fun hHeld => ?_)
 refine with_tabW f50_tab5 f50_bits5 (fun HT_ HW_ => ?_)
 generalize w.drew = wd at HY hHeld ⊢
 refine pu_ HT_ 0 (some 29) ?_
 refine pu_ HT_ 1 (some 30) ?_
 refine pu_ HT_ 2 (some 31) ?_
 refine tk_ HT_ HW_ 3 (some 32) hHeld ?_
 refine pu_ HT_ 4 (some 33) ?_
 refine pu_ HT_ 5 (some 34) ?_
 refine pu_ HT_ 6 (some 35) ?_
 refine tk_ HT_ HW_ 7 (some 36) hHeld ?_
 refine pu_ HT_ 8 (some 37) ?_
 refine pu_ HT_ 9 (some 38) ?_
 refine pu_ HT_ 10 (some 28) ?_
 refine done_ (done_of HT_.out (by kernel_rfl)) ?_
 clear HT_ HW_ hHeld
 replace HP := Aside0.mk (RDp.of HB.out HP.out.1 HY.out)
 obtain ⟨t0, t1, t2⟩ := bc3 HP.out.1
 have z1 := blk_frozen HP.out.1 1
 have z2 := blk_frozen HP.out.1 2
 by_cases ht : t = (l.length : Int)
 ·rw [if_pos ht] at h
  have hb : (t == (l.length : Int)) = true := by simp [ht]
  obtain ⟨rfl, h2⟩ := Prod.mk.inj (Option.some.inj h)
  obtain ⟨rfl, rfl⟩ := Prod.mk.inj h2
  clear h h2 ht
  go_wp2
  go_ret
  exact ⟨rfl, HP.out.set2 hg 2⟩
 rw [if_neg ht] at h
 have hb : (t == (l.length : Int)) = false := by simp [ht]
 clear ht
 by_cases hr : 0 ≤ t ∧ t < (l.length : Int)
 rotate_left
 ·rw [if_neg hr] at h
  exact absurd h (by simp)
 rw [if_pos hr] at h
 obtain ⟨ad, rfl, hx⟩ := Kd.at_int HA.out t hr.1 hr.2
 obtain ⟨b, hbb⟩ : ∃ b, rd l t = b := ⟨_, rfl⟩
 rw [hbb] at hx h
 have HX := Aside0.mk hx
 have HH := Aside0.mk h
 have HSB : Aside0 (∀ W, Below w.heap.size w W → W.cell? ⟨g, 0, none⟩ = some (.slice (some ad) l.length c) ∧ W.cell? ⟨g, 1, none⟩ = some (.int .i64 t) ∧ W.cell? ⟨g, 2, none⟩ = some (.int .i64 0) ∧ W.cell? (ad.add t.toNat) = some (.int .u8 b)) := ⟨fun W hb => by
  obtain ⟨t0, t1, t2, _⟩ := HS.out W hb
  exact ⟨t0, t1, t2, up_ hb (up_ HB.out HX.out)⟩⟩
 have hp0 : decide (0 ≤ t) = true := decide_eq_true hr.1
 have hp1 : decide (t < (l.length : Int)) = true := decide_eq_true hr.2
 have hp2 : (0 ≤ t) = True := eq_true hr.1
 have hp3 : (t < (l.length : Int)) = True := eq_true hr.2
 have hw1 : IntKind.i64.wrap (t + 1) = t + 1 := by rw [i64_w]; unfold wrap64; omega
 have hw2 : IntKind.i64.wrap t = t := by rw [i64_w]; unfold wrap64; omega
 have hw3 : wrap64 (t + 1) = t + 1 := by unfold wrap64; omega
 have hw4 : wrap64 t = t := by unfold wrap64; omega
 have hw5 : IntKind.i64.wrap (t + 1 - 1) = t := by rw [i64_w]; unfold wrap64; omega
 clear hbb hx hr h
 go_upto_region 7 with (fail)
 clear t0 t1 t2 z1 z2
 replace HY := Aside0.mk (below_drew1 HY.out)
 refine start_ (n := 12) (S := fun W => W.cell? ⟨g, 0, none⟩ = some (.slice (some ad) l.length c) ∧ W.cell? ⟨g, 1, none⟩ = some (.int .i64 t) ∧ W.cell? ⟨g, 2, none⟩ = some (.int .i64 0) ∧ W.cell? (ad.add t.toNat) = some (.int .u8 b)) (ds := []) #[false, false, false, false, false, false, false, false, false, false, false, false] (by kernel_rfl) rfl rfl (HSB.out _ HY.out) (fun hHeld => ?_)
 refine with_tabW f50_tab7 f50_bits7 (fun HT_ HW_ => ?_)
 generalize wd.drew = wd2 at HY hHeld ⊢
 refine pu_ HT_ 0 (some 43) ?_
 refine pu_ HT_ 1 (some 44) ?_
 refine pu_ HT_ 2 (some 45) ?_
 refine tk_ HT_ HW_ 3 (some 46) hHeld ?_
 refine pu_ HT_ 4 (some 47) ?_
 refine pu_ HT_ 5 (some 48) ?_
 refine pu_ HT_ 6 (some 49) ?_
 refine tk_ HT_ HW_ 7 (some 50) hHeld ?_
 refine tk_ HT_ HW_ 8 (some 51) hHeld ?_
 refine tk_ HT_ HW_ 9 (some 52) hHeld ?_
 refine pu_ HT_ 10 (some 53) ?_
 refine pu_ HT_ 11 (some 42) ?_
 refine done_ (done_of HT_.out (by kernel_rfl)) ?_
 clear HT_ HW_ hHeld
 replace HP := Aside0.mk (RDp.of (g := g) (A := some ad) (l := l) (c := c) (t := t) (e := 0) (w := w) HB.out HG0.out HY.out)
 obtain ⟨t0, t1, t2⟩ := bc3 HP.out.1
 have z1 := blk_frozen HP.out.1 1
 have z2 := blk_frozen HP.out.1 2
 have h := HH.out
 by_cases h1 : 1 < b
 ·rw [if_pos h1] at h
  have hb1 : decide (1 < b) = true := decide_eq_true h1
  (try rw [hb1])
  obtain ⟨rfl, h2⟩ := Prod.mk.inj (Option.some.inj h)
  obtain ⟨rfl, rfl⟩ := Prod.mk.inj h2
  clear h h2 h1 HH
  go_wp2
  go_ret
  exact ⟨rfl, HP.out.set2 hg 4⟩
 rw [if_neg h1] at h
 have hb1 : decide (1 < b) = false := decide_eq_false h1
 (try rw [hb1])
 obtain ⟨rfl, h2⟩ := Prod.mk.inj (Option.some.inj h)
 obtain ⟨rfl, rfl⟩ := Prod.mk.inj h2
 clear h h2 h1 HH
 go_upto_region 2 with (fail)
 replace HP := Aside0.mk (HP.out.set1 hg (t + 1))
 have HW := Aside0.mk (HSB.out _ HY.out).2.2.2
 clear t0 t1 t2 z1 z2
 generalize hW1 : wd2.setCell ⟨g, 1, none⟩ (.int .i64 (t + 1)) = W1 at HP ⊢
 have HBY : Aside0 (W1.cell? (ad.add t.toNat) = some (.int .u8 b)) := ⟨by rw [← hW1, cell_far (by show (ad.add t.toNat).block ≠ g; have := World.block_lt_of_cell? w0 _ HX.out; omega)]; exact HW.out⟩
 clear hW1 HW HY
 have HY := Aside0.mk (below_drew1 (Below.refl W1.heap.size W1))
 have HSC : Aside0 (∀ W, Below W1.heap.size W1 W → W.cell? ⟨g, 0, none⟩ = some (.slice (some ad) l.length c) ∧ W.cell? ⟨g, 1, none⟩ = some (.int .i64 (t + 1)) ∧ W.cell? ⟨g, 2, none⟩ = some (.int .i64 0) ∧ W.cell? (ad.add t.toNat) = some (.int .u8 b)) := ⟨fun W hb => by
  obtain ⟨t0, t1, t2⟩ := bc3 (blk_below HP.out.1 hb)
  exact ⟨t0, t1, t2, up_ hb HBY.out⟩⟩
 refine start_ (n := 13) (S := fun W => W.cell? ⟨g, 0, none⟩ = some (.slice (some ad) l.length c) ∧ W.cell? ⟨g, 1, none⟩ = some (.int .i64 (t + 1)) ∧ W.cell? ⟨g, 2, none⟩ = some (.int .i64 0) ∧ W.cell? (ad.add t.toNat) = some (.int .u8 b)) (ds := []) #[false, false, false, false, false, false, false, false, false, false, false, false, false] (by kernel_rfl) rfl rfl (HSC.out _ HY.out) (fun hHeld => ?_)
 refine with_tabW f50_tab2 f50_bits2 (fun HT_ HW_ => ?_)
 generalize W1.drew = wd3 at HY hHeld ⊢
 refine pu_ HT_ 0 (some 10) ?_
 refine pu_ HT_ 1 (some 11) ?_
 refine pu_ HT_ 2 (some 12) ?_
 refine tk_ HT_ HW_ 3 (some 13) hHeld ?_
 refine pu_ HT_ 4 (some 14) ?_
 refine pu_ HT_ 5 (some 15) ?_
 refine pu_ HT_ 6 (some 16) ?_
 refine tk_ HT_ HW_ 7 (some 17) hHeld ?_
 refine pu_ HT_ 8 (some 18) ?_
 refine tk_ HT_ HW_ 9 (some 19) hHeld ?_
 refine tk_ HT_ HW_ 10 (some 20) hHeld ?_
 refine pu_ HT_ 11 (some 21) ?_
 refine pu_ HT_ 12 (some 2) ?_
 refine done_ (done_of HT_.out (by kernel_rfl)) ?_
 clear HT_ HW_ hHeld
 replace HP := Aside0.mk (HP.out.trans (RDp.of HP.out.2.1 HP.out.1 HY.out))
 go_wp2
 go_ret
 exact ⟨rfl, HP.out⟩
set_option maxHeartbeats 4000000 in
set_option maxRecDepth 100000 in
theorem f88_calls (w0 w : World) (g : Nat) (A : Option Addr) (c : Nat) (l : List Int) (t e : Int) (r : Bool) (t' e' : Int) (hA : Kd.C (Kd.int .u8) w0 A l.length l) (hB : Below w0.heap.size w0 w) (hg : w0.heap.size ≤ g) (hG : w.heap[g]? = some (RDo 106 A l c t e)) (h : flagS l t e = some (r, t', e')) :
  Calls Try.prog 88 #[.pointer (some ⟨g, 0, none⟩)] w fun x w' => x = .returned (.bool r) ∧ RDp 106 w0 w g A l c t' e' w' := by
 have HP := Aside0.mk (RDp.refl hB hG)
 have HA := Aside0.mk hA
 have HB := Aside0.mk hB
 have hl : l.length ≤ 9223372036854775807 := hA.2.1
 have HG0 := Aside0.mk hG
 clear hA hB hG
 unfold flagS at h
 obtain ⟨t0, t1, t2⟩ := bc3 HP.out.1
 go_enter Try.func88, Try.ntmps88
 by_cases he : e = 0
 rotate_left
 ·rw [if_neg he] at h
  obtain ⟨rfl, h2⟩ := Prod.mk.inj (Option.some.inj h)
  obtain ⟨rfl, rfl⟩ := Prod.mk.inj h2
  have hb : (e != 0) = true := by simp [he]
  clear h h2 he
  go_wp2
  go_ret
  exact ⟨rfl, HP.out⟩
 rw [if_pos he] at h
 subst he
 have HS : Aside0 (∀ W, Below w.heap.size w W → W.cell? ⟨g, 0, none⟩ = some (.slice A l.length c) ∧ W.cell? ⟨g, 1, none⟩ = some (.int .i64 t) ∧ W.cell? ⟨g, 2, none⟩ = some (.int .i64 0) ∧ True) := ⟨fun W hb => ap3 (bc3 (blk_below HP.out.1 hb)) trivial⟩
 go_upto_region 3 with (fail)
 clear t0 t1 t2
 have HY := Aside0.mk (below_drew1 (Below.refl w.heap.size w))
 refine start_ (n := 10) (S := fun W => W.cell? ⟨g, 0, none⟩ = some (.slice A l.length c) ∧ W.cell? ⟨g, 1, none⟩ = some (.int .i64 t) ∧ W.cell? ⟨g, 2, none⟩ = some (.int .i64 0) ∧ True) (ds := []) #[false, false, false, false, false, false, false, false, false, false] (by kernel_rfl) rfl rfl (HS.out _ HY.out) (fun hHeld => ?_)
 refine with_tabW f88_tab3 f88_bits3 (fun HT_ HW_ => ?_)
 generalize w.drew = wd at HY hHeld ⊢
 refine pu_ HT_ 0 (some 9) ?_
 refine pu_ HT_ 1 (some 10) ?_
 refine pu_ HT_ 2 (some 11) ?_
 refine tk_ HT_ HW_ 3 (some 12) hHeld ?_
 refine pu_ HT_ 4 (some 13) ?_
 refine pu_ HT_ 5 (some 14) ?_
 refine pu_ HT_ 6 (some 15) ?_
 refine tk_ HT_ HW_ 7 (some 16) hHeld ?_
 refine pu_ HT_ 8 (some 17) ?_
 refine pu_ HT_ 9 (some 18) ?_
 refine done_ (done_of HT_.out (by kernel_rfl)) ?_
 clear HT_ HW_ hHeld
 replace HP := Aside0.mk (RDp.of HB.out HP.out.1 HY.out)
 obtain ⟨t0, t1, t2⟩ := bc3 HP.out.1
 have z1 := blk_frozen HP.out.1 1
 have z2 := blk_frozen HP.out.1 2
 by_cases ht : t = (l.length : Int)
 ·rw [if_pos ht] at h
  have hb : (t == (l.length : Int)) = true := by simp [ht]
  obtain ⟨rfl, h2⟩ := Prod.mk.inj (Option.some.inj h)
  obtain ⟨rfl, rfl⟩ := Prod.mk.inj h2
  clear h h2 ht
  go_wp2_with (go_at_call 90; refine (f90_calls 2 w0 _ g A c l t 0 2 HP.out.2.1 hg HP.out.1 (if_pos rfl)).mono ?_; rintro r w8 ⟨rfl, hp⟩; have HP2 := Aside0.mk (HP.out.trans hp); clear hp)
  go_ret
  exact ⟨rfl, HP2.out⟩
 rw [if_neg ht] at h
 have hb : (t == (l.length : Int)) = false := by simp [ht]
 clear ht
 by_cases hr : 0 ≤ t ∧ t < (l.length : Int)
 rotate_left
 ·rw [if_neg hr] at h
  exact absurd h (by simp)
 rw [if_pos hr] at h
 obtain ⟨ad, rfl, hx⟩ := Kd.at_int HA.out t hr.1 hr.2
 obtain ⟨b, hbb⟩ : ∃ b, rd l t = b := ⟨_, rfl⟩
 rw [hbb] at hx h
 have HX := Aside0.mk hx
 have HH := Aside0.mk h
 have HSB : Aside0 (∀ W, Below w.heap.size w W → W.cell? ⟨g, 0, none⟩ = some (.slice (some ad) l.length c) ∧ W.cell? ⟨g, 1, none⟩ = some (.int .i64 t) ∧ W.cell? ⟨g, 2, none⟩ = some (.int .i64 0) ∧ W.cell? (ad.add t.toNat) = some (.int .u8 b)) := ⟨fun W hb => by
  obtain ⟨t0, t1, t2, _⟩ := HS.out W hb
  exact ⟨t0, t1, t2, up_ hb (up_ HB.out HX.out)⟩⟩
 have hp0 : decide (0 ≤ t) = true := decide_eq_true hr.1
 have hp1 : decide (t < (l.length : Int)) = true := decide_eq_true hr.2
 have hp2 : (0 ≤ t) = True := eq_true hr.1
 have hp3 : (t < (l.length : Int)) = True := eq_true hr.2
 have hw1 : IntKind.i64.wrap (t + 1) = t + 1 := by rw [i64_w]; unfold wrap64; omega
 have hw2 : IntKind.i64.wrap t = t := by rw [i64_w]; unfold wrap64; omega
 have hw3 : wrap64 (t + 1) = t + 1 := by unfold wrap64; omega
 have hw4 : wrap64 t = t := by unfold wrap64; omega
 have hw5 : IntKind.i64.wrap (t + 1 - 1) = t := by rw [i64_w]; unfold wrap64; omega
 clear hbb hx hr h
 go_upto_region 6 with (fail)
 clear t0 t1 t2 z1 z2
 replace HY := Aside0.mk (below_drew1 HY.out)
 refine start_ (n := 11) (S := fun W => W.cell? ⟨g, 0, none⟩ = some (.slice (some ad) l.length c) ∧ W.cell? ⟨g, 1, none⟩ = some (.int .i64 t) ∧ W.cell? ⟨g, 2, none⟩ = some (.int .i64 0) ∧ W.cell? (ad.add t.toNat) = some (.int .u8 b)) (ds := []) #[false, false, false, false, false, false, false, false, false, false, false] (by kernel_rfl) rfl rfl (HSB.out _ HY.out) (fun hHeld => ?_)
 refine with_tabW f88_tab6 f88_bits6 (fun HT_ HW_ => ?_)
 generalize wd.drew = wd2 at HY hHeld ⊢
 refine pu_ HT_ 0 (some 21) ?_
 refine pu_ HT_ 1 (some 22) ?_
 refine pu_ HT_ 2 (some 23) ?_
 refine tk_ HT_ HW_ 3 (some 24) hHeld ?_
 refine pu_ HT_ 4 (some 25) ?_
 refine pu_ HT_ 5 (some 26) ?_
 refine pu_ HT_ 6 (some 27) ?_
 refine tk_ HT_ HW_ 7 (some 28) hHeld ?_
 refine tk_ HT_ HW_ 8 (some 29) hHeld ?_
 refine tk_ HT_ HW_ 9 (some 30) hHeld ?_
 refine pu_ HT_ 10 (some 3) ?_
 refine done_ (done_of HT_.out (by kernel_rfl)) ?_
 clear HT_ HW_ hHeld
 replace HP := Aside0.mk (RDp.of (g := g) (A := some ad) (l := l) (c := c) (t := t) (e := 0) (w := w) HB.out HG0.out HY.out)
 obtain ⟨t0, t1, t2⟩ := bc3 HP.out.1
 have z1 := blk_frozen HP.out.1 1
 have z2 := blk_frozen HP.out.1 2
 have h := HH.out
 by_cases h1 : 1 < b
 ·rw [if_pos h1] at h
  have hb1 : decide (1 < b) = true := decide_eq_true h1
  (try rw [hb1])
  obtain ⟨rfl, h2⟩ := Prod.mk.inj (Option.some.inj h)
  obtain ⟨rfl, rfl⟩ := Prod.mk.inj h2
  clear h h2 h1 HH
  go_wp2_with (go_at_call 90; refine (f90_calls 4 w0 _ g (some ad) c l t 0 4 HP.out.2.1 hg HP.out.1 (if_pos rfl)).mono ?_; rintro r w8 ⟨rfl, hp⟩; have HP2 := Aside0.mk (HP.out.trans hp); clear hp)
  go_ret
  exact ⟨rfl, HP2.out⟩
 rw [if_neg h1] at h
 have hb1 : decide (1 < b) = false := decide_eq_false h1
 (try rw [hb1])
 obtain ⟨rfl, h2⟩ := Prod.mk.inj (Option.some.inj h)
 obtain ⟨rfl, rfl⟩ := Prod.mk.inj h2
 clear h h2 h1 HH
 go_wp2
 go_ret
 exact ⟨rfl, HP.out.set1 hg (t + 1)⟩
end Go.Proofs.Ytackcingpffidaa.P
namespace Go.Proofs.Ytackcingpffidaa.P
open Go.RowKit Go.Proofs.YtackcingpffidaaW.PrintWords Go.Proofs.YtackcingpffidaaW.PrintLast Go.Proofs.YtackcingpffidaaW.PrintMore
attribute [local go_sem] max2_int min2_int max_two min_two max_three min_three max_four min_four Go.Proofs.YtackcingpffidaaQ.str_gtr Go.Proofs.YtackcingpffidaaQ.str_leq Go.Proofs.YtackcingpffidaaQ.str_geq   -- for this text's walks alone
set_option linter.unusedVariables false
set_option linter.unusedSimpArgs false
/-! ### value_Valid: function 107 -/
def value_Valid.f (a0_0 : Int) (a0_1 : Int) (a0_2 : ByteArray) : Option (Bool) := if a0_0 = 0 then (if a0_1 = 0 then (some (a0_2.toList == ([] : List UInt8))) else (some false)) else (if a0_0 = 1 then (if a0_2.toList = ([] : List UInt8) then (if a0_1 = 0 then (some true) else (some (a0_1 == 1))) else (some false)) else (if a0_0 = 2 then (some (a0_2.toList == ([] : List UInt8))) else (if a0_0 = 3 then (if a0_1 = 0 then (some (decide ((a0_2.size : Int) ≤ 4096))) else (some false)) else (some false))))
set_option maxHeartbeats 8000000 in
set_option maxRecDepth 100000 in
theorem value_Valid.calls (a0_0 : Int) (a0_1 : Int) (a0_2 : ByteArray) (r : Bool) (w : World) (h : value_Valid.f a0_0 a0_1 a0_2 = some r) :
  Calls Try.prog 107 #[.agg #[.int .i64 a0_0, .int .i64 a0_1, .string a0_2]] w fun e w' => e = .returned (.bool r) ∧ Below w.heap.size w w' := by
 have hu39 := Try.underlying39
 have HB := Aside0.mk (Below.refl w.heap.size w)
 have H : (if a0_0 = 0 then (if a0_1 = 0 then (some (a0_2.toList == ([] : List UInt8))) else (some false)) else (if a0_0 = 1 then (if a0_2.toList = ([] : List UInt8) then (if a0_1 = 0 then (some true) else (some (a0_1 == 1))) else (some false)) else (if a0_0 = 2 then (some (a0_2.toList == ([] : List UInt8))) else (if a0_0 = 3 then (if a0_1 = 0 then (some (decide ((a0_2.size : Int) ≤ 4096))) else (some false)) else (some false))))) = some r := h
 clear h
 by_cases c2 : a0_0 = 0
 ·rw [if_pos c2] at H
  have c2b0 : (a0_0 == 0) = true := beq_iff_eq.mpr c2
  have c2b1 : (a0_0 != 0) = false := bne_eq_false_iff_eq.mpr c2
  clear c2
  by_cases c3 : a0_1 = 0
  ·rw [if_pos c3] at H
   have c3b0 : (a0_1 == 0) = true := beq_iff_eq.mpr c3
   have c3b1 : (a0_1 != 0) = false := bne_eq_false_iff_eq.mpr c3
   clear c3
   obtain rfl := Option.some.inj H
   go_enter Try.func107, Try.ntmps107
   go_wp2_with (first | ((with_reducible refine gate_dst (N := 1) rfl ?_); (try (refine gate_guard (by rfl) ?_; dsimp only)); refine box_ 1 (cs := #[.int .i64 a0_0, .int .i64 a0_1, .string a0_2]) (t := 39) ?_; intro gb357 hg w4 hbox hb; have BK357 := Aside0.mk (hbox); have GW357 := Aside0.mk ((by rw [hg]; exact (below_size (hb_ HB.out)) : w.heap.size ≤ gb357)); have GE357 := Aside0.mk ((by rw [hg]; exact (below_size (hb_ HB.out)) : w.heap.size ≤ gb357)); replace HB := Aside0.mk (below_step (hb_ HB.out) hb); clear hb hbox hg; obtain ⟨hcz5_0, hcz5_1, hcz5_2, hfz5_0, hfz5_1, hfz5_2⟩ := bf3 BK357.out))
   go_ret
   exact er_ ((hb1_ HB.out GE357.out))
  ·rw [if_neg c3] at H
   have c3b0 : (a0_1 == 0) = false := beq_eq_false_iff_ne.mpr c3
   have c3b1 : (a0_1 != 0) = true := bne_iff_ne.mpr c3
   obtain rfl := Option.some.inj H
   go_enter Try.func107, Try.ntmps107
   go_wp2_with (first | ((with_reducible refine gate_dst (N := 1) rfl ?_); (try (refine gate_guard (by rfl) ?_; dsimp only)); refine box_ 1 (cs := #[.int .i64 a0_0, .int .i64 a0_1, .string a0_2]) (t := 39) ?_; intro gb357 hg w6 hbox hb; have BK357 := Aside0.mk (hbox); have GW357 := Aside0.mk ((by rw [hg]; exact (below_size (hb_ HB.out)) : w.heap.size ≤ gb357)); have GE357 := Aside0.mk ((by rw [hg]; exact (below_size (hb_ HB.out)) : w.heap.size ≤ gb357)); replace HB := Aside0.mk (below_step (hb_ HB.out) hb); clear hb hbox hg; obtain ⟨hcz7_0, hcz7_1, hcz7_2, hfz7_0, hfz7_1, hfz7_2⟩ := bf3 BK357.out))
   go_ret
   exact er_ ((hb1_ HB.out GE357.out))
 ·rw [if_neg c2] at H
  have c2b0 : (a0_0 == 0) = false := beq_eq_false_iff_ne.mpr c2
  have c2b1 : (a0_0 != 0) = true := bne_iff_ne.mpr c2
  by_cases c8 : a0_0 = 1
  ·rw [if_pos c8] at H
   have c8b0 : (a0_0 == 1) = true := beq_iff_eq.mpr c8
   have c8b1 : (a0_0 != 1) = false := bne_eq_false_iff_eq.mpr c8
   clear c8
   by_cases c9 : a0_2.toList = ([] : List UInt8)
   ·rw [if_pos c9] at H
    have c9b0 : (a0_2.toList == ([] : List UInt8)) = true := beq_iff_eq.mpr c9
    have c9b1 : (a0_2.toList != ([] : List UInt8)) = false := bne_eq_false_iff_eq.mpr c9
    clear c9
    by_cases c10 : a0_1 = 0
    ·rw [if_pos c10] at H
     have c10b0 : (a0_1 == 0) = true := beq_iff_eq.mpr c10
     have c10b1 : (a0_1 != 0) = false := bne_eq_false_iff_eq.mpr c10
     clear c10
     obtain rfl := Option.some.inj H
     go_enter Try.func107, Try.ntmps107
     go_wp2_with (first | ((with_reducible refine gate_dst (N := 1) rfl ?_); (try (refine gate_guard (by rfl) ?_; dsimp only)); refine box_ 1 (cs := #[.int .i64 a0_0, .int .i64 a0_1, .string a0_2]) (t := 39) ?_; intro gb357 hg w11 hbox hb; have BK357 := Aside0.mk (hbox); have GW357 := Aside0.mk ((by rw [hg]; exact (below_size (hb_ HB.out)) : w.heap.size ≤ gb357)); have GE357 := Aside0.mk ((by rw [hg]; exact (below_size (hb_ HB.out)) : w.heap.size ≤ gb357)); replace HB := Aside0.mk (below_step (hb_ HB.out) hb); clear hb hbox hg; obtain ⟨hcz12_0, hcz12_1, hcz12_2, hfz12_0, hfz12_1, hfz12_2⟩ := bf3 BK357.out))
     go_ret
     exact er_ ((hb1_ HB.out GE357.out))
    ·rw [if_neg c10] at H
     have c10b0 : (a0_1 == 0) = false := beq_eq_false_iff_ne.mpr c10
     have c10b1 : (a0_1 != 0) = true := bne_iff_ne.mpr c10
     obtain rfl := Option.some.inj H
     go_enter Try.func107, Try.ntmps107
     go_wp2_with (first | ((with_reducible refine gate_dst (N := 1) rfl ?_); (try (refine gate_guard (by rfl) ?_; dsimp only)); refine box_ 1 (cs := #[.int .i64 a0_0, .int .i64 a0_1, .string a0_2]) (t := 39) ?_; intro gb357 hg w13 hbox hb; have BK357 := Aside0.mk (hbox); have GW357 := Aside0.mk ((by rw [hg]; exact (below_size (hb_ HB.out)) : w.heap.size ≤ gb357)); have GE357 := Aside0.mk ((by rw [hg]; exact (below_size (hb_ HB.out)) : w.heap.size ≤ gb357)); replace HB := Aside0.mk (below_step (hb_ HB.out) hb); clear hb hbox hg; obtain ⟨hcz14_0, hcz14_1, hcz14_2, hfz14_0, hfz14_1, hfz14_2⟩ := bf3 BK357.out))
     go_ret
     exact er_ ((hb1_ HB.out GE357.out))
   ·rw [if_neg c9] at H
    have c9b0 : (a0_2.toList == ([] : List UInt8)) = false := beq_eq_false_iff_ne.mpr c9
    have c9b1 : (a0_2.toList != ([] : List UInt8)) = true := bne_iff_ne.mpr c9
    obtain rfl := Option.some.inj H
    go_enter Try.func107, Try.ntmps107
    go_wp2_with (first | ((with_reducible refine gate_dst (N := 1) rfl ?_); (try (refine gate_guard (by rfl) ?_; dsimp only)); refine box_ 1 (cs := #[.int .i64 a0_0, .int .i64 a0_1, .string a0_2]) (t := 39) ?_; intro gb357 hg w15 hbox hb; have BK357 := Aside0.mk (hbox); have GW357 := Aside0.mk ((by rw [hg]; exact (below_size (hb_ HB.out)) : w.heap.size ≤ gb357)); have GE357 := Aside0.mk ((by rw [hg]; exact (below_size (hb_ HB.out)) : w.heap.size ≤ gb357)); replace HB := Aside0.mk (below_step (hb_ HB.out) hb); clear hb hbox hg; obtain ⟨hcz16_0, hcz16_1, hcz16_2, hfz16_0, hfz16_1, hfz16_2⟩ := bf3 BK357.out))
    go_ret
    exact er_ ((hb1_ HB.out GE357.out))
  ·rw [if_neg c8] at H
   have c8b0 : (a0_0 == 1) = false := beq_eq_false_iff_ne.mpr c8
   have c8b1 : (a0_0 != 1) = true := bne_iff_ne.mpr c8
   by_cases c17 : a0_0 = 2
   ·rw [if_pos c17] at H
    have c17b0 : (a0_0 == 2) = true := beq_iff_eq.mpr c17
    have c17b1 : (a0_0 != 2) = false := bne_eq_false_iff_eq.mpr c17
    clear c17
    obtain rfl := Option.some.inj H
    go_enter Try.func107, Try.ntmps107
    go_wp2_with (first | ((with_reducible refine gate_dst (N := 1) rfl ?_); (try (refine gate_guard (by rfl) ?_; dsimp only)); refine box_ 1 (cs := #[.int .i64 a0_0, .int .i64 a0_1, .string a0_2]) (t := 39) ?_; intro gb357 hg w18 hbox hb; have BK357 := Aside0.mk (hbox); have GW357 := Aside0.mk ((by rw [hg]; exact (below_size (hb_ HB.out)) : w.heap.size ≤ gb357)); have GE357 := Aside0.mk ((by rw [hg]; exact (below_size (hb_ HB.out)) : w.heap.size ≤ gb357)); replace HB := Aside0.mk (below_step (hb_ HB.out) hb); clear hb hbox hg; obtain ⟨hcz19_0, hcz19_1, hcz19_2, hfz19_0, hfz19_1, hfz19_2⟩ := bf3 BK357.out))
    go_ret
    exact er_ ((hb1_ HB.out GE357.out))
   ·rw [if_neg c17] at H
    have c17b0 : (a0_0 == 2) = false := beq_eq_false_iff_ne.mpr c17
    have c17b1 : (a0_0 != 2) = true := bne_iff_ne.mpr c17
    by_cases c20 : a0_0 = 3
    ·rw [if_pos c20] at H
     have c20b0 : (a0_0 == 3) = true := beq_iff_eq.mpr c20
     have c20b1 : (a0_0 != 3) = false := bne_eq_false_iff_eq.mpr c20
     clear c20
     by_cases c21 : a0_1 = 0
     ·rw [if_pos c21] at H
      have c21b0 : (a0_1 == 0) = true := beq_iff_eq.mpr c21
      have c21b1 : (a0_1 != 0) = false := bne_eq_false_iff_eq.mpr c21
      clear c21
      obtain rfl := Option.some.inj H
      go_enter Try.func107, Try.ntmps107
      go_wp2_with (first | ((with_reducible refine gate_dst (N := 1) rfl ?_); (try (refine gate_guard (by rfl) ?_; dsimp only)); refine box_ 1 (cs := #[.int .i64 a0_0, .int .i64 a0_1, .string a0_2]) (t := 39) ?_; intro gb357 hg w22 hbox hb; have BK357 := Aside0.mk (hbox); have GW357 := Aside0.mk ((by rw [hg]; exact (below_size (hb_ HB.out)) : w.heap.size ≤ gb357)); have GE357 := Aside0.mk ((by rw [hg]; exact (below_size (hb_ HB.out)) : w.heap.size ≤ gb357)); replace HB := Aside0.mk (below_step (hb_ HB.out) hb); clear hb hbox hg; obtain ⟨hcz23_0, hcz23_1, hcz23_2, hfz23_0, hfz23_1, hfz23_2⟩ := bf3 BK357.out))
      go_ret
      exact er_ ((hb1_ HB.out GE357.out))
     ·rw [if_neg c21] at H
      have c21b0 : (a0_1 == 0) = false := beq_eq_false_iff_ne.mpr c21
      have c21b1 : (a0_1 != 0) = true := bne_iff_ne.mpr c21
      obtain rfl := Option.some.inj H
      go_enter Try.func107, Try.ntmps107
      go_wp2_with (first | ((with_reducible refine gate_dst (N := 1) rfl ?_); (try (refine gate_guard (by rfl) ?_; dsimp only)); refine box_ 1 (cs := #[.int .i64 a0_0, .int .i64 a0_1, .string a0_2]) (t := 39) ?_; intro gb357 hg w24 hbox hb; have BK357 := Aside0.mk (hbox); have GW357 := Aside0.mk ((by rw [hg]; exact (below_size (hb_ HB.out)) : w.heap.size ≤ gb357)); have GE357 := Aside0.mk ((by rw [hg]; exact (below_size (hb_ HB.out)) : w.heap.size ≤ gb357)); replace HB := Aside0.mk (below_step (hb_ HB.out) hb); clear hb hbox hg; obtain ⟨hcz25_0, hcz25_1, hcz25_2, hfz25_0, hfz25_1, hfz25_2⟩ := bf3 BK357.out))
      go_ret
      exact er_ ((hb1_ HB.out GE357.out))
    ·rw [if_neg c20] at H
     have c20b0 : (a0_0 == 3) = false := beq_eq_false_iff_ne.mpr c20
     have c20b1 : (a0_0 != 3) = true := bne_iff_ne.mpr c20
     obtain rfl := Option.some.inj H
     go_enter Try.func107, Try.ntmps107
     go_wp2_with (first | ((with_reducible refine gate_dst (N := 1) rfl ?_); (try (refine gate_guard (by rfl) ?_; dsimp only)); refine box_ 1 (cs := #[.int .i64 a0_0, .int .i64 a0_1, .string a0_2]) (t := 39) ?_; intro gb357 hg w26 hbox hb; have BK357 := Aside0.mk (hbox); have GW357 := Aside0.mk ((by rw [hg]; exact (below_size (hb_ HB.out)) : w.heap.size ≤ gb357)); have GE357 := Aside0.mk ((by rw [hg]; exact (below_size (hb_ HB.out)) : w.heap.size ≤ gb357)); replace HB := Aside0.mk (below_step (hb_ HB.out) hb); clear hb hbox hg; obtain ⟨hcz27_0, hcz27_1, hcz27_2, hfz27_0, hfz27_1, hfz27_2⟩ := bf3 BK357.out))
     go_ret
     exact er_ ((hb1_ HB.out GE357.out))
/-! ### value_sign: function 99 -/
def value_sign.f (a0 : Bool) (a1 : Bool) : Option (Int) := if a0 = true then (some (-1)) else (if a1 = true then (some 1) else (some 0))
set_option maxHeartbeats 8000000 in
set_option maxRecDepth 100000 in
theorem value_sign.calls (a0 : Bool) (a1 : Bool) (r : Int) (w : World) (h : value_sign.f a0 a1 = some r) :
  Calls Try.prog 99 #[.bool a0, .bool a1] w fun e w' => e = .returned (.int .i64 r) ∧ Drawn0 w w' := by
 have H : (if a0 = true then (some (-1)) else (if a1 = true then (some 1) else (some 0))) = some r := h
 clear h
 by_cases c3 : a0 = true
 ·subst c3
  have H1 : (some (-1)) = some r := by rw [if_pos rfl] at H; exact H
  clear H
  have H := H1
  clear H1
  obtain rfl := Option.some.inj H
  go_enter Try.func99, Try.ntmps99
  go_wp2
  go_ret
  exact ⟨by first | rfl | (simp; done) | (simp [*]; done), by repeat (first | exact Drawn0.refl _ | apply Drawn0.step)⟩
 ·replace c3 := Bool.eq_false_iff.mpr c3
  subst c3
  have H1 : (if a1 = true then (some 1) else (some 0)) = some r := by rw [if_neg (show ¬ (false = true) by decide)] at H; exact H
  clear H
  have H := H1
  clear H1
  by_cases c4 : a1 = true
  ·subst c4
   have H1 : (some 1) = some r := by rw [if_pos rfl] at H; exact H
   clear H
   have H := H1
   clear H1
   obtain rfl := Option.some.inj H
   go_enter Try.func99, Try.ntmps99
   go_wp2
   go_ret
   exact ⟨by first | rfl | (simp; done) | (simp [*]; done), by repeat (first | exact Drawn0.refl _ | apply Drawn0.step)⟩
  ·replace c4 := Bool.eq_false_iff.mpr c4
   subst c4
   have H1 : (some 0) = some r := by rw [if_neg (show ¬ (false = true) by decide)] at H; exact H
   clear H
   have H := H1
   clear H1
   obtain rfl := Option.some.inj H
   go_enter Try.func99, Try.ntmps99
   go_wp2
   go_ret
   exact ⟨by first | rfl | (simp; done) | (simp [*]; done), by repeat (first | exact Drawn0.refl _ | apply Drawn0.step)⟩
-- NOT PRINTED: function 133 (bytealg_abigen_runtime_cmpstring)
-- NOT PRINTED: function 122 (bytealg_CompareString)
/-! ### strings_Compare: function 100 -/
def strings_Compare.f (a0 : ByteArray) (a1 : ByteArray) : Option (Int) := some (Lib.compareBytes a0.data.toList a1.data.toList)
set_option maxHeartbeats 1000000 in
set_option maxRecDepth 100000 in
theorem bytealg_CompareString_any (a b : ByteArray) (w : World) :
  Calls Try.prog 122 #[.string a, .string b] w fun e w' => e = .returned (.int .i64 (Lib.compareBytes a.data.toList b.data.toList)) ∧ w' = w := by
 go_enter Try.func122, Try.ntmps122
 go_wp2
 rw [run_callFunc_extern Try.func133 (by kernel_rfl) (by kernel_rfl) (by kernel_rfl) (e := Extern.BytealgCompare.compare) (by kernel_rfl), Lib.run_compareString]
 simp only [Result.andThen]
 rw [Oper.upon_value]
 go_wp2
 go_ret
 exact ⟨rfl, rfl⟩
set_option maxHeartbeats 1000000 in
theorem strings_Compare.calls (a0 : ByteArray) (a1 : ByteArray) (r : Int) (w : World) (h : strings_Compare.f a0 a1 = some r) :
  Calls Try.prog 100 #[.string a0, .string a1] w fun e w' => e = .returned (.int .i64 r) ∧ Drawn0 w w' := by
 obtain rfl := Option.some.inj h
 go_enter Try.func100, Try.ntmps100
 go_wp2_with (go_at_call 122; refine (bytealg_CompareString_any _ _ _).mono ?_; rintro e w' ⟨rfl, rfl⟩)
 go_ret
 exact ⟨rfl, Drawn0.refl _⟩
end Go.Proofs.Ytackcingpffidaa.P
