/- What the printed contracts lean on beside the kit's words: the premise on the listed package-level variables (strconv's two sentinels, the table of powers of ten) and how it is carried on; an array of 256 bools in memory; the errors that strconv hands back. No condition. -/
import Derived.Test.YtenjbcjekjmaeaaDoorProg
import Derived.Test.YtenjbcjekjmaeaaDoorWWords
import Derived.Lib.LaidTab
import Derived.Lib.ParseIntB
import Derived.Stop.LaidErr
import Derived.Laws.Tables
import Derived.Laws.Rows
import Derived.WalkKit
import Derived.WalkMore
import Derived.Below
namespace Go.Proofs.YtenjbcjekjmaeaaDoor.Ext
open Go.RowKit Go.Proofs.YtenjbcjekjmaeaaDoorW.PrintWords

/-- A variable that stood keeps its content. -/
theorem var_below {P : Program} {w w1 : World} {n : String} {cs : Array Value} (h : w.var? P n = some cs) (hb : Below w.heap.size w w1) : w1.var? P n = some cs := by
  unfold World.var? at h ⊢
  cases hg : P.globalNamed n with
  | none => rw [hg] at h; simp at h
  | some g =>
    rw [hg] at h
    simp only [Option.bind_some] at h ⊢
    by_cases hlt : g < w.heap.size
    · rw [hb.block g hlt]; exact h
    · have hn : w.heap[g]? = none := by simp; omega
      rw [hn] at h
      simp at h

def pow10 : List Int := [1, 10, 100, 1000, 10000, 100000, 1000000, 10000000, 100000000, 1000000000, 10000000000, 100000000000, 1000000000000, 10000000000000, 100000000000000, 1000000000000000, 10000000000000000, 100000000000000000, 1000000000000000000, 10000000000000000000]

/-- What every contract asks of the world: the listed variables hold what their initialisers lay. -/
def GOK (w : World) : Prop :=
  (∃ tp p, w.var? Tryd.prog "strconv.ErrSyntax" = some #[.iface tp p]) ∧ (∃ tp p, w.var? Tryd.prog "strconv.ErrRange" = some #[.iface tp p]) ∧
    Lib.TabIs Tryd.prog w "internal/strconv.uint64pow10" .u64 pow10
theorem GOK.below {w w1 : World} (h : GOK w) (hb : Below w.heap.size w w1) : GOK w1 := by
  obtain ⟨⟨t1, p1, h1⟩, ⟨t2, p2, h2⟩, h3⟩ := h
  exact ⟨⟨t1, p1, var_below h1 hb⟩, ⟨t2, p2, var_below h2 hb⟩, var_below h3 hb⟩
theorem GOK.drewN {w : World} (h : GOK w) (n : Nat) : GOK (w.drewN n) := h
theorem GOK.drew {w : World} (h : GOK w) : GOK w.drew := h

/-- The errors that strconv hands back: none, or a new block's. -/
def errL (N : Nat) : Option Int → Value
  | none => .nilIface
  | some _ => .iface 84 (.pointer (some ⟨N, 0, none⟩))
theorem errL_none (N : Nat) : errL N none = .nilIface := rfl
theorem errL_some (N : Nat) (c : Int) : errL N (some c) = .iface 84 (.pointer (some ⟨N, 0, none⟩)) := rfl

/-- > and <= of strings. -/
def strGt (a b : ByteArray) : Bool := !(Op.bytesLess a.toList b.toList || a.toList == b.toList)
def strLe (a b : ByteArray) : Bool := Op.bytesLess a.toList b.toList || a.toList == b.toList
theorem gtr_print (t : TypeId) (a b : ByteArray) : binOp .gtr t (.string a) (.string b) = pure (.bool (strGt a b)) := by simp [binOp, Op.stringOp, strGt]
theorem leq_print (t : TypeId) (a b : ByteArray) : binOp .leq t (.string a) (.string b) = pure (.bool (strLe a b)) := by simp [binOp, Op.stringOp, strLe]
/-- 256 bools in a block, one a cell. -/
def arrB (f : Nat → Bool) : Array Value := Array.ofFn (n := 256) fun i => .bool (f i)
def zeros256 : Nat → Bool := fun _ => false
theorem arrB_size (f : Nat → Bool) : (arrB f).size = 256 := by simp [arrB]
theorem bt_nonneg (s : ByteArray) (i : Int) : 0 ≤ bt s i := (bt_range s i).1
theorem bt_lt (s : ByteArray) (i : Int) : bt s i < 256 := by have := (bt_range s i).2; omega
theorem arrb_get (f : Nat → Bool) (i : Nat) (h1 : i < 256) : (arrB f)[i]? = some (.bool (f i)) := by
  simp [arrB, h1]
theorem arrb_cell {w : World} {g : Nat} {t : TypeId} {f : Nat → Bool} (h : w.heap[g]? = some (.cells (arrB f) t (0, 0))) (i : Int) (h0 : 0 ≤ i) (h1 : i < 256) :
    w.cell? ⟨g, i.toNat, none⟩ = some (.bool (f i.toNat)) := (blk_cell h i.toNat).trans (arrb_get f i.toNat (by omega))
theorem arrb_one (f : Nat → Bool) : (arrB f).all (·.oneCell') = true := by
  rw [Array.all_eq_true_iff_forall_mem]
  intro v hv
  simp only [arrB, Array.mem_ofFn] at hv
  obtain ⟨i, rfl⟩ := hv
  rfl
section
variable {P : Program} {ops : Array Oper} {rest : List Oper} {o : Oper} {a : Act} {Q : Exit → Act → World → Prop}
theorem below_setRow {w0 W : World} {B g : Nat} {cs : Array Value} (h : Below B w0 W) (hg : B ≤ g) : Below B w0 (W.setRow g cs) := by
  refine ⟨h.os, h.tape, h.output, by rw [size_setRow]; exact h.size, fun k hk => ?_⟩
  rw [← h.block k hk]
  unfold World.setRow
  simp only [Array.getElem?_modify]
  rw [if_neg (by omega)]
theorem arrb_store_event {W : World} {t : TypeId} {p : Tmp} {v : Operand} {g : Nat} {old l : Nat → Bool} (hgd : o.guard = none) (ho : o.op = .store t (.tmp p) v) (hbk : W.heap[g]? = some (.cells (arrB old) t (0, 0)))
    (hx : a.eval (.tmp p) = .pointer (some ⟨g, 0, none⟩)) (hy : a.eval v = .agg (arrB l)) (hi : (P.info? t).map (·.size) = some 256) (hN : o.dst = none)
    (h : ∀ w1 : World, w1.heap[g]? = some (.cells (arrB l) t (0, 0)) → (∀ (B : Nat) (w0 : World), B ≤ g → Below B w0 W → Below B w0 w1) → wpList P ops Q rest a w1) : wpList P ops Q (o :: rest) a W := by
  refine wpList_store_row hgd t (.tmp p) v ho g (arrB l) hx hy t (arrB old) hbk (by rw [hi, arrB_size]) (by rw [arrB_size, arrB_size]) (arrb_one l) ?_
  rw [hN]
  exact h _ (setRow_heap W g _ _ t _ hbk) (fun B w0 hB hb => below_setRow hb hB)
end
section
variable {P : Program} {ops : Array Oper} {rest : List Oper} {o : Oper} {a : Act} {Q : Exit → Act → World → Prop} {W : World}
/-- The operation is a call of f: a test that costs nothing. -/
theorem gate_callee {f : FuncId} {ar : Array Operand} {ts : Array TypeId} (_ho : o.op = .call { callee := .value (.func f), args := ar, argTypes := ts }) (h : wpList P ops Q (o :: rest) a W) : wpList P ops Q (o :: rest) a W := h
/-- .. of a builtin. -/
theorem gate_builtin {b : Builtin} {xs : Array Operand} {ts : Array TypeId} (_ho : o.op = .call { callee := .builtin b, args := xs, argTypes := ts }) (h : wpList P ops Q (o :: rest) a W) : wpList P ops Q (o :: rest) a W := h
end
theorem drewN_self (w : World) (n : Nat) : w.drewN n = w.drewN n := rfl
end Go.Proofs.YtenjbcjekjmaeaaDoor.Ext
