/- What the printed contracts lean on beside the kit's words: the premise on the listed package-level variables (strconv's two sentinels, the table of powers of ten) and how it is carried on; an array of 256 bools in memory; the errors that strconv hands back. No condition. -/
import Derived.Test.YtdnjlmoggnbknaaDoorProg
import Derived.Test.YtdnjlmoggnbknaaDoorWWords
import Derived.Test.YtdnjlmoggnbknaaDoorWMore
import Derived.Lib.LaidTab
import Derived.Lib.ItoaMem
import Derived.Lib.ParseIntB
import Derived.Stop.LaidErr
import Derived.Laws.Tables
import Derived.Laws.Rows
import Derived.WalkKit
import Derived.WalkMore
import Derived.Below
import Derived.Laws.CopyOwn
import Derived.Test.YtdnjlmoggnbknaaDoorWShare
namespace Go.Proofs.YtdnjlmoggnbknaaDoor.Ext
open Go.RowKit Go.Proofs.YtdnjlmoggnbknaaDoorW.PrintWords

/-- A variable that stood keeps its content. -/
theorem var_below {P : Program} {w w1 : World} {n : String} {cs : Array Value} (h : w.var? P n = some cs) (hb : Below w.heap.size w w1) : w1.var? P n = some cs := by
  unfold World.var? at h ⊢
  cases hg : P.globalNamed n with
  | none => rw [hg] at h; simp at h
  | some g =>
    rw [hg] at h
    simp only [Option.bind_some] at h ⊢
    by_cases hlt : g < w.heap.size
    · rw [hb.block g hlt]; exact h
    · have hn : w.heap[g]? = none := by simp; omega
      rw [hn] at h
      simp at h

def pow10 : List Int := [1, 10, 100, 1000, 10000, 100000, 1000000, 10000000, 100000000, 1000000000, 10000000000, 100000000000, 1000000000000, 10000000000000, 100000000000000, 1000000000000000, 10000000000000000, 100000000000000000, 1000000000000000000, 10000000000000000000]

/-- What every contract asks of the world: the listed variables hold what their initialisers lay. -/
def GOK (w : World) : Prop :=
  (∃ tp p, w.var? Tryd.prog "strconv.ErrSyntax" = some #[.iface tp p]) ∧ (∃ tp p, w.var? Tryd.prog "strconv.ErrRange" = some #[.iface tp p]) ∧
    Lib.TabIs Tryd.prog w "internal/strconv.uint64pow10" .u64 pow10
theorem GOK.below {w w1 : World} (h : GOK w) (hb : Below w.heap.size w w1) : GOK w1 := by
  obtain ⟨⟨t1, p1, h1⟩, ⟨t2, p2, h2⟩, h3⟩ := h
  exact ⟨⟨t1, p1, var_below h1 hb⟩, ⟨t2, p2, var_below h2 hb⟩, var_below h3 hb⟩
theorem GOK.drewN {w : World} (h : GOK w) (n : Nat) : GOK (w.drewN n) := h
theorem GOK.drew {w : World} (h : GOK w) : GOK w.drew := h

/-- The errors that strconv hands back: none, or a new block's. -/
def errL (N : Nat) : Option Int → Value
  | none => .nilIface
  | some _ => .iface 104 (.pointer (some ⟨N, 0, none⟩))
theorem errL_none (N : Nat) : errL N none = .nilIface := rfl
theorem errL_some (N : Nat) (c : Int) : errL N (some c) = .iface 104 (.pointer (some ⟨N, 0, none⟩)) := rfl

/-- > and <= of strings. -/
def strGt (a b : ByteArray) : Bool := !(Op.bytesLess a.toList b.toList || a.toList == b.toList)
def strLe (a b : ByteArray) : Bool := Op.bytesLess a.toList b.toList || a.toList == b.toList
theorem gtr_print (t : TypeId) (a b : ByteArray) : binOp .gtr t (.string a) (.string b) = pure (.bool (strGt a b)) := by simp [binOp, Op.stringOp, strGt]
theorem leq_print (t : TypeId) (a b : ByteArray) : binOp .leq t (.string a) (.string b) = pure (.bool (strLe a b)) := by simp [binOp, Op.stringOp, strLe]
section
variable {P : Program} {ops : Array Oper} {rest : List Oper} {o : Oper} {a : Act} {Q : Exit → Act → World → Prop}
theorem below_setRow {w0 W : World} {B g : Nat} {cs : Array Value} (h : Below B w0 W) (hg : B ≤ g) : Below B w0 (W.setRow g cs) := by
  refine ⟨h.os, h.tape, h.output, by rw [size_setRow]; exact h.size, fun k hk => ?_⟩
  rw [← h.block k hk]
  unfold World.setRow
  simp only [Array.getElem?_modify]
  rw [if_neg (by omega)]
end
section
variable {P : Program} {ops : Array Oper} {rest : List Oper} {o : Oper} {a : Act} {Q : Exit → Act → World → Prop}
/-- 'copy(out, a)': out a row of the call's own, a what is only read and no longer than out. -/
theorem R_copy {α : Type} {enc : α → Value} {h1 : ∀ x, (enc x).oneCell' = true} {w0 W : World} (hgd : o.guard = none) (s x : Operand) (t e : TypeId)
    (ho : o.op = .call { callee := .builtin .copy, args := #[s, x], argTypes := #[t, t] })
    (ht : P.underlying t = some (.slice e)) {z : Value} {bytes : Nat} (hinfo : (P.info? e).map (fun i => (i.zero, i.size, i.bytes)) = some (some z, 1, bytes))
    {v : Value} {xs ys : List α} {A : Option Addr} {m c base : Nat} {ok : Nat → Prop} (hs : a.eval s = v) (hx : a.eval x = .slice A m c)
    (HO : (Kd.scalar enc h1).R e W base ok v xs) (HR : (Kd.scalar enc h1).C W A m ys) (hle : ys.length ≤ xs.length) (HB : Below base w0 W)
    (h : ∀ w1, (Kd.scalar enc h1).R e w1 base ok v (ys ++ xs.drop ys.length) → Below base w0 w1 → W.grownBy w1 v.ownBlock → wpList P ops Q rest (a.put o.dst (goInt ys.length)) w1) :
    wpList P ops Q (o :: rest) a W := by
  have hsz : (P.info? e).map (·.size) = some 1 := by
    obtain ⟨i0, hi, hzz⟩ := Option.map_eq_some_iff.1 hinfo
    simp only [Prod.mk.injEq] at hzz
    rw [hi]
    exact congrArg some hzz.2.1
  obtain ⟨hm, hm2, hcell⟩ := HR
  subst hm
  have hown := Kd.own_of_R HO
  have hok := HO.1
  rcases hown.2 with ⟨rfl, hn⟩ | ⟨g, cap, cur, rfl, hbg, hh, hnc, hcm, hcs, htk⟩
  · have hys : ys = [] := List.eq_nil_of_length_eq_zero (by omega)
    subst hys
    refine wpList_copy_nothing hgd s x t t ho e ht hsz none A 0 0 0 c hs hx (by simp) ?_
    exact h W (by simpa using HO) HB (World.grownBy.refl W _)
  · have hcur : cur.toList.take xs.length = encs enc xs := by rw [← htk, Nat.mul_one]
    have e9 : cur.toList.length = cur.size := Array.length_toList
    have hlen : xs.length ≤ cur.toList.length := by omega
    by_cases h0 : ys.length = 0
    · have hys : ys = [] := List.eq_nil_of_length_eq_zero h0
      subst hys
      refine wpList_copy_nothing hgd s x t t ho e ht hsz _ A _ cap 0 c hs hx (by simp) ?_
      exact h W (by simpa using HO) HB (World.grownBy.refl W _)
    · obtain ⟨ad, rfl, hc⟩ := hcell (by omega)
      have hfit : (0 : Nat) + (encs enc ys).length ≤ cur.toList.length := by rw [encs_length]; omega
      refine wpList_copy_own hgd s x t t ho e ht hsz g 0 xs.length cap ad ys.length c hs hx cur e hh (encs enc ys) (by rw [encs_length]; exact (Nat.min_eq_left hle).symm) (fun j v hj => ?_) (by simpa using hfit) (fun v hv => ?_) ?_
      · unfold encs at hj
        rw [List.getElem?_map] at hj
        obtain ⟨p, hp, rfl⟩ := Option.map_eq_some_iff.1 hj
        obtain ⟨cs, _, hk, hcc⟩ := hc j p hp
        have e1 : cs = [enc p] := hk
        subst e1
        have := hcc 0 (enc p) rfl
        simpa [Kd.scalar] using this
      · unfold encs at hv
        obtain ⟨p, _, rfl⟩ := List.mem_map.1 hv
        exact h1 p
      · rw [encs_length]
        refine h _ ?_ (below_setRow HB hbg) ?_
        · refine Kd.R_of_own ?_ hok
          have hl2 : (ys ++ xs.drop ys.length).length = xs.length := by simp; omega
          rw [hl2]
          refine ⟨by rw [encs_length, hl2, Nat.mul_one], .inr ⟨g, cap, _, rfl, hbg, setRow_heap W g _ _ e _ hh, hnc, hcm, ?_, ?_⟩⟩
          · rw [← hcs]
            simp [encs]
            omega
          · rw [Nat.mul_one]
            simp only [List.take_zero, List.nil_append, Nat.zero_add]
            rw [encs_append, List.take_append, encs_length, List.take_of_length_le (by rw [encs_length]; omega)]
            congr 1
            have e2 : encs enc (xs.drop ys.length) = (encs enc xs).drop ys.length := by simp [encs, List.map_drop]
            rw [e2, ← hcur, List.drop_take]
        · refine ⟨rfl, rfl, rfl, by simp [World.setRow], fun k hk hne => setRow_other W g k _ ?_⟩
          intro hkg
          exact hne (by rw [hkg]; rfl)
end
/-- A group of nine digits. -/
def grp (y : Int) : List UInt8 := List.replicate (9 - (Lib.decDigits y.toNat).length) 48 ++ Lib.decDigits y.toNat
/-- What text writes, the greatest limb first. -/
def textR : List Int → List UInt8
  | [] => []
  | x :: r => Lib.decDigits x.toNat ++ r.flatMap grp
def textL (l : List Int) : List UInt8 := textR l.reverse
end Go.Proofs.YtdnjlmoggnbknaaDoor.Ext
