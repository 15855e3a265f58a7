/- Short names for what the printed walks do again and again: facts about the world carried over draws and new blocks. No condition. -/
import Derived.Test.YtdnjlmoggnbknaaDoorExt
import Derived.Test.YtdnjlmoggnbknaaDoorWMore
namespace Go.Proofs.YtdnjlmoggnbknaaDoor.Ext
open Go.RowKit Go.Proofs.YtdnjlmoggnbknaaDoorW.PrintWords

/-- Draws and new blocks. -/
inductive Stp (W : World) : World → Prop
  | refl : Stp W W
  | alloc {W1 : World} (h : Stp W W1) (o : Obj) : Stp W (W1.alloc o)
  | drew {W1 : World} (h : Stp W W1) : Stp W W1.drew
  | drewN {W1 : World} (h : Stp W W1) (n : Nat) : Stp W (W1.drewN n)
theorem bel {B : Nat} {w W : World} (h : Below B w W := by repeat (first | (with_reducible first | exact Aside0.out (by assumption) | apply below_alloc | apply pw_below_drewN | apply below_drew1 | refine below_set ?_ (Aside0.out (by assumption))) | exact Aside0.out (by assumption))) : Below B w W := h
theorem bk {W W1 : World} {g : Nat} {o : Obj} (h : W.heap[g]? = some o) (hs : Stp W W1 := by repeat (first | (with_reducible first | exact Stp.refl | apply Stp.drewN | apply Stp.drew | apply Stp.alloc) | exact Stp.refl)) : W1.heap[g]? = some o := by
  induction hs with
  | refl => exact h
  | alloc _ o ih => exact blk_alloc ih o
  | drew _ ih => exact blk_drew ih
  | drewN _ n ih => exact blk_drewN ih n
section
variable {α : Type} {d : Kd α} {e base : Nat} {ok : Nat → Prop} {v : Value} {xs : List α} {W W1 : World}
theorem kv (h : Kd.V d e W base ok v xs) (hs : Stp W W1 := by repeat (first | (with_reducible first | exact Stp.refl | apply Stp.drewN | apply Stp.drew | apply Stp.alloc) | exact Stp.refl)) : Kd.V d e W1 base ok v xs := by
  induction hs with
  | refl => exact h
  | alloc _ o ih => exact Kd.V_alloc ih o
  | drew _ ih => exact Kd.V_drew ih
  | drewN _ n ih => exact Kd.V_drewN ih n
theorem kr (h : Kd.R d e W base ok v xs) (hs : Stp W W1 := by repeat (first | (with_reducible first | exact Stp.refl | apply Stp.drewN | apply Stp.drew | apply Stp.alloc) | exact Stp.refl)) : Kd.R d e W1 base ok v xs := by
  induction hs with
  | refl => exact h
  | alloc _ o ih => exact Kd.R_alloc ih o
  | drew _ ih => exact Kd.R_drew ih
  | drewN _ n ih => exact Kd.R_drewN ih n
theorem kc {A : Option Addr} {n : Nat} (h : Kd.C d W A n xs) (hs : Stp W W1 := by repeat (first | (with_reducible first | exact Stp.refl | apply Stp.drewN | apply Stp.drew | apply Stp.alloc) | exact Stp.refl)) : Kd.C d W1 A n xs := by
  induction hs with
  | refl => exact h
  | alloc _ o ih => exact Kd.C_alloc ih o
  | drew _ ih => exact Kd.C_drew ih
  | drewN _ n ih => exact Kd.C_drewN ih n
end
theorem ag {a b : Array Value} (h : a = b := by (try simp only [List.map_toArray, List.map_cons, List.map_nil]); first | done | rfl | (simp only [List.length_drop, List.length_take]; rfl)) : a = b := h
end Go.Proofs.YtdnjlmoggnbknaaDoor.Ext
