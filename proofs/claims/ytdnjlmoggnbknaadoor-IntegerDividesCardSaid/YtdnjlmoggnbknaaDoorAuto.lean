--
import Derived.Test.YtdnjlmoggnbknaaDoorExt
import Derived.Test.YtdnjlmoggnbknaaDoorWMore
import Derived.Test.YtdnjlmoggnbknaaDoorWLast
/- Short names for what the printed walks do again and again: facts about the world carried over draws and new blocks. No condition. -/
namespace Go.Proofs.YtdnjlmoggnbknaaDoor.Ext
open Go.RowKit Go.Proofs.YtdnjlmoggnbknaaDoorW.PrintWords

/-- Draws and new blocks. -/
inductive Stp (W : World) : World → Prop
  | refl : Stp W W
  | alloc {W1 : World} (h : Stp W W1) (o : Obj) : Stp W (W1.alloc o)
  | drew {W1 : World} (h : Stp W W1) : Stp W W1.drew
  | drewN {W1 : World} (h : Stp W W1) (n : Nat) : Stp W (W1.drewN n)
theorem bel {B : Nat} {w W : World} (h : Below B w W := by repeat (first | (with_reducible first | exact Aside0.out (by assumption) | apply below_alloc | apply pw_below_drewN | apply below_drew1 | refine below_set ?_ (Aside0.out (by assumption))) | exact Aside0.out (by assumption))) : Below B w W := h
theorem bk {W W1 : World} {g : Nat} {o : Obj} (h : W.heap[g]? = some o) (hs : Stp W W1 := by repeat (first | (with_reducible first | exact Stp.refl | apply Stp.drewN | apply Stp.drew | apply Stp.alloc) | exact Stp.refl)) : W1.heap[g]? = some o := by
  induction hs with
  | refl => exact h
  | alloc _ o ih => exact blk_alloc ih o
  | drew _ ih => exact blk_drew ih
  | drewN _ n ih => exact blk_drewN ih n
section
variable {α : Type} {d : Kd α} {e base : Nat} {ok : Nat → Prop} {v : Value} {xs : List α} {W W1 : World}
theorem kv (h : Kd.V d e W base ok v xs) (hs : Stp W W1 := by repeat (first | (with_reducible first | exact Stp.refl | apply Stp.drewN | apply Stp.drew | apply Stp.alloc) | exact Stp.refl)) : Kd.V d e W1 base ok v xs := by
  induction hs with
  | refl => exact h
  | alloc _ o ih => exact Kd.V_alloc ih o
  | drew _ ih => exact Kd.V_drew ih
  | drewN _ n ih => exact Kd.V_drewN ih n
theorem kr (h : Kd.R d e W base ok v xs) (hs : Stp W W1 := by repeat (first | (with_reducible first | exact Stp.refl | apply Stp.drewN | apply Stp.drew | apply Stp.alloc) | exact Stp.refl)) : Kd.R d e W1 base ok v xs := by
  induction hs with
  | refl => exact h
  | alloc _ o ih => exact Kd.R_alloc ih o
  | drew _ ih => exact Kd.R_drew ih
  | drewN _ n ih => exact Kd.R_drewN ih n
theorem kc {A : Option Addr} {n : Nat} (h : Kd.C d W A n xs) (hs : Stp W W1 := by repeat (first | (with_reducible first | exact Stp.refl | apply Stp.drewN | apply Stp.drew | apply Stp.alloc) | exact Stp.refl)) : Kd.C d W1 A n xs := by
  induction hs with
  | refl => exact h
  | alloc _ o ih => exact Kd.C_alloc ih o
  | drew _ ih => exact Kd.C_drew ih
  | drewN _ n ih => exact Kd.C_drewN ih n
end
theorem ag {a b : Array Value} (h : a = b := by (try simp only [List.map_toArray, List.map_cons, List.map_nil]); first | done | rfl | (simp only [List.length_drop, List.length_take]; rfl)) : a = b := h
end Go.Proofs.YtdnjlmoggnbknaaDoor.Ext

/- More short names for what the printed walks do again and again: tactics as default arguments. No condition. -/
namespace Go.Proofs.YtdnjlmoggnbknaaDoor.Ext
open Go.RowKit Go.Proofs.YtdnjlmoggnbknaaDoorW.PrintWords Go.Proofs.YtdnjlmoggnbknaaDoorW.PrintLast

theorem bind_ {α β : Type} {x : Option α} {f : α → Option β} {r : β} (h : x.bind f = some r) : ∃ a, Aside0 (x = some a) ∧ f a = some r := by
  obtain ⟨a, h1, h2⟩ := Option.bind_eq_some_iff.mp h
  exact ⟨a, ⟨h1⟩, h2⟩
theorem er {P : Prop} (h : P := by first | rfl | (simp [errW_none, errW_some] <;> rfl) | (simp [*, errW_none, errW_some] <;> rfl)) : P := h
theorem pa {P : Prop} (h : P := by first | (simp only [putAll, Act.put, List.setIfInBounds_toArray, List.set_cons_zero, List.set_cons_succ]; done) | (simp only [putAll, Act.put, List.setIfInBounds_toArray, List.set_cons_zero, List.set_cons_succ]; rfl)) : P := h
theorem nm {a b : Act} (h : a = b := by (simp only [Act.put, List.setIfInBounds_toArray, List.set_cons_zero, List.set_cons_succ, i64_w, i32_w]; rfl)) : a = b := h
theorem np {a b : Act} (h : a = b := by (simp only [putAll, Act.put, List.setIfInBounds_toArray, List.set_cons_zero, List.set_cons_succ]; rfl)) : a = b := h
theorem gk {P : Prop} (h : P := by exact GOK.below hG.out bel) : P := h
theorem yv {P : Prop} (h : P := by intro w'; go_simp; with_reducible rfl) : P := h
theorem yt1 {P : Prop} (h : P := by rintro w' s0; go_simp; with_reducible rfl) : P := h
theorem yt2 {P : Prop} (h : P := by rintro w' ⟨s0, s1⟩; go_simp; with_reducible rfl) : P := h
theorem yt3 {P : Prop} (h : P := by rintro w' ⟨s0, s1, s2⟩; go_simp; with_reducible rfl) : P := h
theorem yt4 {P : Prop} (h : P := by rintro w' ⟨s0, s1, s2, s3⟩; go_simp; with_reducible rfl) : P := h
theorem yt5 {P : Prop} (h : P := by rintro w' ⟨s0, s1, s2, s3, s4⟩; go_simp; with_reducible rfl) : P := h
theorem yt6 {P : Prop} (h : P := by rintro w' ⟨s0, s1, s2, s3, s4, s5⟩; go_simp; with_reducible rfl) : P := h
theorem yt7 {P : Prop} (h : P := by rintro w' ⟨s0, s1, s2, s3, s4, s5, s6⟩; go_simp; with_reducible rfl) : P := h
theorem yt8 {P : Prop} (h : P := by rintro w' ⟨s0, s1, s2, s3, s4, s5, s6, s7⟩; go_simp; with_reducible rfl) : P := h
end Go.Proofs.YtdnjlmoggnbknaaDoor.Ext
