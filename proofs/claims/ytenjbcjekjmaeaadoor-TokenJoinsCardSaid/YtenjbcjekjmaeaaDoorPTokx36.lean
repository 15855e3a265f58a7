-- Written by a program of this session's (xprint.py) over the kit's print.
import Derived.Test.YtenjbcjekjmaeaaDoorPTokx0
import Derived.Test.YtenjbcjekjmaeaaDoorPTokE
namespace Go.Proofs.YtenjbcjekjmaeaaDoor.PTok
open Go.RowKit Go.Proofs.YtenjbcjekjmaeaaDoor.Ext Go.Proofs.YtenjbcjekjmaeaaDoorW.PrintWords Go.Proofs.YtenjbcjekjmaeaaDoorW.PrintLast
attribute [local go_sem high] gtr_print leq_print
set_option linter.unusedVariables false
set_option linter.unusedSimpArgs false

/-! ### strings_Join: function 33 -/
-- PROOF
theorem strings_Join.calls (A0 : Option Addr) (c0 : Nat) (l0 : List ByteArray) (a1 : ByteArray) (r : ByteArray) (w : World) (hG : GOK w) (hr0 : Kd.C Kd.string w A0 l0.length l0) (hc0 : l0.length ≤ c0) (h : strings_Join.f l0 a1 = some r) :
  Calls Tryd.prog 33 #[.slice A0 l0.length c0, .string a1] w fun e w' => e = .returned (.string r) ∧ Below w.heap.size w w' := by
 unfold strings_Join.f at h
 by_cases h1 : (Lib.join (l0.map (·.data.toList)) a1.data.toList).length ≤ 140737488355328
 ·rw [if_pos h1] at h
  by_cases h2 : l0.length ≤ 140737488355328
  ·rw [if_pos h2] at h
   injection h with h
   subst h
   have hr := Kd.reads_of_C (d := ByteArray.empty) hr0
   by_cases h0 : l0 = []
   ·subst h0
    refine (Tryd.strings_Join_none A0 c0 a1 w).mono ?_
    rintro e w' ⟨rfl, rfl⟩
    exact ⟨rfl, Below.refl _ _⟩
   ·have hpos : 0 < l0.length := List.length_pos_iff.2 h0
    obtain ⟨ad, rfl, hcell⟩ := hr.2.2 hpos
    have hc := hcell 0 hpos
    obtain ⟨bk, o, sp⟩ := ad
    have hsp : sp = none := by
     cases sp with
     | none => rfl
     | some z =>
      unfold World.cell? Addr.add at hc
      simp at hc
      split at hc <;> simp at hc
    subst hsp
    have hadd : ∀ j, (⟨bk, o, none⟩ : Addr).add j = ⟨bk, o + j, none⟩ := fun j => by unfold Addr.add; split <;> simp_all
    refine (Tryd.strings_Join bk o c0 l0 a1 w (fun j x hx => ?_) (block_lt_of_cell hc) h2 hc0 h1).mono ?_
    ·obtain ⟨hj, rfl⟩ := List.getElem?_eq_some_iff.1 hx
     have := hcell j hj
     rw [hadd] at this
     rw [this, List.getD_eq_getElem?_getD, hx]
     rfl
    ·rintro e w' ⟨rfl, hb⟩
     exact ⟨rfl, hb⟩
  ·rw [if_neg h2] at h
   cases h
 ·rw [if_neg h1] at h
  cases h


end Go.Proofs.YtenjbcjekjmaeaaDoor.PTok
