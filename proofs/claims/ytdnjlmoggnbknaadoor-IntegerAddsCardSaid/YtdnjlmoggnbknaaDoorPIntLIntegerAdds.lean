-- Written by a program of this session's (xprint.py) over the kit's print.
import Derived.Test.YtdnjlmoggnbknaaDoorPIntx12
import Derived.Test.YtdnjlmoggnbknaaDoorPIntx0
import Derived.Test.YtdnjlmoggnbknaaDoorPIntx1
import Derived.Test.YtdnjlmoggnbknaaDoorPIntx8
import Derived.Test.YtdnjlmoggnbknaaDoorPIntx9
import Derived.Test.YtdnjlmoggnbknaaDoorPIntx10
import Derived.Test.YtdnjlmoggnbknaaDoorPIntx11
import Derived.Test.YtdnjlmoggnbknaaDoorPIntD
import Derived.Test.YtdnjlmoggnbknaaDoorAuto
namespace Go.Proofs.YtdnjlmoggnbknaaDoor.PInt
open Go.RowKit Go.Proofs.YtdnjlmoggnbknaaDoor.Ext Go.Proofs.YtdnjlmoggnbknaaDoorW.PrintWords Go.Proofs.YtdnjlmoggnbknaaDoorW.PrintLast Go.Proofs.YtdnjlmoggnbknaaDoorW.PrintMore
attribute [local go_sem high] gtr_print leq_print
attribute [local go_sem] max2_int min2_int max_two min_two max_three min_three max_four min_four   -- for this text's walks alone
set_option linter.unusedVariables false
set_option linter.unusedSimpArgs false

/-! ### cellarerlaw02_IntegerAdds: function 4 -/
set_option maxHeartbeats 8000000 in
set_option maxRecDepth 100000 in
theorem cellarerlaw02_IntegerAdds.calls (k : Nat) (a0 : ByteArray) (a1 : ByteArray) (r : Bool) (w : World) (hG : GOK w) (h : cellarerlaw02_IntegerAdds.f k a0 a1 = some r) :
  Calls Tryd.prog 4 #[.string a0, .string a1] w fun e w' => e = .returned (.bool r) ∧ Below w.heap.size w w' := by
 have hu32 := Tryd.underlying32
 replace hG := Aside0.mk hG
 have HB := Aside0.mk (Below.refl w.heap.size w)
 have H : ((cellarerlaw02_awake.f k).bind fun t490 => (if t490 = true then ((cellarerlaw02_long.f a0 a1).bind fun t491 => (if t491 = true then (some true) else ((integer_Add.f k a0 a1).bind fun bt492 => ((integer_Sub.f k a0 a1).bind fun bt494 => ((integer_Valid.f k a0).bind fun t496 => ((cellarerref02_Valid.f k a0).bind fun t497 => (if (t496 != t497) = true then (cellarerlaw02_IntegerAdds.j0 k a0 a1 bt492.1 bt492.2 bt494.1 bt494.2 true) else ((integer_Valid.f k a1).bind fun t498 => ((cellarerref02_Valid.f k a1).bind fun t499 => (cellarerlaw02_IntegerAdds.j0 k a0 a1 bt492.1 bt492.2 bt494.1 bt494.2 (t498 != t499))))))))))) else (some false))) = some r := h
 clear h
 replace H := Option.bind_eq_some_iff.mp H
 obtain ⟨t490, A30, H⟩ := H
 replace H : (if t490 = true then ((cellarerlaw02_long.f a0 a1).bind fun t491 => (if t491 = true then (some true) else ((integer_Add.f k a0 a1).bind fun bt492 => ((integer_Sub.f k a0 a1).bind fun bt494 => ((integer_Valid.f k a0).bind fun t496 => ((cellarerref02_Valid.f k a0).bind fun t497 => (if (t496 != t497) = true then (cellarerlaw02_IntegerAdds.j0 k a0 a1 bt492.1 bt492.2 bt494.1 bt494.2 true) else ((integer_Valid.f k a1).bind fun t498 => ((cellarerref02_Valid.f k a1).bind fun t499 => (cellarerlaw02_IntegerAdds.j0 k a0 a1 bt492.1 bt492.2 bt494.1 bt494.2 (t498 != t499))))))))))) else (some false)) = some r := H
 have A3 := Aside0.mk A30
 clear A30
 by_cases c4 : t490 = true
 ·subst c4
  have H1 : ((cellarerlaw02_long.f a0 a1).bind fun t491 => (if t491 = true then (some true) else ((integer_Add.f k a0 a1).bind fun bt492 => ((integer_Sub.f k a0 a1).bind fun bt494 => ((integer_Valid.f k a0).bind fun t496 => ((cellarerref02_Valid.f k a0).bind fun t497 => (if (t496 != t497) = true then (cellarerlaw02_IntegerAdds.j0 k a0 a1 bt492.1 bt492.2 bt494.1 bt494.2 true) else ((integer_Valid.f k a1).bind fun t498 => ((cellarerref02_Valid.f k a1).bind fun t499 => (cellarerlaw02_IntegerAdds.j0 k a0 a1 bt492.1 bt492.2 bt494.1 bt494.2 (t498 != t499))))))))))) = some r := by rw [if_pos rfl] at H; exact H
  clear H
  have H := H1
  clear H1
  replace H := Option.bind_eq_some_iff.mp H
  obtain ⟨t491, A50, H⟩ := H
  replace H : (if t491 = true then (some true) else ((integer_Add.f k a0 a1).bind fun bt492 => ((integer_Sub.f k a0 a1).bind fun bt494 => ((integer_Valid.f k a0).bind fun t496 => ((cellarerref02_Valid.f k a0).bind fun t497 => (if (t496 != t497) = true then (cellarerlaw02_IntegerAdds.j0 k a0 a1 bt492.1 bt492.2 bt494.1 bt494.2 true) else ((integer_Valid.f k a1).bind fun t498 => ((cellarerref02_Valid.f k a1).bind fun t499 => (cellarerlaw02_IntegerAdds.j0 k a0 a1 bt492.1 bt492.2 bt494.1 bt494.2 (t498 != t499)))))))))) = some r := H
  have A5 := Aside0.mk A50
  clear A50
  by_cases c6 : t491 = true
  ·subst c6
   have H1 : (some true) = some r := by rw [if_pos rfl] at H; exact H
   clear H
   have H := H1
   clear H1
   obtain rfl := Option.some.inj H
   go_enter Tryd.func4, Tryd.ntmps4
   go_wp2_with (first | ((with_reducible refine gate_callee (f := 11) rfl ?_); refine goesL_ (some 11) rfl rfl Tryd.func11 (by kernel_rfl) rfl #[] rfl ag ?_; (with_reducible refine (cellarerlaw02_awake.calls k  true _ ?side1 A3.out).mono ?_); (case side1 => exact GOK.below hG.out bel); rintro e w7 ⟨rfl, hb⟩; refine ⟨_, rfl, ?_⟩; have n0_ := Aside0.mk (below_step bel hb); clear HB; have HB := n0_; clear n0_; (try clear hb); (try clear hb2); (try clear hk); (try clear hi)) | ((with_reducible refine gate_callee (f := 12) rfl ?_); refine goesL_ (some 15) rfl rfl Tryd.func12 (by kernel_rfl) rfl #[.string a0, .string a1] rfl ag ?_; (with_reducible refine (cellarerlaw02_long.calls a0 a1 true _ ?side1 A5.out).mono ?_); (case side1 => exact GOK.below hG.out bel); rintro e w' ⟨rfl, ⟨nd, rfl⟩⟩; refine ⟨_, rfl, ?_⟩))
   go_ret
   exact ⟨by first | rfl | (simp [errW_none, errW_some] <;> rfl) | (simp [*, errW_none, errW_some] <;> rfl), bel⟩
  ·replace c6 := Bool.eq_false_iff.mpr c6
   subst c6
   have H1 : ((integer_Add.f k a0 a1).bind fun bt492 => ((integer_Sub.f k a0 a1).bind fun bt494 => ((integer_Valid.f k a0).bind fun t496 => ((cellarerref02_Valid.f k a0).bind fun t497 => (if (t496 != t497) = true then (cellarerlaw02_IntegerAdds.j0 k a0 a1 bt492.1 bt492.2 bt494.1 bt494.2 true) else ((integer_Valid.f k a1).bind fun t498 => ((cellarerref02_Valid.f k a1).bind fun t499 => (cellarerlaw02_IntegerAdds.j0 k a0 a1 bt492.1 bt492.2 bt494.1 bt494.2 (t498 != t499))))))))) = some r := by rw [if_neg (show ¬ (false = true) by decide)] at H; exact H
   clear H
   have H := H1
   clear H1
   replace H := Option.bind_eq_some_iff.mp H
   obtain ⟨⟨t492, t493⟩, A80, H⟩ := H
   replace H : ((integer_Sub.f k a0 a1).bind fun bt494 => ((integer_Valid.f k a0).bind fun t496 => ((cellarerref02_Valid.f k a0).bind fun t497 => (if (t496 != t497) = true then (cellarerlaw02_IntegerAdds.j0 k a0 a1 t492 t493 bt494.1 bt494.2 true) else ((integer_Valid.f k a1).bind fun t498 => ((cellarerref02_Valid.f k a1).bind fun t499 => (cellarerlaw02_IntegerAdds.j0 k a0 a1 t492 t493 bt494.1 bt494.2 (t498 != t499)))))))) = some r := H
   have A8 := Aside0.mk A80
   clear A80
   replace H := Option.bind_eq_some_iff.mp H
   obtain ⟨⟨t494, t495⟩, A90, H⟩ := H
   replace H : ((integer_Valid.f k a0).bind fun t496 => ((cellarerref02_Valid.f k a0).bind fun t497 => (if (t496 != t497) = true then (cellarerlaw02_IntegerAdds.j0 k a0 a1 t492 t493 t494 t495 true) else ((integer_Valid.f k a1).bind fun t498 => ((cellarerref02_Valid.f k a1).bind fun t499 => (cellarerlaw02_IntegerAdds.j0 k a0 a1 t492 t493 t494 t495 (t498 != t499))))))) = some r := H
   have A9 := Aside0.mk A90
   clear A90
   have HC10 := Aside0.mk H
   clear H
   go_enter Tryd.func4, Tryd.ntmps4
   go_upto_region 7 with (first | ((with_reducible refine gate_callee (f := 11) rfl ?_); refine goesL_ (some 11) rfl rfl Tryd.func11 (by kernel_rfl) rfl #[] rfl ag ?_; (with_reducible refine (cellarerlaw02_awake.calls k  true _ ?side1 A3.out).mono ?_); (case side1 => exact GOK.below hG.out bel); rintro e w11 ⟨rfl, hb⟩; refine ⟨_, rfl, ?_⟩; have n0_ := Aside0.mk (below_step bel hb); clear HB; have HB := n0_; clear n0_; (try clear hb); (try clear hb2); (try clear hk); (try clear hi)) | ((with_reducible refine gate_callee (f := 12) rfl ?_); refine goesL_ (some 15) rfl rfl Tryd.func12 (by kernel_rfl) rfl #[.string a0, .string a1] rfl ag ?_; (with_reducible refine (cellarerlaw02_long.calls a0 a1 false _ ?side1 A5.out).mono ?_); (case side1 => exact GOK.below hG.out bel); rintro e w' ⟨rfl, ⟨nd, rfl⟩⟩; refine ⟨_, rfl, ?_⟩) | ((with_reducible refine gate_callee (f := 21) rfl ?_); refine goesL_ (some 19) rfl rfl Tryd.func21 (by kernel_rfl) rfl #[.string a0, .string a1] rfl ag ?_; (with_reducible refine (integer_Add.calls k a0 a1 t492 t493 _ ?side1 A8.out).mono ?_); (case side1 => exact GOK.below hG.out bel); rintro e w12 ⟨rfl, hb⟩; refine ⟨_, rfl, ?_⟩; have n0_ := Aside0.mk (below_step bel hb); clear HB; have HB := n0_; clear n0_; (try clear hb); (try clear hb2); (try clear hk); (try clear hi)) | ((with_reducible refine gate_callee (f := 22) rfl ?_); refine goesL_ (some 25) rfl rfl Tryd.func22 (by kernel_rfl) rfl #[.string a0, .string a1] rfl ag ?_; (with_reducible refine (integer_Sub.calls k a0 a1 t494 t495 _ ?side1 A9.out).mono ?_); (case side1 => exact GOK.below hG.out bel); rintro e w13 ⟨rfl, hb⟩; refine ⟨_, rfl, ?_⟩; have n0_ := Aside0.mk (below_step bel hb); clear HB; have HB := n0_; clear n0_; (try clear hb); (try clear hb2); (try clear hk); (try clear hi)))
   (try simp only [Act.put, List.setIfInBounds_toArray, List.set_cons_zero, List.set_cons_succ])
   go_cut [39] (fun v39 wc => ∃ (kq : Nat) (x39_9 : Bool), v39 = .bool x39_9 ∧ Aside0 (cellarerlaw02_IntegerAdds.j0 kq a0 a1 t492 t493 t494 t495 x39_9 = some r) ∧ Aside0 (kq ≤ k) ∧ Aside0 (Below w.heap.size w wc))
   case first =>
    have H := HC10.out
    clear HC10
    replace H := Option.bind_eq_some_iff.mp H
    obtain ⟨t496, A140, H⟩ := H
    replace H : ((cellarerref02_Valid.f k a0).bind fun t497 => (if (t496 != t497) = true then (cellarerlaw02_IntegerAdds.j0 k a0 a1 t492 t493 t494 t495 true) else ((integer_Valid.f k a1).bind fun t498 => ((cellarerref02_Valid.f k a1).bind fun t499 => (cellarerlaw02_IntegerAdds.j0 k a0 a1 t492 t493 t494 t495 (t498 != t499)))))) = some r := H
    have A14 := Aside0.mk A140
    clear A140
    replace H := Option.bind_eq_some_iff.mp H
    obtain ⟨t497, A150, H⟩ := H
    replace H : (if (t496 != t497) = true then (cellarerlaw02_IntegerAdds.j0 k a0 a1 t492 t493 t494 t495 true) else ((integer_Valid.f k a1).bind fun t498 => ((cellarerref02_Valid.f k a1).bind fun t499 => (cellarerlaw02_IntegerAdds.j0 k a0 a1 t492 t493 t494 t495 (t498 != t499))))) = some r := H
    have A15 := Aside0.mk A150
    clear A150
    by_cases c16 : (t496 != t497) = true
    ·rw [if_pos c16] at H
     have c16b0 : (t496 != t497) = true := c16
     (try (have c16b1 : decide (t496 = t497) = false := by simpa using c16))
     (try (have c16b2 : (t496 == t497) = false := by simpa using c16))
     (try (have c16b3 : ¬ (t496 = t497) := by simpa using c16))
     clear c16
     (first | rw [c16b0] | rw [c16b1] | (simp only [i64_w, i32_w]; rw [c16b0]) | skip)
     have H' := Aside0.mk H
     clear H
     go_wp2_with (first | ((with_reducible refine gate_callee (f := 23) rfl ?_); refine goesL_ (some 29) rfl rfl Tryd.func23 (by kernel_rfl) rfl #[.string a0] rfl ag ?_; (with_reducible refine (integer_Valid.calls k a0 t496 _ ?side1 A14.out).mono ?_); (case side1 => exact GOK.below hG.out bel); rintro e w' ⟨rfl, ⟨nd, rfl⟩⟩; refine ⟨_, rfl, ?_⟩) | ((with_reducible refine gate_callee (f := 15) rfl ?_); refine goesL_ (some 31) rfl rfl Tryd.func15 (by kernel_rfl) rfl #[.string a0] rfl ag ?_; (with_reducible refine (cellarerref02_Valid.calls k a0 t497 _ ?side1 A15.out).mono ?_); (case side1 => exact GOK.below hG.out bel); rintro e w' ⟨rfl, ⟨nd, rfl⟩⟩; refine ⟨_, rfl, ?_⟩))
     go_meet
     case rel => exact ⟨_, (true), (by first | rfl | (simp; done) | (simp [*]; done)), H', ⟨by first | omega | exact Nat.le_refl _⟩, ⟨bel⟩⟩
    ·rw [if_neg c16] at H
     have c16b0 : (t496 != t497) = false := by simpa using c16
     (try (have c16b1 : decide (t496 = t497) = true := by simpa using c16))
     (try (have c16b2 : (t496 == t497) = true := by simpa using c16))
     clear c16
     (first | rw [c16b0] | rw [c16b1] | (simp only [i64_w, i32_w]; rw [c16b0]) | skip)
     replace H := Option.bind_eq_some_iff.mp H
     obtain ⟨t498, A170, H⟩ := H
     replace H : ((cellarerref02_Valid.f k a1).bind fun t499 => (cellarerlaw02_IntegerAdds.j0 k a0 a1 t492 t493 t494 t495 (t498 != t499))) = some r := H
     have A17 := Aside0.mk A170
     clear A170
     replace H := Option.bind_eq_some_iff.mp H
     obtain ⟨t499, A180, H⟩ := H
     replace H : (cellarerlaw02_IntegerAdds.j0 k a0 a1 t492 t493 t494 t495 (t498 != t499)) = some r := H
     have A18 := Aside0.mk A180
     clear A180
     have H' := Aside0.mk H
     clear H
     go_wp2_with (first | ((with_reducible refine gate_callee (f := 23) rfl ?_); refine goesL_ (some 29) rfl rfl Tryd.func23 (by kernel_rfl) rfl #[.string a0] rfl ag ?_; (with_reducible refine (integer_Valid.calls k a0 t496 _ ?side1 A14.out).mono ?_); (case side1 => exact GOK.below hG.out bel); rintro e w' ⟨rfl, ⟨nd, rfl⟩⟩; refine ⟨_, rfl, ?_⟩) | ((with_reducible refine gate_callee (f := 15) rfl ?_); refine goesL_ (some 31) rfl rfl Tryd.func15 (by kernel_rfl) rfl #[.string a0] rfl ag ?_; (with_reducible refine (cellarerref02_Valid.calls k a0 t497 _ ?side1 A15.out).mono ?_); (case side1 => exact GOK.below hG.out bel); rintro e w' ⟨rfl, ⟨nd, rfl⟩⟩; refine ⟨_, rfl, ?_⟩) | (go_at_call 23; (with_reducible refine (integer_Valid.calls k a1 t498 _ ?side1 A17.out).mono ?_); (case side1 => exact GOK.below hG.out bel); rintro e w' ⟨rfl, ⟨nd, rfl⟩⟩) | (go_at_call 15; (with_reducible refine (cellarerref02_Valid.calls k a1 t499 _ ?side1 A18.out).mono ?_); (case side1 => exact GOK.below hG.out bel); rintro e w' ⟨rfl, ⟨nd, rfl⟩⟩))
     go_meet
     case rel => exact ⟨_, ((t498 != t499)), (by first | rfl | (simp; done) | (simp [*]; done)), H', ⟨by first | omega | exact Nat.le_refl _⟩, ⟨bel⟩⟩
   case rest =>
    clear HC10
    (try clear c1); (try clear c2); (try clear p2); (try clear c4); (try clear c6); (try clear c11); (try clear c12); (try clear c15); (try clear c16); (try clear c16b0); (try clear c16b1); (try clear c16b2)
    obtain ⟨kq, x39_9, rfl, HA, HJ9, HB⟩ := hcut
    cases kq with
    | zero => exact absurd HA.out (by simp [cellarerlaw02_IntegerAdds.j0])
    | succ kj9 =>
     have H := HA.out
     clear HA
     simp only [cellarerlaw02_IntegerAdds.j0] at H
     by_cases c19 : x39_9 = true
     ·subst c19
      have H1 : (some false) = some r := by rw [if_pos rfl] at H; exact H
      clear H
      have H := H1
      clear H1
      obtain rfl := Option.some.inj H
      go_wp2
      go_ret
      exact ⟨by first | rfl | (simp [errW_none, errW_some] <;> rfl) | (simp [*, errW_none, errW_some] <;> rfl), bel⟩
     ·replace c19 := Bool.eq_false_iff.mpr c19
      subst c19
      have H1 : ((cellarerref02_Valid.f kj9 a0).bind fun t500 => (if t500 = true then ((cellarerref02_Valid.f kj9 a1).bind fun t501 => (cellarerlaw02_IntegerAdds.j1 kj9 a0 a1 t492 t493 t494 t495 (!t501))) else (cellarerlaw02_IntegerAdds.j1 kj9 a0 a1 t492 t493 t494 t495 true))) = some r := by rw [if_neg (show ¬ (false = true) by decide)] at H; exact H
      clear H
      have H := H1
      clear H1
      have HC20 := Aside0.mk H
      clear H
      go_upto_region 9 with (fail)
      go_cut [47] (fun v47 wc => ∃ (kq : Nat) (x47_19 : Bool), v47 = .bool x47_19 ∧ Aside0 (cellarerlaw02_IntegerAdds.j1 kq a0 a1 t492 t493 t494 t495 x47_19 = some r) ∧ Aside0 (kq ≤ kj9) ∧ Aside0 (Below w.heap.size w wc))
      case first =>
       have H := HC20.out
       clear HC20
       replace H := Option.bind_eq_some_iff.mp H
       obtain ⟨t500, A210, H⟩ := H
       replace H : (if t500 = true then ((cellarerref02_Valid.f kj9 a1).bind fun t501 => (cellarerlaw02_IntegerAdds.j1 kj9 a0 a1 t492 t493 t494 t495 (!t501))) else (cellarerlaw02_IntegerAdds.j1 kj9 a0 a1 t492 t493 t494 t495 true)) = some r := H
       have A21 := Aside0.mk A210
       clear A210
       by_cases c22 : t500 = true
       ·subst c22
        have H1 : ((cellarerref02_Valid.f kj9 a1).bind fun t501 => (cellarerlaw02_IntegerAdds.j1 kj9 a0 a1 t492 t493 t494 t495 (!t501))) = some r := by rw [if_pos rfl] at H; exact H
        clear H
        have H := H1
        clear H1
        replace H := Option.bind_eq_some_iff.mp H
        obtain ⟨t501, A230, H⟩ := H
        replace H : (cellarerlaw02_IntegerAdds.j1 kj9 a0 a1 t492 t493 t494 t495 (!t501)) = some r := H
        have A23 := Aside0.mk A230
        clear A230
        have H' := Aside0.mk H
        clear H
        go_wp2_with (first | ((with_reducible refine gate_callee (f := 15) rfl ?_); refine goesL_ (some 41) rfl rfl Tryd.func15 (by kernel_rfl) rfl #[.string a0] rfl ag ?_; (with_reducible refine (cellarerref02_Valid.calls kj9 a0 true _ ?side1 A21.out).mono ?_); (case side1 => exact GOK.below hG.out bel); rintro e w' ⟨rfl, ⟨nd, rfl⟩⟩; refine ⟨_, rfl, ?_⟩) | (go_at_call 15; (with_reducible refine (cellarerref02_Valid.calls kj9 a1 t501 _ ?side1 A23.out).mono ?_); (case side1 => exact GOK.below hG.out bel); rintro e w' ⟨rfl, ⟨nd, rfl⟩⟩))
        go_meet
        case rel => exact ⟨_, (!t501), (by first | rfl | (simp; done) | (simp [*]; done)), H', ⟨by have := HJ9.out; first | omega | exact Nat.le_refl _⟩, ⟨bel⟩⟩
       ·replace c22 := Bool.eq_false_iff.mpr c22
        subst c22
        have H1 : (cellarerlaw02_IntegerAdds.j1 kj9 a0 a1 t492 t493 t494 t495 true) = some r := by rw [if_neg (show ¬ (false = true) by decide)] at H; exact H
        clear H
        have H := H1
        clear H1
        have H' := Aside0.mk H
        clear H
        go_wp2_with (first | ((with_reducible refine gate_callee (f := 15) rfl ?_); refine goesL_ (some 41) rfl rfl Tryd.func15 (by kernel_rfl) rfl #[.string a0] rfl ag ?_; (with_reducible refine (cellarerref02_Valid.calls kj9 a0 false _ ?side1 A21.out).mono ?_); (case side1 => exact GOK.below hG.out bel); rintro e w' ⟨rfl, ⟨nd, rfl⟩⟩; refine ⟨_, rfl, ?_⟩))
        go_meet
        case rel => exact ⟨_, (true), (by first | rfl | (simp; done) | (simp [*]; done)), H', ⟨by have := HJ9.out; first | omega | exact Nat.le_refl _⟩, ⟨bel⟩⟩
      case rest =>
       clear HC20
       (try clear c1); (try clear c2); (try clear p2); (try clear c4); (try clear c6); (try clear c11); (try clear c12); (try clear c15); (try clear c16); (try clear c16b0); (try clear c16b1); (try clear c16b2); (try clear c19); (try clear c21); (try clear c22); (try clear c23); (try clear p2)
       obtain ⟨kq, x47_19, rfl, HA, HJ19, HB⟩ := hcut
       cases kq with
       | zero => exact absurd HA.out (by simp [cellarerlaw02_IntegerAdds.j1])
       | succ kj19 =>
        have H := HA.out
        clear HA
        simp only [cellarerlaw02_IntegerAdds.j1] at H
        by_cases c24 : x47_19 = true
        ·subst c24
         have H1 : (if t492.size + t494.size ≤ 9223372036854775807 then (if (t492 ++ t494).toList = ([] : List UInt8) then (if t493 = 3 then (some (t495 == 3)) else (some false)) else (some false)) else (none)) = some r := by rw [if_pos rfl] at H; exact H
         clear H
         have H := H1
         clear H1
         by_cases c25 : t492.size + t494.size ≤ 9223372036854775807
         ·rw [if_pos c25] at H
          have c25b0 := eq_true c25
          have c25b1 : decide (t492.size + t494.size ≤ 9223372036854775807) = true := decide_eq_true c25
          try have c25b2 : (9223372036854775807 < t492.size + t494.size) = False := eq_false (Nat.not_lt.2 c25)
          by_cases c26 : (t492 ++ t494).toList = ([] : List UInt8)
          ·rw [if_pos c26] at H
           have c26b0 : ((t492 ++ t494).toList == ([] : List UInt8)) = true := beq_iff_eq.mpr c26
           have c26b1 : ((t492 ++ t494).toList != ([] : List UInt8)) = false := bne_eq_false_iff_eq.mpr c26
           clear c26
           by_cases c27 : t493 = 3
           ·rw [if_pos c27] at H
            have c27b0 : (t493 == 3) = true := beq_iff_eq.mpr c27
            have c27b1 : (t493 != 3) = false := bne_eq_false_iff_eq.mpr c27
            clear c27
            obtain rfl := Option.some.inj H
            go_wp2
            go_ret
            exact ⟨by first | rfl | (simp [errW_none, errW_some] <;> rfl) | (simp [*, errW_none, errW_some] <;> rfl), bel⟩
           ·rw [if_neg c27] at H
            have c27b0 : (t493 == 3) = false := beq_eq_false_iff_ne.mpr c27
            have c27b1 : (t493 != 3) = true := bne_iff_ne.mpr c27
            obtain rfl := Option.some.inj H
            go_wp2
            go_ret
            exact ⟨by first | rfl | (simp [errW_none, errW_some] <;> rfl) | (simp [*, errW_none, errW_some] <;> rfl), bel⟩
          ·rw [if_neg c26] at H
           have c26b0 : ((t492 ++ t494).toList == ([] : List UInt8)) = false := beq_eq_false_iff_ne.mpr c26
           have c26b1 : ((t492 ++ t494).toList != ([] : List UInt8)) = true := bne_iff_ne.mpr c26
           obtain rfl := Option.some.inj H
           go_wp2
           go_ret
           exact ⟨by first | rfl | (simp [errW_none, errW_some] <;> rfl) | (simp [*, errW_none, errW_some] <;> rfl), bel⟩
         ·rw [if_neg c25] at H
          exact absurd H (by simp)
        ·replace c24 := Bool.eq_false_iff.mpr c24
         subst c24
         have H1 : ((cellarerref02_Of.f kj19 a0).bind fun bt502 => ((cellarerref02_Of.f kj19 a1).bind fun bt506 => ((cellarerref02_Add.f kj19 bt502.1 bt502.2 bt506.1 bt506.2).bind fun bt512 => ((cellarerlaw02_agree.f kj19 t492 t493 bt512.1 bt512.2).bind fun t516 => (if t516 = true then ((cellarerref02_Sub.f kj19 bt502.1 bt502.2 bt506.1 bt506.2).bind fun bt517 => ((cellarerlaw02_agree.f kj19 t494 t495 bt517.1 bt517.2).bind fun t521 => (some t521))) else (some false)))))) = some r := by rw [if_neg (show ¬ (false = true) by decide)] at H; exact H
         clear H
         have H := H1
         clear H1
         replace H := Option.bind_eq_some_iff.mp H
         obtain ⟨⟨t502, t503⟩, A280, H⟩ := H
         replace H : ((cellarerref02_Of.f kj19 a1).bind fun bt506 => ((cellarerref02_Add.f kj19 t502 t503 bt506.1 bt506.2).bind fun bt512 => ((cellarerlaw02_agree.f kj19 t492 t493 bt512.1 bt512.2).bind fun t516 => (if t516 = true then ((cellarerref02_Sub.f kj19 t502 t503 bt506.1 bt506.2).bind fun bt517 => ((cellarerlaw02_agree.f kj19 t494 t495 bt517.1 bt517.2).bind fun t521 => (some t521))) else (some false))))) = some r := H
         have A28 := Aside0.mk A280
         clear A280
         replace H := Option.bind_eq_some_iff.mp H
         obtain ⟨⟨t506, t507⟩, A290, H⟩ := H
         replace H : ((cellarerref02_Add.f kj19 t502 t503 t506 t507).bind fun bt512 => ((cellarerlaw02_agree.f kj19 t492 t493 bt512.1 bt512.2).bind fun t516 => (if t516 = true then ((cellarerref02_Sub.f kj19 t502 t503 t506 t507).bind fun bt517 => ((cellarerlaw02_agree.f kj19 t494 t495 bt517.1 bt517.2).bind fun t521 => (some t521))) else (some false)))) = some r := H
         have A29 := Aside0.mk A290
         clear A290
         replace H := Option.bind_eq_some_iff.mp H
         obtain ⟨⟨t512, t513⟩, A300, H⟩ := H
         replace H : ((cellarerlaw02_agree.f kj19 t492 t493 t512 t513).bind fun t516 => (if t516 = true then ((cellarerref02_Sub.f kj19 t502 t503 t506 t507).bind fun bt517 => ((cellarerlaw02_agree.f kj19 t494 t495 bt517.1 bt517.2).bind fun t521 => (some t521))) else (some false))) = some r := H
         have A30 := Aside0.mk A300
         clear A300
         replace H := Option.bind_eq_some_iff.mp H
         obtain ⟨t516, A310, H⟩ := H
         replace H : (if t516 = true then ((cellarerref02_Sub.f kj19 t502 t503 t506 t507).bind fun bt517 => ((cellarerlaw02_agree.f kj19 t494 t495 bt517.1 bt517.2).bind fun t521 => (some t521))) else (some false)) = some r := H
         have A31 := Aside0.mk A310
         clear A310
         by_cases c32 : t516 = true
         ·subst c32
          have H1 : ((cellarerref02_Sub.f kj19 t502 t503 t506 t507).bind fun bt517 => ((cellarerlaw02_agree.f kj19 t494 t495 bt517.1 bt517.2).bind fun t521 => (some t521))) = some r := by rw [if_pos rfl] at H; exact H
          clear H
          have H := H1
          clear H1
          replace H := Option.bind_eq_some_iff.mp H
          obtain ⟨⟨t517, t518⟩, A330, H⟩ := H
          replace H : ((cellarerlaw02_agree.f kj19 t494 t495 t517 t518).bind fun t521 => (some t521)) = some r := H
          have A33 := Aside0.mk A330
          clear A330
          replace H := Option.bind_eq_some_iff.mp H
          obtain ⟨t521, A340, H⟩ := H
          replace H : (some t521) = some r := H
          have A34 := Aside0.mk A340
          clear A340
          obtain rfl := Option.some.inj H
          go_wp2_with (first | ((with_reducible refine gate_callee (f := 16) rfl ?_); refine goesL_ (some 61) rfl rfl Tryd.func16 (by kernel_rfl) rfl #[.string a0] rfl ag ?_; (with_reducible refine (cellarerref02_Of.calls kj19 a0 t502 t503 _ ?side1 A28.out).mono ?_); (case side1 => exact GOK.below hG.out bel); rintro e w35 ⟨v504, rfl, ho0, hb⟩; refine ⟨_, rfl, ?_⟩; have n0_ := Aside0.mk (Kd.V_lower (Kd.V_mono (ok' := fun k_ => True) ho0 (fun k_ hk_ => trivial)) (below_size bel)); have n1_ := Aside0.mk (below_step bel hb); clear HB; have HO505 := n0_; have HB := n1_; clear n0_ n1_; (try clear hb); (try clear hb2); (try clear hk); (try clear hi); (try clear ho0)) | ((with_reducible refine gate_callee (f := 16) rfl ?_); refine goesL_ (some 63) rfl rfl Tryd.func16 (by kernel_rfl) rfl #[.string a1] rfl ag ?_; (with_reducible refine (cellarerref02_Of.calls kj19 a1 t506 t507 _ ?side1 A29.out).mono ?_); (case side1 => exact GOK.below hG.out bel); rintro e w36 ⟨v508, rfl, ho0, hb⟩; refine ⟨_, rfl, ?_⟩; have n0_ := Aside0.mk (Kd.V_below (kv HO505.out) hb); have n1_ := Aside0.mk (Kd.V_lower (Kd.V_mono (ok' := fun k_ => True) ho0 (fun k_ hk_ => trivial)) (below_size bel)); have n2_ := Aside0.mk (below_step bel hb); clear HO505; clear HB; have HO505 := n0_; have HO509 := n1_; have HB := n2_; clear n0_ n1_ n2_; (try clear hb); (try clear hb2); (try clear hk); (try clear hi); (try clear ho0)) | ((with_reducible refine gate_dst (N := 9) rfl ?_); refine box_event ?hg (N := 9) ?hd (cs := #[.bool false, .slice none 0 0]) (t := 32) ?hr ?_; (case hd => rfl); (case hg => rfl); (case hr => first | (go_simp; done) | (go_simp; rfl)); intro gb510 hg w37 hbox hb; have n0_ := Aside0.mk (Kd.V_below (Kd.V_elderB (kv HO505.out) gb510 (Nat.le_of_eq hg.symm)) hb); have n1_ := Aside0.mk (Kd.V_below (Kd.V_elderB (kv HO509.out) gb510 (Nat.le_of_eq hg.symm)) hb); have n2_ := Aside0.mk (below_step bel hb); have n3_ := Aside0.mk (hbox); have n4_ := Aside0.mk ((by rw [hg]; exact (below_size bel) : w.heap.size ≤ gb510)); have n5_ := Aside0.mk ((by rw [hg]; exact (below_size bel) : w.heap.size ≤ gb510)); clear HO505; clear HO509; clear HB; have HO505 := n0_; have HO509 := n1_; have HB := n2_; have BK510 := n3_; have GW510 := n4_; have GE510 := n5_; clear n0_ n1_ n2_ n3_ n4_ n5_; clear hb hbox hg) | ((with_reducible refine gate_dst (N := 10) rfl ?_); refine box_event ?hg (N := 10) ?hd (cs := #[.bool false, .slice none 0 0]) (t := 32) ?hr ?_; (case hd => rfl); (case hg => rfl); (case hr => first | (go_simp; done) | (go_simp; rfl)); intro gb511 hg w38 hbox hb; have n0_ := Aside0.mk (Kd.V_below (Kd.V_elderB (kv HO505.out) gb511 (Nat.le_of_eq hg.symm)) hb); have n1_ := Aside0.mk (Kd.V_below (Kd.V_elderB (kv HO509.out) gb511 (Nat.le_of_eq hg.symm)) hb); have n2_ := Aside0.mk (blk_below (bk BK510.out) hb); have n3_ := Aside0.mk (below_step bel hb); have n4_ := Aside0.mk (hbox); have n5_ := Aside0.mk ((by rw [hg]; exact (below_size bel) : w.heap.size ≤ gb511)); have n6_ := Aside0.mk ((by rw [hg]; exact (below_size bel) : w.heap.size ≤ gb511)); have n7_ := Aside0.mk ((by rw [hg]; exact Nat.ne_of_lt (blk_lt (bk BK510.out)) : gb510 ≠ gb511)); have n8_ := Aside0.mk ((by rw [hg]; exact Nat.ne_of_gt (blk_lt (bk BK510.out)) : gb511 ≠ gb510)); clear HO505; clear HO509; clear BK510; clear HB; have HO505 := n0_; have HO509 := n1_; have BK510 := n2_; have HB := n3_; have BK511 := n4_; have GW511 := n5_; have GE511 := n6_; have NB510_511 := n7_; have NB511_510 := n8_; clear n0_ n1_ n2_ n3_ n4_ n5_ n6_ n7_ n8_; clear hb hbox hg; have hnb39 := NB510_511.out; have hnc39 := NB511_510.out; have hcz40_0 : w38.cell? ⟨gb510, 0, none⟩ = some (.bool false) := (blk_cell BK510.out 0).trans rfl; have hcz40_1 : w38.cell? ⟨gb510, 1, none⟩ = some (.slice none 0 0) := (blk_cell BK510.out 1).trans rfl; have hfz40_0 := blk_frozen BK510.out 0; have hfz40_1 := blk_frozen BK510.out 1; obtain ⟨Ao41, co41, eo41⟩ := Kd.V_slice HO505.out; subst eo41; have hcz42_0 : w38.cell? ⟨gb511, 0, none⟩ = some (.bool false) := (blk_cell BK511.out 0).trans rfl; have hcz42_1 : w38.cell? ⟨gb511, 1, none⟩ = some (.slice none 0 0) := (blk_cell BK511.out 1).trans rfl; have hfz42_0 := blk_frozen BK511.out 0; have hfz42_1 := blk_frozen BK511.out 1; obtain ⟨Ao43, co43, eo43⟩ := Kd.V_slice HO509.out; subst eo43) | ((with_reducible refine gate_callee (f := 24) rfl ?_); refine goesL_ (some 68) rfl rfl Tryd.func24 (by kernel_rfl) rfl #[.agg #[.bool t502, .slice Ao41 t503.length co41], .agg #[.bool t506, .slice Ao43 t507.length co43]] rfl ag ?_; (with_reducible refine (cellarerref02_Add.calls kj19 t502 _ _ t503 t506 _ _ t507 t512 t513 _ ?side1 ?side2 ?side3 ?side4 ?side5 A30.out).mono ?_); (case side1 => exact GOK.below hG.out bel); (case side2 => refine (Kd.V_reads' (e := 3) (base := w.heap.size) (ok := fun k_ => ((True ∧ k_ ≠ gb510) ∧ k_ ≠ gb511)) (n := t503.length) (c := co41) ?_).2.2; exact (kv ((Kd.V_mono (Kd.V_mono (Kd.V_far (p := ⟨gb511, 1, none⟩) (Kd.V_far (p := ⟨gb511, 0, none⟩) (Kd.V_far (p := ⟨gb510, 1, none⟩) (Kd.V_far (p := ⟨gb510, 0, none⟩) (Kd.V_mono (Kd.V_mono HO505.out (fun k_ hk => (⟨hk, hk.1.2⟩ : _ ∧ k_ ≠ gb510))) (fun k_ hk => (⟨hk, hk.1.2⟩ : _ ∧ k_ ≠ gb511))) (fun _ hk => hk.1.2) (.bool t502)) (fun _ hk => hk.1.2) (.slice Ao41 t503.length co41)) (fun _ hk => hk.2) (.bool t506)) (fun _ hk => hk.2) (.slice Ao43 t507.length co43)) (fun _ h_ => h_.1)) (fun _ h_ => h_.1))))); (case side3 => exact (Kd.V_reads' HO505.out).2.1); (case side4 => refine (Kd.V_reads' (e := 3) (base := w.heap.size) (ok := fun k_ => ((True ∧ k_ ≠ gb510) ∧ k_ ≠ gb511)) (n := t507.length) (c := co43) ?_).2.2; exact (kv ((Kd.V_mono (Kd.V_mono (Kd.V_far (p := ⟨gb511, 1, none⟩) (Kd.V_far (p := ⟨gb511, 0, none⟩) (Kd.V_far (p := ⟨gb510, 1, none⟩) (Kd.V_far (p := ⟨gb510, 0, none⟩) (Kd.V_mono (Kd.V_mono HO509.out (fun k_ hk => (⟨hk, hk.1.2⟩ : _ ∧ k_ ≠ gb510))) (fun k_ hk => (⟨hk, hk.1.2⟩ : _ ∧ k_ ≠ gb511))) (fun _ hk => hk.1.2) (.bool t502)) (fun _ hk => hk.1.2) (.slice Ao41 t503.length co41)) (fun _ hk => hk.2) (.bool t506)) (fun _ hk => hk.2) (.slice Ao43 t507.length co43)) (fun _ h_ => h_.1)) (fun _ h_ => h_.1))))); (case side5 => exact (Kd.V_reads' HO509.out).2.1); rintro e w44 ⟨v514, rfl, ho0, hb⟩; refine ⟨_, rfl, ?_⟩; have n0_ := Aside0.mk (Kd.V_below (kv ((Kd.V_mono (Kd.V_mono (Kd.V_far (p := ⟨gb511, 1, none⟩) (Kd.V_far (p := ⟨gb511, 0, none⟩) (Kd.V_far (p := ⟨gb510, 1, none⟩) (Kd.V_far (p := ⟨gb510, 0, none⟩) (Kd.V_mono (Kd.V_mono HO505.out (fun k_ hk => (⟨hk, hk.1.2⟩ : _ ∧ k_ ≠ gb510))) (fun k_ hk => (⟨hk, hk.1.2⟩ : _ ∧ k_ ≠ gb511))) (fun _ hk => hk.1.2) (.bool t502)) (fun _ hk => hk.1.2) (.slice Ao41 t503.length co41)) (fun _ hk => hk.2) (.bool t506)) (fun _ hk => hk.2) (.slice Ao43 t507.length co43)) (fun _ h_ => h_.1)) (fun _ h_ => h_.1)))) hb); have n1_ := Aside0.mk (Kd.V_below (kv ((Kd.V_mono (Kd.V_mono (Kd.V_far (p := ⟨gb511, 1, none⟩) (Kd.V_far (p := ⟨gb511, 0, none⟩) (Kd.V_far (p := ⟨gb510, 1, none⟩) (Kd.V_far (p := ⟨gb510, 0, none⟩) (Kd.V_mono (Kd.V_mono HO509.out (fun k_ hk => (⟨hk, hk.1.2⟩ : _ ∧ k_ ≠ gb510))) (fun k_ hk => (⟨hk, hk.1.2⟩ : _ ∧ k_ ≠ gb511))) (fun _ hk => hk.1.2) (.bool t502)) (fun _ hk => hk.1.2) (.slice Ao41 t503.length co41)) (fun _ hk => hk.2) (.bool t506)) (fun _ hk => hk.2) (.slice Ao43 t507.length co43)) (fun _ h_ => h_.1)) (fun _ h_ => h_.1)))) hb); have n2_ := Aside0.mk (Kd.V_lower (Kd.V_mono (ok' := fun k_ => k_ ≠ gb510 ∧ k_ ≠ gb511) ho0 (fun k_ hk_ => ⟨(Kd.freshB (g := gb510) (o := .cells #[.bool t502, .slice Ao41 t503.length co41] 32 (0, 0)) (by (with_reducible repeat (first | refine blk_drewN ?_ _ | refine blk_drew ?_ | refine blk_alloc ?_ _)); refine blk_far ?_ NB510_511.out _; (with_reducible repeat (first | refine blk_drewN ?_ _ | refine blk_drew ?_ | refine blk_alloc ?_ _)); refine blk_far ?_ NB510_511.out _; (with_reducible repeat (first | refine blk_drewN ?_ _ | refine blk_drew ?_ | refine blk_alloc ?_ _)); refine blk_put (cs := #[.bool t502, .slice none 0 0]) ?_ 1 _ rfl; (with_reducible repeat (first | refine blk_drewN ?_ _ | refine blk_drew ?_ | refine blk_alloc ?_ _)); refine blk_put (cs := #[.bool false, .slice none 0 0]) ?_ 0 _ rfl; (with_reducible repeat (first | refine blk_drewN ?_ _ | refine blk_drew ?_ | refine blk_alloc ?_ _)); exact BK510.out) k_ hk_), (Kd.freshB (g := gb511) (o := .cells #[.bool t506, .slice Ao43 t507.length co43] 32 (0, 0)) (by (with_reducible repeat (first | refine blk_drewN ?_ _ | refine blk_drew ?_ | refine blk_alloc ?_ _)); refine blk_put (cs := #[.bool t506, .slice none 0 0]) ?_ 1 _ rfl; (with_reducible repeat (first | refine blk_drewN ?_ _ | refine blk_drew ?_ | refine blk_alloc ?_ _)); refine blk_put (cs := #[.bool false, .slice none 0 0]) ?_ 0 _ rfl; (with_reducible repeat (first | refine blk_drewN ?_ _ | refine blk_drew ?_ | refine blk_alloc ?_ _)); refine blk_far ?_ NB511_510.out _; (with_reducible repeat (first | refine blk_drewN ?_ _ | refine blk_drew ?_ | refine blk_alloc ?_ _)); refine blk_far ?_ NB511_510.out _; (with_reducible repeat (first | refine blk_drewN ?_ _ | refine blk_drew ?_ | refine blk_alloc ?_ _)); exact BK511.out) k_ hk_)⟩)) (below_size bel)); have n3_ := Aside0.mk (blk_below (g := gb510) (o := .cells #[.bool t502, .slice Ao41 t503.length co41] 32 (0, 0)) (by (with_reducible repeat (first | refine blk_drewN ?_ _ | refine blk_drew ?_ | refine blk_alloc ?_ _)); refine blk_far ?_ NB510_511.out _; (with_reducible repeat (first | refine blk_drewN ?_ _ | refine blk_drew ?_ | refine blk_alloc ?_ _)); refine blk_far ?_ NB510_511.out _; (with_reducible repeat (first | refine blk_drewN ?_ _ | refine blk_drew ?_ | refine blk_alloc ?_ _)); refine blk_put (cs := #[.bool t502, .slice none 0 0]) ?_ 1 _ rfl; (with_reducible repeat (first | refine blk_drewN ?_ _ | refine blk_drew ?_ | refine blk_alloc ?_ _)); refine blk_put (cs := #[.bool false, .slice none 0 0]) ?_ 0 _ rfl; (with_reducible repeat (first | refine blk_drewN ?_ _ | refine blk_drew ?_ | refine blk_alloc ?_ _)); exact BK510.out) hb); have n4_ := Aside0.mk (blk_below (g := gb511) (o := .cells #[.bool t506, .slice Ao43 t507.length co43] 32 (0, 0)) (by (with_reducible repeat (first | refine blk_drewN ?_ _ | refine blk_drew ?_ | refine blk_alloc ?_ _)); refine blk_put (cs := #[.bool t506, .slice none 0 0]) ?_ 1 _ rfl; (with_reducible repeat (first | refine blk_drewN ?_ _ | refine blk_drew ?_ | refine blk_alloc ?_ _)); refine blk_put (cs := #[.bool false, .slice none 0 0]) ?_ 0 _ rfl; (with_reducible repeat (first | refine blk_drewN ?_ _ | refine blk_drew ?_ | refine blk_alloc ?_ _)); refine blk_far ?_ NB511_510.out _; (with_reducible repeat (first | refine blk_drewN ?_ _ | refine blk_drew ?_ | refine blk_alloc ?_ _)); refine blk_far ?_ NB511_510.out _; (with_reducible repeat (first | refine blk_drewN ?_ _ | refine blk_drew ?_ | refine blk_alloc ?_ _)); exact BK511.out) hb); have n5_ := Aside0.mk (below_step bel hb); clear HO505; clear HO509; clear BK510; clear BK511; clear HB; have HO505 := n0_; have HO509 := n1_; have HO515 := n2_; have BK510 := n3_; have BK511 := n4_; have HB := n5_; clear n0_ n1_ n2_ n3_ n4_ n5_; (try clear hb); (try clear hb2); (try clear hk); (try clear hi); (try clear ho0); obtain ⟨Ao45, co45, eo45⟩ := Kd.V_slice HO515.out; subst eo45) | ((with_reducible refine gate_callee (f := 17) rfl ?_); refine goesL_ (some 69) rfl rfl Tryd.func17 (by kernel_rfl) rfl #[.string t492, .int .i64 t493, .agg #[.bool t512, .slice Ao45 t513.length co45]] rfl ag ?_; (with_reducible refine (cellarerlaw02_agree.calls kj19 t492 t493 t512 _ _ t513 true _ ?side1 ?side2 ?side3 A31.out).mono ?_); (case side1 => exact GOK.below hG.out bel); (case side2 => exact kc ((Kd.V_reads' HO515.out).2.2)); (case side3 => exact (Kd.V_reads' HO515.out).2.1); rintro e w46 ⟨rfl, hb⟩; refine ⟨_, rfl, ?_⟩; have n0_ := Aside0.mk (Kd.V_below (kv HO505.out) hb); have n1_ := Aside0.mk (Kd.V_below (kv HO509.out) hb); have n2_ := Aside0.mk (Kd.V_below (kv HO515.out) hb); have n3_ := Aside0.mk (blk_below (bk BK510.out) hb); have n4_ := Aside0.mk (blk_below (bk BK511.out) hb); have n5_ := Aside0.mk (below_step bel hb); clear HO505; clear HO509; clear HO515; clear BK510; clear BK511; clear HB; have HO505 := n0_; have HO509 := n1_; have HO515 := n2_; have BK510 := n3_; have BK511 := n4_; have HB := n5_; clear n0_ n1_ n2_ n3_ n4_ n5_; (try clear hb); (try clear hb2); (try clear hk); (try clear hi); have hcz47_0 : w46.cell? ⟨gb510, 0, none⟩ = some (.bool t502) := (blk_cell BK510.out 0).trans rfl; have hcz47_1 : w46.cell? ⟨gb510, 1, none⟩ = some (.slice Ao41 t503.length co41) := (blk_cell BK510.out 1).trans rfl; have hfz47_0 := blk_frozen BK510.out 0; have hfz47_1 := blk_frozen BK510.out 1; have hcz48_0 : w46.cell? ⟨gb511, 0, none⟩ = some (.bool t506) := (blk_cell BK511.out 0).trans rfl; have hcz48_1 : w46.cell? ⟨gb511, 1, none⟩ = some (.slice Ao43 t507.length co43) := (blk_cell BK511.out 1).trans rfl; have hfz48_0 := blk_frozen BK511.out 0; have hfz48_1 := blk_frozen BK511.out 1) | (go_at_call 25; (with_reducible refine (cellarerref02_Sub.calls kj19 t502 _ _ t503 t506 (fun k_ => ((True ∧ k_ ≠ gb510) ∧ k_ ≠ gb511)) _ _ t507 t517 t518 _ ?side1 ?side2 ?side3 ?side4 A33.out).mono ?_); (case side1 => exact GOK.below hG.out bel); (case side2 => exact kc ((Kd.V_reads' HO505.out).2.2)); (case side3 => exact (Kd.V_reads' HO505.out).2.1); (case side4 => exact HO509.out); rintro e w49 ⟨v519, rfl, ho0, hb⟩; have n0_ := Aside0.mk (Kd.V_below (kv HO505.out) hb); have n1_ := Aside0.mk (Kd.V_below (kv HO509.out) hb); have n2_ := Aside0.mk (Kd.V_below (kv HO515.out) hb); have n3_ := Aside0.mk (Kd.V_lower (Kd.V_mono (ok' := fun k_ => k_ ≠ gb510 ∧ k_ ≠ gb511) ho0 (fun k_ hk_ => ⟨Or.elim hk_ (fun hs_ => hs_.1.2) (fun hn_ => (Kd.freshB (bk BK510.out) k_ hn_)), Or.elim hk_ (fun hs_ => hs_.2) (fun hn_ => (Kd.freshB (bk BK511.out) k_ hn_))⟩)) (below_size bel)); have n4_ := Aside0.mk (blk_below (bk BK510.out) hb); have n5_ := Aside0.mk (blk_below (bk BK511.out) hb); have n6_ := Aside0.mk (below_step bel hb); clear HO505; clear HO509; clear HO515; clear BK510; clear BK511; clear HB; have HO505 := n0_; have HO509 := n1_; have HO515 := n2_; have HO520 := n3_; have BK510 := n4_; have BK511 := n5_; have HB := n6_; clear n0_ n1_ n2_ n3_ n4_ n5_ n6_; (try clear hb); (try clear hb2); (try clear hk); (try clear hi); (try clear ho0); obtain ⟨Ao50, co50, eo50⟩ := Kd.V_slice HO520.out; subst eo50) | (go_at_call 17; (with_reducible refine (cellarerlaw02_agree.calls kj19 t494 t495 t517 _ _ t518 t521 _ ?side1 ?side2 ?side3 A34.out).mono ?_); (case side1 => exact GOK.below hG.out bel); (case side2 => exact kc ((Kd.V_reads' HO520.out).2.2)); (case side3 => exact (Kd.V_reads' HO520.out).2.1); rintro e w51 ⟨rfl, hb⟩; have n0_ := Aside0.mk (Kd.V_below (kv HO505.out) hb); have n1_ := Aside0.mk (Kd.V_below (kv HO509.out) hb); have n2_ := Aside0.mk (Kd.V_below (kv HO515.out) hb); have n3_ := Aside0.mk (Kd.V_below (kv HO520.out) hb); have n4_ := Aside0.mk (blk_below (bk BK510.out) hb); have n5_ := Aside0.mk (blk_below (bk BK511.out) hb); have n6_ := Aside0.mk (below_step bel hb); clear HO505; clear HO509; clear HO515; clear HO520; clear BK510; clear BK511; clear HB; have HO505 := n0_; have HO509 := n1_; have HO515 := n2_; have HO520 := n3_; have BK510 := n4_; have BK511 := n5_; have HB := n6_; clear n0_ n1_ n2_ n3_ n4_ n5_ n6_; (try clear hb); (try clear hb2); (try clear hk); (try clear hi)))
          go_ret
          exact ⟨by first | rfl | (simp [errW_none, errW_some] <;> rfl) | (simp [*, errW_none, errW_some] <;> rfl), bel⟩
         ·replace c32 := Bool.eq_false_iff.mpr c32
          subst c32
          have H1 : (some false) = some r := by rw [if_neg (show ¬ (false = true) by decide)] at H; exact H
          clear H
          have H := H1
          clear H1
          obtain rfl := Option.some.inj H
          go_wp2_with (first | ((with_reducible refine gate_callee (f := 16) rfl ?_); refine goesL_ (some 61) rfl rfl Tryd.func16 (by kernel_rfl) rfl #[.string a0] rfl ag ?_; (with_reducible refine (cellarerref02_Of.calls kj19 a0 t502 t503 _ ?side1 A28.out).mono ?_); (case side1 => exact GOK.below hG.out bel); rintro e w52 ⟨v504, rfl, ho0, hb⟩; refine ⟨_, rfl, ?_⟩; have n0_ := Aside0.mk (Kd.V_lower (Kd.V_mono (ok' := fun k_ => True) ho0 (fun k_ hk_ => trivial)) (below_size bel)); have n1_ := Aside0.mk (below_step bel hb); clear HB; have HO505 := n0_; have HB := n1_; clear n0_ n1_; (try clear hb); (try clear hb2); (try clear hk); (try clear hi); (try clear ho0)) | ((with_reducible refine gate_callee (f := 16) rfl ?_); refine goesL_ (some 63) rfl rfl Tryd.func16 (by kernel_rfl) rfl #[.string a1] rfl ag ?_; (with_reducible refine (cellarerref02_Of.calls kj19 a1 t506 t507 _ ?side1 A29.out).mono ?_); (case side1 => exact GOK.below hG.out bel); rintro e w53 ⟨v508, rfl, ho0, hb⟩; refine ⟨_, rfl, ?_⟩; have n0_ := Aside0.mk (Kd.V_below (kv HO505.out) hb); have n1_ := Aside0.mk (Kd.V_lower (Kd.V_mono (ok' := fun k_ => True) ho0 (fun k_ hk_ => trivial)) (below_size bel)); have n2_ := Aside0.mk (below_step bel hb); clear HO505; clear HB; have HO505 := n0_; have HO509 := n1_; have HB := n2_; clear n0_ n1_ n2_; (try clear hb); (try clear hb2); (try clear hk); (try clear hi); (try clear ho0)) | ((with_reducible refine gate_dst (N := 9) rfl ?_); refine box_event ?hg (N := 9) ?hd (cs := #[.bool false, .slice none 0 0]) (t := 32) ?hr ?_; (case hd => rfl); (case hg => rfl); (case hr => first | (go_simp; done) | (go_simp; rfl)); intro gb510 hg w54 hbox hb; have n0_ := Aside0.mk (Kd.V_below (Kd.V_elderB (kv HO505.out) gb510 (Nat.le_of_eq hg.symm)) hb); have n1_ := Aside0.mk (Kd.V_below (Kd.V_elderB (kv HO509.out) gb510 (Nat.le_of_eq hg.symm)) hb); have n2_ := Aside0.mk (below_step bel hb); have n3_ := Aside0.mk (hbox); have n4_ := Aside0.mk ((by rw [hg]; exact (below_size bel) : w.heap.size ≤ gb510)); have n5_ := Aside0.mk ((by rw [hg]; exact (below_size bel) : w.heap.size ≤ gb510)); clear HO505; clear HO509; clear HB; have HO505 := n0_; have HO509 := n1_; have HB := n2_; have BK510 := n3_; have GW510 := n4_; have GE510 := n5_; clear n0_ n1_ n2_ n3_ n4_ n5_; clear hb hbox hg) | ((with_reducible refine gate_dst (N := 10) rfl ?_); refine box_event ?hg (N := 10) ?hd (cs := #[.bool false, .slice none 0 0]) (t := 32) ?hr ?_; (case hd => rfl); (case hg => rfl); (case hr => first | (go_simp; done) | (go_simp; rfl)); intro gb511 hg w55 hbox hb; have n0_ := Aside0.mk (Kd.V_below (Kd.V_elderB (kv HO505.out) gb511 (Nat.le_of_eq hg.symm)) hb); have n1_ := Aside0.mk (Kd.V_below (Kd.V_elderB (kv HO509.out) gb511 (Nat.le_of_eq hg.symm)) hb); have n2_ := Aside0.mk (blk_below (bk BK510.out) hb); have n3_ := Aside0.mk (below_step bel hb); have n4_ := Aside0.mk (hbox); have n5_ := Aside0.mk ((by rw [hg]; exact (below_size bel) : w.heap.size ≤ gb511)); have n6_ := Aside0.mk ((by rw [hg]; exact (below_size bel) : w.heap.size ≤ gb511)); have n7_ := Aside0.mk ((by rw [hg]; exact Nat.ne_of_lt (blk_lt (bk BK510.out)) : gb510 ≠ gb511)); have n8_ := Aside0.mk ((by rw [hg]; exact Nat.ne_of_gt (blk_lt (bk BK510.out)) : gb511 ≠ gb510)); clear HO505; clear HO509; clear BK510; clear HB; have HO505 := n0_; have HO509 := n1_; have BK510 := n2_; have HB := n3_; have BK511 := n4_; have GW511 := n5_; have GE511 := n6_; have NB510_511 := n7_; have NB511_510 := n8_; clear n0_ n1_ n2_ n3_ n4_ n5_ n6_ n7_ n8_; clear hb hbox hg; have hnb56 := NB510_511.out; have hnc56 := NB511_510.out; have hcz57_0 : w55.cell? ⟨gb510, 0, none⟩ = some (.bool false) := (blk_cell BK510.out 0).trans rfl; have hcz57_1 : w55.cell? ⟨gb510, 1, none⟩ = some (.slice none 0 0) := (blk_cell BK510.out 1).trans rfl; have hfz57_0 := blk_frozen BK510.out 0; have hfz57_1 := blk_frozen BK510.out 1; obtain ⟨Ao58, co58, eo58⟩ := Kd.V_slice HO505.out; subst eo58; have hcz59_0 : w55.cell? ⟨gb511, 0, none⟩ = some (.bool false) := (blk_cell BK511.out 0).trans rfl; have hcz59_1 : w55.cell? ⟨gb511, 1, none⟩ = some (.slice none 0 0) := (blk_cell BK511.out 1).trans rfl; have hfz59_0 := blk_frozen BK511.out 0; have hfz59_1 := blk_frozen BK511.out 1; obtain ⟨Ao60, co60, eo60⟩ := Kd.V_slice HO509.out; subst eo60) | ((with_reducible refine gate_callee (f := 24) rfl ?_); refine goesL_ (some 68) rfl rfl Tryd.func24 (by kernel_rfl) rfl #[.agg #[.bool t502, .slice Ao58 t503.length co58], .agg #[.bool t506, .slice Ao60 t507.length co60]] rfl ag ?_; (with_reducible refine (cellarerref02_Add.calls kj19 t502 _ _ t503 t506 _ _ t507 t512 t513 _ ?side1 ?side2 ?side3 ?side4 ?side5 A30.out).mono ?_); (case side1 => exact GOK.below hG.out bel); (case side2 => refine (Kd.V_reads' (e := 3) (base := w.heap.size) (ok := fun k_ => ((True ∧ k_ ≠ gb510) ∧ k_ ≠ gb511)) (n := t503.length) (c := co58) ?_).2.2; exact (kv ((Kd.V_mono (Kd.V_mono (Kd.V_far (p := ⟨gb511, 1, none⟩) (Kd.V_far (p := ⟨gb511, 0, none⟩) (Kd.V_far (p := ⟨gb510, 1, none⟩) (Kd.V_far (p := ⟨gb510, 0, none⟩) (Kd.V_mono (Kd.V_mono HO505.out (fun k_ hk => (⟨hk, hk.1.2⟩ : _ ∧ k_ ≠ gb510))) (fun k_ hk => (⟨hk, hk.1.2⟩ : _ ∧ k_ ≠ gb511))) (fun _ hk => hk.1.2) (.bool t502)) (fun _ hk => hk.1.2) (.slice Ao58 t503.length co58)) (fun _ hk => hk.2) (.bool t506)) (fun _ hk => hk.2) (.slice Ao60 t507.length co60)) (fun _ h_ => h_.1)) (fun _ h_ => h_.1))))); (case side3 => exact (Kd.V_reads' HO505.out).2.1); (case side4 => refine (Kd.V_reads' (e := 3) (base := w.heap.size) (ok := fun k_ => ((True ∧ k_ ≠ gb510) ∧ k_ ≠ gb511)) (n := t507.length) (c := co60) ?_).2.2; exact (kv ((Kd.V_mono (Kd.V_mono (Kd.V_far (p := ⟨gb511, 1, none⟩) (Kd.V_far (p := ⟨gb511, 0, none⟩) (Kd.V_far (p := ⟨gb510, 1, none⟩) (Kd.V_far (p := ⟨gb510, 0, none⟩) (Kd.V_mono (Kd.V_mono HO509.out (fun k_ hk => (⟨hk, hk.1.2⟩ : _ ∧ k_ ≠ gb510))) (fun k_ hk => (⟨hk, hk.1.2⟩ : _ ∧ k_ ≠ gb511))) (fun _ hk => hk.1.2) (.bool t502)) (fun _ hk => hk.1.2) (.slice Ao58 t503.length co58)) (fun _ hk => hk.2) (.bool t506)) (fun _ hk => hk.2) (.slice Ao60 t507.length co60)) (fun _ h_ => h_.1)) (fun _ h_ => h_.1))))); (case side5 => exact (Kd.V_reads' HO509.out).2.1); rintro e w61 ⟨v514, rfl, ho0, hb⟩; refine ⟨_, rfl, ?_⟩; have n0_ := Aside0.mk (Kd.V_below (kv ((Kd.V_mono (Kd.V_mono (Kd.V_far (p := ⟨gb511, 1, none⟩) (Kd.V_far (p := ⟨gb511, 0, none⟩) (Kd.V_far (p := ⟨gb510, 1, none⟩) (Kd.V_far (p := ⟨gb510, 0, none⟩) (Kd.V_mono (Kd.V_mono HO505.out (fun k_ hk => (⟨hk, hk.1.2⟩ : _ ∧ k_ ≠ gb510))) (fun k_ hk => (⟨hk, hk.1.2⟩ : _ ∧ k_ ≠ gb511))) (fun _ hk => hk.1.2) (.bool t502)) (fun _ hk => hk.1.2) (.slice Ao58 t503.length co58)) (fun _ hk => hk.2) (.bool t506)) (fun _ hk => hk.2) (.slice Ao60 t507.length co60)) (fun _ h_ => h_.1)) (fun _ h_ => h_.1)))) hb); have n1_ := Aside0.mk (Kd.V_below (kv ((Kd.V_mono (Kd.V_mono (Kd.V_far (p := ⟨gb511, 1, none⟩) (Kd.V_far (p := ⟨gb511, 0, none⟩) (Kd.V_far (p := ⟨gb510, 1, none⟩) (Kd.V_far (p := ⟨gb510, 0, none⟩) (Kd.V_mono (Kd.V_mono HO509.out (fun k_ hk => (⟨hk, hk.1.2⟩ : _ ∧ k_ ≠ gb510))) (fun k_ hk => (⟨hk, hk.1.2⟩ : _ ∧ k_ ≠ gb511))) (fun _ hk => hk.1.2) (.bool t502)) (fun _ hk => hk.1.2) (.slice Ao58 t503.length co58)) (fun _ hk => hk.2) (.bool t506)) (fun _ hk => hk.2) (.slice Ao60 t507.length co60)) (fun _ h_ => h_.1)) (fun _ h_ => h_.1)))) hb); have n2_ := Aside0.mk (Kd.V_lower (Kd.V_mono (ok' := fun k_ => k_ ≠ gb510 ∧ k_ ≠ gb511) ho0 (fun k_ hk_ => ⟨(Kd.freshB (g := gb510) (o := .cells #[.bool t502, .slice Ao58 t503.length co58] 32 (0, 0)) (by (with_reducible repeat (first | refine blk_drewN ?_ _ | refine blk_drew ?_ | refine blk_alloc ?_ _)); refine blk_far ?_ NB510_511.out _; (with_reducible repeat (first | refine blk_drewN ?_ _ | refine blk_drew ?_ | refine blk_alloc ?_ _)); refine blk_far ?_ NB510_511.out _; (with_reducible repeat (first | refine blk_drewN ?_ _ | refine blk_drew ?_ | refine blk_alloc ?_ _)); refine blk_put (cs := #[.bool t502, .slice none 0 0]) ?_ 1 _ rfl; (with_reducible repeat (first | refine blk_drewN ?_ _ | refine blk_drew ?_ | refine blk_alloc ?_ _)); refine blk_put (cs := #[.bool false, .slice none 0 0]) ?_ 0 _ rfl; (with_reducible repeat (first | refine blk_drewN ?_ _ | refine blk_drew ?_ | refine blk_alloc ?_ _)); exact BK510.out) k_ hk_), (Kd.freshB (g := gb511) (o := .cells #[.bool t506, .slice Ao60 t507.length co60] 32 (0, 0)) (by (with_reducible repeat (first | refine blk_drewN ?_ _ | refine blk_drew ?_ | refine blk_alloc ?_ _)); refine blk_put (cs := #[.bool t506, .slice none 0 0]) ?_ 1 _ rfl; (with_reducible repeat (first | refine blk_drewN ?_ _ | refine blk_drew ?_ | refine blk_alloc ?_ _)); refine blk_put (cs := #[.bool false, .slice none 0 0]) ?_ 0 _ rfl; (with_reducible repeat (first | refine blk_drewN ?_ _ | refine blk_drew ?_ | refine blk_alloc ?_ _)); refine blk_far ?_ NB511_510.out _; (with_reducible repeat (first | refine blk_drewN ?_ _ | refine blk_drew ?_ | refine blk_alloc ?_ _)); refine blk_far ?_ NB511_510.out _; (with_reducible repeat (first | refine blk_drewN ?_ _ | refine blk_drew ?_ | refine blk_alloc ?_ _)); exact BK511.out) k_ hk_)⟩)) (below_size bel)); have n3_ := Aside0.mk (blk_below (g := gb510) (o := .cells #[.bool t502, .slice Ao58 t503.length co58] 32 (0, 0)) (by (with_reducible repeat (first | refine blk_drewN ?_ _ | refine blk_drew ?_ | refine blk_alloc ?_ _)); refine blk_far ?_ NB510_511.out _; (with_reducible repeat (first | refine blk_drewN ?_ _ | refine blk_drew ?_ | refine blk_alloc ?_ _)); refine blk_far ?_ NB510_511.out _; (with_reducible repeat (first | refine blk_drewN ?_ _ | refine blk_drew ?_ | refine blk_alloc ?_ _)); refine blk_put (cs := #[.bool t502, .slice none 0 0]) ?_ 1 _ rfl; (with_reducible repeat (first | refine blk_drewN ?_ _ | refine blk_drew ?_ | refine blk_alloc ?_ _)); refine blk_put (cs := #[.bool false, .slice none 0 0]) ?_ 0 _ rfl; (with_reducible repeat (first | refine blk_drewN ?_ _ | refine blk_drew ?_ | refine blk_alloc ?_ _)); exact BK510.out) hb); have n4_ := Aside0.mk (blk_below (g := gb511) (o := .cells #[.bool t506, .slice Ao60 t507.length co60] 32 (0, 0)) (by (with_reducible repeat (first | refine blk_drewN ?_ _ | refine blk_drew ?_ | refine blk_alloc ?_ _)); refine blk_put (cs := #[.bool t506, .slice none 0 0]) ?_ 1 _ rfl; (with_reducible repeat (first | refine blk_drewN ?_ _ | refine blk_drew ?_ | refine blk_alloc ?_ _)); refine blk_put (cs := #[.bool false, .slice none 0 0]) ?_ 0 _ rfl; (with_reducible repeat (first | refine blk_drewN ?_ _ | refine blk_drew ?_ | refine blk_alloc ?_ _)); refine blk_far ?_ NB511_510.out _; (with_reducible repeat (first | refine blk_drewN ?_ _ | refine blk_drew ?_ | refine blk_alloc ?_ _)); refine blk_far ?_ NB511_510.out _; (with_reducible repeat (first | refine blk_drewN ?_ _ | refine blk_drew ?_ | refine blk_alloc ?_ _)); exact BK511.out) hb); have n5_ := Aside0.mk (below_step bel hb); clear HO505; clear HO509; clear BK510; clear BK511; clear HB; have HO505 := n0_; have HO509 := n1_; have HO515 := n2_; have BK510 := n3_; have BK511 := n4_; have HB := n5_; clear n0_ n1_ n2_ n3_ n4_ n5_; (try clear hb); (try clear hb2); (try clear hk); (try clear hi); (try clear ho0); obtain ⟨Ao62, co62, eo62⟩ := Kd.V_slice HO515.out; subst eo62) | ((with_reducible refine gate_callee (f := 17) rfl ?_); refine goesL_ (some 69) rfl rfl Tryd.func17 (by kernel_rfl) rfl #[.string t492, .int .i64 t493, .agg #[.bool t512, .slice Ao62 t513.length co62]] rfl ag ?_; (with_reducible refine (cellarerlaw02_agree.calls kj19 t492 t493 t512 _ _ t513 false _ ?side1 ?side2 ?side3 A31.out).mono ?_); (case side1 => exact GOK.below hG.out bel); (case side2 => exact kc ((Kd.V_reads' HO515.out).2.2)); (case side3 => exact (Kd.V_reads' HO515.out).2.1); rintro e w63 ⟨rfl, hb⟩; refine ⟨_, rfl, ?_⟩; have n0_ := Aside0.mk (Kd.V_below (kv HO505.out) hb); have n1_ := Aside0.mk (Kd.V_below (kv HO509.out) hb); have n2_ := Aside0.mk (Kd.V_below (kv HO515.out) hb); have n3_ := Aside0.mk (blk_below (bk BK510.out) hb); have n4_ := Aside0.mk (blk_below (bk BK511.out) hb); have n5_ := Aside0.mk (below_step bel hb); clear HO505; clear HO509; clear HO515; clear BK510; clear BK511; clear HB; have HO505 := n0_; have HO509 := n1_; have HO515 := n2_; have BK510 := n3_; have BK511 := n4_; have HB := n5_; clear n0_ n1_ n2_ n3_ n4_ n5_; (try clear hb); (try clear hb2); (try clear hk); (try clear hi)))
          go_ret
          exact ⟨by first | rfl | (simp [errW_none, errW_some] <;> rfl) | (simp [*, errW_none, errW_some] <;> rfl), bel⟩
 ·replace c4 := Bool.eq_false_iff.mpr c4
  subst c4
  have H1 : (some false) = some r := by rw [if_neg (show ¬ (false = true) by decide)] at H; exact H
  clear H
  have H := H1
  clear H1
  obtain rfl := Option.some.inj H
  go_enter Tryd.func4, Tryd.ntmps4
  go_wp2_with (first | ((with_reducible refine gate_callee (f := 11) rfl ?_); refine goesL_ (some 11) rfl rfl Tryd.func11 (by kernel_rfl) rfl #[] rfl ag ?_; (with_reducible refine (cellarerlaw02_awake.calls k  false _ ?side1 A3.out).mono ?_); (case side1 => exact GOK.below hG.out bel); rintro e w64 ⟨rfl, hb⟩; refine ⟨_, rfl, ?_⟩; have n0_ := Aside0.mk (below_step bel hb); clear HB; have HB := n0_; clear n0_; (try clear hb); (try clear hb2); (try clear hk); (try clear hi)))
  go_ret
  exact ⟨by first | rfl | (simp [errW_none, errW_some] <;> rfl) | (simp [*, errW_none, errW_some] <;> rfl), bel⟩

theorem cellarerlaw02_IntegerAdds.walk (P : cellarerlaw02_IntegerAdds.Pure) (a0 : ByteArray) (a1 : ByteArray) (w : World) (hG : GOK w) (w0 : a0.size ≤ 140737488351232) (w1 : a1.size ≤ 140737488351232) :
  Calls Tryd.prog 4 #[.string a0, .string a1] w fun e w' => e = .returned (.bool true) ∧ Below w.heap.size w w' := by
 obtain ⟨k, h⟩ := P a0 a1 w0 w1
 refine (cellarerlaw02_IntegerAdds.calls k a0 a1 true w hG h).mono ?_
 rintro e w' ⟨rfl, hd⟩
 exact ⟨rfl, hd⟩

end Go.Proofs.YtdnjlmoggnbknaaDoor.PInt
