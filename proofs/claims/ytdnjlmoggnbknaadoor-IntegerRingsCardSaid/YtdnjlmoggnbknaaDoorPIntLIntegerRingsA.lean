-- Written by a program of this session's (xprint.py) over the kit's print.
import Derived.Test.YtdnjlmoggnbknaaDoorPIntx17
import Derived.Test.YtdnjlmoggnbknaaDoorPIntx0
import Derived.Test.YtdnjlmoggnbknaaDoorPIntx1
import Derived.Test.YtdnjlmoggnbknaaDoorPIntx6
import Derived.Test.YtdnjlmoggnbknaaDoorPIntx8
import Derived.Test.YtdnjlmoggnbknaaDoorPIntx10
import Derived.Test.YtdnjlmoggnbknaaDoorPIntx13
import Derived.Test.YtdnjlmoggnbknaaDoorPIntD
import Derived.Test.YtdnjlmoggnbknaaDoorAuto
namespace Go.Proofs.YtdnjlmoggnbknaaDoor.PInt
open Go.RowKit Go.Proofs.YtdnjlmoggnbknaaDoor.Ext Go.Proofs.YtdnjlmoggnbknaaDoorW.PrintWords Go.Proofs.YtdnjlmoggnbknaaDoorW.PrintLast Go.Proofs.YtdnjlmoggnbknaaDoorW.PrintMore
attribute [local go_sem high] gtr_print leq_print
attribute [local go_sem] max2_int min2_int max_two min_two max_three min_three max_four min_four   -- for this text's walks alone
set_option linter.unusedVariables false
set_option linter.unusedSimpArgs false

/-! ### cellarerlaw02_IntegerRings: function 6 -/
set_option maxHeartbeats 8000000 in
set_option maxRecDepth 100000 in
noncomputable def cellarerlaw02_IntegerRings.calls.cut :
    { p : Prop // PLift p → ∀ (k : Nat) (a0 : ByteArray) (a1 : ByteArray) (a2 : ByteArray) (r : Bool) (w : World) (hG : GOK w) (h : cellarerlaw02_IntegerRings.f k a0 a1 a2 = some r), Calls Tryd.prog 6 #[.string a0, .string a1, .string a2] w fun e w' => e = .returned (.bool r) ∧ Below w.heap.size w w' } := by
 apply Subtype.mk
 intro hrest_ k a0 a1 a2 r w hG h
 replace hG := Aside0.mk hG
 have HB := Aside0.mk (Below.refl w.heap.size w)
 have H : ((cellarerlaw02_awake.f k).bind fun t707 => (if t707 = true then (if (a0.size : Int) > 90 then (cellarerlaw02_IntegerRings.j0 k a0 a1 a2 true) else (if (a1.size : Int) > 90 then (cellarerlaw02_IntegerRings.j0 k a0 a1 a2 true) else (if (a2.size : Int) > 90 then (cellarerlaw02_IntegerRings.j0 k a0 a1 a2 true) else ((integer_Valid.f k a0).bind fun t708 => (if t708 = true then ((integer_Valid.f k a1).bind fun t709 => (if t709 = true then ((integer_Valid.f k a2).bind fun t710 => (cellarerlaw02_IntegerRings.j0 k a0 a1 a2 (!t710))) else (cellarerlaw02_IntegerRings.j0 k a0 a1 a2 true))) else (cellarerlaw02_IntegerRings.j0 k a0 a1 a2 true)))))) else (some false))) = some r := h
 clear h
 replace H := Option.bind_eq_some_iff.mp H
 obtain ⟨t707, A40, H⟩ := H
 replace H : (if t707 = true then (if (a0.size : Int) > 90 then (cellarerlaw02_IntegerRings.j0 k a0 a1 a2 true) else (if (a1.size : Int) > 90 then (cellarerlaw02_IntegerRings.j0 k a0 a1 a2 true) else (if (a2.size : Int) > 90 then (cellarerlaw02_IntegerRings.j0 k a0 a1 a2 true) else ((integer_Valid.f k a0).bind fun t708 => (if t708 = true then ((integer_Valid.f k a1).bind fun t709 => (if t709 = true then ((integer_Valid.f k a2).bind fun t710 => (cellarerlaw02_IntegerRings.j0 k a0 a1 a2 (!t710))) else (cellarerlaw02_IntegerRings.j0 k a0 a1 a2 true))) else (cellarerlaw02_IntegerRings.j0 k a0 a1 a2 true)))))) else (some false)) = some r := H
 have A4 := Aside0.mk A40
 clear A40
 by_cases c5 : t707 = true
 ·subst c5
  have H1 : (if (a0.size : Int) > 90 then (cellarerlaw02_IntegerRings.j0 k a0 a1 a2 true) else (if (a1.size : Int) > 90 then (cellarerlaw02_IntegerRings.j0 k a0 a1 a2 true) else (if (a2.size : Int) > 90 then (cellarerlaw02_IntegerRings.j0 k a0 a1 a2 true) else ((integer_Valid.f k a0).bind fun t708 => (if t708 = true then ((integer_Valid.f k a1).bind fun t709 => (if t709 = true then ((integer_Valid.f k a2).bind fun t710 => (cellarerlaw02_IntegerRings.j0 k a0 a1 a2 (!t710))) else (cellarerlaw02_IntegerRings.j0 k a0 a1 a2 true))) else (cellarerlaw02_IntegerRings.j0 k a0 a1 a2 true)))))) = some r := by rw [if_pos rfl] at H; exact H
  clear H
  have H := H1
  clear H1
  have HC6 := Aside0.mk H
  clear H
  go_enter Tryd.func6, Tryd.ntmps6
  go_upto_region 3 with (first | ((with_reducible refine gate_callee (f := 11) rfl ?_); refine goesL_ (some 26) rfl rfl Tryd.func11 (by kernel_rfl) rfl #[] rfl ag ?_; (with_reducible refine (cellarerlaw02_awake.calls k  true _ ?side1 A4.out).mono ?_); (case side1 => exact GOK.below hG.out bel); rintro e w7 ⟨rfl, hb⟩; refine ⟨_, rfl, ?_⟩; have n0_ := Aside0.mk (below_step bel hb); clear HB; have HB := n0_; clear n0_; (try clear hb); (try clear hb2); (try clear hk); (try clear hi)))
  (try simp only [Act.put, List.setIfInBounds_toArray, List.set_cons_zero, List.set_cons_succ])
  go_cut [55] (fun v55 wc => ∃ (kq : Nat) (x55_5 : Bool), v55 = .bool x55_5 ∧ Aside0 (cellarerlaw02_IntegerRings.j0 kq a0 a1 a2 x55_5 = some r) ∧ Aside0 (kq ≤ k) ∧ Aside0 (Below w.heap.size w wc))
  case first =>
   have H := HC6.out
   clear HC6
   by_cases c8 : (a0.size : Int) > 90
   ·rw [if_pos c8] at H
    have c8b0 : decide (90 < (a0.size : Int)) = true := decide_eq_true c8
    have c8b1 : decide (90 < a0.size) = true := decide_eq_true (by omega)
    clear c8
    (first | rw [c8b0] | rw [c8b1] | (simp only [i64_w, i32_w]; rw [c8b0]) | skip)
    have H' := Aside0.mk H
    clear H
    go_wp2
    go_meet
    case rel => exact ⟨_, (true), (by first | rfl | (simp; done) | (simp [*]; done)), H', ⟨by first | omega | exact Nat.le_refl _⟩, ⟨bel⟩⟩
   ·rw [if_neg c8] at H
    have c8b0 : decide (90 < (a0.size : Int)) = false := decide_eq_false c8
    have c8b1 : decide (90 < a0.size) = false := decide_eq_false (by omega)
    clear c8
    (first | rw [c8b0] | rw [c8b1] | (simp only [i64_w, i32_w]; rw [c8b0]) | skip)
    by_cases c9 : (a1.size : Int) > 90
    ·rw [if_pos c9] at H
     have c9b0 : decide (90 < (a1.size : Int)) = true := decide_eq_true c9
     have c9b1 : decide (90 < a1.size) = true := decide_eq_true (by omega)
     clear c9
     have H' := Aside0.mk H
     clear H
     go_wp2
     go_meet
     case rel => exact ⟨_, (true), (by first | rfl | (simp; done) | (simp [*]; done)), H', ⟨by first | omega | exact Nat.le_refl _⟩, ⟨bel⟩⟩
    ·rw [if_neg c9] at H
     have c9b0 : decide (90 < (a1.size : Int)) = false := decide_eq_false c9
     have c9b1 : decide (90 < a1.size) = false := decide_eq_false (by omega)
     clear c9
     by_cases c10 : (a2.size : Int) > 90
     ·rw [if_pos c10] at H
      have c10b0 : decide (90 < (a2.size : Int)) = true := decide_eq_true c10
      have c10b1 : decide (90 < a2.size) = true := decide_eq_true (by omega)
      clear c10
      have H' := Aside0.mk H
      clear H
      go_wp2
      go_meet
      case rel => exact ⟨_, (true), (by first | rfl | (simp; done) | (simp [*]; done)), H', ⟨by first | omega | exact Nat.le_refl _⟩, ⟨bel⟩⟩
     ·rw [if_neg c10] at H
      have c10b0 : decide (90 < (a2.size : Int)) = false := decide_eq_false c10
      have c10b1 : decide (90 < a2.size) = false := decide_eq_false (by omega)
      clear c10
      replace H := Option.bind_eq_some_iff.mp H
      obtain ⟨t708, A110, H⟩ := H
      replace H : (if t708 = true then ((integer_Valid.f k a1).bind fun t709 => (if t709 = true then ((integer_Valid.f k a2).bind fun t710 => (cellarerlaw02_IntegerRings.j0 k a0 a1 a2 (!t710))) else (cellarerlaw02_IntegerRings.j0 k a0 a1 a2 true))) else (cellarerlaw02_IntegerRings.j0 k a0 a1 a2 true)) = some r := H
      have A11 := Aside0.mk A110
      clear A110
      by_cases c12 : t708 = true
      ·subst c12
       have H1 : ((integer_Valid.f k a1).bind fun t709 => (if t709 = true then ((integer_Valid.f k a2).bind fun t710 => (cellarerlaw02_IntegerRings.j0 k a0 a1 a2 (!t710))) else (cellarerlaw02_IntegerRings.j0 k a0 a1 a2 true))) = some r := by rw [if_pos rfl] at H; exact H
       clear H
       have H := H1
       clear H1
       replace H := Option.bind_eq_some_iff.mp H
       obtain ⟨t709, A130, H⟩ := H
       replace H : (if t709 = true then ((integer_Valid.f k a2).bind fun t710 => (cellarerlaw02_IntegerRings.j0 k a0 a1 a2 (!t710))) else (cellarerlaw02_IntegerRings.j0 k a0 a1 a2 true)) = some r := H
       have A13 := Aside0.mk A130
       clear A130
       by_cases c14 : t709 = true
       ·subst c14
        have H1 : ((integer_Valid.f k a2).bind fun t710 => (cellarerlaw02_IntegerRings.j0 k a0 a1 a2 (!t710))) = some r := by rw [if_pos rfl] at H; exact H
        clear H
        have H := H1
        clear H1
        replace H := Option.bind_eq_some_iff.mp H
        obtain ⟨t710, A150, H⟩ := H
        replace H : (cellarerlaw02_IntegerRings.j0 k a0 a1 a2 (!t710)) = some r := H
        have A15 := Aside0.mk A150
        clear A150
        have H' := Aside0.mk H
        clear H
        go_wp2_with (first | (go_at_call 23; (with_reducible refine (integer_Valid.calls k a0 true _ ?side1 A11.out).mono ?_); (case side1 => exact GOK.below hG.out bel); rintro e w' ⟨rfl, ⟨nd, rfl⟩⟩) | (go_at_call 23; (with_reducible refine (integer_Valid.calls k a1 true _ ?side1 A13.out).mono ?_); (case side1 => exact GOK.below hG.out bel); rintro e w' ⟨rfl, ⟨nd, rfl⟩⟩) | (go_at_call 23; (with_reducible refine (integer_Valid.calls k a2 t710 _ ?side1 A15.out).mono ?_); (case side1 => exact GOK.below hG.out bel); rintro e w' ⟨rfl, ⟨nd, rfl⟩⟩))
        go_meet
        case rel => exact ⟨_, (!t710), (by first | rfl | (simp; done) | (simp [*]; done)), H', ⟨by first | omega | exact Nat.le_refl _⟩, ⟨bel⟩⟩
       ·replace c14 := Bool.eq_false_iff.mpr c14
        subst c14
        have H1 : (cellarerlaw02_IntegerRings.j0 k a0 a1 a2 true) = some r := by rw [if_neg (show ¬ (false = true) by decide)] at H; exact H
        clear H
        have H := H1
        clear H1
        have H' := Aside0.mk H
        clear H
        go_wp2_with (first | (go_at_call 23; (with_reducible refine (integer_Valid.calls k a0 true _ ?side1 A11.out).mono ?_); (case side1 => exact GOK.below hG.out bel); rintro e w' ⟨rfl, ⟨nd, rfl⟩⟩) | (go_at_call 23; (with_reducible refine (integer_Valid.calls k a1 false _ ?side1 A13.out).mono ?_); (case side1 => exact GOK.below hG.out bel); rintro e w' ⟨rfl, ⟨nd, rfl⟩⟩))
        go_meet
        case rel => exact ⟨_, (true), (by first | rfl | (simp; done) | (simp [*]; done)), H', ⟨by first | omega | exact Nat.le_refl _⟩, ⟨bel⟩⟩
      ·replace c12 := Bool.eq_false_iff.mpr c12
       subst c12
       have H1 : (cellarerlaw02_IntegerRings.j0 k a0 a1 a2 true) = some r := by rw [if_neg (show ¬ (false = true) by decide)] at H; exact H
       clear H
       have H := H1
       clear H1
       have H' := Aside0.mk H
       clear H
       go_wp2_with (first | (go_at_call 23; (with_reducible refine (integer_Valid.calls k a0 false _ ?side1 A11.out).mono ?_); (case side1 => exact GOK.below hG.out bel); rintro e w' ⟨rfl, ⟨nd, rfl⟩⟩))
       go_meet
       case rel => exact ⟨_, (true), (by first | rfl | (simp; done) | (simp [*]; done)), H', ⟨by first | omega | exact Nat.le_refl _⟩, ⟨bel⟩⟩
  case rest =>
   clear HC6
   (try clear c1); (try clear p2); (try clear c5); (try clear c6); (try clear c8); (try clear c8b0); (try clear c8b1); (try clear c9); (try clear c9b0); (try clear c9b1); (try clear c10); (try clear c10b0); (try clear c10b1); (try clear c11); (try clear c12); (try clear c14)
   obtain ⟨kq, x55_5, rfl, HA, HJ5, HB⟩ := hcut
   cases kq with
   | zero => exact absurd HA.out (by simp [cellarerlaw02_IntegerRings.j0])
   | succ kj5 =>
    have H := HA.out
    clear HA
    simp only [cellarerlaw02_IntegerRings.j0] at H
    by_cases c16 : x55_5 = true
    ·subst c16
     have H1 : (some true) = some r := by rw [if_pos rfl] at H; exact H
     clear H
     have H := H1
     clear H1
     obtain rfl := Option.some.inj H
     go_wp2
     go_ret
     exact ⟨by first | rfl | (simp [errW_none, errW_some] <;> rfl) | (simp [*, errW_none, errW_some] <;> rfl), bel⟩
    ·replace c16 := Bool.eq_false_iff.mpr c16
     subst c16
     have H1 : ((integer_Add.f kj5 a0 a1).bind fun bt711 => ((integer_Add.f kj5 a1 a0).bind fun bt713 => ((integer_Add.f kj5 a1 a2).bind fun bt715 => ((integer_Add.f kj5 bt711.1 a2).bind fun bt717 => ((integer_Add.f kj5 a0 bt715.1).bind fun bt719 => (if bt711.2 = 0 then (if bt713.2 = 0 then (if bt715.2 = 0 then (if bt717.2 = 0 then (if bt719.2 = 0 then (if bt711.1.toList = bt713.1.toList then (cellarerlaw02_IntegerRings.j1 kj5 a0 a1 a2 bt711.1 bt715.1 (bt717.1.toList != bt719.1.toList)) else (cellarerlaw02_IntegerRings.j1 kj5 a0 a1 a2 bt711.1 bt715.1 true)) else (cellarerlaw02_IntegerRings.j1 kj5 a0 a1 a2 bt711.1 bt715.1 true)) else (cellarerlaw02_IntegerRings.j1 kj5 a0 a1 a2 bt711.1 bt715.1 true)) else (cellarerlaw02_IntegerRings.j1 kj5 a0 a1 a2 bt711.1 bt715.1 true)) else (cellarerlaw02_IntegerRings.j1 kj5 a0 a1 a2 bt711.1 bt715.1 true)) else (cellarerlaw02_IntegerRings.j1 kj5 a0 a1 a2 bt711.1 bt715.1 true))))))) = some r := by rw [if_neg (show ¬ (false = true) by decide)] at H; exact H
     clear H
     have H := H1
     clear H1
     replace H := Option.bind_eq_some_iff.mp H
     obtain ⟨⟨t711, t712⟩, A170, H⟩ := H
     replace H : ((integer_Add.f kj5 a1 a0).bind fun bt713 => ((integer_Add.f kj5 a1 a2).bind fun bt715 => ((integer_Add.f kj5 t711 a2).bind fun bt717 => ((integer_Add.f kj5 a0 bt715.1).bind fun bt719 => (if t712 = 0 then (if bt713.2 = 0 then (if bt715.2 = 0 then (if bt717.2 = 0 then (if bt719.2 = 0 then (if t711.toList = bt713.1.toList then (cellarerlaw02_IntegerRings.j1 kj5 a0 a1 a2 t711 bt715.1 (bt717.1.toList != bt719.1.toList)) else (cellarerlaw02_IntegerRings.j1 kj5 a0 a1 a2 t711 bt715.1 true)) else (cellarerlaw02_IntegerRings.j1 kj5 a0 a1 a2 t711 bt715.1 true)) else (cellarerlaw02_IntegerRings.j1 kj5 a0 a1 a2 t711 bt715.1 true)) else (cellarerlaw02_IntegerRings.j1 kj5 a0 a1 a2 t711 bt715.1 true)) else (cellarerlaw02_IntegerRings.j1 kj5 a0 a1 a2 t711 bt715.1 true)) else (cellarerlaw02_IntegerRings.j1 kj5 a0 a1 a2 t711 bt715.1 true)))))) = some r := H
     have A17 := Aside0.mk A170
     clear A170
     replace H := Option.bind_eq_some_iff.mp H
     obtain ⟨⟨t713, t714⟩, A180, H⟩ := H
     replace H : ((integer_Add.f kj5 a1 a2).bind fun bt715 => ((integer_Add.f kj5 t711 a2).bind fun bt717 => ((integer_Add.f kj5 a0 bt715.1).bind fun bt719 => (if t712 = 0 then (if t714 = 0 then (if bt715.2 = 0 then (if bt717.2 = 0 then (if bt719.2 = 0 then (if t711.toList = t713.toList then (cellarerlaw02_IntegerRings.j1 kj5 a0 a1 a2 t711 bt715.1 (bt717.1.toList != bt719.1.toList)) else (cellarerlaw02_IntegerRings.j1 kj5 a0 a1 a2 t711 bt715.1 true)) else (cellarerlaw02_IntegerRings.j1 kj5 a0 a1 a2 t711 bt715.1 true)) else (cellarerlaw02_IntegerRings.j1 kj5 a0 a1 a2 t711 bt715.1 true)) else (cellarerlaw02_IntegerRings.j1 kj5 a0 a1 a2 t711 bt715.1 true)) else (cellarerlaw02_IntegerRings.j1 kj5 a0 a1 a2 t711 bt715.1 true)) else (cellarerlaw02_IntegerRings.j1 kj5 a0 a1 a2 t711 bt715.1 true))))) = some r := H
     have A18 := Aside0.mk A180
     clear A180
     replace H := Option.bind_eq_some_iff.mp H
     obtain ⟨⟨t715, t716⟩, A190, H⟩ := H
     replace H : ((integer_Add.f kj5 t711 a2).bind fun bt717 => ((integer_Add.f kj5 a0 t715).bind fun bt719 => (if t712 = 0 then (if t714 = 0 then (if t716 = 0 then (if bt717.2 = 0 then (if bt719.2 = 0 then (if t711.toList = t713.toList then (cellarerlaw02_IntegerRings.j1 kj5 a0 a1 a2 t711 t715 (bt717.1.toList != bt719.1.toList)) else (cellarerlaw02_IntegerRings.j1 kj5 a0 a1 a2 t711 t715 true)) else (cellarerlaw02_IntegerRings.j1 kj5 a0 a1 a2 t711 t715 true)) else (cellarerlaw02_IntegerRings.j1 kj5 a0 a1 a2 t711 t715 true)) else (cellarerlaw02_IntegerRings.j1 kj5 a0 a1 a2 t711 t715 true)) else (cellarerlaw02_IntegerRings.j1 kj5 a0 a1 a2 t711 t715 true)) else (cellarerlaw02_IntegerRings.j1 kj5 a0 a1 a2 t711 t715 true)))) = some r := H
     have A19 := Aside0.mk A190
     clear A190
     replace H := Option.bind_eq_some_iff.mp H
     obtain ⟨⟨t717, t718⟩, A200, H⟩ := H
     replace H : ((integer_Add.f kj5 a0 t715).bind fun bt719 => (if t712 = 0 then (if t714 = 0 then (if t716 = 0 then (if t718 = 0 then (if bt719.2 = 0 then (if t711.toList = t713.toList then (cellarerlaw02_IntegerRings.j1 kj5 a0 a1 a2 t711 t715 (t717.toList != bt719.1.toList)) else (cellarerlaw02_IntegerRings.j1 kj5 a0 a1 a2 t711 t715 true)) else (cellarerlaw02_IntegerRings.j1 kj5 a0 a1 a2 t711 t715 true)) else (cellarerlaw02_IntegerRings.j1 kj5 a0 a1 a2 t711 t715 true)) else (cellarerlaw02_IntegerRings.j1 kj5 a0 a1 a2 t711 t715 true)) else (cellarerlaw02_IntegerRings.j1 kj5 a0 a1 a2 t711 t715 true)) else (cellarerlaw02_IntegerRings.j1 kj5 a0 a1 a2 t711 t715 true))) = some r := H
     have A20 := Aside0.mk A200
     clear A200
     replace H := Option.bind_eq_some_iff.mp H
     obtain ⟨⟨t719, t720⟩, A210, H⟩ := H
     replace H : (if t712 = 0 then (if t714 = 0 then (if t716 = 0 then (if t718 = 0 then (if t720 = 0 then (if t711.toList = t713.toList then (cellarerlaw02_IntegerRings.j1 kj5 a0 a1 a2 t711 t715 (t717.toList != t719.toList)) else (cellarerlaw02_IntegerRings.j1 kj5 a0 a1 a2 t711 t715 true)) else (cellarerlaw02_IntegerRings.j1 kj5 a0 a1 a2 t711 t715 true)) else (cellarerlaw02_IntegerRings.j1 kj5 a0 a1 a2 t711 t715 true)) else (cellarerlaw02_IntegerRings.j1 kj5 a0 a1 a2 t711 t715 true)) else (cellarerlaw02_IntegerRings.j1 kj5 a0 a1 a2 t711 t715 true)) else (cellarerlaw02_IntegerRings.j1 kj5 a0 a1 a2 t711 t715 true)) = some r := H
     have A21 := Aside0.mk A210
     clear A210
     have HC22 := Aside0.mk H
     clear H
     go_upto_region 10 with (first | ((with_reducible refine gate_callee (f := 21) rfl ?_); refine goesL_ (some 59) rfl rfl Tryd.func21 (by kernel_rfl) rfl #[.string a0, .string a1] rfl ag ?_; (with_reducible refine (integer_Add.calls kj5 a0 a1 t711 t712 _ ?side1 A17.out).mono ?_); (case side1 => exact GOK.below hG.out bel); rintro e w23 ⟨rfl, hb⟩; refine ⟨_, rfl, ?_⟩; have n0_ := Aside0.mk (below_step bel hb); clear HB; have HB := n0_; clear n0_; (try clear hb); (try clear hb2); (try clear hk); (try clear hi)) | ((with_reducible refine gate_callee (f := 21) rfl ?_); refine goesL_ (some 65) rfl rfl Tryd.func21 (by kernel_rfl) rfl #[.string a1, .string a0] rfl ag ?_; (with_reducible refine (integer_Add.calls kj5 a1 a0 t713 t714 _ ?side1 A18.out).mono ?_); (case side1 => exact GOK.below hG.out bel); rintro e w24 ⟨rfl, hb⟩; refine ⟨_, rfl, ?_⟩; have n0_ := Aside0.mk (below_step bel hb); clear HB; have HB := n0_; clear n0_; (try clear hb); (try clear hb2); (try clear hk); (try clear hi)) | ((with_reducible refine gate_callee (f := 21) rfl ?_); refine goesL_ (some 71) rfl rfl Tryd.func21 (by kernel_rfl) rfl #[.string a1, .string a2] rfl ag ?_; (with_reducible refine (integer_Add.calls kj5 a1 a2 t715 t716 _ ?side1 A19.out).mono ?_); (case side1 => exact GOK.below hG.out bel); rintro e w25 ⟨rfl, hb⟩; refine ⟨_, rfl, ?_⟩; have n0_ := Aside0.mk (below_step bel hb); clear HB; have HB := n0_; clear n0_; (try clear hb); (try clear hb2); (try clear hk); (try clear hi)) | ((with_reducible refine gate_callee (f := 21) rfl ?_); refine goesL_ (some 77) rfl rfl Tryd.func21 (by kernel_rfl) rfl #[.string t711, .string a2] rfl ag ?_; (with_reducible refine (integer_Add.calls kj5 t711 a2 t717 t718 _ ?side1 A20.out).mono ?_); (case side1 => exact GOK.below hG.out bel); rintro e w26 ⟨rfl, hb⟩; refine ⟨_, rfl, ?_⟩; have n0_ := Aside0.mk (below_step bel hb); clear HB; have HB := n0_; clear n0_; (try clear hb); (try clear hb2); (try clear hk); (try clear hi)) | ((with_reducible refine gate_callee (f := 21) rfl ?_); refine goesL_ (some 83) rfl rfl Tryd.func21 (by kernel_rfl) rfl #[.string a0, .string t715] rfl ag ?_; (with_reducible refine (integer_Add.calls kj5 a0 t715 t719 t720 _ ?side1 A21.out).mono ?_); (case side1 => exact GOK.below hG.out bel); rintro e w27 ⟨rfl, hb⟩; refine ⟨_, rfl, ?_⟩; have n0_ := Aside0.mk (below_step bel hb); clear HB; have HB := n0_; clear n0_; (try clear hb); (try clear hb2); (try clear hk); (try clear hi)))
     (try simp only [Act.put, List.setIfInBounds_toArray, List.set_cons_zero, List.set_cons_succ])
     go_cut [113] (fun v113 wc => ∃ (kq : Nat) (x113_21 : Bool), v113 = .bool x113_21 ∧ Aside0 (cellarerlaw02_IntegerRings.j1 kq a0 a1 a2 t711 t715 x113_21 = some r) ∧ Aside0 (kq ≤ kj5) ∧ Aside0 (Below w.heap.size w wc))
     case first =>
      have H := HC22.out
      clear HC22
      by_cases c28 : t712 = 0
      ·rw [if_pos c28] at H
       have c28b0 : (t712 == 0) = true := beq_iff_eq.mpr c28
       have c28b1 : (t712 != 0) = false := bne_eq_false_iff_eq.mpr c28
       clear c28
       (first | rw [c28b0] | rw [c28b1] | (simp only [i64_w, i32_w]; rw [c28b0]) | skip)
       by_cases c29 : t714 = 0
       ·rw [if_pos c29] at H
        have c29b0 : (t714 == 0) = true := beq_iff_eq.mpr c29
        have c29b1 : (t714 != 0) = false := bne_eq_false_iff_eq.mpr c29
        clear c29
        by_cases c30 : t716 = 0
        ·rw [if_pos c30] at H
         have c30b0 : (t716 == 0) = true := beq_iff_eq.mpr c30
         have c30b1 : (t716 != 0) = false := bne_eq_false_iff_eq.mpr c30
         clear c30
         by_cases c31 : t718 = 0
         ·rw [if_pos c31] at H
          have c31b0 : (t718 == 0) = true := beq_iff_eq.mpr c31
          have c31b1 : (t718 != 0) = false := bne_eq_false_iff_eq.mpr c31
          clear c31
          by_cases c32 : t720 = 0
          ·rw [if_pos c32] at H
           have c32b0 : (t720 == 0) = true := beq_iff_eq.mpr c32
           have c32b1 : (t720 != 0) = false := bne_eq_false_iff_eq.mpr c32
           clear c32
           by_cases c33 : t711.toList = t713.toList
           ·rw [if_pos c33] at H
            have c33b0 : (t711.toList == t713.toList) = true := beq_iff_eq.mpr c33
            have c33b1 : (t711.toList != t713.toList) = false := bne_eq_false_iff_eq.mpr c33
            clear c33
            have H' := Aside0.mk H
            clear H
            go_wp2
            go_meet
            case rel => exact ⟨_, ((t717.toList != t719.toList)), (by first | rfl | (simp; done) | (simp [*]; done)), H', ⟨by have := HJ5.out; first | omega | exact Nat.le_refl _⟩, ⟨bel⟩⟩
           ·rw [if_neg c33] at H
            have c33b0 : (t711.toList == t713.toList) = false := beq_eq_false_iff_ne.mpr c33
            have c33b1 : (t711.toList != t713.toList) = true := bne_iff_ne.mpr c33
            have H' := Aside0.mk H
            clear H
            go_wp2
            go_meet
            case rel => exact ⟨_, (true), (by first | rfl | (simp; done) | (simp [*]; done)), H', ⟨by have := HJ5.out; first | omega | exact Nat.le_refl _⟩, ⟨bel⟩⟩
          ·rw [if_neg c32] at H
           have c32b0 : (t720 == 0) = false := beq_eq_false_iff_ne.mpr c32
           have c32b1 : (t720 != 0) = true := bne_iff_ne.mpr c32
           have H' := Aside0.mk H
           clear H
           go_wp2
           go_meet
           case rel => exact ⟨_, (true), (by first | rfl | (simp; done) | (simp [*]; done)), H', ⟨by have := HJ5.out; first | omega | exact Nat.le_refl _⟩, ⟨bel⟩⟩
         ·rw [if_neg c31] at H
          have c31b0 : (t718 == 0) = false := beq_eq_false_iff_ne.mpr c31
          have c31b1 : (t718 != 0) = true := bne_iff_ne.mpr c31
          have H' := Aside0.mk H
          clear H
          go_wp2
          go_meet
          case rel => exact ⟨_, (true), (by first | rfl | (simp; done) | (simp [*]; done)), H', ⟨by have := HJ5.out; first | omega | exact Nat.le_refl _⟩, ⟨bel⟩⟩
        ·rw [if_neg c30] at H
         have c30b0 : (t716 == 0) = false := beq_eq_false_iff_ne.mpr c30
         have c30b1 : (t716 != 0) = true := bne_iff_ne.mpr c30
         have H' := Aside0.mk H
         clear H
         go_wp2
         go_meet
         case rel => exact ⟨_, (true), (by first | rfl | (simp; done) | (simp [*]; done)), H', ⟨by have := HJ5.out; first | omega | exact Nat.le_refl _⟩, ⟨bel⟩⟩
       ·rw [if_neg c29] at H
        have c29b0 : (t714 == 0) = false := beq_eq_false_iff_ne.mpr c29
        have c29b1 : (t714 != 0) = true := bne_iff_ne.mpr c29
        have H' := Aside0.mk H
        clear H
        go_wp2
        go_meet
        case rel => exact ⟨_, (true), (by first | rfl | (simp; done) | (simp [*]; done)), H', ⟨by have := HJ5.out; first | omega | exact Nat.le_refl _⟩, ⟨bel⟩⟩
      ·rw [if_neg c28] at H
       have c28b0 : (t712 == 0) = false := beq_eq_false_iff_ne.mpr c28
       have c28b1 : (t712 != 0) = true := bne_iff_ne.mpr c28
       (first | rw [c28b0] | rw [c28b1] | (simp only [i64_w, i32_w]; rw [c28b0]) | skip)
       have H' := Aside0.mk H
       clear H
       go_wp2
       go_meet
       case rel => exact ⟨_, (true), (by first | rfl | (simp; done) | (simp [*]; done)), H', ⟨by have := HJ5.out; first | omega | exact Nat.le_refl _⟩, ⟨bel⟩⟩
     case rest =>
       rename_i Qp_h1 HB_h1 wc_h1 u26_h1 u27_h1 u28_h1 u29_h1 u30_h1 u31_h1 u32_h1 u33_h1 u34_h1 u35_h1 u36_h1 u37_h1 u38_h1 u39_h1 u40_h1 u41_h1 u42_h1 u43_h1 u44_h1 u45_h1 u46_h1 u47_h1 u48_h1 u49_h1 u50_h1 u51_h1 u52_h1 u53_h1 u54_h1 u56_h1 u57_h1 u58_h1 u59_h1 u60_h1 u61_h1 u62_h1 u63_h1 u64_h1 u65_h1 u66_h1 u67_h1 u68_h1 u69_h1 u70_h1 u71_h1 u72_h1 u73_h1 u74_h1 u75_h1 u76_h1 u77_h1 u78_h1 u79_h1 u80_h1 u81_h1 u82_h1 u83_h1 u84_h1 u85_h1 u86_h1 u87_h1 u88_h1 u89_h1 u90_h1 u91_h1 u92_h1 u93_h1 u94_h1 u95_h1 u96_h1 u97_h1 u98_h1 u99_h1 u100_h1 u101_h1 u102_h1 u103_h1 u104_h1 u105_h1 u106_h1 u107_h1 u108_h1 u109_h1 u110_h1 u111_h1 u112_h1 u113_h1 u114_h1 u115_h1 u116_h1 u117_h1 u118_h1 u119_h1 u120_h1 u121_h1 u122_h1 u123_h1 u124_h1 u125_h1 u126_h1 u127_h1 u128_h1 u129_h1 u130_h1 u131_h1 u132_h1 u133_h1 u134_h1 u135_h1 u136_h1 u137_h1 u138_h1 u139_h1 u140_h1 u141_h1 u142_h1 u143_h1 u144_h1 u145_h1 u146_h1 u147_h1 u148_h1 u149_h1 u150_h1 u151_h1 u152_h1 u153_h1 u154_h1 u155_h1 u156_h1 u157_h1 u158_h1 u159_h1 u160_h1 u161_h1 u162_h1 u163_h1 u164_h1 u165_h1 u166_h1 u167_h1 u168_h1 u169_h1 u170_h1 u171_h1 u172_h1 u173_h1 u174_h1 u175_h1 u176_h1 u177_h1 u178_h1 u179_h1 u180_h1 u181_h1 u182_h1 u183_h1 u184_h1 u185_h1 u186_h1 u187_h1 u188_h1 u189_h1 u190_h1 u191_h1 u192_h1 u193_h1 u194_h1 u195_h1 u196_h1 u197_h1 u198_h1 u199_h1 u200_h1 u201_h1 u202_h1 u203_h1 u204_h1 u205_h1 u206_h1 u207_h1 u208_h1 u209_h1 u210_h1 u211_h1 u212_h1 u213_h1 u214_h1 u215_h1 u216_h1 u217_h1 u218_h1 u219_h1 K_h1 a_h1 K_h2 a_h2
       revert k a0 a1 a2 r w hG A4 Qp_h1 w7 HB_h1 wc_h1 u26_h1 u27_h1 u28_h1 u29_h1 u30_h1 u31_h1 u32_h1 u33_h1 u34_h1 u35_h1 u36_h1 u37_h1 u38_h1 u39_h1 u40_h1 u41_h1 u42_h1 u43_h1 u44_h1 u45_h1 u46_h1 u47_h1 u48_h1 u49_h1 u50_h1 u51_h1 u52_h1 u53_h1 u54_h1 u56_h1 u57_h1 u58_h1 u59_h1 u60_h1 u61_h1 u62_h1 u63_h1 u64_h1 u65_h1 u66_h1 u67_h1 u68_h1 u69_h1 u70_h1 u71_h1 u72_h1 u73_h1 u74_h1 u75_h1 u76_h1 u77_h1 u78_h1 u79_h1 u80_h1 u81_h1 u82_h1 u83_h1 u84_h1 u85_h1 u86_h1 u87_h1 u88_h1 u89_h1 u90_h1 u91_h1 u92_h1 u93_h1 u94_h1 u95_h1 u96_h1 u97_h1 u98_h1 u99_h1 u100_h1 u101_h1 u102_h1 u103_h1 u104_h1 u105_h1 u106_h1 u107_h1 u108_h1 u109_h1 u110_h1 u111_h1 u112_h1 u113_h1 u114_h1 u115_h1 u116_h1 u117_h1 u118_h1 u119_h1 u120_h1 u121_h1 u122_h1 u123_h1 u124_h1 u125_h1 u126_h1 u127_h1 u128_h1 u129_h1 u130_h1 u131_h1 u132_h1 u133_h1 u134_h1 u135_h1 u136_h1 u137_h1 u138_h1 u139_h1 u140_h1 u141_h1 u142_h1 u143_h1 u144_h1 u145_h1 u146_h1 u147_h1 u148_h1 u149_h1 u150_h1 u151_h1 u152_h1 u153_h1 u154_h1 u155_h1 u156_h1 u157_h1 u158_h1 u159_h1 u160_h1 u161_h1 u162_h1 u163_h1 u164_h1 u165_h1 u166_h1 u167_h1 u168_h1 u169_h1 u170_h1 u171_h1 u172_h1 u173_h1 u174_h1 u175_h1 u176_h1 u177_h1 u178_h1 u179_h1 u180_h1 u181_h1 u182_h1 u183_h1 u184_h1 u185_h1 u186_h1 u187_h1 u188_h1 u189_h1 u190_h1 u191_h1 u192_h1 u193_h1 u194_h1 u195_h1 u196_h1 u197_h1 u198_h1 u199_h1 u200_h1 u201_h1 u202_h1 u203_h1 u204_h1 u205_h1 u206_h1 u207_h1 u208_h1 u209_h1 u210_h1 u211_h1 u212_h1 u213_h1 u214_h1 u215_h1 u216_h1 u217_h1 u218_h1 u219_h1 kj5 HJ5 t711 t712 A17 t713 t714 A18 t715 t716 A19 t717 t718 A20 t719 t720 A21 HC22 w23 w24 w25 w26 w27 HB K_h1 a_h1 K_h2 a_h2 wc u26 u27 u28 u29 u30 u31 u32 u33 u34 u35 u36 u37 u38 u39 u40 u41 u42 u43 u44 u45 u46 u47 u48 u49 u50 u51 u52 u53 u54 u55 u56 u57 u58 u59 u60 u61 u62 u63 u64 u65 u66 u67 u68 u69 u70 u71 u72 u73 u74 u75 u76 u77 u78 u79 u80 u81 u82 u83 u84 u85 u86 u87 u88 u89 u90 u91 u92 u93 u94 u95 u96 u97 u98 u99 u100 u101 u102 u103 u104 u105 u106 u107 u108 u109 u110 u111 u112 u113 u114 u115 u116 u117 u118 u119 u120 u121 u122 u123 u124 u125 u126 u127 u128 u129 u130 u131 u132 u133 u134 u135 u136 u137 u138 u139 u140 u141 u142 u143 u144 u145 u146 u147 u148 u149 u150 u151 u152 u153 u154 u155 u156 u157 u158 u159 u160 u161 u162 u163 u164 u165 u166 u167 u168 u169 u170 u171 u172 u173 u174 u175 u176 u177 u178 u179 u180 u181 u182 u183 u184 u185 u186 u187 u188 u189 u190 u191 u192 u193 u194 u195 u196 u197 u198 u199 u200 u201 u202 u203 u204 u205 u206 u207 u208 u209 u210 u211 u212 u213 u214 u215 u216 u217 u218 u219 hcut
       exact hrest_.down
 ·replace c5 := Bool.eq_false_iff.mpr c5
  subst c5
  have H1 : (some false) = some r := by rw [if_neg (show ¬ (false = true) by decide)] at H; exact H
  clear H
  have H := H1
  clear H1
  obtain rfl := Option.some.inj H
  go_enter Tryd.func6, Tryd.ntmps6
  go_wp2_with (first | ((with_reducible refine gate_callee (f := 11) rfl ?_); refine goesL_ (some 26) rfl rfl Tryd.func11 (by kernel_rfl) rfl #[] rfl ag ?_; (with_reducible refine (cellarerlaw02_awake.calls k  false _ ?side1 A4.out).mono ?_); (case side1 => exact GOK.below hG.out bel); rintro e w86 ⟨rfl, hb⟩; refine ⟨_, rfl, ?_⟩; have n0_ := Aside0.mk (below_step bel hb); clear HB; have HB := n0_; clear n0_; (try clear hb); (try clear hb2); (try clear hk); (try clear hi)))
  go_ret
  exact ⟨by first | rfl | (simp [errW_none, errW_some] <;> rfl) | (simp [*, errW_none, errW_some] <;> rfl), bel⟩

end Go.Proofs.YtdnjlmoggnbknaaDoor.PInt