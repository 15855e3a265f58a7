-- Written by a program of this session's (xprint.py) over the kit's print.
import Derived.Test.YtdnjlmoggnbknaaDoorPIntx19
import Derived.Test.YtdnjlmoggnbknaaDoorPIntx0
import Derived.Test.YtdnjlmoggnbknaaDoorPIntx1
import Derived.Test.YtdnjlmoggnbknaaDoorPIntx7
import Derived.Test.YtdnjlmoggnbknaaDoorPIntx8
import Derived.Test.YtdnjlmoggnbknaaDoorPIntx13
import Derived.Test.YtdnjlmoggnbknaaDoorPIntx17
import Derived.Test.YtdnjlmoggnbknaaDoorPIntD
import Derived.Test.YtdnjlmoggnbknaaDoorAuto
namespace Go.Proofs.YtdnjlmoggnbknaaDoor.PInt
open Go.RowKit Go.Proofs.YtdnjlmoggnbknaaDoor.Ext Go.Proofs.YtdnjlmoggnbknaaDoorW.PrintWords Go.Proofs.YtdnjlmoggnbknaaDoorW.PrintLast Go.Proofs.YtdnjlmoggnbknaaDoorW.PrintMore
attribute [local go_sem high] gtr_print leq_print
attribute [local go_sem] max2_int min2_int max_two min_two max_three min_three max_four min_four   -- for this text's walks alone
set_option linter.unusedVariables false
set_option linter.unusedSimpArgs false

/-! ### cellarerlaw02_IntegerDivisors: function 8 -/
set_option maxHeartbeats 8000000 in
set_option maxRecDepth 100000 in
theorem cellarerlaw02_IntegerDivisors.calls (k : Nat) (a0 : ByteArray) (a1 : ByteArray) (a2 : ByteArray) (r : Bool) (w : World) (hG : GOK w) (h : cellarerlaw02_IntegerDivisors.f k a0 a1 a2 = some r) :
  Calls Tryd.prog 8 #[.string a0, .string a1, .string a2] w fun e w' => e = .returned (.bool r) ∧ Below w.heap.size w w' := by
 replace hG := Aside0.mk hG
 have HB := Aside0.mk (Below.refl w.heap.size w)
 have H : ((cellarerlaw02_awake.f k).bind fun t770 => (if t770 = true then (if (a0.size : Int) > 60 then (cellarerlaw02_IntegerDivisors.j0 k a0 a1 a2 true) else (if (a1.size : Int) > 60 then (cellarerlaw02_IntegerDivisors.j0 k a0 a1 a2 true) else (if (a2.size : Int) > 60 then (cellarerlaw02_IntegerDivisors.j0 k a0 a1 a2 true) else ((integer_Valid.f k a0).bind fun t771 => (if t771 = true then ((integer_Valid.f k a1).bind fun t772 => (if t772 = true then ((integer_Valid.f k a2).bind fun t773 => (cellarerlaw02_IntegerDivisors.j0 k a0 a1 a2 (!t773))) else (cellarerlaw02_IntegerDivisors.j0 k a0 a1 a2 true))) else (cellarerlaw02_IntegerDivisors.j0 k a0 a1 a2 true)))))) else (some false))) = some r := h
 clear h
 replace H := Option.bind_eq_some_iff.mp H
 obtain ⟨t770, A40, H⟩ := H
 replace H : (if t770 = true then (if (a0.size : Int) > 60 then (cellarerlaw02_IntegerDivisors.j0 k a0 a1 a2 true) else (if (a1.size : Int) > 60 then (cellarerlaw02_IntegerDivisors.j0 k a0 a1 a2 true) else (if (a2.size : Int) > 60 then (cellarerlaw02_IntegerDivisors.j0 k a0 a1 a2 true) else ((integer_Valid.f k a0).bind fun t771 => (if t771 = true then ((integer_Valid.f k a1).bind fun t772 => (if t772 = true then ((integer_Valid.f k a2).bind fun t773 => (cellarerlaw02_IntegerDivisors.j0 k a0 a1 a2 (!t773))) else (cellarerlaw02_IntegerDivisors.j0 k a0 a1 a2 true))) else (cellarerlaw02_IntegerDivisors.j0 k a0 a1 a2 true)))))) else (some false)) = some r := H
 have A4 := Aside0.mk A40
 clear A40
 by_cases c5 : t770 = true
 ·subst c5
  have H1 : (if (a0.size : Int) > 60 then (cellarerlaw02_IntegerDivisors.j0 k a0 a1 a2 true) else (if (a1.size : Int) > 60 then (cellarerlaw02_IntegerDivisors.j0 k a0 a1 a2 true) else (if (a2.size : Int) > 60 then (cellarerlaw02_IntegerDivisors.j0 k a0 a1 a2 true) else ((integer_Valid.f k a0).bind fun t771 => (if t771 = true then ((integer_Valid.f k a1).bind fun t772 => (if t772 = true then ((integer_Valid.f k a2).bind fun t773 => (cellarerlaw02_IntegerDivisors.j0 k a0 a1 a2 (!t773))) else (cellarerlaw02_IntegerDivisors.j0 k a0 a1 a2 true))) else (cellarerlaw02_IntegerDivisors.j0 k a0 a1 a2 true)))))) = some r := by rw [if_pos rfl] at H; exact H
  clear H
  have H := H1
  clear H1
  have HC6 := Aside0.mk H
  clear H
  go_enter Tryd.func8, Tryd.ntmps8
  go_upto_region 3 with (first | ((with_reducible refine gate_callee (f := 11) rfl ?_); refine goesL_ (some 22) rfl rfl Tryd.func11 (by kernel_rfl) rfl #[] rfl ag ?_; (with_reducible refine (cellarerlaw02_awake.calls k  true _ ?side1 A4.out).mono ?_); (case side1 => exact GOK.below hG.out bel); rintro e w7 ⟨rfl, hb⟩; refine ⟨_, rfl, ?_⟩; have n0_ := Aside0.mk (below_step bel hb); clear HB; have HB := n0_; clear n0_; (try clear hb); (try clear hb2); (try clear hk); (try clear hi)))
  (try simp only [Act.put, List.setIfInBounds_toArray, List.set_cons_zero, List.set_cons_succ])
  go_cut [51] (fun v51 wc => ∃ (kq : Nat) (x51_5 : Bool), v51 = .bool x51_5 ∧ Aside0 (cellarerlaw02_IntegerDivisors.j0 kq a0 a1 a2 x51_5 = some r) ∧ Aside0 (kq ≤ k) ∧ Aside0 (Below w.heap.size w wc))
  case first =>
   have H := HC6.out
   clear HC6
   by_cases c8 : (a0.size : Int) > 60
   ·rw [if_pos c8] at H
    have c8b0 : decide (60 < (a0.size : Int)) = true := decide_eq_true c8
    have c8b1 : decide (60 < a0.size) = true := decide_eq_true (by omega)
    clear c8
    (first | rw [c8b0] | rw [c8b1] | (simp only [i64_w, i32_w]; rw [c8b0]) | skip)
    have H' := Aside0.mk H
    clear H
    go_wp2
    go_meet
    case rel => exact ⟨_, (true), (by first | rfl | (simp; done) | (simp [*]; done)), H', ⟨by first | omega | exact Nat.le_refl _⟩, ⟨bel⟩⟩
   ·rw [if_neg c8] at H
    have c8b0 : decide (60 < (a0.size : Int)) = false := decide_eq_false c8
    have c8b1 : decide (60 < a0.size) = false := decide_eq_false (by omega)
    clear c8
    (first | rw [c8b0] | rw [c8b1] | (simp only [i64_w, i32_w]; rw [c8b0]) | skip)
    by_cases c9 : (a1.size : Int) > 60
    ·rw [if_pos c9] at H
     have c9b0 : decide (60 < (a1.size : Int)) = true := decide_eq_true c9
     have c9b1 : decide (60 < a1.size) = true := decide_eq_true (by omega)
     clear c9
     have H' := Aside0.mk H
     clear H
     go_wp2
     go_meet
     case rel => exact ⟨_, (true), (by first | rfl | (simp; done) | (simp [*]; done)), H', ⟨by first | omega | exact Nat.le_refl _⟩, ⟨bel⟩⟩
    ·rw [if_neg c9] at H
     have c9b0 : decide (60 < (a1.size : Int)) = false := decide_eq_false c9
     have c9b1 : decide (60 < a1.size) = false := decide_eq_false (by omega)
     clear c9
     by_cases c10 : (a2.size : Int) > 60
     ·rw [if_pos c10] at H
      have c10b0 : decide (60 < (a2.size : Int)) = true := decide_eq_true c10
      have c10b1 : decide (60 < a2.size) = true := decide_eq_true (by omega)
      clear c10
      have H' := Aside0.mk H
      clear H
      go_wp2
      go_meet
      case rel => exact ⟨_, (true), (by first | rfl | (simp; done) | (simp [*]; done)), H', ⟨by first | omega | exact Nat.le_refl _⟩, ⟨bel⟩⟩
     ·rw [if_neg c10] at H
      have c10b0 : decide (60 < (a2.size : Int)) = false := decide_eq_false c10
      have c10b1 : decide (60 < a2.size) = false := decide_eq_false (by omega)
      clear c10
      replace H := Option.bind_eq_some_iff.mp H
      obtain ⟨t771, A110, H⟩ := H
      replace H : (if t771 = true then ((integer_Valid.f k a1).bind fun t772 => (if t772 = true then ((integer_Valid.f k a2).bind fun t773 => (cellarerlaw02_IntegerDivisors.j0 k a0 a1 a2 (!t773))) else (cellarerlaw02_IntegerDivisors.j0 k a0 a1 a2 true))) else (cellarerlaw02_IntegerDivisors.j0 k a0 a1 a2 true)) = some r := H
      have A11 := Aside0.mk A110
      clear A110
      by_cases c12 : t771 = true
      ·subst c12
       have H1 : ((integer_Valid.f k a1).bind fun t772 => (if t772 = true then ((integer_Valid.f k a2).bind fun t773 => (cellarerlaw02_IntegerDivisors.j0 k a0 a1 a2 (!t773))) else (cellarerlaw02_IntegerDivisors.j0 k a0 a1 a2 true))) = some r := by rw [if_pos rfl] at H; exact H
       clear H
       have H := H1
       clear H1
       replace H := Option.bind_eq_some_iff.mp H
       obtain ⟨t772, A130, H⟩ := H
       replace H : (if t772 = true then ((integer_Valid.f k a2).bind fun t773 => (cellarerlaw02_IntegerDivisors.j0 k a0 a1 a2 (!t773))) else (cellarerlaw02_IntegerDivisors.j0 k a0 a1 a2 true)) = some r := H
       have A13 := Aside0.mk A130
       clear A130
       by_cases c14 : t772 = true
       ·subst c14
        have H1 : ((integer_Valid.f k a2).bind fun t773 => (cellarerlaw02_IntegerDivisors.j0 k a0 a1 a2 (!t773))) = some r := by rw [if_pos rfl] at H; exact H
        clear H
        have H := H1
        clear H1
        replace H := Option.bind_eq_some_iff.mp H
        obtain ⟨t773, A150, H⟩ := H
        replace H : (cellarerlaw02_IntegerDivisors.j0 k a0 a1 a2 (!t773)) = some r := H
        have A15 := Aside0.mk A150
        clear A150
        have H' := Aside0.mk H
        clear H
        go_wp2_with (first | (go_at_call 23; (with_reducible refine (integer_Valid.calls k a0 true _ ?side1 A11.out).mono ?_); (case side1 => exact GOK.below hG.out bel); rintro e w' ⟨rfl, ⟨nd, rfl⟩⟩) | (go_at_call 23; (with_reducible refine (integer_Valid.calls k a1 true _ ?side1 A13.out).mono ?_); (case side1 => exact GOK.below hG.out bel); rintro e w' ⟨rfl, ⟨nd, rfl⟩⟩) | (go_at_call 23; (with_reducible refine (integer_Valid.calls k a2 t773 _ ?side1 A15.out).mono ?_); (case side1 => exact GOK.below hG.out bel); rintro e w' ⟨rfl, ⟨nd, rfl⟩⟩))
        go_meet
        case rel => exact ⟨_, (!t773), (by first | rfl | (simp; done) | (simp [*]; done)), H', ⟨by first | omega | exact Nat.le_refl _⟩, ⟨bel⟩⟩
       ·replace c14 := Bool.eq_false_iff.mpr c14
        subst c14
        have H1 : (cellarerlaw02_IntegerDivisors.j0 k a0 a1 a2 true) = some r := by rw [if_neg (show ¬ (false = true) by decide)] at H; exact H
        clear H
        have H := H1
        clear H1
        have H' := Aside0.mk H
        clear H
        go_wp2_with (first | (go_at_call 23; (with_reducible refine (integer_Valid.calls k a0 true _ ?side1 A11.out).mono ?_); (case side1 => exact GOK.below hG.out bel); rintro e w' ⟨rfl, ⟨nd, rfl⟩⟩) | (go_at_call 23; (with_reducible refine (integer_Valid.calls k a1 false _ ?side1 A13.out).mono ?_); (case side1 => exact GOK.below hG.out bel); rintro e w' ⟨rfl, ⟨nd, rfl⟩⟩))
        go_meet
        case rel => exact ⟨_, (true), (by first | rfl | (simp; done) | (simp [*]; done)), H', ⟨by first | omega | exact Nat.le_refl _⟩, ⟨bel⟩⟩
      ·replace c12 := Bool.eq_false_iff.mpr c12
       subst c12
       have H1 : (cellarerlaw02_IntegerDivisors.j0 k a0 a1 a2 true) = some r := by rw [if_neg (show ¬ (false = true) by decide)] at H; exact H
       clear H
       have H := H1
       clear H1
       have H' := Aside0.mk H
       clear H
       go_wp2_with (first | (go_at_call 23; (with_reducible refine (integer_Valid.calls k a0 false _ ?side1 A11.out).mono ?_); (case side1 => exact GOK.below hG.out bel); rintro e w' ⟨rfl, ⟨nd, rfl⟩⟩))
       go_meet
       case rel => exact ⟨_, (true), (by first | rfl | (simp; done) | (simp [*]; done)), H', ⟨by first | omega | exact Nat.le_refl _⟩, ⟨bel⟩⟩
  case rest =>
   clear HC6
   (try clear c1); (try clear p2); (try clear c5); (try clear c8); (try clear c8b0); (try clear c8b1); (try clear c9); (try clear c9b0); (try clear c9b1); (try clear c10); (try clear c10b0); (try clear c10b1); (try clear c11); (try clear c12); (try clear c14)
   obtain ⟨kq, x51_5, rfl, HA, HJ5, HB⟩ := hcut
   cases kq with
   | zero => exact absurd HA.out (by simp [cellarerlaw02_IntegerDivisors.j0])
   | succ kj5 =>
    have H := HA.out
    clear HA
    simp only [cellarerlaw02_IntegerDivisors.j0] at H
    by_cases c16 : x51_5 = true
    ·subst c16
     have H1 : (some true) = some r := by rw [if_pos rfl] at H; exact H
     clear H
     have H := H1
     clear H1
     obtain rfl := Option.some.inj H
     go_wp2
     go_ret
     exact ⟨by first | rfl | (simp [errW_none, errW_some] <;> rfl) | (simp [*, errW_none, errW_some] <;> rfl), bel⟩
    ·replace c16 := Bool.eq_false_iff.mpr c16
     subst c16
     have H1 : ((integer_Mul.f kj5 a0 a2).bind fun bt774 => ((integer_Mul.f kj5 a1 a2).bind fun bt776 => ((integer_Gcd.f kj5 bt774.1 bt776.1).bind fun bt778 => (if bt774.2 = 0 then (if bt776.2 = 0 then (if bt778.2 = 0 then ((integer_Cmp.f kj5 bt778.1 (⟨#[48]⟩ : ByteArray)).bind fun t780 => (cellarerlaw02_IntegerDivisors.j1 kj5 a2 bt774.1 bt776.1 bt778.1 (decide (t780 < 0)))) else (cellarerlaw02_IntegerDivisors.j1 kj5 a2 bt774.1 bt776.1 bt778.1 true)) else (cellarerlaw02_IntegerDivisors.j1 kj5 a2 bt774.1 bt776.1 bt778.1 true)) else (cellarerlaw02_IntegerDivisors.j1 kj5 a2 bt774.1 bt776.1 bt778.1 true))))) = some r := by rw [if_neg (show ¬ (false = true) by decide)] at H; exact H
     clear H
     have H := H1
     clear H1
     replace H := Option.bind_eq_some_iff.mp H
     obtain ⟨⟨t774, t775⟩, A170, H⟩ := H
     replace H : ((integer_Mul.f kj5 a1 a2).bind fun bt776 => ((integer_Gcd.f kj5 t774 bt776.1).bind fun bt778 => (if t775 = 0 then (if bt776.2 = 0 then (if bt778.2 = 0 then ((integer_Cmp.f kj5 bt778.1 (⟨#[48]⟩ : ByteArray)).bind fun t780 => (cellarerlaw02_IntegerDivisors.j1 kj5 a2 t774 bt776.1 bt778.1 (decide (t780 < 0)))) else (cellarerlaw02_IntegerDivisors.j1 kj5 a2 t774 bt776.1 bt778.1 true)) else (cellarerlaw02_IntegerDivisors.j1 kj5 a2 t774 bt776.1 bt778.1 true)) else (cellarerlaw02_IntegerDivisors.j1 kj5 a2 t774 bt776.1 bt778.1 true)))) = some r := H
     have A17 := Aside0.mk A170
     clear A170
     replace H := Option.bind_eq_some_iff.mp H
     obtain ⟨⟨t776, t777⟩, A180, H⟩ := H
     replace H : ((integer_Gcd.f kj5 t774 t776).bind fun bt778 => (if t775 = 0 then (if t777 = 0 then (if bt778.2 = 0 then ((integer_Cmp.f kj5 bt778.1 (⟨#[48]⟩ : ByteArray)).bind fun t780 => (cellarerlaw02_IntegerDivisors.j1 kj5 a2 t774 t776 bt778.1 (decide (t780 < 0)))) else (cellarerlaw02_IntegerDivisors.j1 kj5 a2 t774 t776 bt778.1 true)) else (cellarerlaw02_IntegerDivisors.j1 kj5 a2 t774 t776 bt778.1 true)) else (cellarerlaw02_IntegerDivisors.j1 kj5 a2 t774 t776 bt778.1 true))) = some r := H
     have A18 := Aside0.mk A180
     clear A180
     replace H := Option.bind_eq_some_iff.mp H
     obtain ⟨⟨t778, t779⟩, A190, H⟩ := H
     replace H : (if t775 = 0 then (if t777 = 0 then (if t779 = 0 then ((integer_Cmp.f kj5 t778 (⟨#[48]⟩ : ByteArray)).bind fun t780 => (cellarerlaw02_IntegerDivisors.j1 kj5 a2 t774 t776 t778 (decide (t780 < 0)))) else (cellarerlaw02_IntegerDivisors.j1 kj5 a2 t774 t776 t778 true)) else (cellarerlaw02_IntegerDivisors.j1 kj5 a2 t774 t776 t778 true)) else (cellarerlaw02_IntegerDivisors.j1 kj5 a2 t774 t776 t778 true)) = some r := H
     have A19 := Aside0.mk A190
     clear A190
     have HC20 := Aside0.mk H
     clear H
     go_upto_region 8 with (first | ((with_reducible refine gate_callee (f := 26) rfl ?_); refine goesL_ (some 55) rfl rfl Tryd.func26 (by kernel_rfl) rfl #[.string a0, .string a2] rfl ag ?_; (with_reducible refine (integer_Mul.calls kj5 a0 a2 t774 t775 _ ?side1 A17.out).mono ?_); (case side1 => exact GOK.below hG.out bel); rintro e w21 ⟨rfl, hb⟩; refine ⟨_, rfl, ?_⟩; have n0_ := Aside0.mk (below_step bel hb); clear HB; have HB := n0_; clear n0_; (try clear hb); (try clear hb2); (try clear hk); (try clear hi)) | ((with_reducible refine gate_callee (f := 26) rfl ?_); refine goesL_ (some 61) rfl rfl Tryd.func26 (by kernel_rfl) rfl #[.string a1, .string a2] rfl ag ?_; (with_reducible refine (integer_Mul.calls kj5 a1 a2 t776 t777 _ ?side1 A18.out).mono ?_); (case side1 => exact GOK.below hG.out bel); rintro e w22 ⟨rfl, hb⟩; refine ⟨_, rfl, ?_⟩; have n0_ := Aside0.mk (below_step bel hb); clear HB; have HB := n0_; clear n0_; (try clear hb); (try clear hb2); (try clear hk); (try clear hi)) | ((with_reducible refine gate_callee (f := 14) rfl ?_); refine goesL_ (some 67) rfl rfl Tryd.func14 (by kernel_rfl) rfl #[.string t774, .string t776] rfl ag ?_; (with_reducible refine (integer_Gcd.calls kj5 t774 t776 t778 t779 _ ?side1 A19.out).mono ?_); (case side1 => exact GOK.below hG.out bel); rintro e w23 ⟨rfl, hb⟩; refine ⟨_, rfl, ?_⟩; have n0_ := Aside0.mk (below_step bel hb); clear HB; have HB := n0_; clear n0_; (try clear hb); (try clear hb2); (try clear hk); (try clear hi)))
     (try simp only [Act.put, List.setIfInBounds_toArray, List.set_cons_zero, List.set_cons_succ])
     go_cut [84] (fun v84 wc => ∃ (kq : Nat) (x84_19 : Bool), v84 = .bool x84_19 ∧ Aside0 (cellarerlaw02_IntegerDivisors.j1 kq a2 t774 t776 t778 x84_19 = some r) ∧ Aside0 (kq ≤ kj5) ∧ Aside0 (Below w.heap.size w wc))
     case first =>
      have H := HC20.out
      clear HC20
      by_cases c24 : t775 = 0
      ·rw [if_pos c24] at H
       have c24b0 : (t775 == 0) = true := beq_iff_eq.mpr c24
       have c24b1 : (t775 != 0) = false := bne_eq_false_iff_eq.mpr c24
       clear c24
       (first | rw [c24b0] | rw [c24b1] | (simp only [i64_w, i32_w]; rw [c24b0]) | skip)
       by_cases c25 : t777 = 0
       ·rw [if_pos c25] at H
        have c25b0 : (t777 == 0) = true := beq_iff_eq.mpr c25
        have c25b1 : (t777 != 0) = false := bne_eq_false_iff_eq.mpr c25
        clear c25
        by_cases c26 : t779 = 0
        ·rw [if_pos c26] at H
         have c26b0 : (t779 == 0) = true := beq_iff_eq.mpr c26
         have c26b1 : (t779 != 0) = false := bne_eq_false_iff_eq.mpr c26
         clear c26
         replace H := Option.bind_eq_some_iff.mp H
         obtain ⟨t780, A270, H⟩ := H
         replace H : (cellarerlaw02_IntegerDivisors.j1 kj5 a2 t774 t776 t778 (decide (t780 < 0))) = some r := H
         have A27 := Aside0.mk A270
         clear A270
         have H' := Aside0.mk H
         clear H
         go_wp2_with (first | (go_at_call 28; (with_reducible refine (integer_Cmp.calls kj5 t778 (⟨#[48]⟩ : ByteArray) t780 _ ?side1 A27.out).mono ?_); (case side1 => exact GOK.below hG.out bel); rintro e w28 ⟨rfl, hb⟩; have n0_ := Aside0.mk (below_step bel hb); clear HB; have HB := n0_; clear n0_; (try clear hb); (try clear hb2); (try clear hk); (try clear hi)))
         go_meet
         case rel => exact ⟨_, (decide (t780 < 0)), (by first | rfl | (simp; done) | (simp [*]; done)), H', ⟨by have := HJ5.out; first | omega | exact Nat.le_refl _⟩, ⟨bel⟩⟩
        ·rw [if_neg c26] at H
         have c26b0 : (t779 == 0) = false := beq_eq_false_iff_ne.mpr c26
         have c26b1 : (t779 != 0) = true := bne_iff_ne.mpr c26
         have H' := Aside0.mk H
         clear H
         go_wp2
         go_meet
         case rel => exact ⟨_, (true), (by first | rfl | (simp; done) | (simp [*]; done)), H', ⟨by have := HJ5.out; first | omega | exact Nat.le_refl _⟩, ⟨bel⟩⟩
       ·rw [if_neg c25] at H
        have c25b0 : (t777 == 0) = false := beq_eq_false_iff_ne.mpr c25
        have c25b1 : (t777 != 0) = true := bne_iff_ne.mpr c25
        have H' := Aside0.mk H
        clear H
        go_wp2
        go_meet
        case rel => exact ⟨_, (true), (by first | rfl | (simp; done) | (simp [*]; done)), H', ⟨by have := HJ5.out; first | omega | exact Nat.le_refl _⟩, ⟨bel⟩⟩
      ·rw [if_neg c24] at H
       have c24b0 : (t775 == 0) = false := beq_eq_false_iff_ne.mpr c24
       have c24b1 : (t775 != 0) = true := bne_iff_ne.mpr c24
       (first | rw [c24b0] | rw [c24b1] | (simp only [i64_w, i32_w]; rw [c24b0]) | skip)
       have H' := Aside0.mk H
       clear H
       go_wp2
       go_meet
       case rel => exact ⟨_, (true), (by first | rfl | (simp; done) | (simp [*]; done)), H', ⟨by have := HJ5.out; first | omega | exact Nat.le_refl _⟩, ⟨bel⟩⟩
     case rest =>
      clear HC20
      (try clear c1); (try clear c2); (try clear p2); (try clear c5); (try clear c8); (try clear c8b0); (try clear c8b1); (try clear c9); (try clear c9b0); (try clear c9b1); (try clear c10); (try clear c10b0); (try clear c10b1); (try clear c11); (try clear c12); (try clear c14); (try clear c16); (try clear c24); (try clear c24b0); (try clear c24b1); (try clear c25); (try clear c25b0); (try clear c25b1); (try clear c26); (try clear c26b0); (try clear c26b1); (try clear p2)
      obtain ⟨kq, x84_19, rfl, HA, HJ19, HB⟩ := hcut
      cases kq with
      | zero => exact absurd HA.out (by simp [cellarerlaw02_IntegerDivisors.j1])
      | succ kj19 =>
       have H := HA.out
       clear HA
       simp only [cellarerlaw02_IntegerDivisors.j1] at H
       by_cases c29 : x84_19 = true
       ·subst c29
        have H1 : (some false) = some r := by rw [if_pos rfl] at H; exact H
        clear H
        have H := H1
        clear H1
        obtain rfl := Option.some.inj H
        go_wp2
        go_ret
        exact ⟨by first | rfl | (simp [errW_none, errW_some] <;> rfl) | (simp [*, errW_none, errW_some] <;> rfl), bel⟩
       ·replace c29 := Bool.eq_false_iff.mpr c29
        subst c29
        have H1 : (if t778.toList = ([48] : List UInt8) then (if t774.toList = ([48] : List UInt8) then (some (t776.toList == ([48] : List UInt8))) else (some false)) else ((integer_DivMod.f kj19 t774 t778).bind fun bt781 => ((integer_DivMod.f kj19 t776 t778).bind fun bt784 => ((integer_DivMod.f kj19 t778 a2).bind fun bt787 => (if bt781.2.2 = 0 then (if bt784.2.2 = 0 then (if bt787.2.2 = 0 then (if bt781.2.1.toList = ([48] : List UInt8) then (if bt784.2.1.toList = ([48] : List UInt8) then (some (bt787.2.1.toList == ([48] : List UInt8))) else (some false)) else (some false)) else (some false)) else (some false)) else (some false)))))) = some r := by rw [if_neg (show ¬ (false = true) by decide)] at H; exact H
        clear H
        have H := H1
        clear H1
        by_cases c30 : t778.toList = ([48] : List UInt8)
        ·rw [if_pos c30] at H
         have c30b0 : (t778.toList == ([48] : List UInt8)) = true := beq_iff_eq.mpr c30
         have c30b1 : (t778.toList != ([48] : List UInt8)) = false := bne_eq_false_iff_eq.mpr c30
         clear c30
         by_cases c31 : t774.toList = ([48] : List UInt8)
         ·rw [if_pos c31] at H
          have c31b0 : (t774.toList == ([48] : List UInt8)) = true := beq_iff_eq.mpr c31
          have c31b1 : (t774.toList != ([48] : List UInt8)) = false := bne_eq_false_iff_eq.mpr c31
          clear c31
          obtain rfl := Option.some.inj H
          go_wp2
          go_ret
          exact ⟨by first | rfl | (simp [errW_none, errW_some] <;> rfl) | (simp [*, errW_none, errW_some] <;> rfl), bel⟩
         ·rw [if_neg c31] at H
          have c31b0 : (t774.toList == ([48] : List UInt8)) = false := beq_eq_false_iff_ne.mpr c31
          have c31b1 : (t774.toList != ([48] : List UInt8)) = true := bne_iff_ne.mpr c31
          obtain rfl := Option.some.inj H
          go_wp2
          go_ret
          exact ⟨by first | rfl | (simp [errW_none, errW_some] <;> rfl) | (simp [*, errW_none, errW_some] <;> rfl), bel⟩
        ·rw [if_neg c30] at H
         have c30b0 : (t778.toList == ([48] : List UInt8)) = false := beq_eq_false_iff_ne.mpr c30
         have c30b1 : (t778.toList != ([48] : List UInt8)) = true := bne_iff_ne.mpr c30
         replace H := Option.bind_eq_some_iff.mp H
         obtain ⟨⟨t781, t782, t783⟩, A320, H⟩ := H
         replace H : ((integer_DivMod.f kj19 t776 t778).bind fun bt784 => ((integer_DivMod.f kj19 t778 a2).bind fun bt787 => (if t783 = 0 then (if bt784.2.2 = 0 then (if bt787.2.2 = 0 then (if t782.toList = ([48] : List UInt8) then (if bt784.2.1.toList = ([48] : List UInt8) then (some (bt787.2.1.toList == ([48] : List UInt8))) else (some false)) else (some false)) else (some false)) else (some false)) else (some false)))) = some r := H
         have A32 := Aside0.mk A320
         clear A320
         replace H := Option.bind_eq_some_iff.mp H
         obtain ⟨⟨t784, t785, t786⟩, A330, H⟩ := H
         replace H : ((integer_DivMod.f kj19 t778 a2).bind fun bt787 => (if t783 = 0 then (if t786 = 0 then (if bt787.2.2 = 0 then (if t782.toList = ([48] : List UInt8) then (if t785.toList = ([48] : List UInt8) then (some (bt787.2.1.toList == ([48] : List UInt8))) else (some false)) else (some false)) else (some false)) else (some false)) else (some false))) = some r := H
         have A33 := Aside0.mk A330
         clear A330
         replace H := Option.bind_eq_some_iff.mp H
         obtain ⟨⟨t787, t788, t789⟩, A340, H⟩ := H
         replace H : (if t783 = 0 then (if t786 = 0 then (if t789 = 0 then (if t782.toList = ([48] : List UInt8) then (if t785.toList = ([48] : List UInt8) then (some (t788.toList == ([48] : List UInt8))) else (some false)) else (some false)) else (some false)) else (some false)) else (some false)) = some r := H
         have A34 := Aside0.mk A340
         clear A340
         by_cases c35 : t783 = 0
         ·rw [if_pos c35] at H
          have c35b0 : (t783 == 0) = true := beq_iff_eq.mpr c35
          have c35b1 : (t783 != 0) = false := bne_eq_false_iff_eq.mpr c35
          clear c35
          by_cases c36 : t786 = 0
          ·rw [if_pos c36] at H
           have c36b0 : (t786 == 0) = true := beq_iff_eq.mpr c36
           have c36b1 : (t786 != 0) = false := bne_eq_false_iff_eq.mpr c36
           clear c36
           by_cases c37 : t789 = 0
           ·rw [if_pos c37] at H
            have c37b0 : (t789 == 0) = true := beq_iff_eq.mpr c37
            have c37b1 : (t789 != 0) = false := bne_eq_false_iff_eq.mpr c37
            clear c37
            by_cases c38 : t782.toList = ([48] : List UInt8)
            ·rw [if_pos c38] at H
             have c38b0 : (t782.toList == ([48] : List UInt8)) = true := beq_iff_eq.mpr c38
             have c38b1 : (t782.toList != ([48] : List UInt8)) = false := bne_eq_false_iff_eq.mpr c38
             clear c38
             by_cases c39 : t785.toList = ([48] : List UInt8)
             ·rw [if_pos c39] at H
              have c39b0 : (t785.toList == ([48] : List UInt8)) = true := beq_iff_eq.mpr c39
              have c39b1 : (t785.toList != ([48] : List UInt8)) = false := bne_eq_false_iff_eq.mpr c39
              clear c39
              obtain rfl := Option.some.inj H
              go_wp2_with (first | ((with_reducible refine gate_callee (f := 13) rfl ?_); refine goesL_ (some 96) rfl rfl Tryd.func13 (by kernel_rfl) rfl #[.string t774, .string t778] rfl ag ?_; (with_reducible refine (integer_DivMod.calls kj19 t774 t778 t781 t782 t783 _ ?side1 A32.out).mono ?_); (case side1 => exact GOK.below hG.out bel); rintro e w40 ⟨rfl, hb⟩; refine ⟨_, rfl, ?_⟩; have n0_ := Aside0.mk (below_step bel hb); clear HB; have HB := n0_; clear n0_; (try clear hb); (try clear hb2); (try clear hk); (try clear hi)) | ((with_reducible refine gate_callee (f := 13) rfl ?_); refine goesL_ (some 103) rfl rfl Tryd.func13 (by kernel_rfl) rfl #[.string t776, .string t778] rfl ag ?_; (with_reducible refine (integer_DivMod.calls kj19 t776 t778 t784 t785 t786 _ ?side1 A33.out).mono ?_); (case side1 => exact GOK.below hG.out bel); rintro e w41 ⟨rfl, hb⟩; refine ⟨_, rfl, ?_⟩; have n0_ := Aside0.mk (below_step bel hb); clear HB; have HB := n0_; clear n0_; (try clear hb); (try clear hb2); (try clear hk); (try clear hi)) | ((with_reducible refine gate_callee (f := 13) rfl ?_); refine goesL_ (some 110) rfl rfl Tryd.func13 (by kernel_rfl) rfl #[.string t778, .string a2] rfl ag ?_; (with_reducible refine (integer_DivMod.calls kj19 t778 a2 t787 t788 t789 _ ?side1 A34.out).mono ?_); (case side1 => exact GOK.below hG.out bel); rintro e w42 ⟨rfl, hb⟩; refine ⟨_, rfl, ?_⟩; have n0_ := Aside0.mk (below_step bel hb); clear HB; have HB := n0_; clear n0_; (try clear hb); (try clear hb2); (try clear hk); (try clear hi)))
              go_ret
              exact ⟨by first | rfl | (simp [errW_none, errW_some] <;> rfl) | (simp [*, errW_none, errW_some] <;> rfl), bel⟩
             ·rw [if_neg c39] at H
              have c39b0 : (t785.toList == ([48] : List UInt8)) = false := beq_eq_false_iff_ne.mpr c39
              have c39b1 : (t785.toList != ([48] : List UInt8)) = true := bne_iff_ne.mpr c39
              obtain rfl := Option.some.inj H
              go_wp2_with (first | ((with_reducible refine gate_callee (f := 13) rfl ?_); refine goesL_ (some 96) rfl rfl Tryd.func13 (by kernel_rfl) rfl #[.string t774, .string t778] rfl ag ?_; (with_reducible refine (integer_DivMod.calls kj19 t774 t778 t781 t782 t783 _ ?side1 A32.out).mono ?_); (case side1 => exact GOK.below hG.out bel); rintro e w43 ⟨rfl, hb⟩; refine ⟨_, rfl, ?_⟩; have n0_ := Aside0.mk (below_step bel hb); clear HB; have HB := n0_; clear n0_; (try clear hb); (try clear hb2); (try clear hk); (try clear hi)) | ((with_reducible refine gate_callee (f := 13) rfl ?_); refine goesL_ (some 103) rfl rfl Tryd.func13 (by kernel_rfl) rfl #[.string t776, .string t778] rfl ag ?_; (with_reducible refine (integer_DivMod.calls kj19 t776 t778 t784 t785 t786 _ ?side1 A33.out).mono ?_); (case side1 => exact GOK.below hG.out bel); rintro e w44 ⟨rfl, hb⟩; refine ⟨_, rfl, ?_⟩; have n0_ := Aside0.mk (below_step bel hb); clear HB; have HB := n0_; clear n0_; (try clear hb); (try clear hb2); (try clear hk); (try clear hi)) | ((with_reducible refine gate_callee (f := 13) rfl ?_); refine goesL_ (some 110) rfl rfl Tryd.func13 (by kernel_rfl) rfl #[.string t778, .string a2] rfl ag ?_; (with_reducible refine (integer_DivMod.calls kj19 t778 a2 t787 t788 t789 _ ?side1 A34.out).mono ?_); (case side1 => exact GOK.below hG.out bel); rintro e w45 ⟨rfl, hb⟩; refine ⟨_, rfl, ?_⟩; have n0_ := Aside0.mk (below_step bel hb); clear HB; have HB := n0_; clear n0_; (try clear hb); (try clear hb2); (try clear hk); (try clear hi)))
              go_ret
              exact ⟨by first | rfl | (simp [errW_none, errW_some] <;> rfl) | (simp [*, errW_none, errW_some] <;> rfl), bel⟩
            ·rw [if_neg c38] at H
             have c38b0 : (t782.toList == ([48] : List UInt8)) = false := beq_eq_false_iff_ne.mpr c38
             have c38b1 : (t782.toList != ([48] : List UInt8)) = true := bne_iff_ne.mpr c38
             obtain rfl := Option.some.inj H
             go_wp2_with (first | ((with_reducible refine gate_callee (f := 13) rfl ?_); refine goesL_ (some 96) rfl rfl Tryd.func13 (by kernel_rfl) rfl #[.string t774, .string t778] rfl ag ?_; (with_reducible refine (integer_DivMod.calls kj19 t774 t778 t781 t782 t783 _ ?side1 A32.out).mono ?_); (case side1 => exact GOK.below hG.out bel); rintro e w46 ⟨rfl, hb⟩; refine ⟨_, rfl, ?_⟩; have n0_ := Aside0.mk (below_step bel hb); clear HB; have HB := n0_; clear n0_; (try clear hb); (try clear hb2); (try clear hk); (try clear hi)) | ((with_reducible refine gate_callee (f := 13) rfl ?_); refine goesL_ (some 103) rfl rfl Tryd.func13 (by kernel_rfl) rfl #[.string t776, .string t778] rfl ag ?_; (with_reducible refine (integer_DivMod.calls kj19 t776 t778 t784 t785 t786 _ ?side1 A33.out).mono ?_); (case side1 => exact GOK.below hG.out bel); rintro e w47 ⟨rfl, hb⟩; refine ⟨_, rfl, ?_⟩; have n0_ := Aside0.mk (below_step bel hb); clear HB; have HB := n0_; clear n0_; (try clear hb); (try clear hb2); (try clear hk); (try clear hi)) | ((with_reducible refine gate_callee (f := 13) rfl ?_); refine goesL_ (some 110) rfl rfl Tryd.func13 (by kernel_rfl) rfl #[.string t778, .string a2] rfl ag ?_; (with_reducible refine (integer_DivMod.calls kj19 t778 a2 t787 t788 t789 _ ?side1 A34.out).mono ?_); (case side1 => exact GOK.below hG.out bel); rintro e w48 ⟨rfl, hb⟩; refine ⟨_, rfl, ?_⟩; have n0_ := Aside0.mk (below_step bel hb); clear HB; have HB := n0_; clear n0_; (try clear hb); (try clear hb2); (try clear hk); (try clear hi)))
             go_ret
             exact ⟨by first | rfl | (simp [errW_none, errW_some] <;> rfl) | (simp [*, errW_none, errW_some] <;> rfl), bel⟩
           ·rw [if_neg c37] at H
            have c37b0 : (t789 == 0) = false := beq_eq_false_iff_ne.mpr c37
            have c37b1 : (t789 != 0) = true := bne_iff_ne.mpr c37
            obtain rfl := Option.some.inj H
            go_wp2_with (first | ((with_reducible refine gate_callee (f := 13) rfl ?_); refine goesL_ (some 96) rfl rfl Tryd.func13 (by kernel_rfl) rfl #[.string t774, .string t778] rfl ag ?_; (with_reducible refine (integer_DivMod.calls kj19 t774 t778 t781 t782 t783 _ ?side1 A32.out).mono ?_); (case side1 => exact GOK.below hG.out bel); rintro e w49 ⟨rfl, hb⟩; refine ⟨_, rfl, ?_⟩; have n0_ := Aside0.mk (below_step bel hb); clear HB; have HB := n0_; clear n0_; (try clear hb); (try clear hb2); (try clear hk); (try clear hi)) | ((with_reducible refine gate_callee (f := 13) rfl ?_); refine goesL_ (some 103) rfl rfl Tryd.func13 (by kernel_rfl) rfl #[.string t776, .string t778] rfl ag ?_; (with_reducible refine (integer_DivMod.calls kj19 t776 t778 t784 t785 t786 _ ?side1 A33.out).mono ?_); (case side1 => exact GOK.below hG.out bel); rintro e w50 ⟨rfl, hb⟩; refine ⟨_, rfl, ?_⟩; have n0_ := Aside0.mk (below_step bel hb); clear HB; have HB := n0_; clear n0_; (try clear hb); (try clear hb2); (try clear hk); (try clear hi)) | ((with_reducible refine gate_callee (f := 13) rfl ?_); refine goesL_ (some 110) rfl rfl Tryd.func13 (by kernel_rfl) rfl #[.string t778, .string a2] rfl ag ?_; (with_reducible refine (integer_DivMod.calls kj19 t778 a2 t787 t788 t789 _ ?side1 A34.out).mono ?_); (case side1 => exact GOK.below hG.out bel); rintro e w51 ⟨rfl, hb⟩; refine ⟨_, rfl, ?_⟩; have n0_ := Aside0.mk (below_step bel hb); clear HB; have HB := n0_; clear n0_; (try clear hb); (try clear hb2); (try clear hk); (try clear hi)))
            go_ret
            exact ⟨by first | rfl | (simp [errW_none, errW_some] <;> rfl) | (simp [*, errW_none, errW_some] <;> rfl), bel⟩
          ·rw [if_neg c36] at H
           have c36b0 : (t786 == 0) = false := beq_eq_false_iff_ne.mpr c36
           have c36b1 : (t786 != 0) = true := bne_iff_ne.mpr c36
           obtain rfl := Option.some.inj H
           go_wp2_with (first | ((with_reducible refine gate_callee (f := 13) rfl ?_); refine goesL_ (some 96) rfl rfl Tryd.func13 (by kernel_rfl) rfl #[.string t774, .string t778] rfl ag ?_; (with_reducible refine (integer_DivMod.calls kj19 t774 t778 t781 t782 t783 _ ?side1 A32.out).mono ?_); (case side1 => exact GOK.below hG.out bel); rintro e w52 ⟨rfl, hb⟩; refine ⟨_, rfl, ?_⟩; have n0_ := Aside0.mk (below_step bel hb); clear HB; have HB := n0_; clear n0_; (try clear hb); (try clear hb2); (try clear hk); (try clear hi)) | ((with_reducible refine gate_callee (f := 13) rfl ?_); refine goesL_ (some 103) rfl rfl Tryd.func13 (by kernel_rfl) rfl #[.string t776, .string t778] rfl ag ?_; (with_reducible refine (integer_DivMod.calls kj19 t776 t778 t784 t785 t786 _ ?side1 A33.out).mono ?_); (case side1 => exact GOK.below hG.out bel); rintro e w53 ⟨rfl, hb⟩; refine ⟨_, rfl, ?_⟩; have n0_ := Aside0.mk (below_step bel hb); clear HB; have HB := n0_; clear n0_; (try clear hb); (try clear hb2); (try clear hk); (try clear hi)) | ((with_reducible refine gate_callee (f := 13) rfl ?_); refine goesL_ (some 110) rfl rfl Tryd.func13 (by kernel_rfl) rfl #[.string t778, .string a2] rfl ag ?_; (with_reducible refine (integer_DivMod.calls kj19 t778 a2 t787 t788 t789 _ ?side1 A34.out).mono ?_); (case side1 => exact GOK.below hG.out bel); rintro e w54 ⟨rfl, hb⟩; refine ⟨_, rfl, ?_⟩; have n0_ := Aside0.mk (below_step bel hb); clear HB; have HB := n0_; clear n0_; (try clear hb); (try clear hb2); (try clear hk); (try clear hi)))
           go_ret
           exact ⟨by first | rfl | (simp [errW_none, errW_some] <;> rfl) | (simp [*, errW_none, errW_some] <;> rfl), bel⟩
         ·rw [if_neg c35] at H
          have c35b0 : (t783 == 0) = false := beq_eq_false_iff_ne.mpr c35
          have c35b1 : (t783 != 0) = true := bne_iff_ne.mpr c35
          obtain rfl := Option.some.inj H
          go_wp2_with (first | ((with_reducible refine gate_callee (f := 13) rfl ?_); refine goesL_ (some 96) rfl rfl Tryd.func13 (by kernel_rfl) rfl #[.string t774, .string t778] rfl ag ?_; (with_reducible refine (integer_DivMod.calls kj19 t774 t778 t781 t782 t783 _ ?side1 A32.out).mono ?_); (case side1 => exact GOK.below hG.out bel); rintro e w55 ⟨rfl, hb⟩; refine ⟨_, rfl, ?_⟩; have n0_ := Aside0.mk (below_step bel hb); clear HB; have HB := n0_; clear n0_; (try clear hb); (try clear hb2); (try clear hk); (try clear hi)) | ((with_reducible refine gate_callee (f := 13) rfl ?_); refine goesL_ (some 103) rfl rfl Tryd.func13 (by kernel_rfl) rfl #[.string t776, .string t778] rfl ag ?_; (with_reducible refine (integer_DivMod.calls kj19 t776 t778 t784 t785 t786 _ ?side1 A33.out).mono ?_); (case side1 => exact GOK.below hG.out bel); rintro e w56 ⟨rfl, hb⟩; refine ⟨_, rfl, ?_⟩; have n0_ := Aside0.mk (below_step bel hb); clear HB; have HB := n0_; clear n0_; (try clear hb); (try clear hb2); (try clear hk); (try clear hi)) | ((with_reducible refine gate_callee (f := 13) rfl ?_); refine goesL_ (some 110) rfl rfl Tryd.func13 (by kernel_rfl) rfl #[.string t778, .string a2] rfl ag ?_; (with_reducible refine (integer_DivMod.calls kj19 t778 a2 t787 t788 t789 _ ?side1 A34.out).mono ?_); (case side1 => exact GOK.below hG.out bel); rintro e w57 ⟨rfl, hb⟩; refine ⟨_, rfl, ?_⟩; have n0_ := Aside0.mk (below_step bel hb); clear HB; have HB := n0_; clear n0_; (try clear hb); (try clear hb2); (try clear hk); (try clear hi)))
          go_ret
          exact ⟨by first | rfl | (simp [errW_none, errW_some] <;> rfl) | (simp [*, errW_none, errW_some] <;> rfl), bel⟩
 ·replace c5 := Bool.eq_false_iff.mpr c5
  subst c5
  have H1 : (some false) = some r := by rw [if_neg (show ¬ (false = true) by decide)] at H; exact H
  clear H
  have H := H1
  clear H1
  obtain rfl := Option.some.inj H
  go_enter Tryd.func8, Tryd.ntmps8
  go_wp2_with (first | ((with_reducible refine gate_callee (f := 11) rfl ?_); refine goesL_ (some 22) rfl rfl Tryd.func11 (by kernel_rfl) rfl #[] rfl ag ?_; (with_reducible refine (cellarerlaw02_awake.calls k  false _ ?side1 A4.out).mono ?_); (case side1 => exact GOK.below hG.out bel); rintro e w58 ⟨rfl, hb⟩; refine ⟨_, rfl, ?_⟩; have n0_ := Aside0.mk (below_step bel hb); clear HB; have HB := n0_; clear n0_; (try clear hb); (try clear hb2); (try clear hk); (try clear hi)))
  go_ret
  exact ⟨by first | rfl | (simp [errW_none, errW_some] <;> rfl) | (simp [*, errW_none, errW_some] <;> rfl), bel⟩

theorem cellarerlaw02_IntegerDivisors.walk (P : cellarerlaw02_IntegerDivisors.Pure) (a0 : ByteArray) (a1 : ByteArray) (a2 : ByteArray) (w : World) (hG : GOK w) (w0 : a0.size ≤ 140737488351232) (w1 : a1.size ≤ 140737488351232) (w2 : a2.size ≤ 140737488351232) :
  Calls Tryd.prog 8 #[.string a0, .string a1, .string a2] w fun e w' => e = .returned (.bool true) ∧ Below w.heap.size w w' := by
 obtain ⟨k, h⟩ := P a0 a1 a2 w0 w1 w2
 refine (cellarerlaw02_IntegerDivisors.calls k a0 a1 a2 true w hG h).mono ?_
 rintro e w' ⟨rfl, hd⟩
 exact ⟨rfl, hd⟩

end Go.Proofs.YtdnjlmoggnbknaaDoor.PInt
