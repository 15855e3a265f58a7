-- Written by a program of this session's (xprint.py) over the kit's print.
import Derived.Test.YtdnjlmoggnbknaaDoorPIntx0
import Derived.Test.YtdnjlmoggnbknaaDoorPIntx1
import Derived.Test.YtdnjlmoggnbknaaDoorPIntx7
import Derived.Test.YtdnjlmoggnbknaaDoorPIntx8
import Derived.Test.YtdnjlmoggnbknaaDoorPIntx13
import Derived.Test.YtdnjlmoggnbknaaDoorPIntx17
import Derived.Test.YtdnjlmoggnbknaaDoorPIntD
import Derived.Test.YtdnjlmoggnbknaaDoorAuto
namespace Go.Proofs.YtdnjlmoggnbknaaDoor.PInt
open Go.RowKit Go.Proofs.YtdnjlmoggnbknaaDoor.Ext Go.Proofs.YtdnjlmoggnbknaaDoorW.PrintWords Go.Proofs.YtdnjlmoggnbknaaDoorW.PrintLast Go.Proofs.YtdnjlmoggnbknaaDoorW.PrintMore
attribute [local go_sem high] gtr_print leq_print
attribute [local go_sem] max2_int min2_int max_two min_two max_three min_three max_four min_four   -- for this text's walks alone
set_option linter.unusedVariables false
set_option linter.unusedSimpArgs false

/-! ### cellarerlaw02_IntegerQuotients: function 7 -/
set_option maxHeartbeats 8000000 in
set_option maxRecDepth 100000 in
theorem cellarerlaw02_IntegerQuotients.calls (k : Nat) (a0 : ByteArray) (a1 : ByteArray) (r : Bool) (w : World) (hG : GOK w) (h : cellarerlaw02_IntegerQuotients.f k a0 a1 = some r) :
  Calls Tryd.prog 7 #[.string a0, .string a1] w fun e w' => e = .returned (.bool r) ∧ Below w.heap.size w w' := by
 replace hG := Aside0.mk hG
 have HB := Aside0.mk (Below.refl w.heap.size w)
 have H : ((cellarerlaw02_awake.f k).bind fun t757 => (if t757 = true then (if (a0.size : Int) > 150 then (cellarerlaw02_IntegerQuotients.j0 k a0 a1 true) else (if (a1.size : Int) > 150 then (cellarerlaw02_IntegerQuotients.j0 k a0 a1 true) else ((integer_Valid.f k a0).bind fun t758 => (if t758 = true then ((integer_Valid.f k a1).bind fun t759 => (if t759 = true then (cellarerlaw02_IntegerQuotients.j0 k a0 a1 (a1.toList == ([48] : List UInt8))) else (cellarerlaw02_IntegerQuotients.j0 k a0 a1 true))) else (cellarerlaw02_IntegerQuotients.j0 k a0 a1 true))))) else (some false))) = some r := h
 clear h
 replace H := Option.bind_eq_some_iff.mp H
 obtain ⟨t757, A30, H⟩ := H
 replace H : (if t757 = true then (if (a0.size : Int) > 150 then (cellarerlaw02_IntegerQuotients.j0 k a0 a1 true) else (if (a1.size : Int) > 150 then (cellarerlaw02_IntegerQuotients.j0 k a0 a1 true) else ((integer_Valid.f k a0).bind fun t758 => (if t758 = true then ((integer_Valid.f k a1).bind fun t759 => (if t759 = true then (cellarerlaw02_IntegerQuotients.j0 k a0 a1 (a1.toList == ([48] : List UInt8))) else (cellarerlaw02_IntegerQuotients.j0 k a0 a1 true))) else (cellarerlaw02_IntegerQuotients.j0 k a0 a1 true))))) else (some false)) = some r := H
 have A3 := Aside0.mk A30
 clear A30
 by_cases c4 : t757 = true
 ·subst c4
  have H1 : (if (a0.size : Int) > 150 then (cellarerlaw02_IntegerQuotients.j0 k a0 a1 true) else (if (a1.size : Int) > 150 then (cellarerlaw02_IntegerQuotients.j0 k a0 a1 true) else ((integer_Valid.f k a0).bind fun t758 => (if t758 = true then ((integer_Valid.f k a1).bind fun t759 => (if t759 = true then (cellarerlaw02_IntegerQuotients.j0 k a0 a1 (a1.toList == ([48] : List UInt8))) else (cellarerlaw02_IntegerQuotients.j0 k a0 a1 true))) else (cellarerlaw02_IntegerQuotients.j0 k a0 a1 true))))) = some r := by rw [if_pos rfl] at H; exact H
  clear H
  have H := H1
  clear H1
  have HC5 := Aside0.mk H
  clear H
  go_enter Tryd.func7, Tryd.ntmps7
  go_upto_region 3 with (first | ((with_reducible refine gate_callee (f := 11) rfl ?_); refine goesL_ (some 13) rfl rfl Tryd.func11 (by kernel_rfl) rfl #[] rfl ag ?_; (with_reducible refine (cellarerlaw02_awake.calls k  true _ ?side1 A3.out).mono ?_); (case side1 => exact GOK.below hG.out bel); rintro e w6 ⟨rfl, hb⟩; refine ⟨_, rfl, ?_⟩; have n0_ := Aside0.mk (below_step bel hb); clear HB; have HB := n0_; clear n0_; (try clear hb); (try clear hb2); (try clear hk); (try clear hi)))
  (try simp only [Act.put, List.setIfInBounds_toArray, List.set_cons_zero, List.set_cons_succ])
  go_cut [36] (fun v36 wc => ∃ (kq : Nat) (x36_4 : Bool), v36 = .bool x36_4 ∧ Aside0 (cellarerlaw02_IntegerQuotients.j0 kq a0 a1 x36_4 = some r) ∧ Aside0 (kq ≤ k) ∧ Aside0 (Below w.heap.size w wc))
  case first =>
   have H := HC5.out
   clear HC5
   by_cases c7 : (a0.size : Int) > 150
   ·rw [if_pos c7] at H
    have c7b0 : decide (150 < (a0.size : Int)) = true := decide_eq_true c7
    have c7b1 : decide (150 < a0.size) = true := decide_eq_true (by omega)
    clear c7
    (first | rw [c7b0] | rw [c7b1] | (simp only [i64_w, i32_w]; rw [c7b0]) | skip)
    have H' := Aside0.mk H
    clear H
    go_wp2
    go_meet
    case rel => exact ⟨_, (true), (by first | rfl | (simp; done) | (simp [*]; done)), H', ⟨by first | omega | exact Nat.le_refl _⟩, ⟨bel⟩⟩
   ·rw [if_neg c7] at H
    have c7b0 : decide (150 < (a0.size : Int)) = false := decide_eq_false c7
    have c7b1 : decide (150 < a0.size) = false := decide_eq_false (by omega)
    clear c7
    (first | rw [c7b0] | rw [c7b1] | (simp only [i64_w, i32_w]; rw [c7b0]) | skip)
    by_cases c8 : (a1.size : Int) > 150
    ·rw [if_pos c8] at H
     have c8b0 : decide (150 < (a1.size : Int)) = true := decide_eq_true c8
     have c8b1 : decide (150 < a1.size) = true := decide_eq_true (by omega)
     clear c8
     have H' := Aside0.mk H
     clear H
     go_wp2
     go_meet
     case rel => exact ⟨_, (true), (by first | rfl | (simp; done) | (simp [*]; done)), H', ⟨by first | omega | exact Nat.le_refl _⟩, ⟨bel⟩⟩
    ·rw [if_neg c8] at H
     have c8b0 : decide (150 < (a1.size : Int)) = false := decide_eq_false c8
     have c8b1 : decide (150 < a1.size) = false := decide_eq_false (by omega)
     clear c8
     replace H := Option.bind_eq_some_iff.mp H
     obtain ⟨t758, A90, H⟩ := H
     replace H : (if t758 = true then ((integer_Valid.f k a1).bind fun t759 => (if t759 = true then (cellarerlaw02_IntegerQuotients.j0 k a0 a1 (a1.toList == ([48] : List UInt8))) else (cellarerlaw02_IntegerQuotients.j0 k a0 a1 true))) else (cellarerlaw02_IntegerQuotients.j0 k a0 a1 true)) = some r := H
     have A9 := Aside0.mk A90
     clear A90
     by_cases c10 : t758 = true
     ·subst c10
      have H1 : ((integer_Valid.f k a1).bind fun t759 => (if t759 = true then (cellarerlaw02_IntegerQuotients.j0 k a0 a1 (a1.toList == ([48] : List UInt8))) else (cellarerlaw02_IntegerQuotients.j0 k a0 a1 true))) = some r := by rw [if_pos rfl] at H; exact H
      clear H
      have H := H1
      clear H1
      replace H := Option.bind_eq_some_iff.mp H
      obtain ⟨t759, A110, H⟩ := H
      replace H : (if t759 = true then (cellarerlaw02_IntegerQuotients.j0 k a0 a1 (a1.toList == ([48] : List UInt8))) else (cellarerlaw02_IntegerQuotients.j0 k a0 a1 true)) = some r := H
      have A11 := Aside0.mk A110
      clear A110
      by_cases c12 : t759 = true
      ·subst c12
       have H1 : (cellarerlaw02_IntegerQuotients.j0 k a0 a1 (a1.toList == ([48] : List UInt8))) = some r := by rw [if_pos rfl] at H; exact H
       clear H
       have H := H1
       clear H1
       have H' := Aside0.mk H
       clear H
       go_wp2_with (first | (go_at_call 23; (with_reducible refine (integer_Valid.calls k a0 true _ ?side1 A9.out).mono ?_); (case side1 => exact GOK.below hG.out bel); rintro e w' ⟨rfl, ⟨nd, rfl⟩⟩) | (go_at_call 23; (with_reducible refine (integer_Valid.calls k a1 true _ ?side1 A11.out).mono ?_); (case side1 => exact GOK.below hG.out bel); rintro e w' ⟨rfl, ⟨nd, rfl⟩⟩))
       go_meet
       case rel => exact ⟨_, ((a1.toList == ([48] : List UInt8))), (by first | rfl | (simp; done) | (simp [*]; done)), H', ⟨by first | omega | exact Nat.le_refl _⟩, ⟨bel⟩⟩
      ·replace c12 := Bool.eq_false_iff.mpr c12
       subst c12
       have H1 : (cellarerlaw02_IntegerQuotients.j0 k a0 a1 true) = some r := by rw [if_neg (show ¬ (false = true) by decide)] at H; exact H
       clear H
       have H := H1
       clear H1
       have H' := Aside0.mk H
       clear H
       go_wp2_with (first | (go_at_call 23; (with_reducible refine (integer_Valid.calls k a0 true _ ?side1 A9.out).mono ?_); (case side1 => exact GOK.below hG.out bel); rintro e w' ⟨rfl, ⟨nd, rfl⟩⟩) | (go_at_call 23; (with_reducible refine (integer_Valid.calls k a1 false _ ?side1 A11.out).mono ?_); (case side1 => exact GOK.below hG.out bel); rintro e w' ⟨rfl, ⟨nd, rfl⟩⟩))
       go_meet
       case rel => exact ⟨_, (true), (by first | rfl | (simp; done) | (simp [*]; done)), H', ⟨by first | omega | exact Nat.le_refl _⟩, ⟨bel⟩⟩
     ·replace c10 := Bool.eq_false_iff.mpr c10
      subst c10
      have H1 : (cellarerlaw02_IntegerQuotients.j0 k a0 a1 true) = some r := by rw [if_neg (show ¬ (false = true) by decide)] at H; exact H
      clear H
      have H := H1
      clear H1
      have H' := Aside0.mk H
      clear H
      go_wp2_with (first | (go_at_call 23; (with_reducible refine (integer_Valid.calls k a0 false _ ?side1 A9.out).mono ?_); (case side1 => exact GOK.below hG.out bel); rintro e w' ⟨rfl, ⟨nd, rfl⟩⟩))
      go_meet
      case rel => exact ⟨_, (true), (by first | rfl | (simp; done) | (simp [*]; done)), H', ⟨by first | omega | exact Nat.le_refl _⟩, ⟨bel⟩⟩
  case rest =>
   clear HC5
   (try clear c1); (try clear p2); (try clear c4); (try clear c7); (try clear c7b0); (try clear c7b1); (try clear c8); (try clear c8b0); (try clear c8b1); (try clear c10); (try clear c11); (try clear c12)
   obtain ⟨kq, x36_4, rfl, HA, HJ4, HB⟩ := hcut
   cases kq with
   | zero => exact absurd HA.out (by simp [cellarerlaw02_IntegerQuotients.j0])
   | succ kj4 =>
    have H := HA.out
    clear HA
    simp only [cellarerlaw02_IntegerQuotients.j0] at H
    by_cases c13 : x36_4 = true
    ·subst c13
     have H1 : (some true) = some r := by rw [if_pos rfl] at H; exact H
     clear H
     have H := H1
     clear H1
     obtain rfl := Option.some.inj H
     go_wp2
     go_ret
     exact ⟨by first | rfl | (simp [errW_none, errW_some] <;> rfl) | (simp [*, errW_none, errW_some] <;> rfl), bel⟩
    ·replace c13 := Bool.eq_false_iff.mpr c13
     subst c13
     have H1 : ((integer_DivMod.f kj4 a0 a1).bind fun bt760 => ((integer_Mul.f kj4 bt760.1 a1).bind fun bt763 => ((integer_Add.f kj4 bt763.1 bt760.2.1).bind fun bt765 => (if bt760.2.2 = 0 then (if bt763.2 = 0 then (if bt765.2 = 0 then (cellarerlaw02_IntegerQuotients.j1 kj4 a1 bt760.2.1 (bt765.1.toList != a0.toList)) else (cellarerlaw02_IntegerQuotients.j1 kj4 a1 bt760.2.1 true)) else (cellarerlaw02_IntegerQuotients.j1 kj4 a1 bt760.2.1 true)) else (cellarerlaw02_IntegerQuotients.j1 kj4 a1 bt760.2.1 true))))) = some r := by rw [if_neg (show ¬ (false = true) by decide)] at H; exact H
     clear H
     have H := H1
     clear H1
     replace H := Option.bind_eq_some_iff.mp H
     obtain ⟨⟨t760, t761, t762⟩, A140, H⟩ := H
     replace H : ((integer_Mul.f kj4 t760 a1).bind fun bt763 => ((integer_Add.f kj4 bt763.1 t761).bind fun bt765 => (if t762 = 0 then (if bt763.2 = 0 then (if bt765.2 = 0 then (cellarerlaw02_IntegerQuotients.j1 kj4 a1 t761 (bt765.1.toList != a0.toList)) else (cellarerlaw02_IntegerQuotients.j1 kj4 a1 t761 true)) else (cellarerlaw02_IntegerQuotients.j1 kj4 a1 t761 true)) else (cellarerlaw02_IntegerQuotients.j1 kj4 a1 t761 true)))) = some r := H
     have A14 := Aside0.mk A140
     clear A140
     replace H := Option.bind_eq_some_iff.mp H
     obtain ⟨⟨t763, t764⟩, A150, H⟩ := H
     replace H : ((integer_Add.f kj4 t763 t761).bind fun bt765 => (if t762 = 0 then (if t764 = 0 then (if bt765.2 = 0 then (cellarerlaw02_IntegerQuotients.j1 kj4 a1 t761 (bt765.1.toList != a0.toList)) else (cellarerlaw02_IntegerQuotients.j1 kj4 a1 t761 true)) else (cellarerlaw02_IntegerQuotients.j1 kj4 a1 t761 true)) else (cellarerlaw02_IntegerQuotients.j1 kj4 a1 t761 true))) = some r := H
     have A15 := Aside0.mk A150
     clear A150
     replace H := Option.bind_eq_some_iff.mp H
     obtain ⟨⟨t765, t766⟩, A160, H⟩ := H
     replace H : (if t762 = 0 then (if t764 = 0 then (if t766 = 0 then (cellarerlaw02_IntegerQuotients.j1 kj4 a1 t761 (t765.toList != a0.toList)) else (cellarerlaw02_IntegerQuotients.j1 kj4 a1 t761 true)) else (cellarerlaw02_IntegerQuotients.j1 kj4 a1 t761 true)) else (cellarerlaw02_IntegerQuotients.j1 kj4 a1 t761 true)) = some r := H
     have A16 := Aside0.mk A160
     clear A160
     have HC17 := Aside0.mk H
     clear H
     go_upto_region 8 with (first | ((with_reducible refine gate_callee (f := 13) rfl ?_); refine goesL_ (some 40) rfl rfl Tryd.func13 (by kernel_rfl) rfl #[.string a0, .string a1] rfl ag ?_; (with_reducible refine (integer_DivMod.calls kj4 a0 a1 t760 t761 t762 _ ?side1 A14.out).mono ?_); (case side1 => exact GOK.below hG.out bel); rintro e w18 ⟨rfl, hb⟩; refine ⟨_, rfl, ?_⟩; have n0_ := Aside0.mk (below_step bel hb); clear HB; have HB := n0_; clear n0_; (try clear hb); (try clear hb2); (try clear hk); (try clear hi)) | ((with_reducible refine gate_callee (f := 26) rfl ?_); refine goesL_ (some 47) rfl rfl Tryd.func26 (by kernel_rfl) rfl #[.string t760, .string a1] rfl ag ?_; (with_reducible refine (integer_Mul.calls kj4 t760 a1 t763 t764 _ ?side1 A15.out).mono ?_); (case side1 => exact GOK.below hG.out bel); rintro e w19 ⟨rfl, hb⟩; refine ⟨_, rfl, ?_⟩; have n0_ := Aside0.mk (below_step bel hb); clear HB; have HB := n0_; clear n0_; (try clear hb); (try clear hb2); (try clear hk); (try clear hi)) | ((with_reducible refine gate_callee (f := 21) rfl ?_); refine goesL_ (some 53) rfl rfl Tryd.func21 (by kernel_rfl) rfl #[.string t763, .string t761] rfl ag ?_; (with_reducible refine (integer_Add.calls kj4 t763 t761 t765 t766 _ ?side1 A16.out).mono ?_); (case side1 => exact GOK.below hG.out bel); rintro e w20 ⟨rfl, hb⟩; refine ⟨_, rfl, ?_⟩; have n0_ := Aside0.mk (below_step bel hb); clear HB; have HB := n0_; clear n0_; (try clear hb); (try clear hb2); (try clear hk); (try clear hi)))
     (try simp only [Act.put, List.setIfInBounds_toArray, List.set_cons_zero, List.set_cons_succ])
     go_cut [70] (fun v70 wc => ∃ (kq : Nat) (x70_16 : Bool), v70 = .bool x70_16 ∧ Aside0 (cellarerlaw02_IntegerQuotients.j1 kq a1 t761 x70_16 = some r) ∧ Aside0 (kq ≤ kj4) ∧ Aside0 (Below w.heap.size w wc))
     case first =>
      have H := HC17.out
      clear HC17
      by_cases c21 : t762 = 0
      ·rw [if_pos c21] at H
       have c21b0 : (t762 == 0) = true := beq_iff_eq.mpr c21
       have c21b1 : (t762 != 0) = false := bne_eq_false_iff_eq.mpr c21
       clear c21
       (first | rw [c21b0] | rw [c21b1] | (simp only [i64_w, i32_w]; rw [c21b0]) | skip)
       by_cases c22 : t764 = 0
       ·rw [if_pos c22] at H
        have c22b0 : (t764 == 0) = true := beq_iff_eq.mpr c22
        have c22b1 : (t764 != 0) = false := bne_eq_false_iff_eq.mpr c22
        clear c22
        by_cases c23 : t766 = 0
        ·rw [if_pos c23] at H
         have c23b0 : (t766 == 0) = true := beq_iff_eq.mpr c23
         have c23b1 : (t766 != 0) = false := bne_eq_false_iff_eq.mpr c23
         clear c23
         have H' := Aside0.mk H
         clear H
         go_wp2
         go_meet
         case rel => exact ⟨_, ((t765.toList != a0.toList)), (by first | rfl | (simp; done) | (simp [*]; done)), H', ⟨by have := HJ4.out; first | omega | exact Nat.le_refl _⟩, ⟨bel⟩⟩
        ·rw [if_neg c23] at H
         have c23b0 : (t766 == 0) = false := beq_eq_false_iff_ne.mpr c23
         have c23b1 : (t766 != 0) = true := bne_iff_ne.mpr c23
         have H' := Aside0.mk H
         clear H
         go_wp2
         go_meet
         case rel => exact ⟨_, (true), (by first | rfl | (simp; done) | (simp [*]; done)), H', ⟨by have := HJ4.out; first | omega | exact Nat.le_refl _⟩, ⟨bel⟩⟩
       ·rw [if_neg c22] at H
        have c22b0 : (t764 == 0) = false := beq_eq_false_iff_ne.mpr c22
        have c22b1 : (t764 != 0) = true := bne_iff_ne.mpr c22
        have H' := Aside0.mk H
        clear H
        go_wp2
        go_meet
        case rel => exact ⟨_, (true), (by first | rfl | (simp; done) | (simp [*]; done)), H', ⟨by have := HJ4.out; first | omega | exact Nat.le_refl _⟩, ⟨bel⟩⟩
      ·rw [if_neg c21] at H
       have c21b0 : (t762 == 0) = false := beq_eq_false_iff_ne.mpr c21
       have c21b1 : (t762 != 0) = true := bne_iff_ne.mpr c21
       (first | rw [c21b0] | rw [c21b1] | (simp only [i64_w, i32_w]; rw [c21b0]) | skip)
       have H' := Aside0.mk H
       clear H
       go_wp2
       go_meet
       case rel => exact ⟨_, (true), (by first | rfl | (simp; done) | (simp [*]; done)), H', ⟨by have := HJ4.out; first | omega | exact Nat.le_refl _⟩, ⟨bel⟩⟩
     case rest =>
      clear HC17
      (try clear c1); (try clear c2); (try clear p2); (try clear c4); (try clear c7); (try clear c7b0); (try clear c7b1); (try clear c8); (try clear c8b0); (try clear c8b1); (try clear c10); (try clear c11); (try clear c12); (try clear c13); (try clear c21); (try clear c21b0); (try clear c21b1); (try clear c22); (try clear c22b0); (try clear c22b1); (try clear c23); (try clear c23b0); (try clear c23b1); (try clear p2)
      obtain ⟨kq, x70_16, rfl, HA, HJ16, HB⟩ := hcut
      cases kq with
      | zero => exact absurd HA.out (by simp [cellarerlaw02_IntegerQuotients.j1])
      | succ kj16 =>
       have H := HA.out
       clear HA
       simp only [cellarerlaw02_IntegerQuotients.j1] at H
       by_cases c24 : x70_16 = true
       ·subst c24
        have H1 : (some false) = some r := by rw [if_pos rfl] at H; exact H
        clear H
        have H := H1
        clear H1
        obtain rfl := Option.some.inj H
        go_wp2
        go_ret
        exact ⟨by first | rfl | (simp [errW_none, errW_some] <;> rfl) | (simp [*, errW_none, errW_some] <;> rfl), bel⟩
       ·replace c24 := Bool.eq_false_iff.mpr c24
        subst c24
        have H1 : (if t761.toList = ([48] : List UInt8) then (some true) else ((integer_Cmp.f kj16 a1 (⟨#[48]⟩ : ByteArray)).bind fun t767 => ((integer_Cmp.f kj16 t761 (⟨#[48]⟩ : ByteArray)).bind fun t768 => (if t768 = t767 then ((integer_Cmp.f kj16 t761 a1).bind fun t769 => (some (t769 == (wrap64 (-t767))))) else (some false))))) = some r := by rw [if_neg (show ¬ (false = true) by decide)] at H; exact H
        clear H
        have H := H1
        clear H1
        by_cases c25 : t761.toList = ([48] : List UInt8)
        ·rw [if_pos c25] at H
         have c25b0 : (t761.toList == ([48] : List UInt8)) = true := beq_iff_eq.mpr c25
         have c25b1 : (t761.toList != ([48] : List UInt8)) = false := bne_eq_false_iff_eq.mpr c25
         clear c25
         obtain rfl := Option.some.inj H
         go_wp2
         go_ret
         exact ⟨by first | rfl | (simp [errW_none, errW_some] <;> rfl) | (simp [*, errW_none, errW_some] <;> rfl), bel⟩
        ·rw [if_neg c25] at H
         have c25b0 : (t761.toList == ([48] : List UInt8)) = false := beq_eq_false_iff_ne.mpr c25
         have c25b1 : (t761.toList != ([48] : List UInt8)) = true := bne_iff_ne.mpr c25
         replace H := Option.bind_eq_some_iff.mp H
         obtain ⟨t767, A260, H⟩ := H
         replace H : ((integer_Cmp.f kj16 t761 (⟨#[48]⟩ : ByteArray)).bind fun t768 => (if t768 = t767 then ((integer_Cmp.f kj16 t761 a1).bind fun t769 => (some (t769 == (wrap64 (-t767))))) else (some false))) = some r := H
         have A26 := Aside0.mk A260
         clear A260
         replace H := Option.bind_eq_some_iff.mp H
         obtain ⟨t768, A270, H⟩ := H
         replace H : (if t768 = t767 then ((integer_Cmp.f kj16 t761 a1).bind fun t769 => (some (t769 == (wrap64 (-t767))))) else (some false)) = some r := H
         have A27 := Aside0.mk A270
         clear A270
         by_cases c28 : t768 = t767
         ·rw [if_pos c28] at H
          have c28b0 : (t768 == t767) = true := beq_iff_eq.mpr c28
          have c28b1 : (t768 != t767) = false := bne_eq_false_iff_eq.mpr c28
          clear c28
          replace H := Option.bind_eq_some_iff.mp H
          obtain ⟨t769, A290, H⟩ := H
          replace H : (some (t769 == (wrap64 (-t767)))) = some r := H
          have A29 := Aside0.mk A290
          clear A290
          obtain rfl := Option.some.inj H
          go_wp2_with (first | ((with_reducible refine gate_callee (f := 28) rfl ?_); refine goesL_ (some 74) rfl rfl Tryd.func28 (by kernel_rfl) rfl #[.string a1, .string (⟨#[48]⟩ : ByteArray)] rfl ag ?_; (with_reducible refine (integer_Cmp.calls kj16 a1 (⟨#[48]⟩ : ByteArray) t767 _ ?side1 A26.out).mono ?_); (case side1 => exact GOK.below hG.out bel); rintro e w30 ⟨rfl, hb⟩; refine ⟨_, rfl, ?_⟩; have n0_ := Aside0.mk (below_step bel hb); clear HB; have HB := n0_; clear n0_; (try clear hb); (try clear hb2); (try clear hk); (try clear hi)) | ((with_reducible refine gate_callee (f := 28) rfl ?_); refine goesL_ (some 76) rfl rfl Tryd.func28 (by kernel_rfl) rfl #[.string t761, .string (⟨#[48]⟩ : ByteArray)] rfl ag ?_; (with_reducible refine (integer_Cmp.calls kj16 t761 (⟨#[48]⟩ : ByteArray) t768 _ ?side1 A27.out).mono ?_); (case side1 => exact GOK.below hG.out bel); rintro e w31 ⟨rfl, hb⟩; refine ⟨_, rfl, ?_⟩; have n0_ := Aside0.mk (below_step bel hb); clear HB; have HB := n0_; clear n0_; (try clear hb); (try clear hb2); (try clear hk); (try clear hi)) | (go_at_call 28; (with_reducible refine (integer_Cmp.calls kj16 t761 a1 t769 _ ?side1 A29.out).mono ?_); (case side1 => exact GOK.below hG.out bel); rintro e w32 ⟨rfl, hb⟩; have n0_ := Aside0.mk (below_step bel hb); clear HB; have HB := n0_; clear n0_; (try clear hb); (try clear hb2); (try clear hk); (try clear hi)))
          go_ret
          exact ⟨by first | rfl | (simp [errW_none, errW_some] <;> rfl) | (simp [*, errW_none, errW_some] <;> rfl), bel⟩
         ·rw [if_neg c28] at H
          have c28b0 : (t768 == t767) = false := beq_eq_false_iff_ne.mpr c28
          have c28b1 : (t768 != t767) = true := bne_iff_ne.mpr c28
          obtain rfl := Option.some.inj H
          go_wp2_with (first | ((with_reducible refine gate_callee (f := 28) rfl ?_); refine goesL_ (some 74) rfl rfl Tryd.func28 (by kernel_rfl) rfl #[.string a1, .string (⟨#[48]⟩ : ByteArray)] rfl ag ?_; (with_reducible refine (integer_Cmp.calls kj16 a1 (⟨#[48]⟩ : ByteArray) t767 _ ?side1 A26.out).mono ?_); (case side1 => exact GOK.below hG.out bel); rintro e w33 ⟨rfl, hb⟩; refine ⟨_, rfl, ?_⟩; have n0_ := Aside0.mk (below_step bel hb); clear HB; have HB := n0_; clear n0_; (try clear hb); (try clear hb2); (try clear hk); (try clear hi)) | ((with_reducible refine gate_callee (f := 28) rfl ?_); refine goesL_ (some 76) rfl rfl Tryd.func28 (by kernel_rfl) rfl #[.string t761, .string (⟨#[48]⟩ : ByteArray)] rfl ag ?_; (with_reducible refine (integer_Cmp.calls kj16 t761 (⟨#[48]⟩ : ByteArray) t768 _ ?side1 A27.out).mono ?_); (case side1 => exact GOK.below hG.out bel); rintro e w34 ⟨rfl, hb⟩; refine ⟨_, rfl, ?_⟩; have n0_ := Aside0.mk (below_step bel hb); clear HB; have HB := n0_; clear n0_; (try clear hb); (try clear hb2); (try clear hk); (try clear hi)))
          go_ret
          exact ⟨by first | rfl | (simp [errW_none, errW_some] <;> rfl) | (simp [*, errW_none, errW_some] <;> rfl), bel⟩
 ·replace c4 := Bool.eq_false_iff.mpr c4
  subst c4
  have H1 : (some false) = some r := by rw [if_neg (show ¬ (false = true) by decide)] at H; exact H
  clear H
  have H := H1
  clear H1
  obtain rfl := Option.some.inj H
  go_enter Tryd.func7, Tryd.ntmps7
  go_wp2_with (first | ((with_reducible refine gate_callee (f := 11) rfl ?_); refine goesL_ (some 13) rfl rfl Tryd.func11 (by kernel_rfl) rfl #[] rfl ag ?_; (with_reducible refine (cellarerlaw02_awake.calls k  false _ ?side1 A3.out).mono ?_); (case side1 => exact GOK.below hG.out bel); rintro e w35 ⟨rfl, hb⟩; refine ⟨_, rfl, ?_⟩; have n0_ := Aside0.mk (below_step bel hb); clear HB; have HB := n0_; clear n0_; (try clear hb); (try clear hb2); (try clear hk); (try clear hi)))
  go_ret
  exact ⟨by first | rfl | (simp [errW_none, errW_some] <;> rfl) | (simp [*, errW_none, errW_some] <;> rfl), bel⟩

theorem cellarerlaw02_IntegerQuotients.walk (P : cellarerlaw02_IntegerQuotients.Pure) (a0 : ByteArray) (a1 : ByteArray) (w : World) (hG : GOK w) (w0 : a0.size ≤ 140737488351232) (w1 : a1.size ≤ 140737488351232) :
  Calls Tryd.prog 7 #[.string a0, .string a1] w fun e w' => e = .returned (.bool true) ∧ Below w.heap.size w w' := by
 obtain ⟨k, h⟩ := P a0 a1 w0 w1
 refine (cellarerlaw02_IntegerQuotients.calls k a0 a1 true w hG h).mono ?_
 rintro e w' ⟨rfl, hd⟩
 exact ⟨rfl, hd⟩

end Go.Proofs.YtdnjlmoggnbknaaDoor.PInt
