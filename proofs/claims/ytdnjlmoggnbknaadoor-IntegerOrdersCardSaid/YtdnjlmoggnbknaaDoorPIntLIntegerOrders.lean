-- Written by a program of this session's (xprint.py) over the kit's print.
import Derived.Test.YtdnjlmoggnbknaaDoorPIntx0
import Derived.Test.YtdnjlmoggnbknaaDoorPIntx8
import Derived.Test.YtdnjlmoggnbknaaDoorPIntx9
import Derived.Test.YtdnjlmoggnbknaaDoorPIntx10
import Derived.Test.YtdnjlmoggnbknaaDoorPIntx12
import Derived.Test.YtdnjlmoggnbknaaDoorPIntx17
import Derived.Test.YtdnjlmoggnbknaaDoorPIntx19
import Derived.Test.YtdnjlmoggnbknaaDoorPIntx21
import Derived.Test.YtdnjlmoggnbknaaDoorPIntD
import Derived.Test.YtdnjlmoggnbknaaDoorAuto
namespace Go.Proofs.YtdnjlmoggnbknaaDoor.PInt
open Go.RowKit Go.Proofs.YtdnjlmoggnbknaaDoor.Ext Go.Proofs.YtdnjlmoggnbknaaDoorW.PrintWords Go.Proofs.YtdnjlmoggnbknaaDoorW.PrintLast Go.Proofs.YtdnjlmoggnbknaaDoorW.PrintMore
attribute [local go_sem high] gtr_print leq_print
attribute [local go_sem] max2_int min2_int max_two min_two max_three min_three max_four min_four   -- for this text's walks alone
set_option linter.unusedVariables false
set_option linter.unusedSimpArgs false

/-! ### cellarerlaw02_IntegerOrders: function 10 -/
set_option maxHeartbeats 8000000 in
set_option maxRecDepth 100000 in
theorem cellarerlaw02_IntegerOrders.calls (k : Nat) (a0 : ByteArray) (a1 : ByteArray) (r : Bool) (w : World) (hG : GOK w) (h : cellarerlaw02_IntegerOrders.f k a0 a1 = some r) :
  Calls Tryd.prog 10 #[.string a0, .string a1] w fun e w' => e = .returned (.bool r) ∧ Below w.heap.size w w' := by
 replace hG := Aside0.mk hG
 have HB := Aside0.mk (Below.refl w.heap.size w)
 have H : ((cellarerlaw02_awake.f k).bind fun t841 => (if t841 = true then ((cellarerlaw02_long.f a0 a1).bind fun t842 => (if t842 = true then (some true) else ((integer_Small.f k a0).bind fun bt843 => ((integer_Cmp.f k a0 a1).bind fun t845 => ((integer_Neg.f k a0).bind fun t846 => ((cellarerref02_Valid.f k a0).bind fun t847 => (if t847 = true then ((cellarerref02_Of.f k a0).bind fun bt848 => ((cellarerref02_Small.f k bt848.1 bt848.2).bind fun bt852 => (if bt843.1 = bt852.1 then (if (bt843.2 != bt852.2) = true then (cellarerlaw02_IntegerOrders.j0 k a0 a1 t845 true) else ((cellarerref02_Of.f k a0).bind fun bt854 => ((cellarerref02_Neg.f k bt854.1 bt854.2).bind fun bt858 => ((cellarerref02_Text.f k bt858.1 bt858.2).bind fun t862 => (cellarerlaw02_IntegerOrders.j0 k a0 a1 t845 (t846.toList != t862.toList)))))) else (cellarerlaw02_IntegerOrders.j0 k a0 a1 t845 true)))) else (if t845 = 0 then (if t846.toList = ([] : List UInt8) then (if bt843.1 = 0 then (some (!bt843.2)) else (some false)) else (some false)) else (some false))))))))) else (some false))) = some r := h
 clear h
 replace H := Option.bind_eq_some_iff.mp H
 obtain ⟨t841, A30, H⟩ := H
 replace H : (if t841 = true then ((cellarerlaw02_long.f a0 a1).bind fun t842 => (if t842 = true then (some true) else ((integer_Small.f k a0).bind fun bt843 => ((integer_Cmp.f k a0 a1).bind fun t845 => ((integer_Neg.f k a0).bind fun t846 => ((cellarerref02_Valid.f k a0).bind fun t847 => (if t847 = true then ((cellarerref02_Of.f k a0).bind fun bt848 => ((cellarerref02_Small.f k bt848.1 bt848.2).bind fun bt852 => (if bt843.1 = bt852.1 then (if (bt843.2 != bt852.2) = true then (cellarerlaw02_IntegerOrders.j0 k a0 a1 t845 true) else ((cellarerref02_Of.f k a0).bind fun bt854 => ((cellarerref02_Neg.f k bt854.1 bt854.2).bind fun bt858 => ((cellarerref02_Text.f k bt858.1 bt858.2).bind fun t862 => (cellarerlaw02_IntegerOrders.j0 k a0 a1 t845 (t846.toList != t862.toList)))))) else (cellarerlaw02_IntegerOrders.j0 k a0 a1 t845 true)))) else (if t845 = 0 then (if t846.toList = ([] : List UInt8) then (if bt843.1 = 0 then (some (!bt843.2)) else (some false)) else (some false)) else (some false))))))))) else (some false)) = some r := H
 have A3 := Aside0.mk A30
 clear A30
 by_cases c4 : t841 = true
 ·subst c4
  have H1 : ((cellarerlaw02_long.f a0 a1).bind fun t842 => (if t842 = true then (some true) else ((integer_Small.f k a0).bind fun bt843 => ((integer_Cmp.f k a0 a1).bind fun t845 => ((integer_Neg.f k a0).bind fun t846 => ((cellarerref02_Valid.f k a0).bind fun t847 => (if t847 = true then ((cellarerref02_Of.f k a0).bind fun bt848 => ((cellarerref02_Small.f k bt848.1 bt848.2).bind fun bt852 => (if bt843.1 = bt852.1 then (if (bt843.2 != bt852.2) = true then (cellarerlaw02_IntegerOrders.j0 k a0 a1 t845 true) else ((cellarerref02_Of.f k a0).bind fun bt854 => ((cellarerref02_Neg.f k bt854.1 bt854.2).bind fun bt858 => ((cellarerref02_Text.f k bt858.1 bt858.2).bind fun t862 => (cellarerlaw02_IntegerOrders.j0 k a0 a1 t845 (t846.toList != t862.toList)))))) else (cellarerlaw02_IntegerOrders.j0 k a0 a1 t845 true)))) else (if t845 = 0 then (if t846.toList = ([] : List UInt8) then (if bt843.1 = 0 then (some (!bt843.2)) else (some false)) else (some false)) else (some false))))))))) = some r := by rw [if_pos rfl] at H; exact H
  clear H
  have H := H1
  clear H1
  replace H := Option.bind_eq_some_iff.mp H
  obtain ⟨t842, A50, H⟩ := H
  replace H : (if t842 = true then (some true) else ((integer_Small.f k a0).bind fun bt843 => ((integer_Cmp.f k a0 a1).bind fun t845 => ((integer_Neg.f k a0).bind fun t846 => ((cellarerref02_Valid.f k a0).bind fun t847 => (if t847 = true then ((cellarerref02_Of.f k a0).bind fun bt848 => ((cellarerref02_Small.f k bt848.1 bt848.2).bind fun bt852 => (if bt843.1 = bt852.1 then (if (bt843.2 != bt852.2) = true then (cellarerlaw02_IntegerOrders.j0 k a0 a1 t845 true) else ((cellarerref02_Of.f k a0).bind fun bt854 => ((cellarerref02_Neg.f k bt854.1 bt854.2).bind fun bt858 => ((cellarerref02_Text.f k bt858.1 bt858.2).bind fun t862 => (cellarerlaw02_IntegerOrders.j0 k a0 a1 t845 (t846.toList != t862.toList)))))) else (cellarerlaw02_IntegerOrders.j0 k a0 a1 t845 true)))) else (if t845 = 0 then (if t846.toList = ([] : List UInt8) then (if bt843.1 = 0 then (some (!bt843.2)) else (some false)) else (some false)) else (some false)))))))) = some r := H
  have A5 := Aside0.mk A50
  clear A50
  by_cases c6 : t842 = true
  ·subst c6
   have H1 : (some true) = some r := by rw [if_pos rfl] at H; exact H
   clear H
   have H := H1
   clear H1
   obtain rfl := Option.some.inj H
   go_enter Tryd.func10, Tryd.ntmps10
   go_wp2_with (first | ((with_reducible refine gate_callee (f := 11) rfl ?_); refine goesL_ (some 11) rfl rfl Tryd.func11 (by kernel_rfl) rfl #[] rfl ag ?_; (with_reducible refine (cellarerlaw02_awake.calls k  true _ ?side1 A3.out).mono ?_); (case side1 => exact GOK.below hG.out bel); rintro e w7 ⟨rfl, hb⟩; refine ⟨_, rfl, ?_⟩; have n0_ := Aside0.mk (below_step bel hb); clear HB; have HB := n0_; clear n0_; (try clear hb); (try clear hb2); (try clear hk); (try clear hi)) | ((with_reducible refine gate_callee (f := 12) rfl ?_); refine goesL_ (some 15) rfl rfl Tryd.func12 (by kernel_rfl) rfl #[.string a0, .string a1] rfl ag ?_; (with_reducible refine (cellarerlaw02_long.calls a0 a1 true _ ?side1 A5.out).mono ?_); (case side1 => exact GOK.below hG.out bel); rintro e w' ⟨rfl, ⟨nd, rfl⟩⟩; refine ⟨_, rfl, ?_⟩))
   go_ret
   exact ⟨by first | rfl | (simp [errW_none, errW_some] <;> rfl) | (simp [*, errW_none, errW_some] <;> rfl), bel⟩
  ·replace c6 := Bool.eq_false_iff.mpr c6
   subst c6
   have H1 : ((integer_Small.f k a0).bind fun bt843 => ((integer_Cmp.f k a0 a1).bind fun t845 => ((integer_Neg.f k a0).bind fun t846 => ((cellarerref02_Valid.f k a0).bind fun t847 => (if t847 = true then ((cellarerref02_Of.f k a0).bind fun bt848 => ((cellarerref02_Small.f k bt848.1 bt848.2).bind fun bt852 => (if bt843.1 = bt852.1 then (if (bt843.2 != bt852.2) = true then (cellarerlaw02_IntegerOrders.j0 k a0 a1 t845 true) else ((cellarerref02_Of.f k a0).bind fun bt854 => ((cellarerref02_Neg.f k bt854.1 bt854.2).bind fun bt858 => ((cellarerref02_Text.f k bt858.1 bt858.2).bind fun t862 => (cellarerlaw02_IntegerOrders.j0 k a0 a1 t845 (t846.toList != t862.toList)))))) else (cellarerlaw02_IntegerOrders.j0 k a0 a1 t845 true)))) else (if t845 = 0 then (if t846.toList = ([] : List UInt8) then (if bt843.1 = 0 then (some (!bt843.2)) else (some false)) else (some false)) else (some false))))))) = some r := by rw [if_neg (show ¬ (false = true) by decide)] at H; exact H
   clear H
   have H := H1
   clear H1
   replace H := Option.bind_eq_some_iff.mp H
   obtain ⟨⟨t843, t844⟩, A80, H⟩ := H
   replace H : ((integer_Cmp.f k a0 a1).bind fun t845 => ((integer_Neg.f k a0).bind fun t846 => ((cellarerref02_Valid.f k a0).bind fun t847 => (if t847 = true then ((cellarerref02_Of.f k a0).bind fun bt848 => ((cellarerref02_Small.f k bt848.1 bt848.2).bind fun bt852 => (if t843 = bt852.1 then (if (t844 != bt852.2) = true then (cellarerlaw02_IntegerOrders.j0 k a0 a1 t845 true) else ((cellarerref02_Of.f k a0).bind fun bt854 => ((cellarerref02_Neg.f k bt854.1 bt854.2).bind fun bt858 => ((cellarerref02_Text.f k bt858.1 bt858.2).bind fun t862 => (cellarerlaw02_IntegerOrders.j0 k a0 a1 t845 (t846.toList != t862.toList)))))) else (cellarerlaw02_IntegerOrders.j0 k a0 a1 t845 true)))) else (if t845 = 0 then (if t846.toList = ([] : List UInt8) then (if t843 = 0 then (some (!t844)) else (some false)) else (some false)) else (some false)))))) = some r := H
   have A8 := Aside0.mk A80
   clear A80
   replace H := Option.bind_eq_some_iff.mp H
   obtain ⟨t845, A90, H⟩ := H
   replace H : ((integer_Neg.f k a0).bind fun t846 => ((cellarerref02_Valid.f k a0).bind fun t847 => (if t847 = true then ((cellarerref02_Of.f k a0).bind fun bt848 => ((cellarerref02_Small.f k bt848.1 bt848.2).bind fun bt852 => (if t843 = bt852.1 then (if (t844 != bt852.2) = true then (cellarerlaw02_IntegerOrders.j0 k a0 a1 t845 true) else ((cellarerref02_Of.f k a0).bind fun bt854 => ((cellarerref02_Neg.f k bt854.1 bt854.2).bind fun bt858 => ((cellarerref02_Text.f k bt858.1 bt858.2).bind fun t862 => (cellarerlaw02_IntegerOrders.j0 k a0 a1 t845 (t846.toList != t862.toList)))))) else (cellarerlaw02_IntegerOrders.j0 k a0 a1 t845 true)))) else (if t845 = 0 then (if t846.toList = ([] : List UInt8) then (if t843 = 0 then (some (!t844)) else (some false)) else (some false)) else (some false))))) = some r := H
   have A9 := Aside0.mk A90
   clear A90
   replace H := Option.bind_eq_some_iff.mp H
   obtain ⟨t846, A100, H⟩ := H
   replace H : ((cellarerref02_Valid.f k a0).bind fun t847 => (if t847 = true then ((cellarerref02_Of.f k a0).bind fun bt848 => ((cellarerref02_Small.f k bt848.1 bt848.2).bind fun bt852 => (if t843 = bt852.1 then (if (t844 != bt852.2) = true then (cellarerlaw02_IntegerOrders.j0 k a0 a1 t845 true) else ((cellarerref02_Of.f k a0).bind fun bt854 => ((cellarerref02_Neg.f k bt854.1 bt854.2).bind fun bt858 => ((cellarerref02_Text.f k bt858.1 bt858.2).bind fun t862 => (cellarerlaw02_IntegerOrders.j0 k a0 a1 t845 (t846.toList != t862.toList)))))) else (cellarerlaw02_IntegerOrders.j0 k a0 a1 t845 true)))) else (if t845 = 0 then (if t846.toList = ([] : List UInt8) then (if t843 = 0 then (some (!t844)) else (some false)) else (some false)) else (some false)))) = some r := H
   have A10 := Aside0.mk A100
   clear A100
   replace H := Option.bind_eq_some_iff.mp H
   obtain ⟨t847, A110, H⟩ := H
   replace H : (if t847 = true then ((cellarerref02_Of.f k a0).bind fun bt848 => ((cellarerref02_Small.f k bt848.1 bt848.2).bind fun bt852 => (if t843 = bt852.1 then (if (t844 != bt852.2) = true then (cellarerlaw02_IntegerOrders.j0 k a0 a1 t845 true) else ((cellarerref02_Of.f k a0).bind fun bt854 => ((cellarerref02_Neg.f k bt854.1 bt854.2).bind fun bt858 => ((cellarerref02_Text.f k bt858.1 bt858.2).bind fun t862 => (cellarerlaw02_IntegerOrders.j0 k a0 a1 t845 (t846.toList != t862.toList)))))) else (cellarerlaw02_IntegerOrders.j0 k a0 a1 t845 true)))) else (if t845 = 0 then (if t846.toList = ([] : List UInt8) then (if t843 = 0 then (some (!t844)) else (some false)) else (some false)) else (some false))) = some r := H
   have A11 := Aside0.mk A110
   clear A110
   by_cases c12 : t847 = true
   ·subst c12
    have H1 : ((cellarerref02_Of.f k a0).bind fun bt848 => ((cellarerref02_Small.f k bt848.1 bt848.2).bind fun bt852 => (if t843 = bt852.1 then (if (t844 != bt852.2) = true then (cellarerlaw02_IntegerOrders.j0 k a0 a1 t845 true) else ((cellarerref02_Of.f k a0).bind fun bt854 => ((cellarerref02_Neg.f k bt854.1 bt854.2).bind fun bt858 => ((cellarerref02_Text.f k bt858.1 bt858.2).bind fun t862 => (cellarerlaw02_IntegerOrders.j0 k a0 a1 t845 (t846.toList != t862.toList)))))) else (cellarerlaw02_IntegerOrders.j0 k a0 a1 t845 true)))) = some r := by rw [if_pos rfl] at H; exact H
    clear H
    have H := H1
    clear H1
    replace H := Option.bind_eq_some_iff.mp H
    obtain ⟨⟨t848, t849⟩, A130, H⟩ := H
    replace H : ((cellarerref02_Small.f k t848 t849).bind fun bt852 => (if t843 = bt852.1 then (if (t844 != bt852.2) = true then (cellarerlaw02_IntegerOrders.j0 k a0 a1 t845 true) else ((cellarerref02_Of.f k a0).bind fun bt854 => ((cellarerref02_Neg.f k bt854.1 bt854.2).bind fun bt858 => ((cellarerref02_Text.f k bt858.1 bt858.2).bind fun t862 => (cellarerlaw02_IntegerOrders.j0 k a0 a1 t845 (t846.toList != t862.toList)))))) else (cellarerlaw02_IntegerOrders.j0 k a0 a1 t845 true))) = some r := H
    have A13 := Aside0.mk A130
    clear A130
    replace H := Option.bind_eq_some_iff.mp H
    obtain ⟨⟨t852, t853⟩, A140, H⟩ := H
    replace H : (if t843 = t852 then (if (t844 != t853) = true then (cellarerlaw02_IntegerOrders.j0 k a0 a1 t845 true) else ((cellarerref02_Of.f k a0).bind fun bt854 => ((cellarerref02_Neg.f k bt854.1 bt854.2).bind fun bt858 => ((cellarerref02_Text.f k bt858.1 bt858.2).bind fun t862 => (cellarerlaw02_IntegerOrders.j0 k a0 a1 t845 (t846.toList != t862.toList)))))) else (cellarerlaw02_IntegerOrders.j0 k a0 a1 t845 true)) = some r := H
    have A14 := Aside0.mk A140
    clear A140
    have HC15 := Aside0.mk H
    clear H
    go_enter Tryd.func10, Tryd.ntmps10
    go_upto_region 10 with (first | ((with_reducible refine gate_callee (f := 11) rfl ?_); refine goesL_ (some 11) rfl rfl Tryd.func11 (by kernel_rfl) rfl #[] rfl ag ?_; (with_reducible refine (cellarerlaw02_awake.calls k  true _ ?side1 A3.out).mono ?_); (case side1 => exact GOK.below hG.out bel); rintro e w16 ⟨rfl, hb⟩; refine ⟨_, rfl, ?_⟩; have n0_ := Aside0.mk (below_step bel hb); clear HB; have HB := n0_; clear n0_; (try clear hb); (try clear hb2); (try clear hk); (try clear hi)) | ((with_reducible refine gate_callee (f := 12) rfl ?_); refine goesL_ (some 15) rfl rfl Tryd.func12 (by kernel_rfl) rfl #[.string a0, .string a1] rfl ag ?_; (with_reducible refine (cellarerlaw02_long.calls a0 a1 false _ ?side1 A5.out).mono ?_); (case side1 => exact GOK.below hG.out bel); rintro e w' ⟨rfl, ⟨nd, rfl⟩⟩; refine ⟨_, rfl, ?_⟩) | ((with_reducible refine gate_callee (f := 30) rfl ?_); refine goesL_ (some 18) rfl rfl Tryd.func30 (by kernel_rfl) rfl #[.string a0] rfl ag ?_; (with_reducible refine (integer_Small.calls k a0 t843 t844 _ ?side1 A8.out).mono ?_); (case side1 => exact GOK.below hG.out bel); rintro e w17 ⟨rfl, hb⟩; refine ⟨_, rfl, ?_⟩; have n0_ := Aside0.mk (below_step bel hb); clear HB; have HB := n0_; clear n0_; (try clear hb); (try clear hb2); (try clear hk); (try clear hi)) | ((with_reducible refine gate_callee (f := 28) rfl ?_); refine goesL_ (some 23) rfl rfl Tryd.func28 (by kernel_rfl) rfl #[.string a0, .string a1] rfl ag ?_; (with_reducible refine (integer_Cmp.calls k a0 a1 t845 _ ?side1 A9.out).mono ?_); (case side1 => exact GOK.below hG.out bel); rintro e w18 ⟨rfl, hb⟩; refine ⟨_, rfl, ?_⟩; have n0_ := Aside0.mk (below_step bel hb); clear HB; have HB := n0_; clear n0_; (try clear hb); (try clear hb2); (try clear hk); (try clear hi)) | ((with_reducible refine gate_callee (f := 31) rfl ?_); refine goesL_ (some 25) rfl rfl Tryd.func31 (by kernel_rfl) rfl #[.string a0] rfl ag ?_; (with_reducible refine (integer_Neg.calls k a0 t846 _ ?side1 A10.out).mono ?_); (case side1 => exact GOK.below hG.out bel); rintro e w19 ⟨rfl, hb⟩; refine ⟨_, rfl, ?_⟩; have n0_ := Aside0.mk (below_step bel hb); clear HB; have HB := n0_; clear n0_; (try clear hb); (try clear hb2); (try clear hk); (try clear hi)) | ((with_reducible refine gate_callee (f := 15) rfl ?_); refine goesL_ (some 27) rfl rfl Tryd.func15 (by kernel_rfl) rfl #[.string a0] rfl ag ?_; (with_reducible refine (cellarerref02_Valid.calls k a0 true _ ?side1 A11.out).mono ?_); (case side1 => exact GOK.below hG.out bel); rintro e w' ⟨rfl, ⟨nd, rfl⟩⟩; refine ⟨_, rfl, ?_⟩) | ((with_reducible refine gate_callee (f := 16) rfl ?_); refine goesL_ (some 45) rfl rfl Tryd.func16 (by kernel_rfl) rfl #[.string a0] rfl ag ?_; (with_reducible refine (cellarerref02_Of.calls k a0 t848 t849 _ ?side1 A13.out).mono ?_); (case side1 => exact GOK.below hG.out bel); rintro e w20 ⟨v850, rfl, ho0, hb⟩; refine ⟨_, rfl, ?_⟩; have n0_ := Aside0.mk (Kd.V_lower (Kd.V_mono (ok' := fun k_ => True) ho0 (fun k_ hk_ => trivial)) (below_size bel)); have n1_ := Aside0.mk (below_step bel hb); clear HB; have HO851 := n0_; have HB := n1_; clear n0_ n1_; (try clear hb); (try clear hb2); (try clear hk); (try clear hi); (try clear ho0); obtain ⟨Ao21, co21, eo21⟩ := Kd.V_slice HO851.out; subst eo21) | ((with_reducible refine gate_callee (f := 32) rfl ?_); refine goesL_ (some 46) rfl rfl Tryd.func32 (by kernel_rfl) rfl #[.agg #[.bool t848, .slice Ao21 t849.length co21]] rfl ag ?_; (with_reducible refine (cellarerref02_Small.calls k t848 _ _ t849 t852 t853 _ ?side1 ?side2 ?side3 A14.out).mono ?_); (case side1 => exact GOK.below hG.out bel); (case side2 => exact kc ((Kd.V_reads' HO851.out).2.2)); (case side3 => exact (Kd.V_reads' HO851.out).2.1); rintro e w22 ⟨rfl, hb⟩; refine ⟨_, rfl, ?_⟩; have n0_ := Aside0.mk (Kd.V_below (kv HO851.out) hb); have n1_ := Aside0.mk (below_step bel hb); clear HO851; clear HB; have HO851 := n0_; have HB := n1_; clear n0_ n1_; (try clear hb); (try clear hb2); (try clear hk); (try clear hi)))
    (try simp only [Act.put, List.setIfInBounds_toArray, List.set_cons_zero, List.set_cons_succ])
    go_cut [64] (fun v64 wc => ∃ (kq : Nat) (x64_14 : Bool), v64 = .bool x64_14 ∧ Aside0 (cellarerlaw02_IntegerOrders.j0 kq a0 a1 t845 x64_14 = some r) ∧ Aside0 (kq ≤ k) ∧ Aside0 (Below w.heap.size w wc))
    case first =>
     have H := HC15.out
     clear HC15
     by_cases c23 : t843 = t852
     ·rw [if_pos c23] at H
      have c23b0 : (t843 == t852) = true := beq_iff_eq.mpr c23
      have c23b1 : (t843 != t852) = false := bne_eq_false_iff_eq.mpr c23
      clear c23
      (first | rw [c23b0] | rw [c23b1] | (simp only [i64_w, i32_w]; rw [c23b0]) | skip)
      by_cases c24 : (t844 != t853) = true
      ·rw [if_pos c24] at H
       have c24b0 : (t844 != t853) = true := c24
       (try (have c24b1 : decide (t844 = t853) = false := by simpa using c24))
       (try (have c24b2 : (t844 == t853) = false := by simpa using c24))
       (try (have c24b3 : ¬ (t844 = t853) := by simpa using c24))
       clear c24
       have H' := Aside0.mk H
       clear H
       go_wp2
       go_meet
       case rel => exact ⟨_, (true), (by first | rfl | (simp; done) | (simp [*]; done)), H', ⟨by first | omega | exact Nat.le_refl _⟩, ⟨bel⟩⟩
      ·rw [if_neg c24] at H
       have c24b0 : (t844 != t853) = false := by simpa using c24
       (try (have c24b1 : decide (t844 = t853) = true := by simpa using c24))
       (try (have c24b2 : (t844 == t853) = true := by simpa using c24))
       clear c24
       replace H := Option.bind_eq_some_iff.mp H
       obtain ⟨⟨t854, t855⟩, A250, H⟩ := H
       replace H : ((cellarerref02_Neg.f k t854 t855).bind fun bt858 => ((cellarerref02_Text.f k bt858.1 bt858.2).bind fun t862 => (cellarerlaw02_IntegerOrders.j0 k a0 a1 t845 (t846.toList != t862.toList)))) = some r := H
       have A25 := Aside0.mk A250
       clear A250
       replace H := Option.bind_eq_some_iff.mp H
       obtain ⟨⟨t858, t859⟩, A260, H⟩ := H
       replace H : ((cellarerref02_Text.f k t858 t859).bind fun t862 => (cellarerlaw02_IntegerOrders.j0 k a0 a1 t845 (t846.toList != t862.toList))) = some r := H
       have A26 := Aside0.mk A260
       clear A260
       replace H := Option.bind_eq_some_iff.mp H
       obtain ⟨t862, A270, H⟩ := H
       replace H : (cellarerlaw02_IntegerOrders.j0 k a0 a1 t845 (t846.toList != t862.toList)) = some r := H
       have A27 := Aside0.mk A270
       clear A270
       have H' := Aside0.mk H
       clear H
       go_wp2_with (first | (go_at_call 16; (with_reducible refine (cellarerref02_Of.calls k a0 t854 t855 _ ?side1 A25.out).mono ?_); (case side1 => exact GOK.below hG.out bel); rintro e w28 ⟨v856, rfl, ho0, hb⟩; have n0_ := Aside0.mk (Kd.V_below (kv HO851.out) hb); have n1_ := Aside0.mk (Kd.V_lower (Kd.V_mono (ok' := fun k_ => True) ho0 (fun k_ hk_ => trivial)) (below_size bel)); have n2_ := Aside0.mk (below_step bel hb); clear HO851; clear HB; have HO851 := n0_; have HO857 := n1_; have HB := n2_; clear n0_ n1_ n2_; (try clear hb); (try clear hb2); (try clear hk); (try clear hi); (try clear ho0); obtain ⟨Ao29, co29, eo29⟩ := Kd.V_slice HO857.out; subst eo29) | (go_at_call 33; (with_reducible refine (cellarerref02_Neg.calls k t854 (fun k_ => True) _ _ t855 t858 t859 _ ?side1 ?side2 A26.out).mono ?_); (case side1 => exact GOK.below hG.out bel); (case side2 => exact HO857.out); rintro e w30 ⟨v860, rfl, ho0, hb⟩; have n0_ := Aside0.mk (Kd.V_below (kv HO851.out) hb); have n1_ := Aside0.mk (Kd.V_below (kv HO857.out) hb); have n2_ := Aside0.mk (Kd.V_lower (Kd.V_mono (ok' := fun k_ => True) ho0 (fun k_ hk_ => trivial)) (below_size bel)); have n3_ := Aside0.mk (below_step bel hb); clear HO851; clear HO857; clear HB; have HO851 := n0_; have HO857 := n1_; have HO861 := n2_; have HB := n3_; clear n0_ n1_ n2_ n3_; (try clear hb); (try clear hb2); (try clear hk); (try clear hi); (try clear ho0); obtain ⟨Ao31, co31, eo31⟩ := Kd.V_slice HO861.out; subst eo31) | (go_at_call 20; (with_reducible refine (cellarerref02_Text.calls k t858 _ _ t859 t862 _ ?side1 ?side2 ?side3 A27.out).mono ?_); (case side1 => exact GOK.below hG.out bel); (case side2 => exact kc ((Kd.V_reads' HO861.out).2.2)); (case side3 => exact (Kd.V_reads' HO861.out).2.1); rintro e w32 ⟨rfl, hb⟩; have n0_ := Aside0.mk (Kd.V_below (kv HO851.out) hb); have n1_ := Aside0.mk (Kd.V_below (kv HO857.out) hb); have n2_ := Aside0.mk (Kd.V_below (kv HO861.out) hb); have n3_ := Aside0.mk (below_step bel hb); clear HO851; clear HO857; clear HO861; clear HB; have HO851 := n0_; have HO857 := n1_; have HO861 := n2_; have HB := n3_; clear n0_ n1_ n2_ n3_; (try clear hb); (try clear hb2); (try clear hk); (try clear hi)))
       go_meet
       case rel => exact ⟨_, ((t846.toList != t862.toList)), (by first | rfl | (simp; done) | (simp [*]; done)), H', ⟨by first | omega | exact Nat.le_refl _⟩, ⟨bel⟩⟩
     ·rw [if_neg c23] at H
      have c23b0 : (t843 == t852) = false := beq_eq_false_iff_ne.mpr c23
      have c23b1 : (t843 != t852) = true := bne_iff_ne.mpr c23
      (first | rw [c23b0] | rw [c23b1] | (simp only [i64_w, i32_w]; rw [c23b0]) | skip)
      have H' := Aside0.mk H
      clear H
      go_wp2
      go_meet
      case rel => exact ⟨_, (true), (by first | rfl | (simp; done) | (simp [*]; done)), H', ⟨by first | omega | exact Nat.le_refl _⟩, ⟨bel⟩⟩
    case rest =>
     clear HC15
     (try clear c1); (try clear c2); (try clear p2); (try clear c3); (try clear c4); (try clear c6); (try clear c10); (try clear c11); (try clear c12); (try clear c15); (try clear c16); (try clear c23); (try clear c23b0); (try clear c23b1); (try clear c24); (try clear c24b0); (try clear c24b1); (try clear c24b2); (try clear c28); (try clear c30); (try clear c31); (try clear c32)
     obtain ⟨kq, x64_14, rfl, HA, HJ14, HB⟩ := hcut
     cases kq with
     | zero => exact absurd HA.out (by simp [cellarerlaw02_IntegerOrders.j0])
     | succ kj14 =>
      have H := HA.out
      clear HA
      simp only [cellarerlaw02_IntegerOrders.j0] at H
      by_cases c33 : x64_14 = true
      ·subst c33
       have H1 : (some false) = some r := by rw [if_pos rfl] at H; exact H
       clear H
       have H := H1
       clear H1
       obtain rfl := Option.some.inj H
       go_wp2
       go_ret
       exact ⟨by first | rfl | (simp [errW_none, errW_some] <;> rfl) | (simp [*, errW_none, errW_some] <;> rfl), bel⟩
      ·replace c33 := Bool.eq_false_iff.mpr c33
       subst c33
       have H1 : ((cellarerref02_Valid.f kj14 a1).bind fun t863 => (if t863 = true then ((cellarerref02_Of.f kj14 a0).bind fun bt864 => ((cellarerref02_Of.f kj14 a1).bind fun bt868 => ((cellarerref02_Cmp.f kj14 bt864.1 bt864.2 bt868.1 bt868.2).bind fun t872 => (some (t845 == t872))))) else (some (t845 == 0)))) = some r := by rw [if_neg (show ¬ (false = true) by decide)] at H; exact H
       clear H
       have H := H1
       clear H1
       replace H := Option.bind_eq_some_iff.mp H
       obtain ⟨t863, A340, H⟩ := H
       replace H : (if t863 = true then ((cellarerref02_Of.f kj14 a0).bind fun bt864 => ((cellarerref02_Of.f kj14 a1).bind fun bt868 => ((cellarerref02_Cmp.f kj14 bt864.1 bt864.2 bt868.1 bt868.2).bind fun t872 => (some (t845 == t872))))) else (some (t845 == 0))) = some r := H
       have A34 := Aside0.mk A340
       clear A340
       by_cases c35 : t863 = true
       ·subst c35
        have H1 : ((cellarerref02_Of.f kj14 a0).bind fun bt864 => ((cellarerref02_Of.f kj14 a1).bind fun bt868 => ((cellarerref02_Cmp.f kj14 bt864.1 bt864.2 bt868.1 bt868.2).bind fun t872 => (some (t845 == t872))))) = some r := by rw [if_pos rfl] at H; exact H
        clear H
        have H := H1
        clear H1
        replace H := Option.bind_eq_some_iff.mp H
        obtain ⟨⟨t864, t865⟩, A360, H⟩ := H
        replace H : ((cellarerref02_Of.f kj14 a1).bind fun bt868 => ((cellarerref02_Cmp.f kj14 t864 t865 bt868.1 bt868.2).bind fun t872 => (some (t845 == t872)))) = some r := H
        have A36 := Aside0.mk A360
        clear A360
        replace H := Option.bind_eq_some_iff.mp H
        obtain ⟨⟨t868, t869⟩, A370, H⟩ := H
        replace H : ((cellarerref02_Cmp.f kj14 t864 t865 t868 t869).bind fun t872 => (some (t845 == t872))) = some r := H
        have A37 := Aside0.mk A370
        clear A370
        replace H := Option.bind_eq_some_iff.mp H
        obtain ⟨t872, A380, H⟩ := H
        replace H : (some (t845 == t872)) = some r := H
        have A38 := Aside0.mk A380
        clear A380
        obtain rfl := Option.some.inj H
        go_wp2_with (first | ((with_reducible refine gate_callee (f := 15) rfl ?_); refine goesL_ (some 66) rfl rfl Tryd.func15 (by kernel_rfl) rfl #[.string a1] rfl ag ?_; (with_reducible refine (cellarerref02_Valid.calls kj14 a1 true _ ?side1 A34.out).mono ?_); (case side1 => exact GOK.below hG.out bel); rintro e w' ⟨rfl, ⟨nd, rfl⟩⟩; refine ⟨_, rfl, ?_⟩) | ((with_reducible refine gate_callee (f := 16) rfl ?_); refine goesL_ (some 72) rfl rfl Tryd.func16 (by kernel_rfl) rfl #[.string a0] rfl ag ?_; (with_reducible refine (cellarerref02_Of.calls kj14 a0 t864 t865 _ ?side1 A36.out).mono ?_); (case side1 => exact GOK.below hG.out bel); rintro e w39 ⟨v866, rfl, ho0, hb⟩; refine ⟨_, rfl, ?_⟩; have n0_ := Aside0.mk (Kd.V_lower (Kd.V_mono (ok' := fun k_ => True) ho0 (fun k_ hk_ => trivial)) (below_size bel)); have n1_ := Aside0.mk (below_step bel hb); clear HB; have HO867 := n0_; have HB := n1_; clear n0_ n1_; (try clear hb); (try clear hb2); (try clear hk); (try clear hi); (try clear ho0)) | ((with_reducible refine gate_callee (f := 16) rfl ?_); refine goesL_ (some 74) rfl rfl Tryd.func16 (by kernel_rfl) rfl #[.string a1] rfl ag ?_; (with_reducible refine (cellarerref02_Of.calls kj14 a1 t868 t869 _ ?side1 A37.out).mono ?_); (case side1 => exact GOK.below hG.out bel); rintro e w40 ⟨v870, rfl, ho0, hb⟩; refine ⟨_, rfl, ?_⟩; have n0_ := Aside0.mk (Kd.V_below (kv HO867.out) hb); have n1_ := Aside0.mk (Kd.V_lower (Kd.V_mono (ok' := fun k_ => True) ho0 (fun k_ hk_ => trivial)) (below_size bel)); have n2_ := Aside0.mk (below_step bel hb); clear HO867; clear HB; have HO867 := n0_; have HO871 := n1_; have HB := n2_; clear n0_ n1_ n2_; (try clear hb); (try clear hb2); (try clear hk); (try clear hi); (try clear ho0); obtain ⟨Ao41, co41, eo41⟩ := Kd.V_slice HO867.out; subst eo41; obtain ⟨Ao42, co42, eo42⟩ := Kd.V_slice HO871.out; subst eo42) | ((with_reducible refine gate_callee (f := 34) rfl ?_); refine goesL_ (some 75) rfl rfl Tryd.func34 (by kernel_rfl) rfl #[.agg #[.bool t864, .slice Ao41 t865.length co41], .agg #[.bool t868, .slice Ao42 t869.length co42]] rfl ag ?_; (with_reducible refine (cellarerref02_Cmp.calls kj14 t864 _ _ t865 t868 _ _ t869 t872 _ ?side1 ?side2 ?side3 ?side4 ?side5 A38.out).mono ?_); (case side1 => exact GOK.below hG.out bel); (case side2 => exact kc ((Kd.V_reads' HO867.out).2.2)); (case side3 => exact (Kd.V_reads' HO867.out).2.1); (case side4 => exact kc ((Kd.V_reads' HO871.out).2.2)); (case side5 => exact (Kd.V_reads' HO871.out).2.1); rintro e w43 ⟨rfl, hb⟩; refine ⟨_, rfl, ?_⟩; have n0_ := Aside0.mk (Kd.V_below (kv HO867.out) hb); have n1_ := Aside0.mk (Kd.V_below (kv HO871.out) hb); have n2_ := Aside0.mk (below_step bel hb); clear HO867; clear HO871; clear HB; have HO867 := n0_; have HO871 := n1_; have HB := n2_; clear n0_ n1_ n2_; (try clear hb); (try clear hb2); (try clear hk); (try clear hi)))
        go_ret
        exact ⟨by first | rfl | (simp [errW_none, errW_some] <;> rfl) | (simp [*, errW_none, errW_some] <;> rfl), bel⟩
       ·replace c35 := Bool.eq_false_iff.mpr c35
        subst c35
        have H1 : (some (t845 == 0)) = some r := by rw [if_neg (show ¬ (false = true) by decide)] at H; exact H
        clear H
        have H := H1
        clear H1
        obtain rfl := Option.some.inj H
        go_wp2_with (first | ((with_reducible refine gate_callee (f := 15) rfl ?_); refine goesL_ (some 66) rfl rfl Tryd.func15 (by kernel_rfl) rfl #[.string a1] rfl ag ?_; (with_reducible refine (cellarerref02_Valid.calls kj14 a1 false _ ?side1 A34.out).mono ?_); (case side1 => exact GOK.below hG.out bel); rintro e w' ⟨rfl, ⟨nd, rfl⟩⟩; refine ⟨_, rfl, ?_⟩))
        go_ret
        exact ⟨by first | rfl | (simp [errW_none, errW_some] <;> rfl) | (simp [*, errW_none, errW_some] <;> rfl), bel⟩
   ·replace c12 := Bool.eq_false_iff.mpr c12
    subst c12
    have H1 : (if t845 = 0 then (if t846.toList = ([] : List UInt8) then (if t843 = 0 then (some (!t844)) else (some false)) else (some false)) else (some false)) = some r := by rw [if_neg (show ¬ (false = true) by decide)] at H; exact H
    clear H
    have H := H1
    clear H1
    by_cases c44 : t845 = 0
    ·rw [if_pos c44] at H
     have c44b0 : (t845 == 0) = true := beq_iff_eq.mpr c44
     have c44b1 : (t845 != 0) = false := bne_eq_false_iff_eq.mpr c44
     clear c44
     by_cases c45 : t846.toList = ([] : List UInt8)
     ·rw [if_pos c45] at H
      have c45b0 : (t846.toList == ([] : List UInt8)) = true := beq_iff_eq.mpr c45
      have c45b1 : (t846.toList != ([] : List UInt8)) = false := bne_eq_false_iff_eq.mpr c45
      clear c45
      by_cases c46 : t843 = 0
      ·rw [if_pos c46] at H
       have c46b0 : (t843 == 0) = true := beq_iff_eq.mpr c46
       have c46b1 : (t843 != 0) = false := bne_eq_false_iff_eq.mpr c46
       clear c46
       obtain rfl := Option.some.inj H
       go_enter Tryd.func10, Tryd.ntmps10
       go_wp2_with (first | ((with_reducible refine gate_callee (f := 11) rfl ?_); refine goesL_ (some 11) rfl rfl Tryd.func11 (by kernel_rfl) rfl #[] rfl ag ?_; (with_reducible refine (cellarerlaw02_awake.calls k  true _ ?side1 A3.out).mono ?_); (case side1 => exact GOK.below hG.out bel); rintro e w47 ⟨rfl, hb⟩; refine ⟨_, rfl, ?_⟩; have n0_ := Aside0.mk (below_step bel hb); clear HB; have HB := n0_; clear n0_; (try clear hb); (try clear hb2); (try clear hk); (try clear hi)) | ((with_reducible refine gate_callee (f := 12) rfl ?_); refine goesL_ (some 15) rfl rfl Tryd.func12 (by kernel_rfl) rfl #[.string a0, .string a1] rfl ag ?_; (with_reducible refine (cellarerlaw02_long.calls a0 a1 false _ ?side1 A5.out).mono ?_); (case side1 => exact GOK.below hG.out bel); rintro e w' ⟨rfl, ⟨nd, rfl⟩⟩; refine ⟨_, rfl, ?_⟩) | ((with_reducible refine gate_callee (f := 30) rfl ?_); refine goesL_ (some 18) rfl rfl Tryd.func30 (by kernel_rfl) rfl #[.string a0] rfl ag ?_; (with_reducible refine (integer_Small.calls k a0 t843 t844 _ ?side1 A8.out).mono ?_); (case side1 => exact GOK.below hG.out bel); rintro e w48 ⟨rfl, hb⟩; refine ⟨_, rfl, ?_⟩; have n0_ := Aside0.mk (below_step bel hb); clear HB; have HB := n0_; clear n0_; (try clear hb); (try clear hb2); (try clear hk); (try clear hi)) | ((with_reducible refine gate_callee (f := 28) rfl ?_); refine goesL_ (some 23) rfl rfl Tryd.func28 (by kernel_rfl) rfl #[.string a0, .string a1] rfl ag ?_; (with_reducible refine (integer_Cmp.calls k a0 a1 t845 _ ?side1 A9.out).mono ?_); (case side1 => exact GOK.below hG.out bel); rintro e w49 ⟨rfl, hb⟩; refine ⟨_, rfl, ?_⟩; have n0_ := Aside0.mk (below_step bel hb); clear HB; have HB := n0_; clear n0_; (try clear hb); (try clear hb2); (try clear hk); (try clear hi)) | ((with_reducible refine gate_callee (f := 31) rfl ?_); refine goesL_ (some 25) rfl rfl Tryd.func31 (by kernel_rfl) rfl #[.string a0] rfl ag ?_; (with_reducible refine (integer_Neg.calls k a0 t846 _ ?side1 A10.out).mono ?_); (case side1 => exact GOK.below hG.out bel); rintro e w50 ⟨rfl, hb⟩; refine ⟨_, rfl, ?_⟩; have n0_ := Aside0.mk (below_step bel hb); clear HB; have HB := n0_; clear n0_; (try clear hb); (try clear hb2); (try clear hk); (try clear hi)) | ((with_reducible refine gate_callee (f := 15) rfl ?_); refine goesL_ (some 27) rfl rfl Tryd.func15 (by kernel_rfl) rfl #[.string a0] rfl ag ?_; (with_reducible refine (cellarerref02_Valid.calls k a0 false _ ?side1 A11.out).mono ?_); (case side1 => exact GOK.below hG.out bel); rintro e w' ⟨rfl, ⟨nd, rfl⟩⟩; refine ⟨_, rfl, ?_⟩))
       go_ret
       exact ⟨by first | rfl | (simp [errW_none, errW_some] <;> rfl) | (simp [*, errW_none, errW_some] <;> rfl), bel⟩
      ·rw [if_neg c46] at H
       have c46b0 : (t843 == 0) = false := beq_eq_false_iff_ne.mpr c46
       have c46b1 : (t843 != 0) = true := bne_iff_ne.mpr c46
       obtain rfl := Option.some.inj H
       go_enter Tryd.func10, Tryd.ntmps10
       go_wp2_with (first | ((with_reducible refine gate_callee (f := 11) rfl ?_); refine goesL_ (some 11) rfl rfl Tryd.func11 (by kernel_rfl) rfl #[] rfl ag ?_; (with_reducible refine (cellarerlaw02_awake.calls k  true _ ?side1 A3.out).mono ?_); (case side1 => exact GOK.below hG.out bel); rintro e w51 ⟨rfl, hb⟩; refine ⟨_, rfl, ?_⟩; have n0_ := Aside0.mk (below_step bel hb); clear HB; have HB := n0_; clear n0_; (try clear hb); (try clear hb2); (try clear hk); (try clear hi)) | ((with_reducible refine gate_callee (f := 12) rfl ?_); refine goesL_ (some 15) rfl rfl Tryd.func12 (by kernel_rfl) rfl #[.string a0, .string a1] rfl ag ?_; (with_reducible refine (cellarerlaw02_long.calls a0 a1 false _ ?side1 A5.out).mono ?_); (case side1 => exact GOK.below hG.out bel); rintro e w' ⟨rfl, ⟨nd, rfl⟩⟩; refine ⟨_, rfl, ?_⟩) | ((with_reducible refine gate_callee (f := 30) rfl ?_); refine goesL_ (some 18) rfl rfl Tryd.func30 (by kernel_rfl) rfl #[.string a0] rfl ag ?_; (with_reducible refine (integer_Small.calls k a0 t843 t844 _ ?side1 A8.out).mono ?_); (case side1 => exact GOK.below hG.out bel); rintro e w52 ⟨rfl, hb⟩; refine ⟨_, rfl, ?_⟩; have n0_ := Aside0.mk (below_step bel hb); clear HB; have HB := n0_; clear n0_; (try clear hb); (try clear hb2); (try clear hk); (try clear hi)) | ((with_reducible refine gate_callee (f := 28) rfl ?_); refine goesL_ (some 23) rfl rfl Tryd.func28 (by kernel_rfl) rfl #[.string a0, .string a1] rfl ag ?_; (with_reducible refine (integer_Cmp.calls k a0 a1 t845 _ ?side1 A9.out).mono ?_); (case side1 => exact GOK.below hG.out bel); rintro e w53 ⟨rfl, hb⟩; refine ⟨_, rfl, ?_⟩; have n0_ := Aside0.mk (below_step bel hb); clear HB; have HB := n0_; clear n0_; (try clear hb); (try clear hb2); (try clear hk); (try clear hi)) | ((with_reducible refine gate_callee (f := 31) rfl ?_); refine goesL_ (some 25) rfl rfl Tryd.func31 (by kernel_rfl) rfl #[.string a0] rfl ag ?_; (with_reducible refine (integer_Neg.calls k a0 t846 _ ?side1 A10.out).mono ?_); (case side1 => exact GOK.below hG.out bel); rintro e w54 ⟨rfl, hb⟩; refine ⟨_, rfl, ?_⟩; have n0_ := Aside0.mk (below_step bel hb); clear HB; have HB := n0_; clear n0_; (try clear hb); (try clear hb2); (try clear hk); (try clear hi)) | ((with_reducible refine gate_callee (f := 15) rfl ?_); refine goesL_ (some 27) rfl rfl Tryd.func15 (by kernel_rfl) rfl #[.string a0] rfl ag ?_; (with_reducible refine (cellarerref02_Valid.calls k a0 false _ ?side1 A11.out).mono ?_); (case side1 => exact GOK.below hG.out bel); rintro e w' ⟨rfl, ⟨nd, rfl⟩⟩; refine ⟨_, rfl, ?_⟩))
       go_ret
       exact ⟨by first | rfl | (simp [errW_none, errW_some] <;> rfl) | (simp [*, errW_none, errW_some] <;> rfl), bel⟩
     ·rw [if_neg c45] at H
      have c45b0 : (t846.toList == ([] : List UInt8)) = false := beq_eq_false_iff_ne.mpr c45
      have c45b1 : (t846.toList != ([] : List UInt8)) = true := bne_iff_ne.mpr c45
      obtain rfl := Option.some.inj H
      go_enter Tryd.func10, Tryd.ntmps10
      go_wp2_with (first | ((with_reducible refine gate_callee (f := 11) rfl ?_); refine goesL_ (some 11) rfl rfl Tryd.func11 (by kernel_rfl) rfl #[] rfl ag ?_; (with_reducible refine (cellarerlaw02_awake.calls k  true _ ?side1 A3.out).mono ?_); (case side1 => exact GOK.below hG.out bel); rintro e w55 ⟨rfl, hb⟩; refine ⟨_, rfl, ?_⟩; have n0_ := Aside0.mk (below_step bel hb); clear HB; have HB := n0_; clear n0_; (try clear hb); (try clear hb2); (try clear hk); (try clear hi)) | ((with_reducible refine gate_callee (f := 12) rfl ?_); refine goesL_ (some 15) rfl rfl Tryd.func12 (by kernel_rfl) rfl #[.string a0, .string a1] rfl ag ?_; (with_reducible refine (cellarerlaw02_long.calls a0 a1 false _ ?side1 A5.out).mono ?_); (case side1 => exact GOK.below hG.out bel); rintro e w' ⟨rfl, ⟨nd, rfl⟩⟩; refine ⟨_, rfl, ?_⟩) | ((with_reducible refine gate_callee (f := 30) rfl ?_); refine goesL_ (some 18) rfl rfl Tryd.func30 (by kernel_rfl) rfl #[.string a0] rfl ag ?_; (with_reducible refine (integer_Small.calls k a0 t843 t844 _ ?side1 A8.out).mono ?_); (case side1 => exact GOK.below hG.out bel); rintro e w56 ⟨rfl, hb⟩; refine ⟨_, rfl, ?_⟩; have n0_ := Aside0.mk (below_step bel hb); clear HB; have HB := n0_; clear n0_; (try clear hb); (try clear hb2); (try clear hk); (try clear hi)) | ((with_reducible refine gate_callee (f := 28) rfl ?_); refine goesL_ (some 23) rfl rfl Tryd.func28 (by kernel_rfl) rfl #[.string a0, .string a1] rfl ag ?_; (with_reducible refine (integer_Cmp.calls k a0 a1 t845 _ ?side1 A9.out).mono ?_); (case side1 => exact GOK.below hG.out bel); rintro e w57 ⟨rfl, hb⟩; refine ⟨_, rfl, ?_⟩; have n0_ := Aside0.mk (below_step bel hb); clear HB; have HB := n0_; clear n0_; (try clear hb); (try clear hb2); (try clear hk); (try clear hi)) | ((with_reducible refine gate_callee (f := 31) rfl ?_); refine goesL_ (some 25) rfl rfl Tryd.func31 (by kernel_rfl) rfl #[.string a0] rfl ag ?_; (with_reducible refine (integer_Neg.calls k a0 t846 _ ?side1 A10.out).mono ?_); (case side1 => exact GOK.below hG.out bel); rintro e w58 ⟨rfl, hb⟩; refine ⟨_, rfl, ?_⟩; have n0_ := Aside0.mk (below_step bel hb); clear HB; have HB := n0_; clear n0_; (try clear hb); (try clear hb2); (try clear hk); (try clear hi)) | ((with_reducible refine gate_callee (f := 15) rfl ?_); refine goesL_ (some 27) rfl rfl Tryd.func15 (by kernel_rfl) rfl #[.string a0] rfl ag ?_; (with_reducible refine (cellarerref02_Valid.calls k a0 false _ ?side1 A11.out).mono ?_); (case side1 => exact GOK.below hG.out bel); rintro e w' ⟨rfl, ⟨nd, rfl⟩⟩; refine ⟨_, rfl, ?_⟩))
      go_ret
      exact ⟨by first | rfl | (simp [errW_none, errW_some] <;> rfl) | (simp [*, errW_none, errW_some] <;> rfl), bel⟩
    ·rw [if_neg c44] at H
     have c44b0 : (t845 == 0) = false := beq_eq_false_iff_ne.mpr c44
     have c44b1 : (t845 != 0) = true := bne_iff_ne.mpr c44
     obtain rfl := Option.some.inj H
     go_enter Tryd.func10, Tryd.ntmps10
     go_wp2_with (first | ((with_reducible refine gate_callee (f := 11) rfl ?_); refine goesL_ (some 11) rfl rfl Tryd.func11 (by kernel_rfl) rfl #[] rfl ag ?_; (with_reducible refine (cellarerlaw02_awake.calls k  true _ ?side1 A3.out).mono ?_); (case side1 => exact GOK.below hG.out bel); rintro e w59 ⟨rfl, hb⟩; refine ⟨_, rfl, ?_⟩; have n0_ := Aside0.mk (below_step bel hb); clear HB; have HB := n0_; clear n0_; (try clear hb); (try clear hb2); (try clear hk); (try clear hi)) | ((with_reducible refine gate_callee (f := 12) rfl ?_); refine goesL_ (some 15) rfl rfl Tryd.func12 (by kernel_rfl) rfl #[.string a0, .string a1] rfl ag ?_; (with_reducible refine (cellarerlaw02_long.calls a0 a1 false _ ?side1 A5.out).mono ?_); (case side1 => exact GOK.below hG.out bel); rintro e w' ⟨rfl, ⟨nd, rfl⟩⟩; refine ⟨_, rfl, ?_⟩) | ((with_reducible refine gate_callee (f := 30) rfl ?_); refine goesL_ (some 18) rfl rfl Tryd.func30 (by kernel_rfl) rfl #[.string a0] rfl ag ?_; (with_reducible refine (integer_Small.calls k a0 t843 t844 _ ?side1 A8.out).mono ?_); (case side1 => exact GOK.below hG.out bel); rintro e w60 ⟨rfl, hb⟩; refine ⟨_, rfl, ?_⟩; have n0_ := Aside0.mk (below_step bel hb); clear HB; have HB := n0_; clear n0_; (try clear hb); (try clear hb2); (try clear hk); (try clear hi)) | ((with_reducible refine gate_callee (f := 28) rfl ?_); refine goesL_ (some 23) rfl rfl Tryd.func28 (by kernel_rfl) rfl #[.string a0, .string a1] rfl ag ?_; (with_reducible refine (integer_Cmp.calls k a0 a1 t845 _ ?side1 A9.out).mono ?_); (case side1 => exact GOK.below hG.out bel); rintro e w61 ⟨rfl, hb⟩; refine ⟨_, rfl, ?_⟩; have n0_ := Aside0.mk (below_step bel hb); clear HB; have HB := n0_; clear n0_; (try clear hb); (try clear hb2); (try clear hk); (try clear hi)) | ((with_reducible refine gate_callee (f := 31) rfl ?_); refine goesL_ (some 25) rfl rfl Tryd.func31 (by kernel_rfl) rfl #[.string a0] rfl ag ?_; (with_reducible refine (integer_Neg.calls k a0 t846 _ ?side1 A10.out).mono ?_); (case side1 => exact GOK.below hG.out bel); rintro e w62 ⟨rfl, hb⟩; refine ⟨_, rfl, ?_⟩; have n0_ := Aside0.mk (below_step bel hb); clear HB; have HB := n0_; clear n0_; (try clear hb); (try clear hb2); (try clear hk); (try clear hi)) | ((with_reducible refine gate_callee (f := 15) rfl ?_); refine goesL_ (some 27) rfl rfl Tryd.func15 (by kernel_rfl) rfl #[.string a0] rfl ag ?_; (with_reducible refine (cellarerref02_Valid.calls k a0 false _ ?side1 A11.out).mono ?_); (case side1 => exact GOK.below hG.out bel); rintro e w' ⟨rfl, ⟨nd, rfl⟩⟩; refine ⟨_, rfl, ?_⟩))
     go_ret
     exact ⟨by first | rfl | (simp [errW_none, errW_some] <;> rfl) | (simp [*, errW_none, errW_some] <;> rfl), bel⟩
 ·replace c4 := Bool.eq_false_iff.mpr c4
  subst c4
  have H1 : (some false) = some r := by rw [if_neg (show ¬ (false = true) by decide)] at H; exact H
  clear H
  have H := H1
  clear H1
  obtain rfl := Option.some.inj H
  go_enter Tryd.func10, Tryd.ntmps10
  go_wp2_with (first | ((with_reducible refine gate_callee (f := 11) rfl ?_); refine goesL_ (some 11) rfl rfl Tryd.func11 (by kernel_rfl) rfl #[] rfl ag ?_; (with_reducible refine (cellarerlaw02_awake.calls k  false _ ?side1 A3.out).mono ?_); (case side1 => exact GOK.below hG.out bel); rintro e w63 ⟨rfl, hb⟩; refine ⟨_, rfl, ?_⟩; have n0_ := Aside0.mk (below_step bel hb); clear HB; have HB := n0_; clear n0_; (try clear hb); (try clear hb2); (try clear hk); (try clear hi)))
  go_ret
  exact ⟨by first | rfl | (simp [errW_none, errW_some] <;> rfl) | (simp [*, errW_none, errW_some] <;> rfl), bel⟩

theorem cellarerlaw02_IntegerOrders.walk (P : cellarerlaw02_IntegerOrders.Pure) (a0 : ByteArray) (a1 : ByteArray) (w : World) (hG : GOK w) (w0 : a0.size ≤ 140737488351232) (w1 : a1.size ≤ 140737488351232) :
  Calls Tryd.prog 10 #[.string a0, .string a1] w fun e w' => e = .returned (.bool true) ∧ Below w.heap.size w w' := by
 obtain ⟨k, h⟩ := P a0 a1 w0 w1
 refine (cellarerlaw02_IntegerOrders.calls k a0 a1 true w hG h).mono ?_
 rintro e w' ⟨rfl, hd⟩
 exact ⟨rfl, hd⟩

end Go.Proofs.YtdnjlmoggnbknaaDoor.PInt
