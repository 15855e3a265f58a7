-- Written by a program of this session's (xprint.py) over the kit's print.
import Derived.Test.YtdnjlmoggnbknaaDoorPIntx14
import Derived.Test.YtdnjlmoggnbknaaDoorPIntx0
import Derived.Test.YtdnjlmoggnbknaaDoorPIntx8
import Derived.Test.YtdnjlmoggnbknaaDoorPIntx9
import Derived.Test.YtdnjlmoggnbknaaDoorPIntx10
import Derived.Test.YtdnjlmoggnbknaaDoorPIntx13
import Derived.Test.YtdnjlmoggnbknaaDoorPIntD
import Derived.Test.YtdnjlmoggnbknaaDoorAuto
namespace Go.Proofs.YtdnjlmoggnbknaaDoor.PInt
open Go.RowKit Go.Proofs.YtdnjlmoggnbknaaDoor.Ext Go.Proofs.YtdnjlmoggnbknaaDoorW.PrintWords Go.Proofs.YtdnjlmoggnbknaaDoorW.PrintLast Go.Proofs.YtdnjlmoggnbknaaDoorW.PrintMore
attribute [local go_sem high] gtr_print leq_print
attribute [local go_sem] max2_int min2_int max_two min_two max_three min_three max_four min_four   -- for this text's walks alone
set_option linter.unusedVariables false
set_option linter.unusedSimpArgs false

/-! ### cellarerlaw02_IntegerMultiplies: function 5 -/
set_option maxHeartbeats 8000000 in
set_option maxRecDepth 100000 in
theorem cellarerlaw02_IntegerMultiplies.calls (k : Nat) (a0 : ByteArray) (a1 : ByteArray) (r : Bool) (w : World) (hG : GOK w) (h : cellarerlaw02_IntegerMultiplies.f k a0 a1 = some r) :
  Calls Tryd.prog 5 #[.string a0, .string a1] w fun e w' => e = .returned (.bool r) ∧ Below w.heap.size w w' := by
 replace hG := Aside0.mk hG
 have HB := Aside0.mk (Below.refl w.heap.size w)
 have H : ((cellarerlaw02_awake.f k).bind fun t562 => (if t562 = true then ((cellarerlaw02_long.f a0 a1).bind fun t563 => (if t563 = true then (some true) else ((integer_Mul.f k a0 a1).bind fun bt564 => ((cellarerref02_Valid.f k a0).bind fun t566 => (if t566 = true then ((cellarerref02_Valid.f k a1).bind fun t567 => (cellarerlaw02_IntegerMultiplies.j0 k a0 a1 bt564.1 bt564.2 (!t567))) else (cellarerlaw02_IntegerMultiplies.j0 k a0 a1 bt564.1 bt564.2 true)))))) else (some false))) = some r := h
 clear h
 replace H := Option.bind_eq_some_iff.mp H
 obtain ⟨t562, A30, H⟩ := H
 replace H : (if t562 = true then ((cellarerlaw02_long.f a0 a1).bind fun t563 => (if t563 = true then (some true) else ((integer_Mul.f k a0 a1).bind fun bt564 => ((cellarerref02_Valid.f k a0).bind fun t566 => (if t566 = true then ((cellarerref02_Valid.f k a1).bind fun t567 => (cellarerlaw02_IntegerMultiplies.j0 k a0 a1 bt564.1 bt564.2 (!t567))) else (cellarerlaw02_IntegerMultiplies.j0 k a0 a1 bt564.1 bt564.2 true)))))) else (some false)) = some r := H
 have A3 := Aside0.mk A30
 clear A30
 by_cases c4 : t562 = true
 ·subst c4
  have H1 : ((cellarerlaw02_long.f a0 a1).bind fun t563 => (if t563 = true then (some true) else ((integer_Mul.f k a0 a1).bind fun bt564 => ((cellarerref02_Valid.f k a0).bind fun t566 => (if t566 = true then ((cellarerref02_Valid.f k a1).bind fun t567 => (cellarerlaw02_IntegerMultiplies.j0 k a0 a1 bt564.1 bt564.2 (!t567))) else (cellarerlaw02_IntegerMultiplies.j0 k a0 a1 bt564.1 bt564.2 true)))))) = some r := by rw [if_pos rfl] at H; exact H
  clear H
  have H := H1
  clear H1
  replace H := Option.bind_eq_some_iff.mp H
  obtain ⟨t563, A50, H⟩ := H
  replace H : (if t563 = true then (some true) else ((integer_Mul.f k a0 a1).bind fun bt564 => ((cellarerref02_Valid.f k a0).bind fun t566 => (if t566 = true then ((cellarerref02_Valid.f k a1).bind fun t567 => (cellarerlaw02_IntegerMultiplies.j0 k a0 a1 bt564.1 bt564.2 (!t567))) else (cellarerlaw02_IntegerMultiplies.j0 k a0 a1 bt564.1 bt564.2 true))))) = some r := H
  have A5 := Aside0.mk A50
  clear A50
  by_cases c6 : t563 = true
  ·subst c6
   have H1 : (some true) = some r := by rw [if_pos rfl] at H; exact H
   clear H
   have H := H1
   clear H1
   obtain rfl := Option.some.inj H
   go_enter Tryd.func5, Tryd.ntmps5
   go_wp2_with (first | ((with_reducible refine gate_callee (f := 11) rfl ?_); refine goesL_ (some 7) rfl rfl Tryd.func11 (by kernel_rfl) rfl #[] rfl ag ?_; (with_reducible refine (cellarerlaw02_awake.calls k  true _ ?side1 A3.out).mono ?_); (case side1 => exact GOK.below hG.out bel); rintro e w7 ⟨rfl, hb⟩; refine ⟨_, rfl, ?_⟩; have n0_ := Aside0.mk (below_step bel hb); clear HB; have HB := n0_; clear n0_; (try clear hb); (try clear hb2); (try clear hk); (try clear hi)) | ((with_reducible refine gate_callee (f := 12) rfl ?_); refine goesL_ (some 11) rfl rfl Tryd.func12 (by kernel_rfl) rfl #[.string a0, .string a1] rfl ag ?_; (with_reducible refine (cellarerlaw02_long.calls a0 a1 true _ ?side1 A5.out).mono ?_); (case side1 => exact GOK.below hG.out bel); rintro e w' ⟨rfl, ⟨nd, rfl⟩⟩; refine ⟨_, rfl, ?_⟩))
   go_ret
   exact ⟨by first | rfl | (simp [errW_none, errW_some] <;> rfl) | (simp [*, errW_none, errW_some] <;> rfl), bel⟩
  ·replace c6 := Bool.eq_false_iff.mpr c6
   subst c6
   have H1 : ((integer_Mul.f k a0 a1).bind fun bt564 => ((cellarerref02_Valid.f k a0).bind fun t566 => (if t566 = true then ((cellarerref02_Valid.f k a1).bind fun t567 => (cellarerlaw02_IntegerMultiplies.j0 k a0 a1 bt564.1 bt564.2 (!t567))) else (cellarerlaw02_IntegerMultiplies.j0 k a0 a1 bt564.1 bt564.2 true)))) = some r := by rw [if_neg (show ¬ (false = true) by decide)] at H; exact H
   clear H
   have H := H1
   clear H1
   replace H := Option.bind_eq_some_iff.mp H
   obtain ⟨⟨t564, t565⟩, A80, H⟩ := H
   replace H : ((cellarerref02_Valid.f k a0).bind fun t566 => (if t566 = true then ((cellarerref02_Valid.f k a1).bind fun t567 => (cellarerlaw02_IntegerMultiplies.j0 k a0 a1 t564 t565 (!t567))) else (cellarerlaw02_IntegerMultiplies.j0 k a0 a1 t564 t565 true))) = some r := H
   have A8 := Aside0.mk A80
   clear A80
   have HC9 := Aside0.mk H
   clear H
   go_enter Tryd.func5, Tryd.ntmps5
   go_upto_region 6 with (first | ((with_reducible refine gate_callee (f := 11) rfl ?_); refine goesL_ (some 7) rfl rfl Tryd.func11 (by kernel_rfl) rfl #[] rfl ag ?_; (with_reducible refine (cellarerlaw02_awake.calls k  true _ ?side1 A3.out).mono ?_); (case side1 => exact GOK.below hG.out bel); rintro e w10 ⟨rfl, hb⟩; refine ⟨_, rfl, ?_⟩; have n0_ := Aside0.mk (below_step bel hb); clear HB; have HB := n0_; clear n0_; (try clear hb); (try clear hb2); (try clear hk); (try clear hi)) | ((with_reducible refine gate_callee (f := 12) rfl ?_); refine goesL_ (some 11) rfl rfl Tryd.func12 (by kernel_rfl) rfl #[.string a0, .string a1] rfl ag ?_; (with_reducible refine (cellarerlaw02_long.calls a0 a1 false _ ?side1 A5.out).mono ?_); (case side1 => exact GOK.below hG.out bel); rintro e w' ⟨rfl, ⟨nd, rfl⟩⟩; refine ⟨_, rfl, ?_⟩) | ((with_reducible refine gate_callee (f := 26) rfl ?_); refine goesL_ (some 15) rfl rfl Tryd.func26 (by kernel_rfl) rfl #[.string a0, .string a1] rfl ag ?_; (with_reducible refine (integer_Mul.calls k a0 a1 t564 t565 _ ?side1 A8.out).mono ?_); (case side1 => exact GOK.below hG.out bel); rintro e w11 ⟨rfl, hb⟩; refine ⟨_, rfl, ?_⟩; have n0_ := Aside0.mk (below_step bel hb); clear HB; have HB := n0_; clear n0_; (try clear hb); (try clear hb2); (try clear hk); (try clear hi)))
   (try simp only [Act.put, List.setIfInBounds_toArray, List.set_cons_zero, List.set_cons_succ])
   go_cut [25] (fun v25 wc => ∃ (kq : Nat) (x25_8 : Bool), v25 = .bool x25_8 ∧ Aside0 (cellarerlaw02_IntegerMultiplies.j0 kq a0 a1 t564 t565 x25_8 = some r) ∧ Aside0 (kq ≤ k) ∧ Aside0 (Below w.heap.size w wc))
   case first =>
    have H := HC9.out
    clear HC9
    replace H := Option.bind_eq_some_iff.mp H
    obtain ⟨t566, A120, H⟩ := H
    replace H : (if t566 = true then ((cellarerref02_Valid.f k a1).bind fun t567 => (cellarerlaw02_IntegerMultiplies.j0 k a0 a1 t564 t565 (!t567))) else (cellarerlaw02_IntegerMultiplies.j0 k a0 a1 t564 t565 true)) = some r := H
    have A12 := Aside0.mk A120
    clear A120
    by_cases c13 : t566 = true
    ·subst c13
     have H1 : ((cellarerref02_Valid.f k a1).bind fun t567 => (cellarerlaw02_IntegerMultiplies.j0 k a0 a1 t564 t565 (!t567))) = some r := by rw [if_pos rfl] at H; exact H
     clear H
     have H := H1
     clear H1
     replace H := Option.bind_eq_some_iff.mp H
     obtain ⟨t567, A140, H⟩ := H
     replace H : (cellarerlaw02_IntegerMultiplies.j0 k a0 a1 t564 t565 (!t567)) = some r := H
     have A14 := Aside0.mk A140
     clear A140
     have H' := Aside0.mk H
     clear H
     go_wp2_with (first | ((with_reducible refine gate_callee (f := 15) rfl ?_); refine goesL_ (some 19) rfl rfl Tryd.func15 (by kernel_rfl) rfl #[.string a0] rfl ag ?_; (with_reducible refine (cellarerref02_Valid.calls k a0 true _ ?side1 A12.out).mono ?_); (case side1 => exact GOK.below hG.out bel); rintro e w' ⟨rfl, ⟨nd, rfl⟩⟩; refine ⟨_, rfl, ?_⟩) | (go_at_call 15; (with_reducible refine (cellarerref02_Valid.calls k a1 t567 _ ?side1 A14.out).mono ?_); (case side1 => exact GOK.below hG.out bel); rintro e w' ⟨rfl, ⟨nd, rfl⟩⟩))
     go_meet
     case rel => exact ⟨_, (!t567), (by first | rfl | (simp; done) | (simp [*]; done)), H', ⟨by first | omega | exact Nat.le_refl _⟩, ⟨bel⟩⟩
    ·replace c13 := Bool.eq_false_iff.mpr c13
     subst c13
     have H1 : (cellarerlaw02_IntegerMultiplies.j0 k a0 a1 t564 t565 true) = some r := by rw [if_neg (show ¬ (false = true) by decide)] at H; exact H
     clear H
     have H := H1
     clear H1
     have H' := Aside0.mk H
     clear H
     go_wp2_with (first | ((with_reducible refine gate_callee (f := 15) rfl ?_); refine goesL_ (some 19) rfl rfl Tryd.func15 (by kernel_rfl) rfl #[.string a0] rfl ag ?_; (with_reducible refine (cellarerref02_Valid.calls k a0 false _ ?side1 A12.out).mono ?_); (case side1 => exact GOK.below hG.out bel); rintro e w' ⟨rfl, ⟨nd, rfl⟩⟩; refine ⟨_, rfl, ?_⟩))
     go_meet
     case rel => exact ⟨_, (true), (by first | rfl | (simp; done) | (simp [*]; done)), H', ⟨by first | omega | exact Nat.le_refl _⟩, ⟨bel⟩⟩
   case rest =>
    clear HC9
    (try clear c1); (try clear c2); (try clear p2); (try clear c4); (try clear c5); (try clear c6); (try clear c11); (try clear c12); (try clear c13)
    obtain ⟨kq, x25_8, rfl, HA, HJ8, HB⟩ := hcut
    cases kq with
    | zero => exact absurd HA.out (by simp [cellarerlaw02_IntegerMultiplies.j0])
    | succ kj8 =>
     have H := HA.out
     clear HA
     simp only [cellarerlaw02_IntegerMultiplies.j0] at H
     by_cases c15 : x25_8 = true
     ·subst c15
      have H1 : (if t564.toList = ([] : List UInt8) then (some (t565 == 3)) else (some false)) = some r := by rw [if_pos rfl] at H; exact H
      clear H
      have H := H1
      clear H1
      by_cases c16 : t564.toList = ([] : List UInt8)
      ·rw [if_pos c16] at H
       have c16b0 : (t564.toList == ([] : List UInt8)) = true := beq_iff_eq.mpr c16
       have c16b1 : (t564.toList != ([] : List UInt8)) = false := bne_eq_false_iff_eq.mpr c16
       clear c16
       obtain rfl := Option.some.inj H
       go_wp2
       go_ret
       exact ⟨by first | rfl | (simp [errW_none, errW_some] <;> rfl) | (simp [*, errW_none, errW_some] <;> rfl), bel⟩
      ·rw [if_neg c16] at H
       have c16b0 : (t564.toList == ([] : List UInt8)) = false := beq_eq_false_iff_ne.mpr c16
       have c16b1 : (t564.toList != ([] : List UInt8)) = true := bne_iff_ne.mpr c16
       obtain rfl := Option.some.inj H
       go_wp2
       go_ret
       exact ⟨by first | rfl | (simp [errW_none, errW_some] <;> rfl) | (simp [*, errW_none, errW_some] <;> rfl), bel⟩
     ·replace c15 := Bool.eq_false_iff.mpr c15
      subst c15
      have H1 : ((cellarerref02_Of.f kj8 a0).bind fun bt568 => ((cellarerref02_Of.f kj8 a1).bind fun bt572 => ((cellarerref02_Mul.f kj8 bt568.1 bt568.2 bt572.1 bt572.2).bind fun bt576 => ((cellarerlaw02_agree.f kj8 t564 t565 bt576.1 bt576.2).bind fun t580 => (some t580))))) = some r := by rw [if_neg (show ¬ (false = true) by decide)] at H; exact H
      clear H
      have H := H1
      clear H1
      replace H := Option.bind_eq_some_iff.mp H
      obtain ⟨⟨t568, t569⟩, A170, H⟩ := H
      replace H : ((cellarerref02_Of.f kj8 a1).bind fun bt572 => ((cellarerref02_Mul.f kj8 t568 t569 bt572.1 bt572.2).bind fun bt576 => ((cellarerlaw02_agree.f kj8 t564 t565 bt576.1 bt576.2).bind fun t580 => (some t580)))) = some r := H
      have A17 := Aside0.mk A170
      clear A170
      replace H := Option.bind_eq_some_iff.mp H
      obtain ⟨⟨t572, t573⟩, A180, H⟩ := H
      replace H : ((cellarerref02_Mul.f kj8 t568 t569 t572 t573).bind fun bt576 => ((cellarerlaw02_agree.f kj8 t564 t565 bt576.1 bt576.2).bind fun t580 => (some t580))) = some r := H
      have A18 := Aside0.mk A180
      clear A180
      replace H := Option.bind_eq_some_iff.mp H
      obtain ⟨⟨t576, t577⟩, A190, H⟩ := H
      replace H : ((cellarerlaw02_agree.f kj8 t564 t565 t576 t577).bind fun t580 => (some t580)) = some r := H
      have A19 := Aside0.mk A190
      clear A190
      replace H := Option.bind_eq_some_iff.mp H
      obtain ⟨t580, A200, H⟩ := H
      replace H : (some t580) = some r := H
      have A20 := Aside0.mk A200
      clear A200
      obtain rfl := Option.some.inj H
      go_wp2_with (first | ((with_reducible refine gate_callee (f := 16) rfl ?_); refine goesL_ (some 35) rfl rfl Tryd.func16 (by kernel_rfl) rfl #[.string a0] rfl ag ?_; (with_reducible refine (cellarerref02_Of.calls kj8 a0 t568 t569 _ ?side1 A17.out).mono ?_); (case side1 => exact GOK.below hG.out bel); rintro e w21 ⟨v570, rfl, ho0, hb⟩; refine ⟨_, rfl, ?_⟩; have n0_ := Aside0.mk (Kd.V_lower (Kd.V_mono (ok' := fun k_ => True) ho0 (fun k_ hk_ => trivial)) (below_size bel)); have n1_ := Aside0.mk (below_step bel hb); clear HB; have HO571 := n0_; have HB := n1_; clear n0_ n1_; (try clear hb); (try clear hb2); (try clear hk); (try clear hi); (try clear ho0)) | ((with_reducible refine gate_callee (f := 16) rfl ?_); refine goesL_ (some 37) rfl rfl Tryd.func16 (by kernel_rfl) rfl #[.string a1] rfl ag ?_; (with_reducible refine (cellarerref02_Of.calls kj8 a1 t572 t573 _ ?side1 A18.out).mono ?_); (case side1 => exact GOK.below hG.out bel); rintro e w22 ⟨v574, rfl, ho0, hb⟩; refine ⟨_, rfl, ?_⟩; have n0_ := Aside0.mk (Kd.V_below (kv HO571.out) hb); have n1_ := Aside0.mk (Kd.V_lower (Kd.V_mono (ok' := fun k_ => True) ho0 (fun k_ hk_ => trivial)) (below_size bel)); have n2_ := Aside0.mk (below_step bel hb); clear HO571; clear HB; have HO571 := n0_; have HO575 := n1_; have HB := n2_; clear n0_ n1_ n2_; (try clear hb); (try clear hb2); (try clear hk); (try clear hi); (try clear ho0); obtain ⟨Ao23, co23, eo23⟩ := Kd.V_slice HO571.out; subst eo23; obtain ⟨Ao24, co24, eo24⟩ := Kd.V_slice HO575.out; subst eo24) | ((with_reducible refine gate_callee (f := 27) rfl ?_); refine goesL_ (some 38) rfl rfl Tryd.func27 (by kernel_rfl) rfl #[.agg #[.bool t568, .slice Ao23 t569.length co23], .agg #[.bool t572, .slice Ao24 t573.length co24]] rfl ag ?_; (with_reducible refine (cellarerref02_Mul.calls kj8 t568 _ _ t569 t572 _ _ t573 t576 t577 _ ?side1 ?side2 ?side3 ?side4 ?side5 A19.out).mono ?_); (case side1 => exact GOK.below hG.out bel); (case side2 => exact kc ((Kd.V_reads' HO571.out).2.2)); (case side3 => exact (Kd.V_reads' HO571.out).2.1); (case side4 => exact kc ((Kd.V_reads' HO575.out).2.2)); (case side5 => exact (Kd.V_reads' HO575.out).2.1); rintro e w25 ⟨v578, rfl, ho0, hb⟩; refine ⟨_, rfl, ?_⟩; have n0_ := Aside0.mk (Kd.V_below (kv HO571.out) hb); have n1_ := Aside0.mk (Kd.V_below (kv HO575.out) hb); have n2_ := Aside0.mk (Kd.V_lower (Kd.V_mono (ok' := fun k_ => True) ho0 (fun k_ hk_ => trivial)) (below_size bel)); have n3_ := Aside0.mk (below_step bel hb); clear HO571; clear HO575; clear HB; have HO571 := n0_; have HO575 := n1_; have HO579 := n2_; have HB := n3_; clear n0_ n1_ n2_ n3_; (try clear hb); (try clear hb2); (try clear hk); (try clear hi); (try clear ho0); obtain ⟨Ao26, co26, eo26⟩ := Kd.V_slice HO579.out; subst eo26) | ((with_reducible refine gate_callee (f := 17) rfl ?_); refine goesL_ (some 39) rfl rfl Tryd.func17 (by kernel_rfl) rfl #[.string t564, .int .i64 t565, .agg #[.bool t576, .slice Ao26 t577.length co26]] rfl ag ?_; (with_reducible refine (cellarerlaw02_agree.calls kj8 t564 t565 t576 _ _ t577 t580 _ ?side1 ?side2 ?side3 A20.out).mono ?_); (case side1 => exact GOK.below hG.out bel); (case side2 => exact kc ((Kd.V_reads' HO579.out).2.2)); (case side3 => exact (Kd.V_reads' HO579.out).2.1); rintro e w27 ⟨rfl, hb⟩; refine ⟨_, rfl, ?_⟩; have n0_ := Aside0.mk (Kd.V_below (kv HO571.out) hb); have n1_ := Aside0.mk (Kd.V_below (kv HO575.out) hb); have n2_ := Aside0.mk (Kd.V_below (kv HO579.out) hb); have n3_ := Aside0.mk (below_step bel hb); clear HO571; clear HO575; clear HO579; clear HB; have HO571 := n0_; have HO575 := n1_; have HO579 := n2_; have HB := n3_; clear n0_ n1_ n2_ n3_; (try clear hb); (try clear hb2); (try clear hk); (try clear hi)))
      go_ret
      exact ⟨by first | rfl | (simp [errW_none, errW_some] <;> rfl) | (simp [*, errW_none, errW_some] <;> rfl), bel⟩
 ·replace c4 := Bool.eq_false_iff.mpr c4
  subst c4
  have H1 : (some false) = some r := by rw [if_neg (show ¬ (false = true) by decide)] at H; exact H
  clear H
  have H := H1
  clear H1
  obtain rfl := Option.some.inj H
  go_enter Tryd.func5, Tryd.ntmps5
  go_wp2_with (first | ((with_reducible refine gate_callee (f := 11) rfl ?_); refine goesL_ (some 7) rfl rfl Tryd.func11 (by kernel_rfl) rfl #[] rfl ag ?_; (with_reducible refine (cellarerlaw02_awake.calls k  false _ ?side1 A3.out).mono ?_); (case side1 => exact GOK.below hG.out bel); rintro e w28 ⟨rfl, hb⟩; refine ⟨_, rfl, ?_⟩; have n0_ := Aside0.mk (below_step bel hb); clear HB; have HB := n0_; clear n0_; (try clear hb); (try clear hb2); (try clear hk); (try clear hi)))
  go_ret
  exact ⟨by first | rfl | (simp [errW_none, errW_some] <;> rfl) | (simp [*, errW_none, errW_some] <;> rfl), bel⟩

theorem cellarerlaw02_IntegerMultiplies.walk (P : cellarerlaw02_IntegerMultiplies.Pure) (a0 : ByteArray) (a1 : ByteArray) (w : World) (hG : GOK w) (w0 : a0.size ≤ 140737488351232) (w1 : a1.size ≤ 140737488351232) :
  Calls Tryd.prog 5 #[.string a0, .string a1] w fun e w' => e = .returned (.bool true) ∧ Below w.heap.size w w' := by
 obtain ⟨k, h⟩ := P a0 a1 w0 w1
 refine (cellarerlaw02_IntegerMultiplies.calls k a0 a1 true w hG h).mono ?_
 rintro e w' ⟨rfl, hd⟩
 exact ⟨rfl, hd⟩

end Go.Proofs.YtdnjlmoggnbknaaDoor.PInt
