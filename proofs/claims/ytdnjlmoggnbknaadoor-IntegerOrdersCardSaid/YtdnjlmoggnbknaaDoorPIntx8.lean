-- Written by a program of this session's (xprint.py) over the kit's print.
import Derived.Test.YtdnjlmoggnbknaaDoorPIntx0
import Derived.Test.YtdnjlmoggnbknaaDoorPIntx1
import Derived.Test.YtdnjlmoggnbknaaDoorPIntx4
import Derived.Test.YtdnjlmoggnbknaaDoorPIntx6
import Derived.Test.YtdnjlmoggnbknaaDoorPIntx7
import Derived.Test.YtdnjlmoggnbknaaDoorPIntD
import Derived.Test.YtdnjlmoggnbknaaDoorAuto
namespace Go.Proofs.YtdnjlmoggnbknaaDoor.PInt
open Go.RowKit Go.Proofs.YtdnjlmoggnbknaaDoor.Ext Go.Proofs.YtdnjlmoggnbknaaDoorW.PrintWords Go.Proofs.YtdnjlmoggnbknaaDoorW.PrintLast Go.Proofs.YtdnjlmoggnbknaaDoorW.PrintMore
attribute [local go_sem high] gtr_print leq_print
attribute [local go_sem] max2_int min2_int max_two min_two max_three min_three max_four min_four   -- for this text's walks alone
set_option linter.unusedVariables false
set_option linter.unusedSimpArgs false

/-! ### integer_Gcd: function 14 -/
set_option maxHeartbeats 8000000 in
set_option maxRecDepth 100000 in
theorem integer_Gcd.calls (k : Nat) (a0 : ByteArray) (a1 : ByteArray) (r1 : ByteArray) (r2 : Int) (w : World) (hG : GOK w) (h : integer_Gcd.f k a0 a1 = some (r1, r2)) :
  Calls Tryd.prog 14 #[.string a0, .string a1] w fun e w' => e = .returned (.tuple #[.string r1, .int .i64 r2]) ∧ Below w.heap.size w w' := by
 have hu51 := Tryd.underlying51
 replace hG := Aside0.mk hG
 have HB := Aside0.mk (Below.refl w.heap.size w)
 have H : ((integer_both.f k a0 a1).bind fun t315 => (if t315 = true then ((integer_read.f k a0).bind fun bt316 => ((integer_read.f k a1).bind fun bt320 => (integer_Gcd.l0 k bt316.2 bt320.2))) else (some ((⟨#[]⟩ : ByteArray), 3)))) = some (r1, r2) := h
 clear h
 replace H := Option.bind_eq_some_iff.mp H
 obtain ⟨t315, A30, H⟩ := H
 replace H : (if t315 = true then ((integer_read.f k a0).bind fun bt316 => ((integer_read.f k a1).bind fun bt320 => (integer_Gcd.l0 k bt316.2 bt320.2))) else (some ((⟨#[]⟩ : ByteArray), 3))) = some (r1, r2) := H
 have A3 := Aside0.mk A30
 clear A30
 by_cases c4 : t315 = true
 ·subst c4
  have H1 : ((integer_read.f k a0).bind fun bt316 => ((integer_read.f k a1).bind fun bt320 => (integer_Gcd.l0 k bt316.2 bt320.2))) = some (r1, r2) := by rw [if_pos rfl] at H; exact H
  clear H
  have H := H1
  clear H1
  replace H := Option.bind_eq_some_iff.mp H
  obtain ⟨⟨t316, t317⟩, A50, H⟩ := H
  replace H : ((integer_read.f k a1).bind fun bt320 => (integer_Gcd.l0 k t317 bt320.2)) = some (r1, r2) := H
  have A5 := Aside0.mk A50
  clear A50
  replace H := Option.bind_eq_some_iff.mp H
  obtain ⟨⟨t320, t321⟩, A60, H⟩ := H
  replace H : (integer_Gcd.l0 k t317 t321) = some (r1, r2) := H
  have A6 := Aside0.mk A60
  clear A60
  have H' := Aside0.mk H
  clear H
  go_enter Tryd.func14, Tryd.ntmps14
  go_wp2_with (first | ((with_reducible refine gate_callee (f := 35) rfl ?_); refine goesL_ (some 12) rfl rfl Tryd.func35 (by kernel_rfl) rfl #[.string a0, .string a1] rfl ag ?_; (with_reducible refine (integer_both.calls k a0 a1 true _ ?side1 A3.out).mono ?_); (case side1 => exact GOK.below hG.out bel); rintro e w' ⟨rfl, ⟨nd, rfl⟩⟩; refine ⟨_, rfl, ?_⟩) | ((with_reducible refine gate_callee (f := 36) rfl ?_); refine goesL_ (some 15) rfl rfl Tryd.func36 (by kernel_rfl) rfl #[.string a0] rfl ag ?_; (with_reducible refine (integer_read.calls k a0 t316 t317 _ ?side1 A5.out).mono ?_); (case side1 => exact GOK.below hG.out bel); rintro e w7 ⟨v318, rfl, ho0, hb⟩; have hflv318 : ∀ (b : Bool) (W : World), (Instr.field 51 (.agg #[.bool b, v318]) 1).run Tryd.prog W = .ok v318 W := (by intro b W; obtain ⟨A_, c_, rfl, _⟩ := ho0; kernel_rfl); refine ⟨_, rfl, ?_⟩; have n0_ := Aside0.mk (Kd.V_lower (Kd.V_mono (ok' := fun k_ => True) ho0 (fun k_ hk_ => trivial)) (below_size bel)); have n1_ := Aside0.mk (below_step bel hb); clear HB; have HO319 := n0_; have HB := n1_; clear n0_ n1_; (try clear hb); (try clear hb2); (try clear hk); (try clear hi); (try clear ho0)) | ((with_reducible refine gate_callee (f := 36) rfl ?_); refine goesL_ (some 18) rfl rfl Tryd.func36 (by kernel_rfl) rfl #[.string a1] rfl ag ?_; (with_reducible refine (integer_read.calls k a1 t320 t321 _ ?side1 A6.out).mono ?_); (case side1 => exact GOK.below hG.out bel); rintro e w8 ⟨v322, rfl, ho0, hb⟩; have hflv322 : ∀ (b : Bool) (W : World), (Instr.field 51 (.agg #[.bool b, v322]) 1).run Tryd.prog W = .ok v322 W := (by intro b W; obtain ⟨A_, c_, rfl, _⟩ := ho0; kernel_rfl); refine ⟨_, rfl, ?_⟩; have n0_ := Aside0.mk (Kd.V_below (kv HO319.out) hb); have n1_ := Aside0.mk (Kd.V_lower (Kd.V_mono (ok' := fun k_ => True) ho0 (fun k_ hk_ => trivial)) (below_size bel)); have n2_ := Aside0.mk (below_step bel hb); clear HO319; clear HB; have HO319 := n0_; have HO323 := n1_; have HB := n2_; clear n0_ n1_ n2_; (try clear hb); (try clear hb2); (try clear hk); (try clear hi); (try clear ho0)))
  go_loopg [6, 7] k (fun kq v6 v7 w' => ∃ (x6_1 : List Int) (x7_1 : List Int), Aside0 (integer_Gcd.l0 kq x6_1 x7_1 = some (r1, r2)) ∧ Aside0 (kq ≤ k) ∧ Aside0 (Kd.V (Kd.int .u64) 57 w' w.heap.size (fun _ => True) v6 x6_1) ∧ Aside0 (Kd.V (Kd.int .u64) 57 w' w.heap.size (fun _ => True) v7 x7_1) ∧ Aside0 (Below w.heap.size w w'))
  case atStart => exact ⟨(t317), (t321), H', ⟨Nat.le_refl _⟩, ⟨kv HO319.out⟩, ⟨kv HO323.out⟩, ⟨bel⟩⟩
  case round =>
   clear H'
   (try clear c1); (try clear p2); (try clear c3); (try clear c4)
   obtain ⟨x6_1, x7_1, HA, HK1, HO_6, HO_7, HB⟩ := hrel
   cases gk with
   | zero => exact absurd HA.out (by simp [integer_Gcd.l0])
   | succ k1 =>
    have H := HA.out
    clear HA
    simp only [integer_Gcd.l0] at H
    by_cases c9 : (x7_1.length : Int) > 0
    ·rw [if_pos c9] at H
     have c9b0 : decide (0 < (x7_1.length : Int)) = true := decide_eq_true c9
     have c9b1 : decide (0 < x7_1.length) = true := decide_eq_true (by omega)
     clear c9
     replace H := Option.bind_eq_some_iff.mp H
     obtain ⟨⟨t324, t327⟩, A100, H⟩ := H
     replace H : (integer_Gcd.l0 k1 x7_1 t327) = some (r1, r2) := H
     have A10 := Aside0.mk A100
     clear A100
     have H' := Aside0.mk H
     clear H
     obtain ⟨Ao11, co11, eo11⟩ := Kd.V_slice HO_7.out
     subst eo11
     obtain ⟨Ao12, co12, eo12⟩ := Kd.V_slice HO_6.out
     subst eo12
     go_wp2_with (first | ((with_reducible refine gate_callee (f := 37) rfl ?_); refine goesL_ (some 26) rfl rfl Tryd.func37 (by kernel_rfl) rfl #[.slice Ao12 x6_1.length co12, .slice Ao11 x7_1.length co11] rfl ag ?_; (with_reducible refine (integer_divide.calls k1 (fun k_ => True) _ _ x6_1 _ _ x7_1 t324 t327 _ ?side1 ?side2 ?side3 ?side4 A10.out).mono ?_); (case side1 => exact GOK.below hG.out bel); (case side2 => exact HO_6.out); (case side3 => exact kc ((Kd.V_reads' HO_7.out).2.2)); (case side4 => exact (Kd.V_reads' HO_7.out).2.1); rintro e w13 ⟨v325, v328, rfl, ho0, ho1, hb⟩; refine ⟨_, rfl, ?_⟩; have n0_ := Aside0.mk (Kd.V_below (kv HO_6.out) hb); have n1_ := Aside0.mk (Kd.V_below (kv HO_7.out) hb); have n2_ := Aside0.mk (Kd.V_lower (Kd.V_mono (ok' := fun k_ => True) ho0 (fun k_ hk_ => trivial)) (below_size bel)); have n3_ := Aside0.mk (Kd.V_lower (Kd.V_mono (ok' := fun k_ => True) ho1 (fun k_ hk_ => trivial)) (below_size bel)); have n4_ := Aside0.mk (below_step bel hb); clear HO_6; clear HO_7; clear HB; have HO_6 := n0_; have HO_7 := n1_; have HO326 := n2_; have HO329 := n3_; have HB := n4_; clear n0_ n1_ n2_ n3_ n4_; (try clear hb); (try clear hb2); (try clear hk); (try clear hi); (try clear ho0); (try clear ho1)))
     go_roundg k1
     case measure => have := HK1.out; omega
     case rel => exact ⟨(x7_1), (t327), H', ⟨by have := HK1.out; omega⟩, ⟨kv HO_7.out⟩, ⟨kv HO329.out⟩, ⟨bel⟩⟩
    ·rw [if_neg c9] at H
     have c9b0 : decide (0 < (x7_1.length : Int)) = false := decide_eq_false c9
     have c9b1 : decide (0 < x7_1.length) = false := decide_eq_false (by omega)
     clear c9
     replace H := Option.bind_eq_some_iff.mp H
     obtain ⟨⟨t330, t331⟩, A140, H⟩ := H
     replace H : (some (t330, t331)) = some (r1, r2) := H
     have A14 := Aside0.mk A140
     clear A140
     simp only [Option.some.injEq, Prod.mk.injEq] at H
     obtain ⟨rfl, rfl⟩ := H
     obtain ⟨Ao15, co15, eo15⟩ := Kd.V_slice HO_7.out
     subst eo15
     obtain ⟨Ao16, co16, eo16⟩ := Kd.V_slice HO_6.out
     subst eo16
     go_wp2_with (first | ((with_reducible refine gate_callee (f := 40) rfl ?_); refine goesL_ (some 33) rfl rfl Tryd.func40 (by kernel_rfl) rfl #[.agg #[.bool false, .slice Ao16 x6_1.length co16]] rfl ag ?_; (with_reducible refine (integer_number_text.calls false _ _ x6_1 t330 t331 _ ?side1 ?side2 ?side3 A14.out).mono ?_); (case side1 => exact GOK.below hG.out bel); (case side2 => exact kc ((Kd.V_reads' HO_6.out).2.2)); (case side3 => exact (Kd.V_reads' HO_6.out).2.1); rintro e w17 ⟨rfl, hb⟩; refine ⟨_, rfl, ?_⟩; have n0_ := Aside0.mk (Kd.V_below (kv HO_6.out) hb); have n1_ := Aside0.mk (Kd.V_below (kv HO_7.out) hb); have n2_ := Aside0.mk (below_step bel hb); clear HO_6; clear HO_7; clear HB; have HO_6 := n0_; have HO_7 := n1_; have HB := n2_; clear n0_ n1_ n2_; (try clear hb); (try clear hb2); (try clear hk); (try clear hi)))
     go_ret2
     exact ⟨by first | rfl | (simp [errW_none, errW_some] <;> rfl) | (simp [*, errW_none, errW_some] <;> rfl), bel⟩
 ·replace c4 := Bool.eq_false_iff.mpr c4
  subst c4
  have H1 : (some ((⟨#[]⟩ : ByteArray), 3)) = some (r1, r2) := by rw [if_neg (show ¬ (false = true) by decide)] at H; exact H
  clear H
  have H := H1
  clear H1
  simp only [Option.some.injEq, Prod.mk.injEq] at H
  obtain ⟨rfl, rfl⟩ := H
  go_enter Tryd.func14, Tryd.ntmps14
  go_wp2_with (first | ((with_reducible refine gate_callee (f := 35) rfl ?_); refine goesL_ (some 12) rfl rfl Tryd.func35 (by kernel_rfl) rfl #[.string a0, .string a1] rfl ag ?_; (with_reducible refine (integer_both.calls k a0 a1 false _ ?side1 A3.out).mono ?_); (case side1 => exact GOK.below hG.out bel); rintro e w' ⟨rfl, ⟨nd, rfl⟩⟩; refine ⟨_, rfl, ?_⟩))
  go_ret2
  exact ⟨by first | rfl | (simp [errW_none, errW_some] <;> rfl) | (simp [*, errW_none, errW_some] <;> rfl), bel⟩

/-! ### strconv_FormatInt: function 51 -/
-- PROOF
theorem strconv_FormatInt.calls (a0 a1 : Int) (r : ByteArray) (w : World) (hG : GOK w) (h : strconv_FormatInt.f a0 a1 = some r) :
  Calls Tryd.prog 51 #[.int .i64 a0, .int .i64 a1] w fun e w' => e = .returned (.string r) ∧ Below w.heap.size w w' := by
 unfold strconv_FormatInt.f at h
 by_cases hc : a1 = 10 ∧ -9223372036854775808 ≤ a0 ∧ a0 ≤ 9223372036854775807
 ·rw [if_pos hc] at h
  obtain ⟨rfl, h0, h1⟩ := hc
  injection h with h
  subst h
  refine (Tryd.strconv_FormatInt_10 a0 h0 h1 w hG.2.2).mono ?_
  rintro e w' ⟨rfl, k, os, rfl⟩
  exact ⟨rfl, Lib.below_grow _ _ (Nat.le_refl _) _ _⟩
 ·rw [if_neg hc] at h
  cases h


/-! ### integer_Of: function 29 -/
set_option maxHeartbeats 8000000 in
set_option maxRecDepth 100000 in
theorem integer_Of.calls (a0 : Int) (r : ByteArray) (w : World) (hG : GOK w) (h : integer_Of.f a0 = some r) :
  Calls Tryd.prog 29 #[.int .i64 a0] w fun e w' => e = .returned (.string r) ∧ Below w.heap.size w w' := by
 replace hG := Aside0.mk hG
 have HB := Aside0.mk (Below.refl w.heap.size w)
 have H : ((strconv_FormatInt.f a0 10).bind fun t332 => (some t332)) = some r := h
 clear h
 replace H := Option.bind_eq_some_iff.mp H
 obtain ⟨t332, A20, H⟩ := H
 replace H : (some t332) = some r := H
 have A2 := Aside0.mk A20
 clear A20
 obtain rfl := Option.some.inj H
 go_enter Tryd.func29, Tryd.ntmps29
 go_wp2_with (first | ((with_reducible refine gate_callee (f := 51) rfl ?_); refine goesL_ (some 4) rfl rfl Tryd.func51 (by kernel_rfl) rfl #[.int .i64 a0, .int .i64 10] rfl ag ?_; (with_reducible refine (strconv_FormatInt.calls a0 10 t332 _ ?side1 A2.out).mono ?_); (case side1 => exact GOK.below hG.out bel); rintro e w3 ⟨rfl, hb⟩; refine ⟨_, rfl, ?_⟩; have n0_ := Aside0.mk (below_step bel hb); clear HB; have HB := n0_; clear n0_; (try clear hb); (try clear hb2); (try clear hk); (try clear hi)))
 go_ret
 exact ⟨by first | rfl | (simp [errW_none, errW_some] <;> rfl) | (simp [*, errW_none, errW_some] <;> rfl), bel⟩

/-! ### integer_near: function 46 -/
set_option maxHeartbeats 8000000 in
set_option maxRecDepth 100000 in
theorem integer_near.calls (a0 : ByteArray) (a1 : ByteArray) (a2 : Int) (r : Bool) (w : World) (hG : GOK w) (h : integer_near.f a0 a1 a2 = some r) :
  Calls Tryd.prog 46 #[.string a0, .string a1, .int .i64 a2] w fun e w' => e = .returned (.bool r) ∧ Drawn0 w w' := by
 replace hG := Aside0.mk hG
 have H : (if (a0.size : Int) ≤ a2 then (some (decide ((a1.size : Int) ≤ a2))) else (some false)) = some r := h
 clear h
 by_cases c4 : (a0.size : Int) ≤ a2
 ·rw [if_pos c4] at H
  have c4b0 : decide ((a0.size : Int) ≤ a2) = true := decide_eq_true c4
  clear c4
  obtain rfl := Option.some.inj H
  go_enter Tryd.func46, Tryd.ntmps46
  go_wp2
  go_ret
  exact ⟨by first | rfl | (simp; done) | (simp [*]; done), by repeat (first | exact Drawn0.refl _ | apply Drawn0.step)⟩
 ·rw [if_neg c4] at H
  have c4b0 : decide ((a0.size : Int) ≤ a2) = false := decide_eq_false c4
  clear c4
  obtain rfl := Option.some.inj H
  go_enter Tryd.func46, Tryd.ntmps46
  go_wp2
  go_ret
  exact ⟨by first | rfl | (simp; done) | (simp [*]; done), by repeat (first | exact Drawn0.refl _ | apply Drawn0.step)⟩

/-! ### strconv_ParseInt: function 52 -/
-- PROOF
theorem strconv_ParseInt.calls (a0 : ByteArray) (a1 a2 : Int) (r1 : Int) (r2 : Option Int) (w : World) (hG : GOK w) (h : strconv_ParseInt.f a0 a1 a2 = some (r1, r2)) :
  Calls Tryd.prog 52 #[.string a0, .int .i64 a1, .int .i64 a2] w fun e w' => ∃ nerr_ : Nat, e = .returned (.tuple #[.int .i64 r1, errL nerr_ r2]) ∧ Below w.heap.size w w' := by
 unfold strconv_ParseInt.f at h
 by_cases hc : a1 = 10 ∧ a2 = 64 ∧ a0.size ≤ 140737488351232
 ·rw [if_pos hc] at h
  obtain ⟨rfl, rfl, hs⟩ := hc
  obtain ⟨_, ⟨t2, p2, h2⟩, _⟩ := hG
  cases hp : Lib.parseIntB 64 a0.data.toList with
  | ok v =>
   rw [hp] at h
   simp only [Option.some.injEq, Prod.mk.injEq] at h
   obtain ⟨rfl, rfl⟩ := h
   refine (Tryd.strconv_ParseInt_10_at64_ok a0 (by omega) v hp w).mono ?_
   rintro e w' ⟨rfl, hw⟩
   refine ⟨0, rfl, ?_⟩
   rcases hw with rfl | ⟨t, rfl⟩
   ·exact Below.refl _ _
   ·exact Lib.bytesWorld_below _ _ _
  | range =>
   rw [hp] at h
   simp only [Option.some.injEq, Prod.mk.injEq] at h
   obtain ⟨rfl, rfl⟩ := h
   refine (Tryd.strconv_ParseInt_10_at64_range_var a0 (by omega) hp t2 p2 w h2).mono ?_
   rintro e w' ⟨N, rfl, _, _, hb⟩
   exact ⟨N, rfl, hb⟩
  | _ =>
   rw [hp] at h
   cases h
 ·rw [if_neg hc] at h
  cases h


/-! ### integer_machine: function 47 -/
set_option maxHeartbeats 8000000 in
set_option maxRecDepth 100000 in
theorem integer_machine.calls (a0 : ByteArray) (r : Int) (w : World) (hG : GOK w) (h : integer_machine.f a0 = some r) :
  Calls Tryd.prog 47 #[.string a0] w fun e w' => e = .returned (.int .i64 r) ∧ Below w.heap.size w w' := by
 replace hG := Aside0.mk hG
 have HB := Aside0.mk (Below.refl w.heap.size w)
 have H : ((strconv_ParseInt.f a0 10 64).bind fun bt333 => (some bt333.1)) = some r := h
 clear h
 replace H := Option.bind_eq_some_iff.mp H
 obtain ⟨⟨t333, t334⟩, A20, H⟩ := H
 replace H : (some t333) = some r := H
 have A2 := Aside0.mk A20
 clear A20
 obtain rfl := Option.some.inj H
 go_enter Tryd.func47, Tryd.ntmps47
 go_wp2_with (first | ((with_reducible refine gate_callee (f := 52) rfl ?_); refine goesL_ (some 7) rfl rfl Tryd.func52 (by kernel_rfl) rfl #[.string a0, .int .i64 10, .int .i64 64] rfl ag ?_; (with_reducible refine (strconv_ParseInt.calls a0 10 64 t333 t334 _ ?side1 A2.out).mono ?_); (case side1 => exact GOK.below hG.out bel); rintro e w3 ⟨nerr_, rfl, hb⟩; refine ⟨_, rfl, ?_⟩; have n0_ := Aside0.mk (below_step bel hb); clear HB; have HB := n0_; clear n0_; (try clear hb); (try clear hb2); (try clear hk); (try clear hi); (try simp only [errW_none, errW_some, errL_none, errL_some])))
 go_ret
 exact ⟨by first | rfl | (simp [errW_none, errW_some] <;> rfl) | (simp [*, errW_none, errW_some] <;> rfl), bel⟩

/-! ### integer_Add: function 21 -/
set_option maxHeartbeats 8000000 in
set_option maxRecDepth 100000 in
theorem integer_Add.calls (k : Nat) (a0 : ByteArray) (a1 : ByteArray) (r1 : ByteArray) (r2 : Int) (w : World) (hG : GOK w) (h : integer_Add.f k a0 a1 = some (r1, r2)) :
  Calls Tryd.prog 21 #[.string a0, .string a1] w fun e w' => e = .returned (.tuple #[.string r1, .int .i64 r2]) ∧ Below w.heap.size w w' := by
 replace hG := Aside0.mk hG
 have HB := Aside0.mk (Below.refl w.heap.size w)
 have H : ((integer_both.f k a0 a1).bind fun t335 => (if t335 = true then ((integer_near.f a0 a1 18).bind fun t336 => (if t336 = true then ((integer_machine.f a0).bind fun t337 => ((integer_machine.f a1).bind fun t338 => ((integer_Of.f (wrap64 (t337 + t338))).bind fun t339 => (some (t339, 0))))) else ((integer_read.f k a0).bind fun bt340 => ((integer_read.f k a1).bind fun bt344 => ((integer_add.f k bt340.1 bt340.2 bt344.1 bt344.2).bind fun bt348 => ((integer_number_text.f bt348.1 bt348.2).bind fun bt352 => (some (bt352.1, bt352.2)))))))) else (some ((⟨#[]⟩ : ByteArray), 3)))) = some (r1, r2) := h
 clear h
 replace H := Option.bind_eq_some_iff.mp H
 obtain ⟨t335, A30, H⟩ := H
 replace H : (if t335 = true then ((integer_near.f a0 a1 18).bind fun t336 => (if t336 = true then ((integer_machine.f a0).bind fun t337 => ((integer_machine.f a1).bind fun t338 => ((integer_Of.f (wrap64 (t337 + t338))).bind fun t339 => (some (t339, 0))))) else ((integer_read.f k a0).bind fun bt340 => ((integer_read.f k a1).bind fun bt344 => ((integer_add.f k bt340.1 bt340.2 bt344.1 bt344.2).bind fun bt348 => ((integer_number_text.f bt348.1 bt348.2).bind fun bt352 => (some (bt352.1, bt352.2)))))))) else (some ((⟨#[]⟩ : ByteArray), 3))) = some (r1, r2) := H
 have A3 := Aside0.mk A30
 clear A30
 by_cases c4 : t335 = true
 ·subst c4
  have H1 : ((integer_near.f a0 a1 18).bind fun t336 => (if t336 = true then ((integer_machine.f a0).bind fun t337 => ((integer_machine.f a1).bind fun t338 => ((integer_Of.f (wrap64 (t337 + t338))).bind fun t339 => (some (t339, 0))))) else ((integer_read.f k a0).bind fun bt340 => ((integer_read.f k a1).bind fun bt344 => ((integer_add.f k bt340.1 bt340.2 bt344.1 bt344.2).bind fun bt348 => ((integer_number_text.f bt348.1 bt348.2).bind fun bt352 => (some (bt352.1, bt352.2)))))))) = some (r1, r2) := by rw [if_pos rfl] at H; exact H
  clear H
  have H := H1
  clear H1
  replace H := Option.bind_eq_some_iff.mp H
  obtain ⟨t336, A50, H⟩ := H
  replace H : (if t336 = true then ((integer_machine.f a0).bind fun t337 => ((integer_machine.f a1).bind fun t338 => ((integer_Of.f (wrap64 (t337 + t338))).bind fun t339 => (some (t339, 0))))) else ((integer_read.f k a0).bind fun bt340 => ((integer_read.f k a1).bind fun bt344 => ((integer_add.f k bt340.1 bt340.2 bt344.1 bt344.2).bind fun bt348 => ((integer_number_text.f bt348.1 bt348.2).bind fun bt352 => (some (bt352.1, bt352.2))))))) = some (r1, r2) := H
  have A5 := Aside0.mk A50
  clear A50
  by_cases c6 : t336 = true
  ·subst c6
   have H1 : ((integer_machine.f a0).bind fun t337 => ((integer_machine.f a1).bind fun t338 => ((integer_Of.f (wrap64 (t337 + t338))).bind fun t339 => (some (t339, 0))))) = some (r1, r2) := by rw [if_pos rfl] at H; exact H
   clear H
   have H := H1
   clear H1
   replace H := Option.bind_eq_some_iff.mp H
   obtain ⟨t337, A70, H⟩ := H
   replace H : ((integer_machine.f a1).bind fun t338 => ((integer_Of.f (wrap64 (t337 + t338))).bind fun t339 => (some (t339, 0)))) = some (r1, r2) := H
   have A7 := Aside0.mk A70
   clear A70
   replace H := Option.bind_eq_some_iff.mp H
   obtain ⟨t338, A80, H⟩ := H
   replace H : ((integer_Of.f (wrap64 (t337 + t338))).bind fun t339 => (some (t339, 0))) = some (r1, r2) := H
   have A8 := Aside0.mk A80
   clear A80
   replace H := Option.bind_eq_some_iff.mp H
   obtain ⟨t339, A90, H⟩ := H
   replace H : (some (t339, 0)) = some (r1, r2) := H
   have A9 := Aside0.mk A90
   clear A90
   simp only [Option.some.injEq, Prod.mk.injEq] at H
   obtain ⟨rfl, rfl⟩ := H
   go_enter Tryd.func21, Tryd.ntmps21
   go_wp2_with (first | ((with_reducible refine gate_callee (f := 35) rfl ?_); refine goesL_ (some 8) rfl rfl Tryd.func35 (by kernel_rfl) rfl #[.string a0, .string a1] rfl ag ?_; (with_reducible refine (integer_both.calls k a0 a1 true _ ?side1 A3.out).mono ?_); (case side1 => exact GOK.below hG.out bel); rintro e w' ⟨rfl, ⟨nd, rfl⟩⟩; refine ⟨_, rfl, ?_⟩) | ((with_reducible refine gate_callee (f := 46) rfl ?_); refine goesL_ (some 12) rfl rfl Tryd.func46 (by kernel_rfl) rfl #[.string a0, .string a1, .int .i64 18] rfl ag ?_; (with_reducible refine (integer_near.calls a0 a1 18 true _ ?side1 A5.out).mono ?_); (case side1 => exact GOK.below hG.out bel); rintro e w' ⟨rfl, ⟨nd, rfl⟩⟩; refine ⟨_, rfl, ?_⟩) | ((with_reducible refine gate_callee (f := 47) rfl ?_); refine goesL_ (some 14) rfl rfl Tryd.func47 (by kernel_rfl) rfl #[.string a0] rfl ag ?_; (with_reducible refine (integer_machine.calls a0 t337 _ ?side1 A7.out).mono ?_); (case side1 => exact GOK.below hG.out bel); rintro e w10 ⟨rfl, hb⟩; refine ⟨_, rfl, ?_⟩; have n0_ := Aside0.mk (below_step bel hb); clear HB; have HB := n0_; clear n0_; (try clear hb); (try clear hb2); (try clear hk); (try clear hi)) | ((with_reducible refine gate_callee (f := 47) rfl ?_); refine goesL_ (some 16) rfl rfl Tryd.func47 (by kernel_rfl) rfl #[.string a1] rfl ag ?_; (with_reducible refine (integer_machine.calls a1 t338 _ ?side1 A8.out).mono ?_); (case side1 => exact GOK.below hG.out bel); rintro e w11 ⟨rfl, hb⟩; refine ⟨_, rfl, ?_⟩; have n0_ := Aside0.mk (below_step bel hb); clear HB; have HB := n0_; clear n0_; (try clear hb); (try clear hb2); (try clear hk); (try clear hi)) | ((with_reducible refine gate_callee (f := 29) rfl ?_); refine goesL_ (some 18) rfl rfl Tryd.func29 (by kernel_rfl) rfl #[.int .i64 (wrap64 (t337 + t338))] rfl ag ?_; (with_reducible refine (integer_Of.calls (wrap64 (t337 + t338)) t339 _ ?side1 A9.out).mono ?_); (case side1 => exact GOK.below hG.out bel); rintro e w12 ⟨rfl, hb⟩; refine ⟨_, rfl, ?_⟩; have n0_ := Aside0.mk (below_step bel hb); clear HB; have HB := n0_; clear n0_; (try clear hb); (try clear hb2); (try clear hk); (try clear hi)))
   go_ret2
   exact ⟨by first | rfl | (simp [errW_none, errW_some] <;> rfl) | (simp [*, errW_none, errW_some] <;> rfl), bel⟩
  ·replace c6 := Bool.eq_false_iff.mpr c6
   subst c6
   have H1 : ((integer_read.f k a0).bind fun bt340 => ((integer_read.f k a1).bind fun bt344 => ((integer_add.f k bt340.1 bt340.2 bt344.1 bt344.2).bind fun bt348 => ((integer_number_text.f bt348.1 bt348.2).bind fun bt352 => (some (bt352.1, bt352.2)))))) = some (r1, r2) := by rw [if_neg (show ¬ (false = true) by decide)] at H; exact H
   clear H
   have H := H1
   clear H1
   replace H := Option.bind_eq_some_iff.mp H
   obtain ⟨⟨t340, t341⟩, A130, H⟩ := H
   replace H : ((integer_read.f k a1).bind fun bt344 => ((integer_add.f k t340 t341 bt344.1 bt344.2).bind fun bt348 => ((integer_number_text.f bt348.1 bt348.2).bind fun bt352 => (some (bt352.1, bt352.2))))) = some (r1, r2) := H
   have A13 := Aside0.mk A130
   clear A130
   replace H := Option.bind_eq_some_iff.mp H
   obtain ⟨⟨t344, t345⟩, A140, H⟩ := H
   replace H : ((integer_add.f k t340 t341 t344 t345).bind fun bt348 => ((integer_number_text.f bt348.1 bt348.2).bind fun bt352 => (some (bt352.1, bt352.2)))) = some (r1, r2) := H
   have A14 := Aside0.mk A140
   clear A140
   replace H := Option.bind_eq_some_iff.mp H
   obtain ⟨⟨t348, t349⟩, A150, H⟩ := H
   replace H : ((integer_number_text.f t348 t349).bind fun bt352 => (some (bt352.1, bt352.2))) = some (r1, r2) := H
   have A15 := Aside0.mk A150
   clear A150
   replace H := Option.bind_eq_some_iff.mp H
   obtain ⟨⟨t352, t353⟩, A160, H⟩ := H
   replace H : (some (t352, t353)) = some (r1, r2) := H
   have A16 := Aside0.mk A160
   clear A160
   simp only [Option.some.injEq, Prod.mk.injEq] at H
   obtain ⟨rfl, rfl⟩ := H
   go_enter Tryd.func21, Tryd.ntmps21
   go_wp2_with (first | ((with_reducible refine gate_callee (f := 35) rfl ?_); refine goesL_ (some 8) rfl rfl Tryd.func35 (by kernel_rfl) rfl #[.string a0, .string a1] rfl ag ?_; (with_reducible refine (integer_both.calls k a0 a1 true _ ?side1 A3.out).mono ?_); (case side1 => exact GOK.below hG.out bel); rintro e w' ⟨rfl, ⟨nd, rfl⟩⟩; refine ⟨_, rfl, ?_⟩) | ((with_reducible refine gate_callee (f := 46) rfl ?_); refine goesL_ (some 12) rfl rfl Tryd.func46 (by kernel_rfl) rfl #[.string a0, .string a1, .int .i64 18] rfl ag ?_; (with_reducible refine (integer_near.calls a0 a1 18 false _ ?side1 A5.out).mono ?_); (case side1 => exact GOK.below hG.out bel); rintro e w' ⟨rfl, ⟨nd, rfl⟩⟩; refine ⟨_, rfl, ?_⟩) | ((with_reducible refine gate_callee (f := 36) rfl ?_); refine goesL_ (some 20) rfl rfl Tryd.func36 (by kernel_rfl) rfl #[.string a0] rfl ag ?_; (with_reducible refine (integer_read.calls k a0 t340 t341 _ ?side1 A13.out).mono ?_); (case side1 => exact GOK.below hG.out bel); rintro e w17 ⟨v342, rfl, ho0, hb⟩; refine ⟨_, rfl, ?_⟩; have n0_ := Aside0.mk (Kd.V_lower (Kd.V_mono (ok' := fun k_ => True) ho0 (fun k_ hk_ => trivial)) (below_size bel)); have n1_ := Aside0.mk (below_step bel hb); clear HB; have HO343 := n0_; have HB := n1_; clear n0_ n1_; (try clear hb); (try clear hb2); (try clear hk); (try clear hi); (try clear ho0)) | ((with_reducible refine gate_callee (f := 36) rfl ?_); refine goesL_ (some 22) rfl rfl Tryd.func36 (by kernel_rfl) rfl #[.string a1] rfl ag ?_; (with_reducible refine (integer_read.calls k a1 t344 t345 _ ?side1 A14.out).mono ?_); (case side1 => exact GOK.below hG.out bel); rintro e w18 ⟨v346, rfl, ho0, hb⟩; refine ⟨_, rfl, ?_⟩; have n0_ := Aside0.mk (Kd.V_below (kv HO343.out) hb); have n1_ := Aside0.mk (Kd.V_lower (Kd.V_mono (ok' := fun k_ => True) ho0 (fun k_ hk_ => trivial)) (below_size bel)); have n2_ := Aside0.mk (below_step bel hb); clear HO343; clear HB; have HO343 := n0_; have HO347 := n1_; have HB := n2_; clear n0_ n1_ n2_; (try clear hb); (try clear hb2); (try clear hk); (try clear hi); (try clear ho0); obtain ⟨Ao19, co19, eo19⟩ := Kd.V_slice HO343.out; subst eo19; obtain ⟨Ao20, co20, eo20⟩ := Kd.V_slice HO347.out; subst eo20) | ((with_reducible refine gate_callee (f := 39) rfl ?_); refine goesL_ (some 23) rfl rfl Tryd.func39 (by kernel_rfl) rfl #[.agg #[.bool t340, .slice Ao19 t341.length co19], .agg #[.bool t344, .slice Ao20 t345.length co20]] rfl ag ?_; (with_reducible refine (integer_add.calls k t340 (fun k_ => True) _ _ t341 t344 (fun k_ => True) _ _ t345 t348 t349 _ ?side1 ?side2 ?side3 A15.out).mono ?_); (case side1 => exact GOK.below hG.out bel); (case side2 => exact HO343.out); (case side3 => exact HO347.out); rintro e w21 ⟨v350, rfl, ho0, hb⟩; refine ⟨_, rfl, ?_⟩; have n0_ := Aside0.mk (Kd.V_below (kv HO343.out) hb); have n1_ := Aside0.mk (Kd.V_below (kv HO347.out) hb); have n2_ := Aside0.mk (Kd.V_lower (Kd.V_mono (ok' := fun k_ => True) ho0 (fun k_ hk_ => trivial)) (below_size bel)); have n3_ := Aside0.mk (below_step bel hb); clear HO343; clear HO347; clear HB; have HO343 := n0_; have HO347 := n1_; have HO351 := n2_; have HB := n3_; clear n0_ n1_ n2_ n3_; (try clear hb); (try clear hb2); (try clear hk); (try clear hi); (try clear ho0); obtain ⟨Ao22, co22, eo22⟩ := Kd.V_slice HO351.out; subst eo22) | ((with_reducible refine gate_callee (f := 40) rfl ?_); refine goesL_ (some 24) rfl rfl Tryd.func40 (by kernel_rfl) rfl #[.agg #[.bool t348, .slice Ao22 t349.length co22]] rfl ag ?_; (with_reducible refine (integer_number_text.calls t348 _ _ t349 t352 t353 _ ?side1 ?side2 ?side3 A16.out).mono ?_); (case side1 => exact GOK.below hG.out bel); (case side2 => exact kc ((Kd.V_reads' HO351.out).2.2)); (case side3 => exact (Kd.V_reads' HO351.out).2.1); rintro e w23 ⟨rfl, hb⟩; refine ⟨_, rfl, ?_⟩; have n0_ := Aside0.mk (Kd.V_below (kv HO343.out) hb); have n1_ := Aside0.mk (Kd.V_below (kv HO347.out) hb); have n2_ := Aside0.mk (Kd.V_below (kv HO351.out) hb); have n3_ := Aside0.mk (below_step bel hb); clear HO343; clear HO347; clear HO351; clear HB; have HO343 := n0_; have HO347 := n1_; have HO351 := n2_; have HB := n3_; clear n0_ n1_ n2_ n3_; (try clear hb); (try clear hb2); (try clear hk); (try clear hi)))
   go_ret2
   exact ⟨by first | rfl | (simp [errW_none, errW_some] <;> rfl) | (simp [*, errW_none, errW_some] <;> rfl), bel⟩
 ·replace c4 := Bool.eq_false_iff.mpr c4
  subst c4
  have H1 : (some ((⟨#[]⟩ : ByteArray), 3)) = some (r1, r2) := by rw [if_neg (show ¬ (false = true) by decide)] at H; exact H
  clear H
  have H := H1
  clear H1
  simp only [Option.some.injEq, Prod.mk.injEq] at H
  obtain ⟨rfl, rfl⟩ := H
  go_enter Tryd.func21, Tryd.ntmps21
  go_wp2_with (first | ((with_reducible refine gate_callee (f := 35) rfl ?_); refine goesL_ (some 8) rfl rfl Tryd.func35 (by kernel_rfl) rfl #[.string a0, .string a1] rfl ag ?_; (with_reducible refine (integer_both.calls k a0 a1 false _ ?side1 A3.out).mono ?_); (case side1 => exact GOK.below hG.out bel); rintro e w' ⟨rfl, ⟨nd, rfl⟩⟩; refine ⟨_, rfl, ?_⟩))
  go_ret2
  exact ⟨by first | rfl | (simp [errW_none, errW_some] <;> rfl) | (simp [*, errW_none, errW_some] <;> rfl), bel⟩

/-! ### cellarerlaw02_awake: function 11 -/
set_option maxHeartbeats 8000000 in
set_option maxRecDepth 100000 in
theorem cellarerlaw02_awake.calls (k : Nat)  (r : Bool) (w : World) (hG : GOK w) (h : cellarerlaw02_awake.f k  = some r) :
  Calls Tryd.prog 11 #[] w fun e w' => e = .returned (.bool r) ∧ Below w.heap.size w w' := by
 replace hG := Aside0.mk hG
 have HB := Aside0.mk (Below.refl w.heap.size w)
 have H : ((integer_Add.f k (⟨#[57, 57, 57]⟩ : ByteArray) (⟨#[45, 49, 48, 48, 48]⟩ : ByteArray)).bind fun bt354 => ((integer_DivMod.f k (⟨#[45, 55]⟩ : ByteArray) (⟨#[50]⟩ : ByteArray)).bind fun bt356 => ((integer_DivMod.f k (⟨#[49]⟩ : ByteArray) (⟨#[48]⟩ : ByteArray)).bind fun bt359 => ((integer_Gcd.f k (⟨#[45, 49, 50]⟩ : ByteArray) (⟨#[49, 56]⟩ : ByteArray)).bind fun bt362 => (if bt354.2 = 0 then (if bt354.1.toList = ([45, 49] : List UInt8) then (if bt356.2.2 = 0 then (if bt356.1.toList = ([45, 52] : List UInt8) then (if bt356.2.1.toList = ([49] : List UInt8) then (if bt359.2.2 = 24 then (if bt362.2 = 0 then (if bt362.1.toList = ([54] : List UInt8) then ((integer_Valid.f k (⟨#[45, 48]⟩ : ByteArray)).bind fun t364 => (if t364 = true then (some false) else ((integer_Of.f (-5)).bind fun t365 => (some (t365.toList == ([45, 53] : List UInt8)))))) else (some false)) else (some false)) else (some false)) else (some false)) else (some false)) else (some false)) else (some false)) else (some false)))))) = some r := h
 clear h
 replace H := Option.bind_eq_some_iff.mp H
 obtain ⟨⟨t354, t355⟩, A10, H⟩ := H
 replace H : ((integer_DivMod.f k (⟨#[45, 55]⟩ : ByteArray) (⟨#[50]⟩ : ByteArray)).bind fun bt356 => ((integer_DivMod.f k (⟨#[49]⟩ : ByteArray) (⟨#[48]⟩ : ByteArray)).bind fun bt359 => ((integer_Gcd.f k (⟨#[45, 49, 50]⟩ : ByteArray) (⟨#[49, 56]⟩ : ByteArray)).bind fun bt362 => (if t355 = 0 then (if t354.toList = ([45, 49] : List UInt8) then (if bt356.2.2 = 0 then (if bt356.1.toList = ([45, 52] : List UInt8) then (if bt356.2.1.toList = ([49] : List UInt8) then (if bt359.2.2 = 24 then (if bt362.2 = 0 then (if bt362.1.toList = ([54] : List UInt8) then ((integer_Valid.f k (⟨#[45, 48]⟩ : ByteArray)).bind fun t364 => (if t364 = true then (some false) else ((integer_Of.f (-5)).bind fun t365 => (some (t365.toList == ([45, 53] : List UInt8)))))) else (some false)) else (some false)) else (some false)) else (some false)) else (some false)) else (some false)) else (some false)) else (some false))))) = some r := H
 have A1 := Aside0.mk A10
 clear A10
 replace H := Option.bind_eq_some_iff.mp H
 obtain ⟨⟨t356, t357, t358⟩, A20, H⟩ := H
 replace H : ((integer_DivMod.f k (⟨#[49]⟩ : ByteArray) (⟨#[48]⟩ : ByteArray)).bind fun bt359 => ((integer_Gcd.f k (⟨#[45, 49, 50]⟩ : ByteArray) (⟨#[49, 56]⟩ : ByteArray)).bind fun bt362 => (if t355 = 0 then (if t354.toList = ([45, 49] : List UInt8) then (if t358 = 0 then (if t356.toList = ([45, 52] : List UInt8) then (if t357.toList = ([49] : List UInt8) then (if bt359.2.2 = 24 then (if bt362.2 = 0 then (if bt362.1.toList = ([54] : List UInt8) then ((integer_Valid.f k (⟨#[45, 48]⟩ : ByteArray)).bind fun t364 => (if t364 = true then (some false) else ((integer_Of.f (-5)).bind fun t365 => (some (t365.toList == ([45, 53] : List UInt8)))))) else (some false)) else (some false)) else (some false)) else (some false)) else (some false)) else (some false)) else (some false)) else (some false)))) = some r := H
 have A2 := Aside0.mk A20
 clear A20
 replace H := Option.bind_eq_some_iff.mp H
 obtain ⟨⟨t359, t360, t361⟩, A30, H⟩ := H
 replace H : ((integer_Gcd.f k (⟨#[45, 49, 50]⟩ : ByteArray) (⟨#[49, 56]⟩ : ByteArray)).bind fun bt362 => (if t355 = 0 then (if t354.toList = ([45, 49] : List UInt8) then (if t358 = 0 then (if t356.toList = ([45, 52] : List UInt8) then (if t357.toList = ([49] : List UInt8) then (if t361 = 24 then (if bt362.2 = 0 then (if bt362.1.toList = ([54] : List UInt8) then ((integer_Valid.f k (⟨#[45, 48]⟩ : ByteArray)).bind fun t364 => (if t364 = true then (some false) else ((integer_Of.f (-5)).bind fun t365 => (some (t365.toList == ([45, 53] : List UInt8)))))) else (some false)) else (some false)) else (some false)) else (some false)) else (some false)) else (some false)) else (some false)) else (some false))) = some r := H
 have A3 := Aside0.mk A30
 clear A30
 replace H := Option.bind_eq_some_iff.mp H
 obtain ⟨⟨t362, t363⟩, A40, H⟩ := H
 replace H : (if t355 = 0 then (if t354.toList = ([45, 49] : List UInt8) then (if t358 = 0 then (if t356.toList = ([45, 52] : List UInt8) then (if t357.toList = ([49] : List UInt8) then (if t361 = 24 then (if t363 = 0 then (if t362.toList = ([54] : List UInt8) then ((integer_Valid.f k (⟨#[45, 48]⟩ : ByteArray)).bind fun t364 => (if t364 = true then (some false) else ((integer_Of.f (-5)).bind fun t365 => (some (t365.toList == ([45, 53] : List UInt8)))))) else (some false)) else (some false)) else (some false)) else (some false)) else (some false)) else (some false)) else (some false)) else (some false)) = some r := H
 have A4 := Aside0.mk A40
 clear A40
 by_cases c5 : t355 = 0
 ·rw [if_pos c5] at H
  have c5b0 : (t355 == 0) = true := beq_iff_eq.mpr c5
  have c5b1 : (t355 != 0) = false := bne_eq_false_iff_eq.mpr c5
  clear c5
  by_cases c6 : t354.toList = ([45, 49] : List UInt8)
  ·rw [if_pos c6] at H
   have c6b0 : (t354.toList == ([45, 49] : List UInt8)) = true := beq_iff_eq.mpr c6
   have c6b1 : (t354.toList != ([45, 49] : List UInt8)) = false := bne_eq_false_iff_eq.mpr c6
   clear c6
   by_cases c7 : t358 = 0
   ·rw [if_pos c7] at H
    have c7b0 : (t358 == 0) = true := beq_iff_eq.mpr c7
    have c7b1 : (t358 != 0) = false := bne_eq_false_iff_eq.mpr c7
    clear c7
    by_cases c8 : t356.toList = ([45, 52] : List UInt8)
    ·rw [if_pos c8] at H
     have c8b0 : (t356.toList == ([45, 52] : List UInt8)) = true := beq_iff_eq.mpr c8
     have c8b1 : (t356.toList != ([45, 52] : List UInt8)) = false := bne_eq_false_iff_eq.mpr c8
     clear c8
     by_cases c9 : t357.toList = ([49] : List UInt8)
     ·rw [if_pos c9] at H
      have c9b0 : (t357.toList == ([49] : List UInt8)) = true := beq_iff_eq.mpr c9
      have c9b1 : (t357.toList != ([49] : List UInt8)) = false := bne_eq_false_iff_eq.mpr c9
      clear c9
      by_cases c10 : t361 = 24
      ·rw [if_pos c10] at H
       have c10b0 : (t361 == 24) = true := beq_iff_eq.mpr c10
       have c10b1 : (t361 != 24) = false := bne_eq_false_iff_eq.mpr c10
       clear c10
       by_cases c11 : t363 = 0
       ·rw [if_pos c11] at H
        have c11b0 : (t363 == 0) = true := beq_iff_eq.mpr c11
        have c11b1 : (t363 != 0) = false := bne_eq_false_iff_eq.mpr c11
        clear c11
        by_cases c12 : t362.toList = ([54] : List UInt8)
        ·rw [if_pos c12] at H
         have c12b0 : (t362.toList == ([54] : List UInt8)) = true := beq_iff_eq.mpr c12
         have c12b1 : (t362.toList != ([54] : List UInt8)) = false := bne_eq_false_iff_eq.mpr c12
         clear c12
         replace H := Option.bind_eq_some_iff.mp H
         obtain ⟨t364, A130, H⟩ := H
         replace H : (if t364 = true then (some false) else ((integer_Of.f (-5)).bind fun t365 => (some (t365.toList == ([45, 53] : List UInt8))))) = some r := H
         have A13 := Aside0.mk A130
         clear A130
         by_cases c14 : t364 = true
         ·subst c14
          have H1 : (some false) = some r := by rw [if_pos rfl] at H; exact H
          clear H
          have H := H1
          clear H1
          obtain rfl := Option.some.inj H
          go_enter Tryd.func11, Tryd.ntmps11
          go_wp2_with (first | ((with_reducible refine gate_callee (f := 21) rfl ?_); refine goesL_ (some 12) rfl rfl Tryd.func21 (by kernel_rfl) rfl #[.string (⟨#[57, 57, 57]⟩ : ByteArray), .string (⟨#[45, 49, 48, 48, 48]⟩ : ByteArray)] rfl ag ?_; (with_reducible refine (integer_Add.calls k (⟨#[57, 57, 57]⟩ : ByteArray) (⟨#[45, 49, 48, 48, 48]⟩ : ByteArray) t354 t355 _ ?side1 A1.out).mono ?_); (case side1 => exact GOK.below hG.out bel); rintro e w15 ⟨rfl, hb⟩; refine ⟨_, rfl, ?_⟩; have n0_ := Aside0.mk (below_step bel hb); clear HB; have HB := n0_; clear n0_; (try clear hb); (try clear hb2); (try clear hk); (try clear hi)) | ((with_reducible refine gate_callee (f := 13) rfl ?_); refine goesL_ (some 16) rfl rfl Tryd.func13 (by kernel_rfl) rfl #[.string (⟨#[45, 55]⟩ : ByteArray), .string (⟨#[50]⟩ : ByteArray)] rfl ag ?_; (with_reducible refine (integer_DivMod.calls k (⟨#[45, 55]⟩ : ByteArray) (⟨#[50]⟩ : ByteArray) t356 t357 t358 _ ?side1 A2.out).mono ?_); (case side1 => exact GOK.below hG.out bel); rintro e w16 ⟨rfl, hb⟩; refine ⟨_, rfl, ?_⟩; have n0_ := Aside0.mk (below_step bel hb); clear HB; have HB := n0_; clear n0_; (try clear hb); (try clear hb2); (try clear hk); (try clear hi)) | ((with_reducible refine gate_callee (f := 13) rfl ?_); refine goesL_ (some 21) rfl rfl Tryd.func13 (by kernel_rfl) rfl #[.string (⟨#[49]⟩ : ByteArray), .string (⟨#[48]⟩ : ByteArray)] rfl ag ?_; (with_reducible refine (integer_DivMod.calls k (⟨#[49]⟩ : ByteArray) (⟨#[48]⟩ : ByteArray) t359 t360 t361 _ ?side1 A3.out).mono ?_); (case side1 => exact GOK.below hG.out bel); rintro e w17 ⟨rfl, hb⟩; refine ⟨_, rfl, ?_⟩; have n0_ := Aside0.mk (below_step bel hb); clear HB; have HB := n0_; clear n0_; (try clear hb); (try clear hb2); (try clear hk); (try clear hi)) | ((with_reducible refine gate_callee (f := 14) rfl ?_); refine goesL_ (some 26) rfl rfl Tryd.func14 (by kernel_rfl) rfl #[.string (⟨#[45, 49, 50]⟩ : ByteArray), .string (⟨#[49, 56]⟩ : ByteArray)] rfl ag ?_; (with_reducible refine (integer_Gcd.calls k (⟨#[45, 49, 50]⟩ : ByteArray) (⟨#[49, 56]⟩ : ByteArray) t362 t363 _ ?side1 A4.out).mono ?_); (case side1 => exact GOK.below hG.out bel); rintro e w18 ⟨rfl, hb⟩; refine ⟨_, rfl, ?_⟩; have n0_ := Aside0.mk (below_step bel hb); clear HB; have HB := n0_; clear n0_; (try clear hb); (try clear hb2); (try clear hk); (try clear hi)) | (go_at_call 23; (with_reducible refine (integer_Valid.calls k (⟨#[45, 48]⟩ : ByteArray) true _ ?side1 A13.out).mono ?_); (case side1 => exact GOK.below hG.out bel); rintro e w' ⟨rfl, ⟨nd, rfl⟩⟩))
          go_ret
          exact ⟨by first | rfl | (simp [errW_none, errW_some] <;> rfl) | (simp [*, errW_none, errW_some] <;> rfl), bel⟩
         ·replace c14 := Bool.eq_false_iff.mpr c14
          subst c14
          have H1 : ((integer_Of.f (-5)).bind fun t365 => (some (t365.toList == ([45, 53] : List UInt8)))) = some r := by rw [if_neg (show ¬ (false = true) by decide)] at H; exact H
          clear H
          have H := H1
          clear H1
          replace H := Option.bind_eq_some_iff.mp H
          obtain ⟨t365, A190, H⟩ := H
          replace H : (some (t365.toList == ([45, 53] : List UInt8))) = some r := H
          have A19 := Aside0.mk A190
          clear A190
          obtain rfl := Option.some.inj H
          go_enter Tryd.func11, Tryd.ntmps11
          go_wp2_with (first | ((with_reducible refine gate_callee (f := 21) rfl ?_); refine goesL_ (some 12) rfl rfl Tryd.func21 (by kernel_rfl) rfl #[.string (⟨#[57, 57, 57]⟩ : ByteArray), .string (⟨#[45, 49, 48, 48, 48]⟩ : ByteArray)] rfl ag ?_; (with_reducible refine (integer_Add.calls k (⟨#[57, 57, 57]⟩ : ByteArray) (⟨#[45, 49, 48, 48, 48]⟩ : ByteArray) t354 t355 _ ?side1 A1.out).mono ?_); (case side1 => exact GOK.below hG.out bel); rintro e w20 ⟨rfl, hb⟩; refine ⟨_, rfl, ?_⟩; have n0_ := Aside0.mk (below_step bel hb); clear HB; have HB := n0_; clear n0_; (try clear hb); (try clear hb2); (try clear hk); (try clear hi)) | ((with_reducible refine gate_callee (f := 13) rfl ?_); refine goesL_ (some 16) rfl rfl Tryd.func13 (by kernel_rfl) rfl #[.string (⟨#[45, 55]⟩ : ByteArray), .string (⟨#[50]⟩ : ByteArray)] rfl ag ?_; (with_reducible refine (integer_DivMod.calls k (⟨#[45, 55]⟩ : ByteArray) (⟨#[50]⟩ : ByteArray) t356 t357 t358 _ ?side1 A2.out).mono ?_); (case side1 => exact GOK.below hG.out bel); rintro e w21 ⟨rfl, hb⟩; refine ⟨_, rfl, ?_⟩; have n0_ := Aside0.mk (below_step bel hb); clear HB; have HB := n0_; clear n0_; (try clear hb); (try clear hb2); (try clear hk); (try clear hi)) | ((with_reducible refine gate_callee (f := 13) rfl ?_); refine goesL_ (some 21) rfl rfl Tryd.func13 (by kernel_rfl) rfl #[.string (⟨#[49]⟩ : ByteArray), .string (⟨#[48]⟩ : ByteArray)] rfl ag ?_; (with_reducible refine (integer_DivMod.calls k (⟨#[49]⟩ : ByteArray) (⟨#[48]⟩ : ByteArray) t359 t360 t361 _ ?side1 A3.out).mono ?_); (case side1 => exact GOK.below hG.out bel); rintro e w22 ⟨rfl, hb⟩; refine ⟨_, rfl, ?_⟩; have n0_ := Aside0.mk (below_step bel hb); clear HB; have HB := n0_; clear n0_; (try clear hb); (try clear hb2); (try clear hk); (try clear hi)) | ((with_reducible refine gate_callee (f := 14) rfl ?_); refine goesL_ (some 26) rfl rfl Tryd.func14 (by kernel_rfl) rfl #[.string (⟨#[45, 49, 50]⟩ : ByteArray), .string (⟨#[49, 56]⟩ : ByteArray)] rfl ag ?_; (with_reducible refine (integer_Gcd.calls k (⟨#[45, 49, 50]⟩ : ByteArray) (⟨#[49, 56]⟩ : ByteArray) t362 t363 _ ?side1 A4.out).mono ?_); (case side1 => exact GOK.below hG.out bel); rintro e w23 ⟨rfl, hb⟩; refine ⟨_, rfl, ?_⟩; have n0_ := Aside0.mk (below_step bel hb); clear HB; have HB := n0_; clear n0_; (try clear hb); (try clear hb2); (try clear hk); (try clear hi)) | (go_at_call 23; (with_reducible refine (integer_Valid.calls k (⟨#[45, 48]⟩ : ByteArray) false _ ?side1 A13.out).mono ?_); (case side1 => exact GOK.below hG.out bel); rintro e w' ⟨rfl, ⟨nd, rfl⟩⟩) | (go_at_call 29; (with_reducible refine (integer_Of.calls (-5) t365 _ ?side1 A19.out).mono ?_); (case side1 => exact GOK.below hG.out bel); rintro e w24 ⟨rfl, hb⟩; have n0_ := Aside0.mk (below_step bel hb); clear HB; have HB := n0_; clear n0_; (try clear hb); (try clear hb2); (try clear hk); (try clear hi)))
          go_ret
          exact ⟨by first | rfl | (simp [errW_none, errW_some] <;> rfl) | (simp [*, errW_none, errW_some] <;> rfl), bel⟩
        ·rw [if_neg c12] at H
         have c12b0 : (t362.toList == ([54] : List UInt8)) = false := beq_eq_false_iff_ne.mpr c12
         have c12b1 : (t362.toList != ([54] : List UInt8)) = true := bne_iff_ne.mpr c12
         obtain rfl := Option.some.inj H
         go_enter Tryd.func11, Tryd.ntmps11
         go_wp2_with (first | ((with_reducible refine gate_callee (f := 21) rfl ?_); refine goesL_ (some 12) rfl rfl Tryd.func21 (by kernel_rfl) rfl #[.string (⟨#[57, 57, 57]⟩ : ByteArray), .string (⟨#[45, 49, 48, 48, 48]⟩ : ByteArray)] rfl ag ?_; (with_reducible refine (integer_Add.calls k (⟨#[57, 57, 57]⟩ : ByteArray) (⟨#[45, 49, 48, 48, 48]⟩ : ByteArray) t354 t355 _ ?side1 A1.out).mono ?_); (case side1 => exact GOK.below hG.out bel); rintro e w25 ⟨rfl, hb⟩; refine ⟨_, rfl, ?_⟩; have n0_ := Aside0.mk (below_step bel hb); clear HB; have HB := n0_; clear n0_; (try clear hb); (try clear hb2); (try clear hk); (try clear hi)) | ((with_reducible refine gate_callee (f := 13) rfl ?_); refine goesL_ (some 16) rfl rfl Tryd.func13 (by kernel_rfl) rfl #[.string (⟨#[45, 55]⟩ : ByteArray), .string (⟨#[50]⟩ : ByteArray)] rfl ag ?_; (with_reducible refine (integer_DivMod.calls k (⟨#[45, 55]⟩ : ByteArray) (⟨#[50]⟩ : ByteArray) t356 t357 t358 _ ?side1 A2.out).mono ?_); (case side1 => exact GOK.below hG.out bel); rintro e w26 ⟨rfl, hb⟩; refine ⟨_, rfl, ?_⟩; have n0_ := Aside0.mk (below_step bel hb); clear HB; have HB := n0_; clear n0_; (try clear hb); (try clear hb2); (try clear hk); (try clear hi)) | ((with_reducible refine gate_callee (f := 13) rfl ?_); refine goesL_ (some 21) rfl rfl Tryd.func13 (by kernel_rfl) rfl #[.string (⟨#[49]⟩ : ByteArray), .string (⟨#[48]⟩ : ByteArray)] rfl ag ?_; (with_reducible refine (integer_DivMod.calls k (⟨#[49]⟩ : ByteArray) (⟨#[48]⟩ : ByteArray) t359 t360 t361 _ ?side1 A3.out).mono ?_); (case side1 => exact GOK.below hG.out bel); rintro e w27 ⟨rfl, hb⟩; refine ⟨_, rfl, ?_⟩; have n0_ := Aside0.mk (below_step bel hb); clear HB; have HB := n0_; clear n0_; (try clear hb); (try clear hb2); (try clear hk); (try clear hi)) | ((with_reducible refine gate_callee (f := 14) rfl ?_); refine goesL_ (some 26) rfl rfl Tryd.func14 (by kernel_rfl) rfl #[.string (⟨#[45, 49, 50]⟩ : ByteArray), .string (⟨#[49, 56]⟩ : ByteArray)] rfl ag ?_; (with_reducible refine (integer_Gcd.calls k (⟨#[45, 49, 50]⟩ : ByteArray) (⟨#[49, 56]⟩ : ByteArray) t362 t363 _ ?side1 A4.out).mono ?_); (case side1 => exact GOK.below hG.out bel); rintro e w28 ⟨rfl, hb⟩; refine ⟨_, rfl, ?_⟩; have n0_ := Aside0.mk (below_step bel hb); clear HB; have HB := n0_; clear n0_; (try clear hb); (try clear hb2); (try clear hk); (try clear hi)))
         go_ret
         exact ⟨by first | rfl | (simp [errW_none, errW_some] <;> rfl) | (simp [*, errW_none, errW_some] <;> rfl), bel⟩
       ·rw [if_neg c11] at H
        have c11b0 : (t363 == 0) = false := beq_eq_false_iff_ne.mpr c11
        have c11b1 : (t363 != 0) = true := bne_iff_ne.mpr c11
        obtain rfl := Option.some.inj H
        go_enter Tryd.func11, Tryd.ntmps11
        go_wp2_with (first | ((with_reducible refine gate_callee (f := 21) rfl ?_); refine goesL_ (some 12) rfl rfl Tryd.func21 (by kernel_rfl) rfl #[.string (⟨#[57, 57, 57]⟩ : ByteArray), .string (⟨#[45, 49, 48, 48, 48]⟩ : ByteArray)] rfl ag ?_; (with_reducible refine (integer_Add.calls k (⟨#[57, 57, 57]⟩ : ByteArray) (⟨#[45, 49, 48, 48, 48]⟩ : ByteArray) t354 t355 _ ?side1 A1.out).mono ?_); (case side1 => exact GOK.below hG.out bel); rintro e w29 ⟨rfl, hb⟩; refine ⟨_, rfl, ?_⟩; have n0_ := Aside0.mk (below_step bel hb); clear HB; have HB := n0_; clear n0_; (try clear hb); (try clear hb2); (try clear hk); (try clear hi)) | ((with_reducible refine gate_callee (f := 13) rfl ?_); refine goesL_ (some 16) rfl rfl Tryd.func13 (by kernel_rfl) rfl #[.string (⟨#[45, 55]⟩ : ByteArray), .string (⟨#[50]⟩ : ByteArray)] rfl ag ?_; (with_reducible refine (integer_DivMod.calls k (⟨#[45, 55]⟩ : ByteArray) (⟨#[50]⟩ : ByteArray) t356 t357 t358 _ ?side1 A2.out).mono ?_); (case side1 => exact GOK.below hG.out bel); rintro e w30 ⟨rfl, hb⟩; refine ⟨_, rfl, ?_⟩; have n0_ := Aside0.mk (below_step bel hb); clear HB; have HB := n0_; clear n0_; (try clear hb); (try clear hb2); (try clear hk); (try clear hi)) | ((with_reducible refine gate_callee (f := 13) rfl ?_); refine goesL_ (some 21) rfl rfl Tryd.func13 (by kernel_rfl) rfl #[.string (⟨#[49]⟩ : ByteArray), .string (⟨#[48]⟩ : ByteArray)] rfl ag ?_; (with_reducible refine (integer_DivMod.calls k (⟨#[49]⟩ : ByteArray) (⟨#[48]⟩ : ByteArray) t359 t360 t361 _ ?side1 A3.out).mono ?_); (case side1 => exact GOK.below hG.out bel); rintro e w31 ⟨rfl, hb⟩; refine ⟨_, rfl, ?_⟩; have n0_ := Aside0.mk (below_step bel hb); clear HB; have HB := n0_; clear n0_; (try clear hb); (try clear hb2); (try clear hk); (try clear hi)) | ((with_reducible refine gate_callee (f := 14) rfl ?_); refine goesL_ (some 26) rfl rfl Tryd.func14 (by kernel_rfl) rfl #[.string (⟨#[45, 49, 50]⟩ : ByteArray), .string (⟨#[49, 56]⟩ : ByteArray)] rfl ag ?_; (with_reducible refine (integer_Gcd.calls k (⟨#[45, 49, 50]⟩ : ByteArray) (⟨#[49, 56]⟩ : ByteArray) t362 t363 _ ?side1 A4.out).mono ?_); (case side1 => exact GOK.below hG.out bel); rintro e w32 ⟨rfl, hb⟩; refine ⟨_, rfl, ?_⟩; have n0_ := Aside0.mk (below_step bel hb); clear HB; have HB := n0_; clear n0_; (try clear hb); (try clear hb2); (try clear hk); (try clear hi)))
        go_ret
        exact ⟨by first | rfl | (simp [errW_none, errW_some] <;> rfl) | (simp [*, errW_none, errW_some] <;> rfl), bel⟩
      ·rw [if_neg c10] at H
       have c10b0 : (t361 == 24) = false := beq_eq_false_iff_ne.mpr c10
       have c10b1 : (t361 != 24) = true := bne_iff_ne.mpr c10
       obtain rfl := Option.some.inj H
       go_enter Tryd.func11, Tryd.ntmps11
       go_wp2_with (first | ((with_reducible refine gate_callee (f := 21) rfl ?_); refine goesL_ (some 12) rfl rfl Tryd.func21 (by kernel_rfl) rfl #[.string (⟨#[57, 57, 57]⟩ : ByteArray), .string (⟨#[45, 49, 48, 48, 48]⟩ : ByteArray)] rfl ag ?_; (with_reducible refine (integer_Add.calls k (⟨#[57, 57, 57]⟩ : ByteArray) (⟨#[45, 49, 48, 48, 48]⟩ : ByteArray) t354 t355 _ ?side1 A1.out).mono ?_); (case side1 => exact GOK.below hG.out bel); rintro e w33 ⟨rfl, hb⟩; refine ⟨_, rfl, ?_⟩; have n0_ := Aside0.mk (below_step bel hb); clear HB; have HB := n0_; clear n0_; (try clear hb); (try clear hb2); (try clear hk); (try clear hi)) | ((with_reducible refine gate_callee (f := 13) rfl ?_); refine goesL_ (some 16) rfl rfl Tryd.func13 (by kernel_rfl) rfl #[.string (⟨#[45, 55]⟩ : ByteArray), .string (⟨#[50]⟩ : ByteArray)] rfl ag ?_; (with_reducible refine (integer_DivMod.calls k (⟨#[45, 55]⟩ : ByteArray) (⟨#[50]⟩ : ByteArray) t356 t357 t358 _ ?side1 A2.out).mono ?_); (case side1 => exact GOK.below hG.out bel); rintro e w34 ⟨rfl, hb⟩; refine ⟨_, rfl, ?_⟩; have n0_ := Aside0.mk (below_step bel hb); clear HB; have HB := n0_; clear n0_; (try clear hb); (try clear hb2); (try clear hk); (try clear hi)) | ((with_reducible refine gate_callee (f := 13) rfl ?_); refine goesL_ (some 21) rfl rfl Tryd.func13 (by kernel_rfl) rfl #[.string (⟨#[49]⟩ : ByteArray), .string (⟨#[48]⟩ : ByteArray)] rfl ag ?_; (with_reducible refine (integer_DivMod.calls k (⟨#[49]⟩ : ByteArray) (⟨#[48]⟩ : ByteArray) t359 t360 t361 _ ?side1 A3.out).mono ?_); (case side1 => exact GOK.below hG.out bel); rintro e w35 ⟨rfl, hb⟩; refine ⟨_, rfl, ?_⟩; have n0_ := Aside0.mk (below_step bel hb); clear HB; have HB := n0_; clear n0_; (try clear hb); (try clear hb2); (try clear hk); (try clear hi)) | ((with_reducible refine gate_callee (f := 14) rfl ?_); refine goesL_ (some 26) rfl rfl Tryd.func14 (by kernel_rfl) rfl #[.string (⟨#[45, 49, 50]⟩ : ByteArray), .string (⟨#[49, 56]⟩ : ByteArray)] rfl ag ?_; (with_reducible refine (integer_Gcd.calls k (⟨#[45, 49, 50]⟩ : ByteArray) (⟨#[49, 56]⟩ : ByteArray) t362 t363 _ ?side1 A4.out).mono ?_); (case side1 => exact GOK.below hG.out bel); rintro e w36 ⟨rfl, hb⟩; refine ⟨_, rfl, ?_⟩; have n0_ := Aside0.mk (below_step bel hb); clear HB; have HB := n0_; clear n0_; (try clear hb); (try clear hb2); (try clear hk); (try clear hi)))
       go_ret
       exact ⟨by first | rfl | (simp [errW_none, errW_some] <;> rfl) | (simp [*, errW_none, errW_some] <;> rfl), bel⟩
     ·rw [if_neg c9] at H
      have c9b0 : (t357.toList == ([49] : List UInt8)) = false := beq_eq_false_iff_ne.mpr c9
      have c9b1 : (t357.toList != ([49] : List UInt8)) = true := bne_iff_ne.mpr c9
      obtain rfl := Option.some.inj H
      go_enter Tryd.func11, Tryd.ntmps11
      go_wp2_with (first | ((with_reducible refine gate_callee (f := 21) rfl ?_); refine goesL_ (some 12) rfl rfl Tryd.func21 (by kernel_rfl) rfl #[.string (⟨#[57, 57, 57]⟩ : ByteArray), .string (⟨#[45, 49, 48, 48, 48]⟩ : ByteArray)] rfl ag ?_; (with_reducible refine (integer_Add.calls k (⟨#[57, 57, 57]⟩ : ByteArray) (⟨#[45, 49, 48, 48, 48]⟩ : ByteArray) t354 t355 _ ?side1 A1.out).mono ?_); (case side1 => exact GOK.below hG.out bel); rintro e w37 ⟨rfl, hb⟩; refine ⟨_, rfl, ?_⟩; have n0_ := Aside0.mk (below_step bel hb); clear HB; have HB := n0_; clear n0_; (try clear hb); (try clear hb2); (try clear hk); (try clear hi)) | ((with_reducible refine gate_callee (f := 13) rfl ?_); refine goesL_ (some 16) rfl rfl Tryd.func13 (by kernel_rfl) rfl #[.string (⟨#[45, 55]⟩ : ByteArray), .string (⟨#[50]⟩ : ByteArray)] rfl ag ?_; (with_reducible refine (integer_DivMod.calls k (⟨#[45, 55]⟩ : ByteArray) (⟨#[50]⟩ : ByteArray) t356 t357 t358 _ ?side1 A2.out).mono ?_); (case side1 => exact GOK.below hG.out bel); rintro e w38 ⟨rfl, hb⟩; refine ⟨_, rfl, ?_⟩; have n0_ := Aside0.mk (below_step bel hb); clear HB; have HB := n0_; clear n0_; (try clear hb); (try clear hb2); (try clear hk); (try clear hi)) | ((with_reducible refine gate_callee (f := 13) rfl ?_); refine goesL_ (some 21) rfl rfl Tryd.func13 (by kernel_rfl) rfl #[.string (⟨#[49]⟩ : ByteArray), .string (⟨#[48]⟩ : ByteArray)] rfl ag ?_; (with_reducible refine (integer_DivMod.calls k (⟨#[49]⟩ : ByteArray) (⟨#[48]⟩ : ByteArray) t359 t360 t361 _ ?side1 A3.out).mono ?_); (case side1 => exact GOK.below hG.out bel); rintro e w39 ⟨rfl, hb⟩; refine ⟨_, rfl, ?_⟩; have n0_ := Aside0.mk (below_step bel hb); clear HB; have HB := n0_; clear n0_; (try clear hb); (try clear hb2); (try clear hk); (try clear hi)) | ((with_reducible refine gate_callee (f := 14) rfl ?_); refine goesL_ (some 26) rfl rfl Tryd.func14 (by kernel_rfl) rfl #[.string (⟨#[45, 49, 50]⟩ : ByteArray), .string (⟨#[49, 56]⟩ : ByteArray)] rfl ag ?_; (with_reducible refine (integer_Gcd.calls k (⟨#[45, 49, 50]⟩ : ByteArray) (⟨#[49, 56]⟩ : ByteArray) t362 t363 _ ?side1 A4.out).mono ?_); (case side1 => exact GOK.below hG.out bel); rintro e w40 ⟨rfl, hb⟩; refine ⟨_, rfl, ?_⟩; have n0_ := Aside0.mk (below_step bel hb); clear HB; have HB := n0_; clear n0_; (try clear hb); (try clear hb2); (try clear hk); (try clear hi)))
      go_ret
      exact ⟨by first | rfl | (simp [errW_none, errW_some] <;> rfl) | (simp [*, errW_none, errW_some] <;> rfl), bel⟩
    ·rw [if_neg c8] at H
     have c8b0 : (t356.toList == ([45, 52] : List UInt8)) = false := beq_eq_false_iff_ne.mpr c8
     have c8b1 : (t356.toList != ([45, 52] : List UInt8)) = true := bne_iff_ne.mpr c8
     obtain rfl := Option.some.inj H
     go_enter Tryd.func11, Tryd.ntmps11
     go_wp2_with (first | ((with_reducible refine gate_callee (f := 21) rfl ?_); refine goesL_ (some 12) rfl rfl Tryd.func21 (by kernel_rfl) rfl #[.string (⟨#[57, 57, 57]⟩ : ByteArray), .string (⟨#[45, 49, 48, 48, 48]⟩ : ByteArray)] rfl ag ?_; (with_reducible refine (integer_Add.calls k (⟨#[57, 57, 57]⟩ : ByteArray) (⟨#[45, 49, 48, 48, 48]⟩ : ByteArray) t354 t355 _ ?side1 A1.out).mono ?_); (case side1 => exact GOK.below hG.out bel); rintro e w41 ⟨rfl, hb⟩; refine ⟨_, rfl, ?_⟩; have n0_ := Aside0.mk (below_step bel hb); clear HB; have HB := n0_; clear n0_; (try clear hb); (try clear hb2); (try clear hk); (try clear hi)) | ((with_reducible refine gate_callee (f := 13) rfl ?_); refine goesL_ (some 16) rfl rfl Tryd.func13 (by kernel_rfl) rfl #[.string (⟨#[45, 55]⟩ : ByteArray), .string (⟨#[50]⟩ : ByteArray)] rfl ag ?_; (with_reducible refine (integer_DivMod.calls k (⟨#[45, 55]⟩ : ByteArray) (⟨#[50]⟩ : ByteArray) t356 t357 t358 _ ?side1 A2.out).mono ?_); (case side1 => exact GOK.below hG.out bel); rintro e w42 ⟨rfl, hb⟩; refine ⟨_, rfl, ?_⟩; have n0_ := Aside0.mk (below_step bel hb); clear HB; have HB := n0_; clear n0_; (try clear hb); (try clear hb2); (try clear hk); (try clear hi)) | ((with_reducible refine gate_callee (f := 13) rfl ?_); refine goesL_ (some 21) rfl rfl Tryd.func13 (by kernel_rfl) rfl #[.string (⟨#[49]⟩ : ByteArray), .string (⟨#[48]⟩ : ByteArray)] rfl ag ?_; (with_reducible refine (integer_DivMod.calls k (⟨#[49]⟩ : ByteArray) (⟨#[48]⟩ : ByteArray) t359 t360 t361 _ ?side1 A3.out).mono ?_); (case side1 => exact GOK.below hG.out bel); rintro e w43 ⟨rfl, hb⟩; refine ⟨_, rfl, ?_⟩; have n0_ := Aside0.mk (below_step bel hb); clear HB; have HB := n0_; clear n0_; (try clear hb); (try clear hb2); (try clear hk); (try clear hi)) | ((with_reducible refine gate_callee (f := 14) rfl ?_); refine goesL_ (some 26) rfl rfl Tryd.func14 (by kernel_rfl) rfl #[.string (⟨#[45, 49, 50]⟩ : ByteArray), .string (⟨#[49, 56]⟩ : ByteArray)] rfl ag ?_; (with_reducible refine (integer_Gcd.calls k (⟨#[45, 49, 50]⟩ : ByteArray) (⟨#[49, 56]⟩ : ByteArray) t362 t363 _ ?side1 A4.out).mono ?_); (case side1 => exact GOK.below hG.out bel); rintro e w44 ⟨rfl, hb⟩; refine ⟨_, rfl, ?_⟩; have n0_ := Aside0.mk (below_step bel hb); clear HB; have HB := n0_; clear n0_; (try clear hb); (try clear hb2); (try clear hk); (try clear hi)))
     go_ret
     exact ⟨by first | rfl | (simp [errW_none, errW_some] <;> rfl) | (simp [*, errW_none, errW_some] <;> rfl), bel⟩
   ·rw [if_neg c7] at H
    have c7b0 : (t358 == 0) = false := beq_eq_false_iff_ne.mpr c7
    have c7b1 : (t358 != 0) = true := bne_iff_ne.mpr c7
    obtain rfl := Option.some.inj H
    go_enter Tryd.func11, Tryd.ntmps11
    go_wp2_with (first | ((with_reducible refine gate_callee (f := 21) rfl ?_); refine goesL_ (some 12) rfl rfl Tryd.func21 (by kernel_rfl) rfl #[.string (⟨#[57, 57, 57]⟩ : ByteArray), .string (⟨#[45, 49, 48, 48, 48]⟩ : ByteArray)] rfl ag ?_; (with_reducible refine (integer_Add.calls k (⟨#[57, 57, 57]⟩ : ByteArray) (⟨#[45, 49, 48, 48, 48]⟩ : ByteArray) t354 t355 _ ?side1 A1.out).mono ?_); (case side1 => exact GOK.below hG.out bel); rintro e w45 ⟨rfl, hb⟩; refine ⟨_, rfl, ?_⟩; have n0_ := Aside0.mk (below_step bel hb); clear HB; have HB := n0_; clear n0_; (try clear hb); (try clear hb2); (try clear hk); (try clear hi)) | ((with_reducible refine gate_callee (f := 13) rfl ?_); refine goesL_ (some 16) rfl rfl Tryd.func13 (by kernel_rfl) rfl #[.string (⟨#[45, 55]⟩ : ByteArray), .string (⟨#[50]⟩ : ByteArray)] rfl ag ?_; (with_reducible refine (integer_DivMod.calls k (⟨#[45, 55]⟩ : ByteArray) (⟨#[50]⟩ : ByteArray) t356 t357 t358 _ ?side1 A2.out).mono ?_); (case side1 => exact GOK.below hG.out bel); rintro e w46 ⟨rfl, hb⟩; refine ⟨_, rfl, ?_⟩; have n0_ := Aside0.mk (below_step bel hb); clear HB; have HB := n0_; clear n0_; (try clear hb); (try clear hb2); (try clear hk); (try clear hi)) | ((with_reducible refine gate_callee (f := 13) rfl ?_); refine goesL_ (some 21) rfl rfl Tryd.func13 (by kernel_rfl) rfl #[.string (⟨#[49]⟩ : ByteArray), .string (⟨#[48]⟩ : ByteArray)] rfl ag ?_; (with_reducible refine (integer_DivMod.calls k (⟨#[49]⟩ : ByteArray) (⟨#[48]⟩ : ByteArray) t359 t360 t361 _ ?side1 A3.out).mono ?_); (case side1 => exact GOK.below hG.out bel); rintro e w47 ⟨rfl, hb⟩; refine ⟨_, rfl, ?_⟩; have n0_ := Aside0.mk (below_step bel hb); clear HB; have HB := n0_; clear n0_; (try clear hb); (try clear hb2); (try clear hk); (try clear hi)) | ((with_reducible refine gate_callee (f := 14) rfl ?_); refine goesL_ (some 26) rfl rfl Tryd.func14 (by kernel_rfl) rfl #[.string (⟨#[45, 49, 50]⟩ : ByteArray), .string (⟨#[49, 56]⟩ : ByteArray)] rfl ag ?_; (with_reducible refine (integer_Gcd.calls k (⟨#[45, 49, 50]⟩ : ByteArray) (⟨#[49, 56]⟩ : ByteArray) t362 t363 _ ?side1 A4.out).mono ?_); (case side1 => exact GOK.below hG.out bel); rintro e w48 ⟨rfl, hb⟩; refine ⟨_, rfl, ?_⟩; have n0_ := Aside0.mk (below_step bel hb); clear HB; have HB := n0_; clear n0_; (try clear hb); (try clear hb2); (try clear hk); (try clear hi)))
    go_ret
    exact ⟨by first | rfl | (simp [errW_none, errW_some] <;> rfl) | (simp [*, errW_none, errW_some] <;> rfl), bel⟩
  ·rw [if_neg c6] at H
   have c6b0 : (t354.toList == ([45, 49] : List UInt8)) = false := beq_eq_false_iff_ne.mpr c6
   have c6b1 : (t354.toList != ([45, 49] : List UInt8)) = true := bne_iff_ne.mpr c6
   obtain rfl := Option.some.inj H
   go_enter Tryd.func11, Tryd.ntmps11
   go_wp2_with (first | ((with_reducible refine gate_callee (f := 21) rfl ?_); refine goesL_ (some 12) rfl rfl Tryd.func21 (by kernel_rfl) rfl #[.string (⟨#[57, 57, 57]⟩ : ByteArray), .string (⟨#[45, 49, 48, 48, 48]⟩ : ByteArray)] rfl ag ?_; (with_reducible refine (integer_Add.calls k (⟨#[57, 57, 57]⟩ : ByteArray) (⟨#[45, 49, 48, 48, 48]⟩ : ByteArray) t354 t355 _ ?side1 A1.out).mono ?_); (case side1 => exact GOK.below hG.out bel); rintro e w49 ⟨rfl, hb⟩; refine ⟨_, rfl, ?_⟩; have n0_ := Aside0.mk (below_step bel hb); clear HB; have HB := n0_; clear n0_; (try clear hb); (try clear hb2); (try clear hk); (try clear hi)) | ((with_reducible refine gate_callee (f := 13) rfl ?_); refine goesL_ (some 16) rfl rfl Tryd.func13 (by kernel_rfl) rfl #[.string (⟨#[45, 55]⟩ : ByteArray), .string (⟨#[50]⟩ : ByteArray)] rfl ag ?_; (with_reducible refine (integer_DivMod.calls k (⟨#[45, 55]⟩ : ByteArray) (⟨#[50]⟩ : ByteArray) t356 t357 t358 _ ?side1 A2.out).mono ?_); (case side1 => exact GOK.below hG.out bel); rintro e w50 ⟨rfl, hb⟩; refine ⟨_, rfl, ?_⟩; have n0_ := Aside0.mk (below_step bel hb); clear HB; have HB := n0_; clear n0_; (try clear hb); (try clear hb2); (try clear hk); (try clear hi)) | ((with_reducible refine gate_callee (f := 13) rfl ?_); refine goesL_ (some 21) rfl rfl Tryd.func13 (by kernel_rfl) rfl #[.string (⟨#[49]⟩ : ByteArray), .string (⟨#[48]⟩ : ByteArray)] rfl ag ?_; (with_reducible refine (integer_DivMod.calls k (⟨#[49]⟩ : ByteArray) (⟨#[48]⟩ : ByteArray) t359 t360 t361 _ ?side1 A3.out).mono ?_); (case side1 => exact GOK.below hG.out bel); rintro e w51 ⟨rfl, hb⟩; refine ⟨_, rfl, ?_⟩; have n0_ := Aside0.mk (below_step bel hb); clear HB; have HB := n0_; clear n0_; (try clear hb); (try clear hb2); (try clear hk); (try clear hi)) | ((with_reducible refine gate_callee (f := 14) rfl ?_); refine goesL_ (some 26) rfl rfl Tryd.func14 (by kernel_rfl) rfl #[.string (⟨#[45, 49, 50]⟩ : ByteArray), .string (⟨#[49, 56]⟩ : ByteArray)] rfl ag ?_; (with_reducible refine (integer_Gcd.calls k (⟨#[45, 49, 50]⟩ : ByteArray) (⟨#[49, 56]⟩ : ByteArray) t362 t363 _ ?side1 A4.out).mono ?_); (case side1 => exact GOK.below hG.out bel); rintro e w52 ⟨rfl, hb⟩; refine ⟨_, rfl, ?_⟩; have n0_ := Aside0.mk (below_step bel hb); clear HB; have HB := n0_; clear n0_; (try clear hb); (try clear hb2); (try clear hk); (try clear hi)))
   go_ret
   exact ⟨by first | rfl | (simp [errW_none, errW_some] <;> rfl) | (simp [*, errW_none, errW_some] <;> rfl), bel⟩
 ·rw [if_neg c5] at H
  have c5b0 : (t355 == 0) = false := beq_eq_false_iff_ne.mpr c5
  have c5b1 : (t355 != 0) = true := bne_iff_ne.mpr c5
  obtain rfl := Option.some.inj H
  go_enter Tryd.func11, Tryd.ntmps11
  go_wp2_with (first | ((with_reducible refine gate_callee (f := 21) rfl ?_); refine goesL_ (some 12) rfl rfl Tryd.func21 (by kernel_rfl) rfl #[.string (⟨#[57, 57, 57]⟩ : ByteArray), .string (⟨#[45, 49, 48, 48, 48]⟩ : ByteArray)] rfl ag ?_; (with_reducible refine (integer_Add.calls k (⟨#[57, 57, 57]⟩ : ByteArray) (⟨#[45, 49, 48, 48, 48]⟩ : ByteArray) t354 t355 _ ?side1 A1.out).mono ?_); (case side1 => exact GOK.below hG.out bel); rintro e w53 ⟨rfl, hb⟩; refine ⟨_, rfl, ?_⟩; have n0_ := Aside0.mk (below_step bel hb); clear HB; have HB := n0_; clear n0_; (try clear hb); (try clear hb2); (try clear hk); (try clear hi)) | ((with_reducible refine gate_callee (f := 13) rfl ?_); refine goesL_ (some 16) rfl rfl Tryd.func13 (by kernel_rfl) rfl #[.string (⟨#[45, 55]⟩ : ByteArray), .string (⟨#[50]⟩ : ByteArray)] rfl ag ?_; (with_reducible refine (integer_DivMod.calls k (⟨#[45, 55]⟩ : ByteArray) (⟨#[50]⟩ : ByteArray) t356 t357 t358 _ ?side1 A2.out).mono ?_); (case side1 => exact GOK.below hG.out bel); rintro e w54 ⟨rfl, hb⟩; refine ⟨_, rfl, ?_⟩; have n0_ := Aside0.mk (below_step bel hb); clear HB; have HB := n0_; clear n0_; (try clear hb); (try clear hb2); (try clear hk); (try clear hi)) | ((with_reducible refine gate_callee (f := 13) rfl ?_); refine goesL_ (some 21) rfl rfl Tryd.func13 (by kernel_rfl) rfl #[.string (⟨#[49]⟩ : ByteArray), .string (⟨#[48]⟩ : ByteArray)] rfl ag ?_; (with_reducible refine (integer_DivMod.calls k (⟨#[49]⟩ : ByteArray) (⟨#[48]⟩ : ByteArray) t359 t360 t361 _ ?side1 A3.out).mono ?_); (case side1 => exact GOK.below hG.out bel); rintro e w55 ⟨rfl, hb⟩; refine ⟨_, rfl, ?_⟩; have n0_ := Aside0.mk (below_step bel hb); clear HB; have HB := n0_; clear n0_; (try clear hb); (try clear hb2); (try clear hk); (try clear hi)) | ((with_reducible refine gate_callee (f := 14) rfl ?_); refine goesL_ (some 26) rfl rfl Tryd.func14 (by kernel_rfl) rfl #[.string (⟨#[45, 49, 50]⟩ : ByteArray), .string (⟨#[49, 56]⟩ : ByteArray)] rfl ag ?_; (with_reducible refine (integer_Gcd.calls k (⟨#[45, 49, 50]⟩ : ByteArray) (⟨#[49, 56]⟩ : ByteArray) t362 t363 _ ?side1 A4.out).mono ?_); (case side1 => exact GOK.below hG.out bel); rintro e w56 ⟨rfl, hb⟩; refine ⟨_, rfl, ?_⟩; have n0_ := Aside0.mk (below_step bel hb); clear HB; have HB := n0_; clear n0_; (try clear hb); (try clear hb2); (try clear hk); (try clear hi)))
  go_ret
  exact ⟨by first | rfl | (simp [errW_none, errW_some] <;> rfl) | (simp [*, errW_none, errW_some] <;> rfl), bel⟩

/-! ### cellarerlaw02_long: function 12 -/
set_option maxHeartbeats 8000000 in
set_option maxRecDepth 100000 in
theorem cellarerlaw02_long.calls (a0 : ByteArray) (a1 : ByteArray) (r : Bool) (w : World) (hG : GOK w) (h : cellarerlaw02_long.f a0 a1 = some r) :
  Calls Tryd.prog 12 #[.string a0, .string a1] w fun e w' => e = .returned (.bool r) ∧ Drawn0 w w' := by
 replace hG := Aside0.mk hG
 have H : (if (a0.size : Int) > 420 then (some true) else (some (decide ((a1.size : Int) > 420)))) = some r := h
 clear h
 by_cases c3 : (a0.size : Int) > 420
 ·rw [if_pos c3] at H
  have c3b0 : decide (420 < (a0.size : Int)) = true := decide_eq_true c3
  have c3b1 : decide (420 < a0.size) = true := decide_eq_true (by omega)
  clear c3
  obtain rfl := Option.some.inj H
  go_enter Tryd.func12, Tryd.ntmps12
  go_wp2
  go_ret
  exact ⟨by first | rfl | (simp; done) | (simp [*]; done), by repeat (first | exact Drawn0.refl _ | apply Drawn0.step)⟩
 ·rw [if_neg c3] at H
  have c3b0 : decide (420 < (a0.size : Int)) = false := decide_eq_false c3
  have c3b1 : decide (420 < a0.size) = false := decide_eq_false (by omega)
  clear c3
  obtain rfl := Option.some.inj H
  go_enter Tryd.func12, Tryd.ntmps12
  go_wp2
  go_ret
  exact ⟨by first | rfl | (simp; done) | (simp [*]; done), by repeat (first | exact Drawn0.refl _ | apply Drawn0.step)⟩

end Go.Proofs.YtdnjlmoggnbknaaDoor.PInt
