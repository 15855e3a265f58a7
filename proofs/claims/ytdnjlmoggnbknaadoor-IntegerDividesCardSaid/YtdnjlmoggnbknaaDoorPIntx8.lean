-- Written by a program of this session's (xprint.py) over the kit's print.
import Derived.Test.YtdnjlmoggnbknaaDoorPIntx0
import Derived.Test.YtdnjlmoggnbknaaDoorPIntx1
import Derived.Test.YtdnjlmoggnbknaaDoorPIntx4
import Derived.Test.YtdnjlmoggnbknaaDoorPIntx6
import Derived.Test.YtdnjlmoggnbknaaDoorPIntx7
import Derived.Test.YtdnjlmoggnbknaaDoorPIntD
import Derived.Test.YtdnjlmoggnbknaaDoorAuto
namespace Go.Proofs.YtdnjlmoggnbknaaDoor.PInt
open Go.RowKit Go.Proofs.YtdnjlmoggnbknaaDoor.Ext Go.Proofs.YtdnjlmoggnbknaaDoorW.PrintWords Go.Proofs.YtdnjlmoggnbknaaDoorW.PrintLast Go.Proofs.YtdnjlmoggnbknaaDoorW.PrintMore
attribute [local go_sem high] gtr_print leq_print
attribute [local go_sem] max2_int min2_int max_two min_two max_three min_three max_four min_four   -- for this text's walks alone
set_option linter.unusedVariables false
set_option linter.unusedSimpArgs false

/-! ### integer_Gcd: function 14 -/
set_option maxHeartbeats 8000000 in
set_option maxRecDepth 100000 in
theorem integer_Gcd.calls (k : Nat) (a0 : ByteArray) (a1 : ByteArray) (r1 : ByteArray) (r2 : Int) (w : World) (hG : GOK w) (h : integer_Gcd.f k a0 a1 = some (r1, r2)) :
  Calls Tryd.prog 14 #[.string a0, .string a1] w fun e w' => e = .returned (.tuple #[.string r1, .int .i64 r2]) ∧ Below w.heap.size w w' := by
 have hu51 := Tryd.underlying51
 replace hG := Aside0.mk hG
 have HB := Aside0.mk (Below.refl w.heap.size w)
 have H : ((integer_both.f k a0 a1).bind fun t315 => (if t315 = true then ((integer_read.f k a0).bind fun bt316 => ((integer_read.f k a1).bind fun bt320 => (integer_Gcd.l0 k bt316.2 bt320.2))) else (some ((⟨#[]⟩ : ByteArray), 3)))) = some (r1, r2) := h
 clear h
 obtain ⟨t315, A3, H⟩ := bind_ H
 try dsimp only at H
 by_cases c4 : t315 = true
 ·subst c4
  rw [if_pos rfl] at H
  obtain ⟨⟨t316, t317⟩, A5, H⟩ := bind_ H
  try dsimp only at H
  obtain ⟨⟨t320, t321⟩, A6, H⟩ := bind_ H
  try dsimp only at H
  have H' := Aside0.mk H
  clear H
  go_enter Tryd.func14, Tryd.ntmps14
  go_wp2_with (first | ((with_reducible refine gate_callee (f := 35) rfl ?_); refine goesL_ (some 12) rfl rfl Tryd.func35 (by kernel_rfl) rfl #[.string a0, .string a1] rfl ag ?_; (with_reducible refine (integer_both.calls k a0 a1 true _ gk A3.out).mono ?_); rintro e w' ⟨rfl, ⟨nd, rfl⟩⟩; refine ⟨_, rfl, ?_⟩) | ((with_reducible refine gate_callee (f := 36) rfl ?_); refine goesL_ (some 15) rfl rfl Tryd.func36 (by kernel_rfl) rfl #[.string a0] rfl ag ?_; (with_reducible refine (integer_read.calls k a0 t316 t317 _ gk A5.out).mono ?_); rintro e w7 ⟨v318, rfl, ho0, hb⟩; have hflv318 : ∀ (b : Bool) (W : World), (Instr.field 51 (.agg #[.bool b, v318]) 1).run Tryd.prog W = .ok v318 W := (by intro b W; obtain ⟨A_, c_, rfl, _⟩ := ho0; kernel_rfl); refine ⟨_, rfl, ?_⟩; have HO319 := Aside0.mk (Kd.V_lower (Kd.V_mono (ok' := fun k_ => True) ho0 (fun k_ hk_ => trivial)) (below_size bel)); replace HB := Aside0.mk (below_step bel hb); clear hb ho0) | ((with_reducible refine gate_callee (f := 36) rfl ?_); refine goesL_ (some 18) rfl rfl Tryd.func36 (by kernel_rfl) rfl #[.string a1] rfl ag ?_; (with_reducible refine (integer_read.calls k a1 t320 t321 _ gk A6.out).mono ?_); rintro e w8 ⟨v322, rfl, ho0, hb⟩; have hflv322 : ∀ (b : Bool) (W : World), (Instr.field 51 (.agg #[.bool b, v322]) 1).run Tryd.prog W = .ok v322 W := (by intro b W; obtain ⟨A_, c_, rfl, _⟩ := ho0; kernel_rfl); refine ⟨_, rfl, ?_⟩; have HO323 := Aside0.mk (Kd.V_lower (Kd.V_mono (ok' := fun k_ => True) ho0 (fun k_ hk_ => trivial)) (below_size bel)); replace HO319 := Aside0.mk (Kd.V_below (kv HO319.out) hb); replace HB := Aside0.mk (below_step bel hb); clear hb ho0))
  go_loopg [6, 7] k (fun kq v6 v7 w' => ∃ (x6_1 : List Int) (x7_1 : List Int), Aside0 (integer_Gcd.l0 kq x6_1 x7_1 = some (r1, r2)) ∧ Aside0 (kq ≤ k) ∧ Aside0 (Kd.V (Kd.int .u64) 57 w' w.heap.size (fun _ => True) v6 x6_1) ∧ Aside0 (Kd.V (Kd.int .u64) 57 w' w.heap.size (fun _ => True) v7 x7_1) ∧ Aside0 (Below w.heap.size w w'))
  case atStart => exact ⟨(t317), (t321), H', ⟨Nat.le_refl _⟩, ⟨kv HO319.out⟩, ⟨kv HO323.out⟩, ⟨bel⟩⟩
  case round =>
   clear H'
   (try clear c1); (try clear p2); (try clear c3); (try clear c4)
   obtain ⟨x6_1, x7_1, HA, HK1, HO_6, HO_7, HB⟩ := hrel
   cases gk with
   | zero => exact absurd HA.out (by simp [integer_Gcd.l0])
   | succ k1 =>
    have H := HA.out
    clear HA
    simp only [integer_Gcd.l0] at H
    by_cases c9 : (x7_1.length : Int) > 0
    ·rw [if_pos c9] at H
     have c9b0 : decide (0 < (x7_1.length : Int)) = true := decide_eq_true c9
     have c9b1 : decide (0 < x7_1.length) = true := decide_eq_true (by omega)
     clear c9
     obtain ⟨⟨t324, t327⟩, A10, H⟩ := bind_ H
     try dsimp only at H
     have H' := Aside0.mk H
     clear H
     obtain ⟨Ao11, co11, eo11⟩ := Kd.V_slice HO_7.out
     subst eo11
     obtain ⟨Ao12, co12, eo12⟩ := Kd.V_slice HO_6.out
     subst eo12
     go_wp2_with (first | ((with_reducible refine gate_callee (f := 37) rfl ?_); refine goesL_ (some 26) rfl rfl Tryd.func37 (by kernel_rfl) rfl #[.slice Ao12 x6_1.length co12, .slice Ao11 x7_1.length co11] rfl ag ?_; (with_reducible refine (integer_divide.calls k1 (fun k_ => True) _ _ x6_1 _ _ x7_1 t324 t327 _ gk ?side2 ?side3 ?side4 A10.out).mono ?_); (case side2 => exact HO_6.out); (case side3 => exact kc ((Kd.V_reads' HO_7.out).2.2)); (case side4 => exact (Kd.V_reads' HO_7.out).2.1); rintro e w13 ⟨v325, v328, rfl, ho0, ho1, hb⟩; refine ⟨_, rfl, ?_⟩; have HO326 := Aside0.mk (Kd.V_lower (Kd.V_mono (ok' := fun k_ => True) ho0 (fun k_ hk_ => trivial)) (below_size bel)); have HO329 := Aside0.mk (Kd.V_lower (Kd.V_mono (ok' := fun k_ => True) ho1 (fun k_ hk_ => trivial)) (below_size bel)); replace HO_6 := Aside0.mk (Kd.V_below (kv HO_6.out) hb); replace HO_7 := Aside0.mk (Kd.V_below (kv HO_7.out) hb); replace HB := Aside0.mk (below_step bel hb); clear hb ho0 ho1))
     go_roundg k1
     case measure => have := HK1.out; omega
     case rel => exact ⟨(x7_1), (t327), H', ⟨by have := HK1.out; omega⟩, ⟨kv HO_7.out⟩, ⟨kv HO329.out⟩, ⟨bel⟩⟩
    ·rw [if_neg c9] at H
     have c9b0 : decide (0 < (x7_1.length : Int)) = false := decide_eq_false c9
     have c9b1 : decide (0 < x7_1.length) = false := decide_eq_false (by omega)
     clear c9
     obtain ⟨⟨t330, t331⟩, A14, H⟩ := bind_ H
     try dsimp only at H
     simp only [Option.some.injEq, Prod.mk.injEq] at H
     obtain ⟨rfl, rfl⟩ := H
     obtain ⟨Ao15, co15, eo15⟩ := Kd.V_slice HO_7.out
     subst eo15
     obtain ⟨Ao16, co16, eo16⟩ := Kd.V_slice HO_6.out
     subst eo16
     go_wp2_with (first | ((with_reducible refine gate_callee (f := 40) rfl ?_); refine goesL_ (some 33) rfl rfl Tryd.func40 (by kernel_rfl) rfl #[.agg #[.bool false, .slice Ao16 x6_1.length co16]] rfl ag ?_; (with_reducible refine (integer_number_text.calls false _ _ x6_1 t330 t331 _ gk ?side2 ?side3 A14.out).mono ?_); (case side2 => exact kc ((Kd.V_reads' HO_6.out).2.2)); (case side3 => exact (Kd.V_reads' HO_6.out).2.1); rintro e w17 ⟨rfl, hb⟩; refine ⟨_, rfl, ?_⟩; replace HO_6 := Aside0.mk (Kd.V_below (kv HO_6.out) hb); replace HO_7 := Aside0.mk (Kd.V_below (kv HO_7.out) hb); replace HB := Aside0.mk (below_step bel hb); clear hb))
     go_ret2
     exact ⟨er, bel⟩
 ·replace c4 := Bool.eq_false_iff.mpr c4
  subst c4
  rw [if_neg Bool.false_ne_true] at H
  simp only [Option.some.injEq, Prod.mk.injEq] at H
  obtain ⟨rfl, rfl⟩ := H
  go_enter Tryd.func14, Tryd.ntmps14
  go_wp2_with (first | ((with_reducible refine gate_callee (f := 35) rfl ?_); refine goesL_ (some 12) rfl rfl Tryd.func35 (by kernel_rfl) rfl #[.string a0, .string a1] rfl ag ?_; (with_reducible refine (integer_both.calls k a0 a1 false _ gk A3.out).mono ?_); rintro e w' ⟨rfl, ⟨nd, rfl⟩⟩; refine ⟨_, rfl, ?_⟩))
  go_ret2
  exact ⟨er, bel⟩

/-! ### strconv_FormatInt: function 51 -/
-- PROOF
theorem strconv_FormatInt.calls (a0 a1 : Int) (r : ByteArray) (w : World) (hG : GOK w) (h : strconv_FormatInt.f a0 a1 = some r) :
  Calls Tryd.prog 51 #[.int .i64 a0, .int .i64 a1] w fun e w' => e = .returned (.string r) ∧ Below w.heap.size w w' := by
 unfold strconv_FormatInt.f at h
 by_cases hc : a1 = 10 ∧ -9223372036854775808 ≤ a0 ∧ a0 ≤ 9223372036854775807
 ·rw [if_pos hc] at h
  obtain ⟨rfl, h0, h1⟩ := hc
  injection h with h
  subst h
  refine (Tryd.strconv_FormatInt_10 a0 h0 h1 w hG.2.2).mono ?_
  rintro e w' ⟨rfl, k, os, rfl⟩
  exact ⟨rfl, Lib.below_grow _ _ (Nat.le_refl _) _ _⟩
 ·rw [if_neg hc] at h
  cases h


/-! ### integer_Of: function 29 -/
set_option maxHeartbeats 8000000 in
set_option maxRecDepth 100000 in
theorem integer_Of.calls (a0 : Int) (r : ByteArray) (w : World) (hG : GOK w) (h : integer_Of.f a0 = some r) :
  Calls Tryd.prog 29 #[.int .i64 a0] w fun e w' => e = .returned (.string r) ∧ Below w.heap.size w w' := by
 replace hG := Aside0.mk hG
 have HB := Aside0.mk (Below.refl w.heap.size w)
 have H : ((strconv_FormatInt.f a0 10).bind fun t332 => (some t332)) = some r := h
 clear h
 obtain ⟨t332, A2, H⟩ := bind_ H
 try dsimp only at H
 obtain rfl := Option.some.inj H
 go_enter Tryd.func29, Tryd.ntmps29
 go_wp2_with (first | ((with_reducible refine gate_callee (f := 51) rfl ?_); refine goesL_ (some 4) rfl rfl Tryd.func51 (by kernel_rfl) rfl #[.int .i64 a0, .int .i64 10] rfl ag ?_; (with_reducible refine (strconv_FormatInt.calls a0 10 t332 _ gk A2.out).mono ?_); rintro e w3 ⟨rfl, hb⟩; refine ⟨_, rfl, ?_⟩; replace HB := Aside0.mk (below_step bel hb); clear hb))
 go_ret
 exact ⟨er, bel⟩

/-! ### integer_near: function 46 -/
set_option maxHeartbeats 8000000 in
set_option maxRecDepth 100000 in
theorem integer_near.calls (a0 : ByteArray) (a1 : ByteArray) (a2 : Int) (r : Bool) (w : World) (hG : GOK w) (h : integer_near.f a0 a1 a2 = some r) :
  Calls Tryd.prog 46 #[.string a0, .string a1, .int .i64 a2] w fun e w' => e = .returned (.bool r) ∧ Drawn0 w w' := by
 replace hG := Aside0.mk hG
 have H : (if (a0.size : Int) ≤ a2 then (some (decide ((a1.size : Int) ≤ a2))) else (some false)) = some r := h
 clear h
 by_cases c4 : (a0.size : Int) ≤ a2
 ·rw [if_pos c4] at H
  have c4b0 : decide ((a0.size : Int) ≤ a2) = true := decide_eq_true c4
  clear c4
  obtain rfl := Option.some.inj H
  go_enter Tryd.func46, Tryd.ntmps46
  go_wp2
  go_ret
  exact ⟨by first | rfl | (simp; done) | (simp [*]; done), by repeat (first | exact Drawn0.refl _ | apply Drawn0.step)⟩
 ·rw [if_neg c4] at H
  have c4b0 : decide ((a0.size : Int) ≤ a2) = false := decide_eq_false c4
  clear c4
  obtain rfl := Option.some.inj H
  go_enter Tryd.func46, Tryd.ntmps46
  go_wp2
  go_ret
  exact ⟨by first | rfl | (simp; done) | (simp [*]; done), by repeat (first | exact Drawn0.refl _ | apply Drawn0.step)⟩

/-! ### strconv_ParseInt: function 52 -/
-- PROOF
theorem strconv_ParseInt.calls (a0 : ByteArray) (a1 a2 : Int) (r1 : Int) (r2 : Option Int) (w : World) (hG : GOK w) (h : strconv_ParseInt.f a0 a1 a2 = some (r1, r2)) :
  Calls Tryd.prog 52 #[.string a0, .int .i64 a1, .int .i64 a2] w fun e w' => ∃ nerr_ : Nat, e = .returned (.tuple #[.int .i64 r1, errL nerr_ r2]) ∧ Below w.heap.size w w' := by
 unfold strconv_ParseInt.f at h
 by_cases hc : a1 = 10 ∧ a2 = 64 ∧ a0.size ≤ 140737488351232
 ·rw [if_pos hc] at h
  obtain ⟨rfl, rfl, hs⟩ := hc
  obtain ⟨_, ⟨t2, p2, h2⟩, _⟩ := hG
  cases hp : Lib.parseIntB 64 a0.data.toList with
  | ok v =>
   rw [hp] at h
   simp only [Option.some.injEq, Prod.mk.injEq] at h
   obtain ⟨rfl, rfl⟩ := h
   refine (Tryd.strconv_ParseInt_10_at64_ok a0 (by omega) v hp w).mono ?_
   rintro e w' ⟨rfl, hw⟩
   refine ⟨0, rfl, ?_⟩
   rcases hw with rfl | ⟨t, rfl⟩
   ·exact Below.refl _ _
   ·exact Lib.bytesWorld_below _ _ _
  | range =>
   rw [hp] at h
   simp only [Option.some.injEq, Prod.mk.injEq] at h
   obtain ⟨rfl, rfl⟩ := h
   refine (Tryd.strconv_ParseInt_10_at64_range_var a0 (by omega) hp t2 p2 w h2).mono ?_
   rintro e w' ⟨N, rfl, _, _, hb⟩
   exact ⟨N, rfl, hb⟩
  | _ =>
   rw [hp] at h
   cases h
 ·rw [if_neg hc] at h
  cases h


/-! ### integer_machine: function 47 -/
set_option maxHeartbeats 8000000 in
set_option maxRecDepth 100000 in
theorem integer_machine.calls (a0 : ByteArray) (r : Int) (w : World) (hG : GOK w) (h : integer_machine.f a0 = some r) :
  Calls Tryd.prog 47 #[.string a0] w fun e w' => e = .returned (.int .i64 r) ∧ Below w.heap.size w w' := by
 replace hG := Aside0.mk hG
 have HB := Aside0.mk (Below.refl w.heap.size w)
 have H : ((strconv_ParseInt.f a0 10 64).bind fun bt333 => (some bt333.1)) = some r := h
 clear h
 obtain ⟨⟨t333, t334⟩, A2, H⟩ := bind_ H
 try dsimp only at H
 obtain rfl := Option.some.inj H
 go_enter Tryd.func47, Tryd.ntmps47
 go_wp2_with (first | ((with_reducible refine gate_callee (f := 52) rfl ?_); refine goesL_ (some 7) rfl rfl Tryd.func52 (by kernel_rfl) rfl #[.string a0, .int .i64 10, .int .i64 64] rfl ag ?_; (with_reducible refine (strconv_ParseInt.calls a0 10 64 t333 t334 _ gk A2.out).mono ?_); rintro e w3 ⟨nerr_, rfl, hb⟩; refine ⟨_, rfl, ?_⟩; replace HB := Aside0.mk (below_step bel hb); clear hb; (try simp only [errW_none, errW_some, errL_none, errL_some])))
 go_ret
 exact ⟨er, bel⟩

/-! ### integer_Add: function 21 -/
set_option maxHeartbeats 8000000 in
set_option maxRecDepth 100000 in
theorem integer_Add.calls (k : Nat) (a0 : ByteArray) (a1 : ByteArray) (r1 : ByteArray) (r2 : Int) (w : World) (hG : GOK w) (h : integer_Add.f k a0 a1 = some (r1, r2)) :
  Calls Tryd.prog 21 #[.string a0, .string a1] w fun e w' => e = .returned (.tuple #[.string r1, .int .i64 r2]) ∧ Below w.heap.size w w' := by
 replace hG := Aside0.mk hG
 have HB := Aside0.mk (Below.refl w.heap.size w)
 have H : ((integer_both.f k a0 a1).bind fun t335 => (if t335 = true then ((integer_near.f a0 a1 18).bind fun t336 => (if t336 = true then ((integer_machine.f a0).bind fun t337 => ((integer_machine.f a1).bind fun t338 => ((integer_Of.f (wrap64 (t337 + t338))).bind fun t339 => (some (t339, 0))))) else ((integer_read.f k a0).bind fun bt340 => ((integer_read.f k a1).bind fun bt344 => ((integer_add.f k bt340.1 bt340.2 bt344.1 bt344.2).bind fun bt348 => ((integer_number_text.f bt348.1 bt348.2).bind fun bt352 => (some (bt352.1, bt352.2)))))))) else (some ((⟨#[]⟩ : ByteArray), 3)))) = some (r1, r2) := h
 clear h
 obtain ⟨t335, A3, H⟩ := bind_ H
 try dsimp only at H
 by_cases c4 : t335 = true
 ·subst c4
  rw [if_pos rfl] at H
  obtain ⟨t336, A5, H⟩ := bind_ H
  try dsimp only at H
  by_cases c6 : t336 = true
  ·subst c6
   rw [if_pos rfl] at H
   obtain ⟨t337, A7, H⟩ := bind_ H
   try dsimp only at H
   obtain ⟨t338, A8, H⟩ := bind_ H
   try dsimp only at H
   obtain ⟨t339, A9, H⟩ := bind_ H
   try dsimp only at H
   simp only [Option.some.injEq, Prod.mk.injEq] at H
   obtain ⟨rfl, rfl⟩ := H
   go_enter Tryd.func21, Tryd.ntmps21
   go_wp2_with (first | ((with_reducible refine gate_callee (f := 35) rfl ?_); refine goesL_ (some 8) rfl rfl Tryd.func35 (by kernel_rfl) rfl #[.string a0, .string a1] rfl ag ?_; (with_reducible refine (integer_both.calls k a0 a1 true _ gk A3.out).mono ?_); rintro e w' ⟨rfl, ⟨nd, rfl⟩⟩; refine ⟨_, rfl, ?_⟩) | ((with_reducible refine gate_callee (f := 46) rfl ?_); refine goesL_ (some 12) rfl rfl Tryd.func46 (by kernel_rfl) rfl #[.string a0, .string a1, .int .i64 18] rfl ag ?_; (with_reducible refine (integer_near.calls a0 a1 18 true _ gk A5.out).mono ?_); rintro e w' ⟨rfl, ⟨nd, rfl⟩⟩; refine ⟨_, rfl, ?_⟩) | ((with_reducible refine gate_callee (f := 47) rfl ?_); refine goesL_ (some 14) rfl rfl Tryd.func47 (by kernel_rfl) rfl #[.string a0] rfl ag ?_; (with_reducible refine (integer_machine.calls a0 t337 _ gk A7.out).mono ?_); rintro e w10 ⟨rfl, hb⟩; refine ⟨_, rfl, ?_⟩; replace HB := Aside0.mk (below_step bel hb); clear hb) | ((with_reducible refine gate_callee (f := 47) rfl ?_); refine goesL_ (some 16) rfl rfl Tryd.func47 (by kernel_rfl) rfl #[.string a1] rfl ag ?_; (with_reducible refine (integer_machine.calls a1 t338 _ gk A8.out).mono ?_); rintro e w11 ⟨rfl, hb⟩; refine ⟨_, rfl, ?_⟩; replace HB := Aside0.mk (below_step bel hb); clear hb) | ((with_reducible refine gate_callee (f := 29) rfl ?_); refine goesL_ (some 18) rfl rfl Tryd.func29 (by kernel_rfl) rfl #[.int .i64 (wrap64 (t337 + t338))] rfl ag ?_; (with_reducible refine (integer_Of.calls (wrap64 (t337 + t338)) t339 _ gk A9.out).mono ?_); rintro e w12 ⟨rfl, hb⟩; refine ⟨_, rfl, ?_⟩; replace HB := Aside0.mk (below_step bel hb); clear hb))
   go_ret2
   exact ⟨er, bel⟩
  ·replace c6 := Bool.eq_false_iff.mpr c6
   subst c6
   rw [if_neg Bool.false_ne_true] at H
   obtain ⟨⟨t340, t341⟩, A13, H⟩ := bind_ H
   try dsimp only at H
   obtain ⟨⟨t344, t345⟩, A14, H⟩ := bind_ H
   try dsimp only at H
   obtain ⟨⟨t348, t349⟩, A15, H⟩ := bind_ H
   try dsimp only at H
   obtain ⟨⟨t352, t353⟩, A16, H⟩ := bind_ H
   try dsimp only at H
   simp only [Option.some.injEq, Prod.mk.injEq] at H
   obtain ⟨rfl, rfl⟩ := H
   go_enter Tryd.func21, Tryd.ntmps21
   go_wp2_with (first | ((with_reducible refine gate_callee (f := 35) rfl ?_); refine goesL_ (some 8) rfl rfl Tryd.func35 (by kernel_rfl) rfl #[.string a0, .string a1] rfl ag ?_; (with_reducible refine (integer_both.calls k a0 a1 true _ gk A3.out).mono ?_); rintro e w' ⟨rfl, ⟨nd, rfl⟩⟩; refine ⟨_, rfl, ?_⟩) | ((with_reducible refine gate_callee (f := 46) rfl ?_); refine goesL_ (some 12) rfl rfl Tryd.func46 (by kernel_rfl) rfl #[.string a0, .string a1, .int .i64 18] rfl ag ?_; (with_reducible refine (integer_near.calls a0 a1 18 false _ gk A5.out).mono ?_); rintro e w' ⟨rfl, ⟨nd, rfl⟩⟩; refine ⟨_, rfl, ?_⟩) | ((with_reducible refine gate_callee (f := 36) rfl ?_); refine goesL_ (some 20) rfl rfl Tryd.func36 (by kernel_rfl) rfl #[.string a0] rfl ag ?_; (with_reducible refine (integer_read.calls k a0 t340 t341 _ gk A13.out).mono ?_); rintro e w17 ⟨v342, rfl, ho0, hb⟩; refine ⟨_, rfl, ?_⟩; have HO343 := Aside0.mk (Kd.V_lower (Kd.V_mono (ok' := fun k_ => True) ho0 (fun k_ hk_ => trivial)) (below_size bel)); replace HB := Aside0.mk (below_step bel hb); clear hb ho0) | ((with_reducible refine gate_callee (f := 36) rfl ?_); refine goesL_ (some 22) rfl rfl Tryd.func36 (by kernel_rfl) rfl #[.string a1] rfl ag ?_; (with_reducible refine (integer_read.calls k a1 t344 t345 _ gk A14.out).mono ?_); rintro e w18 ⟨v346, rfl, ho0, hb⟩; refine ⟨_, rfl, ?_⟩; have HO347 := Aside0.mk (Kd.V_lower (Kd.V_mono (ok' := fun k_ => True) ho0 (fun k_ hk_ => trivial)) (below_size bel)); replace HO343 := Aside0.mk (Kd.V_below (kv HO343.out) hb); replace HB := Aside0.mk (below_step bel hb); clear hb ho0; obtain ⟨Ao19, co19, eo19⟩ := Kd.V_slice HO343.out; subst eo19; obtain ⟨Ao20, co20, eo20⟩ := Kd.V_slice HO347.out; subst eo20) | ((with_reducible refine gate_callee (f := 39) rfl ?_); refine goesL_ (some 23) rfl rfl Tryd.func39 (by kernel_rfl) rfl #[.agg #[.bool t340, .slice Ao19 t341.length co19], .agg #[.bool t344, .slice Ao20 t345.length co20]] rfl ag ?_; (with_reducible refine (integer_add.calls k t340 (fun k_ => True) _ _ t341 t344 (fun k_ => True) _ _ t345 t348 t349 _ gk HO343.out HO347.out A15.out).mono ?_); rintro e w21 ⟨v350, rfl, ho0, hb⟩; refine ⟨_, rfl, ?_⟩; have HO351 := Aside0.mk (Kd.V_lower (Kd.V_mono (ok' := fun k_ => True) ho0 (fun k_ hk_ => trivial)) (below_size bel)); replace HO343 := Aside0.mk (Kd.V_below (kv HO343.out) hb); replace HO347 := Aside0.mk (Kd.V_below (kv HO347.out) hb); replace HB := Aside0.mk (below_step bel hb); clear hb ho0; obtain ⟨Ao22, co22, eo22⟩ := Kd.V_slice HO351.out; subst eo22) | ((with_reducible refine gate_callee (f := 40) rfl ?_); refine goesL_ (some 24) rfl rfl Tryd.func40 (by kernel_rfl) rfl #[.agg #[.bool t348, .slice Ao22 t349.length co22]] rfl ag ?_; (with_reducible refine (integer_number_text.calls t348 _ _ t349 t352 t353 _ gk ?side2 ?side3 A16.out).mono ?_); (case side2 => exact kc ((Kd.V_reads' HO351.out).2.2)); (case side3 => exact (Kd.V_reads' HO351.out).2.1); rintro e w23 ⟨rfl, hb⟩; refine ⟨_, rfl, ?_⟩; replace HO343 := Aside0.mk (Kd.V_below (kv HO343.out) hb); replace HO347 := Aside0.mk (Kd.V_below (kv HO347.out) hb); replace HO351 := Aside0.mk (Kd.V_below (kv HO351.out) hb); replace HB := Aside0.mk (below_step bel hb); clear hb))
   go_ret2
   exact ⟨er, bel⟩
 ·replace c4 := Bool.eq_false_iff.mpr c4
  subst c4
  rw [if_neg Bool.false_ne_true] at H
  simp only [Option.some.injEq, Prod.mk.injEq] at H
  obtain ⟨rfl, rfl⟩ := H
  go_enter Tryd.func21, Tryd.ntmps21
  go_wp2_with (first | ((with_reducible refine gate_callee (f := 35) rfl ?_); refine goesL_ (some 8) rfl rfl Tryd.func35 (by kernel_rfl) rfl #[.string a0, .string a1] rfl ag ?_; (with_reducible refine (integer_both.calls k a0 a1 false _ gk A3.out).mono ?_); rintro e w' ⟨rfl, ⟨nd, rfl⟩⟩; refine ⟨_, rfl, ?_⟩))
  go_ret2
  exact ⟨er, bel⟩

/-! ### cellarerlaw02_awake: function 11 -/
set_option maxRecDepth 100000 in
theorem cellarerlaw02_awake.close0 {P_ : Prop} (h_ : P_ := by (go_wp2_with (first | ((with_reducible refine gate_callee (f := 21) rfl ?_); refine goesL_ (some 12) rfl rfl Tryd.func21 (by kernel_rfl) rfl #[.string (⟨#[57, 57, 57]⟩ : ByteArray), .string (⟨#[45, 49, 48, 48, 48]⟩ : ByteArray)] rfl ag ?_; (with_reducible refine (integer_Add.calls k (⟨#[57, 57, 57]⟩ : ByteArray) (⟨#[45, 49, 48, 48, 48]⟩ : ByteArray) t354 t355 _ gk A1.out).mono ?_); rintro e w9001_ ⟨rfl, hb⟩; refine ⟨_, rfl, ?_⟩; replace HB := Aside0.mk (below_step bel hb); clear hb) | ((with_reducible refine gate_callee (f := 13) rfl ?_); refine goesL_ (some 16) rfl rfl Tryd.func13 (by kernel_rfl) rfl #[.string (⟨#[45, 55]⟩ : ByteArray), .string (⟨#[50]⟩ : ByteArray)] rfl ag ?_; (with_reducible refine (integer_DivMod.calls k (⟨#[45, 55]⟩ : ByteArray) (⟨#[50]⟩ : ByteArray) t356 t357 t358 _ gk A2.out).mono ?_); rintro e w9002_ ⟨rfl, hb⟩; refine ⟨_, rfl, ?_⟩; replace HB := Aside0.mk (below_step bel hb); clear hb) | ((with_reducible refine gate_callee (f := 13) rfl ?_); refine goesL_ (some 21) rfl rfl Tryd.func13 (by kernel_rfl) rfl #[.string (⟨#[49]⟩ : ByteArray), .string (⟨#[48]⟩ : ByteArray)] rfl ag ?_; (with_reducible refine (integer_DivMod.calls k (⟨#[49]⟩ : ByteArray) (⟨#[48]⟩ : ByteArray) t359 t360 t361 _ gk A3.out).mono ?_); rintro e w9003_ ⟨rfl, hb⟩; refine ⟨_, rfl, ?_⟩; replace HB := Aside0.mk (below_step bel hb); clear hb) | ((with_reducible refine gate_callee (f := 14) rfl ?_); refine goesL_ (some 26) rfl rfl Tryd.func14 (by kernel_rfl) rfl #[.string (⟨#[45, 49, 50]⟩ : ByteArray), .string (⟨#[49, 56]⟩ : ByteArray)] rfl ag ?_; (with_reducible refine (integer_Gcd.calls k (⟨#[45, 49, 50]⟩ : ByteArray) (⟨#[49, 56]⟩ : ByteArray) t362 t363 _ gk A4.out).mono ?_); rintro e w9004_ ⟨rfl, hb⟩; refine ⟨_, rfl, ?_⟩; replace HB := Aside0.mk (below_step bel hb); clear hb) | (go_at_call 23; (with_reducible refine (integer_Valid.calls k (⟨#[45, 48]⟩ : ByteArray) _ _ gk A13.out).mono ?_); rintro e w' ⟨rfl, ⟨nd, rfl⟩⟩) | (go_at_call 29; (with_reducible refine (integer_Of.calls (-5) t365 _ gk A19.out).mono ?_); rintro e w9005_ ⟨rfl, hb⟩; replace HB := Aside0.mk (below_step bel hb); clear hb))); go_ret; exact ⟨er, bel⟩) : P_ := h_
set_option maxHeartbeats 8000000 in
set_option maxRecDepth 100000 in
theorem cellarerlaw02_awake.calls (k : Nat)  (r : Bool) (w : World) (hG : GOK w) (h : cellarerlaw02_awake.f k  = some r) :
  Calls Tryd.prog 11 #[] w fun e w' => e = .returned (.bool r) ∧ Below w.heap.size w w' := by
 replace hG := Aside0.mk hG
 have HB := Aside0.mk (Below.refl w.heap.size w)
 have H : ((integer_Add.f k (⟨#[57, 57, 57]⟩ : ByteArray) (⟨#[45, 49, 48, 48, 48]⟩ : ByteArray)).bind fun bt354 => ((integer_DivMod.f k (⟨#[45, 55]⟩ : ByteArray) (⟨#[50]⟩ : ByteArray)).bind fun bt356 => ((integer_DivMod.f k (⟨#[49]⟩ : ByteArray) (⟨#[48]⟩ : ByteArray)).bind fun bt359 => ((integer_Gcd.f k (⟨#[45, 49, 50]⟩ : ByteArray) (⟨#[49, 56]⟩ : ByteArray)).bind fun bt362 => (if bt354.2 = 0 then (if bt354.1.toList = ([45, 49] : List UInt8) then (if bt356.2.2 = 0 then (if bt356.1.toList = ([45, 52] : List UInt8) then (if bt356.2.1.toList = ([49] : List UInt8) then (if bt359.2.2 = 24 then (if bt362.2 = 0 then (if bt362.1.toList = ([54] : List UInt8) then ((integer_Valid.f k (⟨#[45, 48]⟩ : ByteArray)).bind fun t364 => (if t364 = true then (some false) else ((integer_Of.f (-5)).bind fun t365 => (some (t365.toList == ([45, 53] : List UInt8)))))) else (some false)) else (some false)) else (some false)) else (some false)) else (some false)) else (some false)) else (some false)) else (some false)))))) = some r := h
 clear h
 obtain ⟨⟨t354, t355⟩, A1, H⟩ := bind_ H
 try dsimp only at H
 obtain ⟨⟨t356, t357, t358⟩, A2, H⟩ := bind_ H
 try dsimp only at H
 obtain ⟨⟨t359, t360, t361⟩, A3, H⟩ := bind_ H
 try dsimp only at H
 obtain ⟨⟨t362, t363⟩, A4, H⟩ := bind_ H
 try dsimp only at H
 by_cases c5 : t355 = 0
 ·rw [if_pos c5] at H
  have c5b0 : (t355 == 0) = true := beq_iff_eq.mpr c5
  have c5b1 : (t355 != 0) = false := bne_eq_false_iff_eq.mpr c5
  clear c5
  by_cases c6 : t354.toList = ([45, 49] : List UInt8)
  ·rw [if_pos c6] at H
   have c6b0 : (t354.toList == ([45, 49] : List UInt8)) = true := beq_iff_eq.mpr c6
   have c6b1 : (t354.toList != ([45, 49] : List UInt8)) = false := bne_eq_false_iff_eq.mpr c6
   clear c6
   by_cases c7 : t358 = 0
   ·rw [if_pos c7] at H
    have c7b0 : (t358 == 0) = true := beq_iff_eq.mpr c7
    have c7b1 : (t358 != 0) = false := bne_eq_false_iff_eq.mpr c7
    clear c7
    by_cases c8 : t356.toList = ([45, 52] : List UInt8)
    ·rw [if_pos c8] at H
     have c8b0 : (t356.toList == ([45, 52] : List UInt8)) = true := beq_iff_eq.mpr c8
     have c8b1 : (t356.toList != ([45, 52] : List UInt8)) = false := bne_eq_false_iff_eq.mpr c8
     clear c8
     by_cases c9 : t357.toList = ([49] : List UInt8)
     ·rw [if_pos c9] at H
      have c9b0 : (t357.toList == ([49] : List UInt8)) = true := beq_iff_eq.mpr c9
      have c9b1 : (t357.toList != ([49] : List UInt8)) = false := bne_eq_false_iff_eq.mpr c9
      clear c9
      by_cases c10 : t361 = 24
      ·rw [if_pos c10] at H
       have c10b0 : (t361 == 24) = true := beq_iff_eq.mpr c10
       have c10b1 : (t361 != 24) = false := bne_eq_false_iff_eq.mpr c10
       clear c10
       by_cases c11 : t363 = 0
       ·rw [if_pos c11] at H
        have c11b0 : (t363 == 0) = true := beq_iff_eq.mpr c11
        have c11b1 : (t363 != 0) = false := bne_eq_false_iff_eq.mpr c11
        clear c11
        by_cases c12 : t362.toList = ([54] : List UInt8)
        ·rw [if_pos c12] at H
         have c12b0 : (t362.toList == ([54] : List UInt8)) = true := beq_iff_eq.mpr c12
         have c12b1 : (t362.toList != ([54] : List UInt8)) = false := bne_eq_false_iff_eq.mpr c12
         clear c12
         obtain ⟨t364, A13, H⟩ := bind_ H
         try dsimp only at H
         by_cases c14 : t364 = true
         ·subst c14
          rw [if_pos rfl] at H
          obtain rfl := Option.some.inj H
          go_enter Tryd.func11, Tryd.ntmps11
          exact cellarerlaw02_awake.close0
         ·replace c14 := Bool.eq_false_iff.mpr c14
          subst c14
          rw [if_neg Bool.false_ne_true] at H
          obtain ⟨t365, A19, H⟩ := bind_ H
          try dsimp only at H
          obtain rfl := Option.some.inj H
          go_enter Tryd.func11, Tryd.ntmps11
          exact cellarerlaw02_awake.close0
        ·rw [if_neg c12] at H
         have c12b0 : (t362.toList == ([54] : List UInt8)) = false := beq_eq_false_iff_ne.mpr c12
         have c12b1 : (t362.toList != ([54] : List UInt8)) = true := bne_iff_ne.mpr c12
         obtain rfl := Option.some.inj H
         go_enter Tryd.func11, Tryd.ntmps11
         exact cellarerlaw02_awake.close0
       ·rw [if_neg c11] at H
        have c11b0 : (t363 == 0) = false := beq_eq_false_iff_ne.mpr c11
        have c11b1 : (t363 != 0) = true := bne_iff_ne.mpr c11
        obtain rfl := Option.some.inj H
        go_enter Tryd.func11, Tryd.ntmps11
        exact cellarerlaw02_awake.close0
      ·rw [if_neg c10] at H
       have c10b0 : (t361 == 24) = false := beq_eq_false_iff_ne.mpr c10
       have c10b1 : (t361 != 24) = true := bne_iff_ne.mpr c10
       obtain rfl := Option.some.inj H
       go_enter Tryd.func11, Tryd.ntmps11
       exact cellarerlaw02_awake.close0
     ·rw [if_neg c9] at H
      have c9b0 : (t357.toList == ([49] : List UInt8)) = false := beq_eq_false_iff_ne.mpr c9
      have c9b1 : (t357.toList != ([49] : List UInt8)) = true := bne_iff_ne.mpr c9
      obtain rfl := Option.some.inj H
      go_enter Tryd.func11, Tryd.ntmps11
      exact cellarerlaw02_awake.close0
    ·rw [if_neg c8] at H
     have c8b0 : (t356.toList == ([45, 52] : List UInt8)) = false := beq_eq_false_iff_ne.mpr c8
     have c8b1 : (t356.toList != ([45, 52] : List UInt8)) = true := bne_iff_ne.mpr c8
     obtain rfl := Option.some.inj H
     go_enter Tryd.func11, Tryd.ntmps11
     exact cellarerlaw02_awake.close0
   ·rw [if_neg c7] at H
    have c7b0 : (t358 == 0) = false := beq_eq_false_iff_ne.mpr c7
    have c7b1 : (t358 != 0) = true := bne_iff_ne.mpr c7
    obtain rfl := Option.some.inj H
    go_enter Tryd.func11, Tryd.ntmps11
    exact cellarerlaw02_awake.close0
  ·rw [if_neg c6] at H
   have c6b0 : (t354.toList == ([45, 49] : List UInt8)) = false := beq_eq_false_iff_ne.mpr c6
   have c6b1 : (t354.toList != ([45, 49] : List UInt8)) = true := bne_iff_ne.mpr c6
   obtain rfl := Option.some.inj H
   go_enter Tryd.func11, Tryd.ntmps11
   exact cellarerlaw02_awake.close0
 ·rw [if_neg c5] at H
  have c5b0 : (t355 == 0) = false := beq_eq_false_iff_ne.mpr c5
  have c5b1 : (t355 != 0) = true := bne_iff_ne.mpr c5
  obtain rfl := Option.some.inj H
  go_enter Tryd.func11, Tryd.ntmps11
  exact cellarerlaw02_awake.close0

/-! ### cellarerlaw02_long: function 12 -/
set_option maxHeartbeats 8000000 in
set_option maxRecDepth 100000 in
theorem cellarerlaw02_long.calls (a0 : ByteArray) (a1 : ByteArray) (r : Bool) (w : World) (hG : GOK w) (h : cellarerlaw02_long.f a0 a1 = some r) :
  Calls Tryd.prog 12 #[.string a0, .string a1] w fun e w' => e = .returned (.bool r) ∧ Drawn0 w w' := by
 replace hG := Aside0.mk hG
 have H : (if (a0.size : Int) > 420 then (some true) else (some (decide ((a1.size : Int) > 420)))) = some r := h
 clear h
 by_cases c3 : (a0.size : Int) > 420
 ·rw [if_pos c3] at H
  have c3b0 : decide (420 < (a0.size : Int)) = true := decide_eq_true c3
  have c3b1 : decide (420 < a0.size) = true := decide_eq_true (by omega)
  clear c3
  obtain rfl := Option.some.inj H
  go_enter Tryd.func12, Tryd.ntmps12
  go_wp2
  go_ret
  exact ⟨by first | rfl | (simp; done) | (simp [*]; done), by repeat (first | exact Drawn0.refl _ | apply Drawn0.step)⟩
 ·rw [if_neg c3] at H
  have c3b0 : decide (420 < (a0.size : Int)) = false := decide_eq_false c3
  have c3b1 : decide (420 < a0.size) = false := decide_eq_false (by omega)
  clear c3
  obtain rfl := Option.some.inj H
  go_enter Tryd.func12, Tryd.ntmps12
  go_wp2
  go_ret
  exact ⟨by first | rfl | (simp; done) | (simp [*]; done), by repeat (first | exact Drawn0.refl _ | apply Drawn0.step)⟩

end Go.Proofs.YtdnjlmoggnbknaaDoor.PInt
