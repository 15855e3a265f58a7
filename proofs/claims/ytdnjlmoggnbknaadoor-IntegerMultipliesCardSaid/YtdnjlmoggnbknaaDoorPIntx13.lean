-- Written by a program of this session's (xprint.py) over the kit's print.
import Derived.Test.YtdnjlmoggnbknaaDoorPIntx0
import Derived.Test.YtdnjlmoggnbknaaDoorPIntx1
import Derived.Test.YtdnjlmoggnbknaaDoorPIntx2
import Derived.Test.YtdnjlmoggnbknaaDoorPIntx5
import Derived.Test.YtdnjlmoggnbknaaDoorPIntx6
import Derived.Test.YtdnjlmoggnbknaaDoorPIntx8
import Derived.Test.YtdnjlmoggnbknaaDoorPIntD
import Derived.Test.YtdnjlmoggnbknaaDoorAuto
namespace Go.Proofs.YtdnjlmoggnbknaaDoor.PInt
open Go.RowKit Go.Proofs.YtdnjlmoggnbknaaDoor.Ext Go.Proofs.YtdnjlmoggnbknaaDoorW.PrintWords Go.Proofs.YtdnjlmoggnbknaaDoorW.PrintLast Go.Proofs.YtdnjlmoggnbknaaDoorW.PrintMore
attribute [local go_sem high] gtr_print leq_print
attribute [local go_sem] max2_int min2_int max_two min_two max_three min_three max_four min_four   -- for this text's walks alone
set_option linter.unusedVariables false
set_option linter.unusedSimpArgs false

/-! ### integer_Mul: function 26 -/
set_option maxHeartbeats 8000000 in
set_option maxRecDepth 100000 in
theorem integer_Mul.calls (k : Nat) (a0 : ByteArray) (a1 : ByteArray) (r1 : ByteArray) (r2 : Int) (w : World) (hG : GOK w) (h : integer_Mul.f k a0 a1 = some (r1, r2)) :
  Calls Tryd.prog 26 #[.string a0, .string a1] w fun e w' => e = .returned (.tuple #[.string r1, .int .i64 r2]) ∧ Below w.heap.size w w' := by
 have hu51 := Tryd.underlying51
 replace hG := Aside0.mk hG
 have HB := Aside0.mk (Below.refl w.heap.size w)
 have H : ((integer_both.f k a0 a1).bind fun t522 => (if t522 = true then ((integer_near.f a0 a1 9).bind fun t523 => (if t523 = true then ((integer_machine.f a0).bind fun t524 => ((integer_machine.f a1).bind fun t525 => ((integer_Of.f (wrap64 (t524 * t525))).bind fun t526 => (some (t526, 0))))) else ((integer_read.f k a0).bind fun bt527 => ((integer_read.f k a1).bind fun bt531 => ((integer_times.f k bt527.2 bt531.2).bind fun t537 => ((integer_signed.f (bt527.1 != bt531.1) t537).bind fun bt540 => ((integer_number_text.f bt540.1 bt540.2).bind fun bt544 => (some (bt544.1, bt544.2))))))))) else (some ((⟨#[]⟩ : ByteArray), 3)))) = some (r1, r2) := h
 clear h
 replace H := Option.bind_eq_some_iff.mp H
 obtain ⟨t522, A30, H⟩ := H
 replace H : (if t522 = true then ((integer_near.f a0 a1 9).bind fun t523 => (if t523 = true then ((integer_machine.f a0).bind fun t524 => ((integer_machine.f a1).bind fun t525 => ((integer_Of.f (wrap64 (t524 * t525))).bind fun t526 => (some (t526, 0))))) else ((integer_read.f k a0).bind fun bt527 => ((integer_read.f k a1).bind fun bt531 => ((integer_times.f k bt527.2 bt531.2).bind fun t537 => ((integer_signed.f (bt527.1 != bt531.1) t537).bind fun bt540 => ((integer_number_text.f bt540.1 bt540.2).bind fun bt544 => (some (bt544.1, bt544.2))))))))) else (some ((⟨#[]⟩ : ByteArray), 3))) = some (r1, r2) := H
 have A3 := Aside0.mk A30
 clear A30
 by_cases c4 : t522 = true
 ·subst c4
  have H1 : ((integer_near.f a0 a1 9).bind fun t523 => (if t523 = true then ((integer_machine.f a0).bind fun t524 => ((integer_machine.f a1).bind fun t525 => ((integer_Of.f (wrap64 (t524 * t525))).bind fun t526 => (some (t526, 0))))) else ((integer_read.f k a0).bind fun bt527 => ((integer_read.f k a1).bind fun bt531 => ((integer_times.f k bt527.2 bt531.2).bind fun t537 => ((integer_signed.f (bt527.1 != bt531.1) t537).bind fun bt540 => ((integer_number_text.f bt540.1 bt540.2).bind fun bt544 => (some (bt544.1, bt544.2))))))))) = some (r1, r2) := by rw [if_pos rfl] at H; exact H
  clear H
  have H := H1
  clear H1
  replace H := Option.bind_eq_some_iff.mp H
  obtain ⟨t523, A50, H⟩ := H
  replace H : (if t523 = true then ((integer_machine.f a0).bind fun t524 => ((integer_machine.f a1).bind fun t525 => ((integer_Of.f (wrap64 (t524 * t525))).bind fun t526 => (some (t526, 0))))) else ((integer_read.f k a0).bind fun bt527 => ((integer_read.f k a1).bind fun bt531 => ((integer_times.f k bt527.2 bt531.2).bind fun t537 => ((integer_signed.f (bt527.1 != bt531.1) t537).bind fun bt540 => ((integer_number_text.f bt540.1 bt540.2).bind fun bt544 => (some (bt544.1, bt544.2)))))))) = some (r1, r2) := H
  have A5 := Aside0.mk A50
  clear A50
  by_cases c6 : t523 = true
  ·subst c6
   have H1 : ((integer_machine.f a0).bind fun t524 => ((integer_machine.f a1).bind fun t525 => ((integer_Of.f (wrap64 (t524 * t525))).bind fun t526 => (some (t526, 0))))) = some (r1, r2) := by rw [if_pos rfl] at H; exact H
   clear H
   have H := H1
   clear H1
   replace H := Option.bind_eq_some_iff.mp H
   obtain ⟨t524, A70, H⟩ := H
   replace H : ((integer_machine.f a1).bind fun t525 => ((integer_Of.f (wrap64 (t524 * t525))).bind fun t526 => (some (t526, 0)))) = some (r1, r2) := H
   have A7 := Aside0.mk A70
   clear A70
   replace H := Option.bind_eq_some_iff.mp H
   obtain ⟨t525, A80, H⟩ := H
   replace H : ((integer_Of.f (wrap64 (t524 * t525))).bind fun t526 => (some (t526, 0))) = some (r1, r2) := H
   have A8 := Aside0.mk A80
   clear A80
   replace H := Option.bind_eq_some_iff.mp H
   obtain ⟨t526, A90, H⟩ := H
   replace H : (some (t526, 0)) = some (r1, r2) := H
   have A9 := Aside0.mk A90
   clear A90
   simp only [Option.some.injEq, Prod.mk.injEq] at H
   obtain ⟨rfl, rfl⟩ := H
   go_enter Tryd.func26, Tryd.ntmps26
   go_wp2_with (first | ((with_reducible refine gate_callee (f := 35) rfl ?_); refine goesL_ (some 10) rfl rfl Tryd.func35 (by kernel_rfl) rfl #[.string a0, .string a1] rfl ag ?_; (with_reducible refine (integer_both.calls k a0 a1 true _ ?side1 A3.out).mono ?_); (case side1 => exact GOK.below hG.out bel); rintro e w' ⟨rfl, ⟨nd, rfl⟩⟩; refine ⟨_, rfl, ?_⟩) | ((with_reducible refine gate_callee (f := 46) rfl ?_); refine goesL_ (some 14) rfl rfl Tryd.func46 (by kernel_rfl) rfl #[.string a0, .string a1, .int .i64 9] rfl ag ?_; (with_reducible refine (integer_near.calls a0 a1 9 true _ ?side1 A5.out).mono ?_); (case side1 => exact GOK.below hG.out bel); rintro e w' ⟨rfl, ⟨nd, rfl⟩⟩; refine ⟨_, rfl, ?_⟩) | ((with_reducible refine gate_callee (f := 47) rfl ?_); refine goesL_ (some 16) rfl rfl Tryd.func47 (by kernel_rfl) rfl #[.string a0] rfl ag ?_; (with_reducible refine (integer_machine.calls a0 t524 _ ?side1 A7.out).mono ?_); (case side1 => exact GOK.below hG.out bel); rintro e w10 ⟨rfl, hb⟩; refine ⟨_, rfl, ?_⟩; have n0_ := Aside0.mk (below_step bel hb); clear HB; have HB := n0_; clear n0_; (try clear hb); (try clear hb2); (try clear hk); (try clear hi)) | ((with_reducible refine gate_callee (f := 47) rfl ?_); refine goesL_ (some 18) rfl rfl Tryd.func47 (by kernel_rfl) rfl #[.string a1] rfl ag ?_; (with_reducible refine (integer_machine.calls a1 t525 _ ?side1 A8.out).mono ?_); (case side1 => exact GOK.below hG.out bel); rintro e w11 ⟨rfl, hb⟩; refine ⟨_, rfl, ?_⟩; have n0_ := Aside0.mk (below_step bel hb); clear HB; have HB := n0_; clear n0_; (try clear hb); (try clear hb2); (try clear hk); (try clear hi)) | ((with_reducible refine gate_callee (f := 29) rfl ?_); refine goesL_ (some 20) rfl rfl Tryd.func29 (by kernel_rfl) rfl #[.int .i64 (wrap64 (t524 * t525))] rfl ag ?_; (with_reducible refine (integer_Of.calls (wrap64 (t524 * t525)) t526 _ ?side1 A9.out).mono ?_); (case side1 => exact GOK.below hG.out bel); rintro e w12 ⟨rfl, hb⟩; refine ⟨_, rfl, ?_⟩; have n0_ := Aside0.mk (below_step bel hb); clear HB; have HB := n0_; clear n0_; (try clear hb); (try clear hb2); (try clear hk); (try clear hi)))
   go_ret2
   exact ⟨by first | rfl | (simp [errW_none, errW_some] <;> rfl) | (simp [*, errW_none, errW_some] <;> rfl), bel⟩
  ·replace c6 := Bool.eq_false_iff.mpr c6
   subst c6
   have H1 : ((integer_read.f k a0).bind fun bt527 => ((integer_read.f k a1).bind fun bt531 => ((integer_times.f k bt527.2 bt531.2).bind fun t537 => ((integer_signed.f (bt527.1 != bt531.1) t537).bind fun bt540 => ((integer_number_text.f bt540.1 bt540.2).bind fun bt544 => (some (bt544.1, bt544.2))))))) = some (r1, r2) := by rw [if_neg (show ¬ (false = true) by decide)] at H; exact H
   clear H
   have H := H1
   clear H1
   replace H := Option.bind_eq_some_iff.mp H
   obtain ⟨⟨t527, t528⟩, A130, H⟩ := H
   replace H : ((integer_read.f k a1).bind fun bt531 => ((integer_times.f k t528 bt531.2).bind fun t537 => ((integer_signed.f (t527 != bt531.1) t537).bind fun bt540 => ((integer_number_text.f bt540.1 bt540.2).bind fun bt544 => (some (bt544.1, bt544.2)))))) = some (r1, r2) := H
   have A13 := Aside0.mk A130
   clear A130
   replace H := Option.bind_eq_some_iff.mp H
   obtain ⟨⟨t531, t532⟩, A140, H⟩ := H
   replace H : ((integer_times.f k t528 t532).bind fun t537 => ((integer_signed.f (t527 != t531) t537).bind fun bt540 => ((integer_number_text.f bt540.1 bt540.2).bind fun bt544 => (some (bt544.1, bt544.2))))) = some (r1, r2) := H
   have A14 := Aside0.mk A140
   clear A140
   replace H := Option.bind_eq_some_iff.mp H
   obtain ⟨t537, A150, H⟩ := H
   replace H : ((integer_signed.f (t527 != t531) t537).bind fun bt540 => ((integer_number_text.f bt540.1 bt540.2).bind fun bt544 => (some (bt544.1, bt544.2)))) = some (r1, r2) := H
   have A15 := Aside0.mk A150
   clear A150
   replace H := Option.bind_eq_some_iff.mp H
   obtain ⟨⟨t540, t541⟩, A160, H⟩ := H
   replace H : ((integer_number_text.f t540 t541).bind fun bt544 => (some (bt544.1, bt544.2))) = some (r1, r2) := H
   have A16 := Aside0.mk A160
   clear A160
   replace H := Option.bind_eq_some_iff.mp H
   obtain ⟨⟨t544, t545⟩, A170, H⟩ := H
   replace H : (some (t544, t545)) = some (r1, r2) := H
   have A17 := Aside0.mk A170
   clear A170
   simp only [Option.some.injEq, Prod.mk.injEq] at H
   obtain ⟨rfl, rfl⟩ := H
   go_enter Tryd.func26, Tryd.ntmps26
   try go_wp2_with (first | ((with_reducible refine gate_callee (f := 35) rfl ?_); refine goesL_ (some 10) rfl rfl Tryd.func35 (by kernel_rfl) rfl #[.string a0, .string a1] rfl ag ?_; (with_reducible refine (integer_both.calls k a0 a1 true _ ?side1 A3.out).mono ?_); (case side1 => exact GOK.below hG.out bel); rintro e w' ⟨rfl, ⟨nd, rfl⟩⟩; refine ⟨_, rfl, ?_⟩) | ((with_reducible refine gate_callee (f := 46) rfl ?_); refine goesL_ (some 14) rfl rfl Tryd.func46 (by kernel_rfl) rfl #[.string a0, .string a1, .int .i64 9] rfl ag ?_; (with_reducible refine (integer_near.calls a0 a1 9 false _ ?side1 A5.out).mono ?_); (case side1 => exact GOK.below hG.out bel); rintro e w' ⟨rfl, ⟨nd, rfl⟩⟩; refine ⟨_, rfl, ?_⟩) | ((with_reducible refine gate_callee (f := 36) rfl ?_); refine goesL_ (some 22) rfl rfl Tryd.func36 (by kernel_rfl) rfl #[.string a0] rfl ag ?_; (with_reducible refine (integer_read.calls k a0 t527 t528 _ ?side1 A13.out).mono ?_); (case side1 => exact GOK.below hG.out bel); rintro e w18 ⟨v529, rfl, ho0, hb⟩; refine ⟨_, rfl, ?_⟩; have n0_ := Aside0.mk (Kd.V_lower (Kd.V_mono (ok' := fun k_ => True) ho0 (fun k_ hk_ => trivial)) (below_size bel)); have n1_ := Aside0.mk (below_step bel hb); clear HB; have HO530 := n0_; have HB := n1_; clear n0_ n1_; (try clear hb); (try clear hb2); (try clear hk); (try clear hi); (try clear ho0)) | ((with_reducible refine gate_callee (f := 36) rfl ?_); refine goesL_ (some 24) rfl rfl Tryd.func36 (by kernel_rfl) rfl #[.string a1] rfl ag ?_; (with_reducible refine (integer_read.calls k a1 t531 t532 _ ?side1 A14.out).mono ?_); (case side1 => exact GOK.below hG.out bel); rintro e w19 ⟨v533, rfl, ho0, hb⟩; refine ⟨_, rfl, ?_⟩; have n0_ := Aside0.mk (Kd.V_below (kv HO530.out) hb); have n1_ := Aside0.mk (Kd.V_lower (Kd.V_mono (ok' := fun k_ => True) ho0 (fun k_ hk_ => trivial)) (below_size bel)); have n2_ := Aside0.mk (below_step bel hb); clear HO530; clear HB; have HO530 := n0_; have HO534 := n1_; have HB := n2_; clear n0_ n1_ n2_; (try clear hb); (try clear hb2); (try clear hk); (try clear hi); (try clear ho0)) | ((with_reducible refine gate_dst (N := 6) rfl ?_); refine box_event ?hg (N := 6) ?hd (cs := #[.bool false, .slice none 0 0]) (t := 51) ?hr ?_; (case hd => rfl); (case hg => rfl); (case hr => first | (go_simp; done) | (go_simp; rfl)); intro gb535 hg w20 hbox hb; have n0_ := Aside0.mk (Kd.V_below (Kd.V_elderB (kv HO530.out) gb535 (Nat.le_of_eq hg.symm)) hb); have n1_ := Aside0.mk (Kd.V_below (Kd.V_elderB (kv HO534.out) gb535 (Nat.le_of_eq hg.symm)) hb); have n2_ := Aside0.mk (below_step bel hb); have n3_ := Aside0.mk (hbox); have n4_ := Aside0.mk ((by rw [hg]; exact (below_size bel) : w.heap.size ≤ gb535)); have n5_ := Aside0.mk ((by rw [hg]; exact (below_size bel) : w.heap.size ≤ gb535)); clear HO530; clear HO534; clear HB; have HO530 := n0_; have HO534 := n1_; have HB := n2_; have BK535 := n3_; have GW535 := n4_; have GE535 := n5_; clear n0_ n1_ n2_ n3_ n4_ n5_; clear hb hbox hg) | ((with_reducible refine gate_dst (N := 7) rfl ?_); refine box_event ?hg (N := 7) ?hd (cs := #[.bool false, .slice none 0 0]) (t := 51) ?hr ?_; (case hd => rfl); (case hg => rfl); (case hr => first | (go_simp; done) | (go_simp; rfl)); intro gb536 hg w21 hbox hb; have n0_ := Aside0.mk (Kd.V_below (Kd.V_elderB (kv HO530.out) gb536 (Nat.le_of_eq hg.symm)) hb); have n1_ := Aside0.mk (Kd.V_below (Kd.V_elderB (kv HO534.out) gb536 (Nat.le_of_eq hg.symm)) hb); have n2_ := Aside0.mk (blk_below (bk BK535.out) hb); have n3_ := Aside0.mk (below_step bel hb); have n4_ := Aside0.mk (hbox); have n5_ := Aside0.mk ((by rw [hg]; exact (below_size bel) : w.heap.size ≤ gb536)); have n6_ := Aside0.mk ((by rw [hg]; exact (below_size bel) : w.heap.size ≤ gb536)); have n7_ := Aside0.mk ((by rw [hg]; exact Nat.ne_of_lt (blk_lt (bk BK535.out)) : gb535 ≠ gb536)); have n8_ := Aside0.mk ((by rw [hg]; exact Nat.ne_of_gt (blk_lt (bk BK535.out)) : gb536 ≠ gb535)); clear HO530; clear HO534; clear BK535; clear HB; have HO530 := n0_; have HO534 := n1_; have BK535 := n2_; have HB := n3_; have BK536 := n4_; have GW536 := n5_; have GE536 := n6_; have NB535_536 := n7_; have NB536_535 := n8_; clear n0_ n1_ n2_ n3_ n4_ n5_ n6_ n7_ n8_; clear hb hbox hg; have hnb22 := NB535_536.out; have hnc22 := NB536_535.out; have hcz23_0 : w21.cell? ⟨gb535, 0, none⟩ = some (.bool false) := (blk_cell BK535.out 0).trans rfl; have hcz23_1 : w21.cell? ⟨gb535, 1, none⟩ = some (.slice none 0 0) := (blk_cell BK535.out 1).trans rfl; have hfz23_0 := blk_frozen BK535.out 0; have hfz23_1 := blk_frozen BK535.out 1; obtain ⟨Ao24, co24, eo24⟩ := Kd.V_slice HO530.out; subst eo24; have hcz25_0 : w21.cell? ⟨gb536, 0, none⟩ = some (.bool false) := (blk_cell BK536.out 0).trans rfl; have hcz25_1 : w21.cell? ⟨gb536, 1, none⟩ = some (.slice none 0 0) := (blk_cell BK536.out 1).trans rfl; have hfz25_0 := blk_frozen BK536.out 0; have hfz25_1 := blk_frozen BK536.out 1; obtain ⟨Ao26, co26, eo26⟩ := Kd.V_slice HO534.out; subst eo26))
   have n0_ : Aside0 (Kd.V (Kd.int .u64) 57 ((((w21.setCell ⟨gb535, 0, none⟩ (.bool t527)).setCell ⟨gb535, 1, none⟩ (.slice Ao24 t528.length co24)).setCell ⟨gb536, 0, none⟩ (.bool t531)).setCell ⟨gb536, 1, none⟩ (.slice Ao26 t532.length co26)) w.heap.size (fun k_ => k_ ≠ gb535 ∧ k_ ≠ gb536) (.slice Ao24 t528.length co24) t528) := ⟨kv (Kd.V_mono (Kd.V_far (p := ⟨gb536, 1, none⟩) (Kd.V_far (p := ⟨gb536, 0, none⟩) (Kd.V_far (p := ⟨gb535, 1, none⟩) (Kd.V_far (p := ⟨gb535, 0, none⟩) (Kd.V_mono (Kd.V_mono HO530.out (fun k_ hk => (⟨hk, hk.1.2⟩ : _ ∧ k_ ≠ gb535))) (fun k_ hk => (⟨hk, hk.1.2⟩ : _ ∧ k_ ≠ gb536))) (fun _ hk => hk.1.2) (.bool t527)) (fun _ hk => hk.1.2) (.slice Ao24 t528.length co24)) (fun _ hk => hk.2) (.bool t531)) (fun _ hk => hk.2) (.slice Ao26 t532.length co26)) (fun _ hk => ⟨hk.1.1.1.2, hk.1.1.2⟩))⟩
   have n1_ : Aside0 (Kd.V (Kd.int .u64) 57 ((((w21.setCell ⟨gb535, 0, none⟩ (.bool t527)).setCell ⟨gb535, 1, none⟩ (.slice Ao24 t528.length co24)).setCell ⟨gb536, 0, none⟩ (.bool t531)).setCell ⟨gb536, 1, none⟩ (.slice Ao26 t532.length co26)) w.heap.size (fun k_ => k_ ≠ gb535 ∧ k_ ≠ gb536) (.slice Ao26 t532.length co26) t532) := ⟨kv (Kd.V_mono (Kd.V_far (p := ⟨gb536, 1, none⟩) (Kd.V_far (p := ⟨gb536, 0, none⟩) (Kd.V_far (p := ⟨gb535, 1, none⟩) (Kd.V_far (p := ⟨gb535, 0, none⟩) (Kd.V_mono (Kd.V_mono HO534.out (fun k_ hk => (⟨hk, hk.1.2⟩ : _ ∧ k_ ≠ gb535))) (fun k_ hk => (⟨hk, hk.1.2⟩ : _ ∧ k_ ≠ gb536))) (fun _ hk => hk.1.2) (.bool t527)) (fun _ hk => hk.1.2) (.slice Ao24 t528.length co24)) (fun _ hk => hk.2) (.bool t531)) (fun _ hk => hk.2) (.slice Ao26 t532.length co26)) (fun _ hk => ⟨hk.1.1.1.2, hk.1.1.2⟩))⟩
   have n2_ : Aside0 (((((w21.setCell ⟨gb535, 0, none⟩ (.bool t527)).setCell ⟨gb535, 1, none⟩ (.slice Ao24 t528.length co24)).setCell ⟨gb536, 0, none⟩ (.bool t531)).setCell ⟨gb536, 1, none⟩ (.slice Ao26 t532.length co26)).heap[gb535]? = some (.cells #[.bool t527, .slice Ao24 t528.length co24] 51 (0, 0))) := ⟨by (with_reducible repeat (first | refine blk_drewN ?_ _ | refine blk_drew ?_ | refine blk_alloc ?_ _)); refine blk_far ?_ NB535_536.out _; (with_reducible repeat (first | refine blk_drewN ?_ _ | refine blk_drew ?_ | refine blk_alloc ?_ _)); refine blk_far ?_ NB535_536.out _; (with_reducible repeat (first | refine blk_drewN ?_ _ | refine blk_drew ?_ | refine blk_alloc ?_ _)); refine blk_put (cs := #[.bool t527, .slice none 0 0]) ?_ 1 _ rfl; (with_reducible repeat (first | refine blk_drewN ?_ _ | refine blk_drew ?_ | refine blk_alloc ?_ _)); refine blk_put (cs := #[.bool false, .slice none 0 0]) ?_ 0 _ rfl; (with_reducible repeat (first | refine blk_drewN ?_ _ | refine blk_drew ?_ | refine blk_alloc ?_ _)); exact BK535.out⟩
   have n3_ : Aside0 (((((w21.setCell ⟨gb535, 0, none⟩ (.bool t527)).setCell ⟨gb535, 1, none⟩ (.slice Ao24 t528.length co24)).setCell ⟨gb536, 0, none⟩ (.bool t531)).setCell ⟨gb536, 1, none⟩ (.slice Ao26 t532.length co26)).heap[gb536]? = some (.cells #[.bool t531, .slice Ao26 t532.length co26] 51 (0, 0))) := ⟨by (with_reducible repeat (first | refine blk_drewN ?_ _ | refine blk_drew ?_ | refine blk_alloc ?_ _)); refine blk_put (cs := #[.bool t531, .slice none 0 0]) ?_ 1 _ rfl; (with_reducible repeat (first | refine blk_drewN ?_ _ | refine blk_drew ?_ | refine blk_alloc ?_ _)); refine blk_put (cs := #[.bool false, .slice none 0 0]) ?_ 0 _ rfl; (with_reducible repeat (first | refine blk_drewN ?_ _ | refine blk_drew ?_ | refine blk_alloc ?_ _)); refine blk_far ?_ NB536_535.out _; (with_reducible repeat (first | refine blk_drewN ?_ _ | refine blk_drew ?_ | refine blk_alloc ?_ _)); refine blk_far ?_ NB536_535.out _; (with_reducible repeat (first | refine blk_drewN ?_ _ | refine blk_drew ?_ | refine blk_alloc ?_ _)); exact BK536.out⟩
   have n4_ : Aside0 (Below w.heap.size w ((((w21.setCell ⟨gb535, 0, none⟩ (.bool t527)).setCell ⟨gb535, 1, none⟩ (.slice Ao24 t528.length co24)).setCell ⟨gb536, 0, none⟩ (.bool t531)).setCell ⟨gb536, 1, none⟩ (.slice Ao26 t532.length co26))) := ⟨bel⟩
   (try clear HO530)
   (try clear HO534)
   (try clear BK535)
   (try clear BK536)
   (try clear HB)
   generalize ((((w21.setCell ⟨gb535, 0, none⟩ (.bool t527)).setCell ⟨gb535, 1, none⟩ (.slice Ao24 t528.length co24)).setCell ⟨gb536, 0, none⟩ (.bool t531)).setCell ⟨gb536, 1, none⟩ (.slice Ao26 t532.length co26)) = w27 at n0_ n1_ n2_ n3_ n4_ ⊢
   have HO530 := n0_
   have HO534 := n1_
   have BK535 := n2_
   have BK536 := n3_
   have HB := n4_
   clear n0_ n1_ n2_ n3_ n4_
   have n0_ := Aside0.mk (Kd.V_drew HO530.out)
   have n1_ := Aside0.mk (Kd.V_drew HO534.out)
   have n2_ := Aside0.mk (blk_drew BK535.out)
   have n3_ := Aside0.mk (blk_drew BK536.out)
   have n4_ := Aside0.mk (below_drew1 HB.out)
   clear HO530
   clear HO534
   clear BK535
   clear BK536
   clear HB
   have HO530 := n0_
   have HO534 := n1_
   have BK535 := n2_
   have BK536 := n3_
   have HB := n4_
   clear n0_ n1_ n2_ n3_ n4_
   refine start_ (n := 16) (S := fun w' => w'.cell? ⟨gb535, 0, none⟩ = some (.bool t527) ∧ w'.cell? ⟨gb535, 1, none⟩ = some (.slice Ao24 t528.length co24) ∧ w'.cell? ⟨gb536, 0, none⟩ = some (.bool t531) ∧ w'.cell? ⟨gb536, 1, none⟩ = some (.slice Ao26 t532.length co26)) (ds := []) #[false, false, false, false, false, false, false, false, false, false, false, false, false, false, false, false] (by kernel_rfl) rfl rfl ⟨(blk_cell BK535.out 0).trans rfl, (blk_cell BK535.out 1).trans rfl, (blk_cell BK536.out 0).trans rfl, (blk_cell BK536.out 1).trans rfl⟩ (fun hHeld => ?_); refine with_tabW integer_Mul.tab6 integer_Mul.bits6 (fun HT_ HW_ => ?_)
   generalize w27.drew = w28 at HO530 HO534 BK535 BK536 HB hHeld ⊢
   refine pure_ (i := 0) (N := some 25) (v := ?_) (a' := ?_) #[true, false, false, false, false, false, false, false, false, false, false, false, false, false, false, false] rfl rfl (any_of HT_.out (by kernel_rfl)) (fun _ _ _ h => h) (Or.inl ⟨by rfl, ?_⟩) ?_ ?_
   rotate_left
   ·intro w'
    go_simp
    with_reducible rfl
   rotate_left
   ·simp only [Act.put, List.setIfInBounds_toArray, List.set_cons_zero, List.set_cons_succ, i64_w, i32_w]
    rfl
   refine pure_ (i := 2) (N := some 27) (v := ?_) (a' := ?_) #[true, false, true, false, false, false, false, false, false, false, false, false, false, false, false, false] rfl rfl (any_of HT_.out (by kernel_rfl)) (fun _ _ _ h => h) (Or.inl ⟨by rfl, ?_⟩) ?_ ?_
   rotate_left
   ·intro w'
    go_simp
    with_reducible rfl
   rotate_left
   ·simp only [Act.put, List.setIfInBounds_toArray, List.set_cons_zero, List.set_cons_succ, i64_w, i32_w]
    rfl
   refine pure_ (i := 5) (N := some 30) (v := ?_) (a' := ?_) #[true, false, true, false, false, true, false, false, false, false, false, false, false, false, false, false] rfl rfl (any_of HT_.out (by kernel_rfl)) (fun _ _ _ h => h) (Or.inl ⟨by rfl, ?_⟩) ?_ ?_
   rotate_left
   ·intro w'
    go_simp
    with_reducible rfl
   rotate_left
   ·simp only [Act.put, List.setIfInBounds_toArray, List.set_cons_zero, List.set_cons_succ, i64_w, i32_w]
    rfl
   refine pure_ (i := 7) (N := some 32) (v := ?_) (a' := ?_) #[true, false, true, false, false, true, false, true, false, false, false, false, false, false, false, false] rfl rfl (any_of HT_.out (by kernel_rfl)) (fun _ _ _ h => h) (Or.inl ⟨by rfl, ?_⟩) ?_ ?_
   rotate_left
   ·intro w'
    go_simp
    with_reducible rfl
   rotate_left
   ·simp only [Act.put, List.setIfInBounds_toArray, List.set_cons_zero, List.set_cons_succ, i64_w, i32_w]
    rfl
   refine take_ (i := 1) (N := some 26) (v := ?_) (a' := ?_) #[true, true, true, false, false, true, false, true, false, false, false, false, false, false, false, false] rfl rfl (take_ofW HT_.out HW_.out (by kernel_rfl)) (fun _ _ _ h => h) (Or.inl ⟨by rfl, ?_⟩) hHeld ?_ ?_
   rotate_left
   ·rintro w' ⟨s0, s1, s2, s3⟩
    go_simp
    with_reducible rfl
   rotate_left
   ·simp only [Act.put, List.setIfInBounds_toArray, List.set_cons_zero, List.set_cons_succ, i64_w, i32_w]
    rfl
   refine take_ (i := 3) (N := some 28) (v := ?_) (a' := ?_) #[true, true, true, true, false, true, false, true, false, false, false, false, false, false, false, false] rfl rfl (take_ofW HT_.out HW_.out (by kernel_rfl)) (fun _ _ _ h => h) (Or.inl ⟨by rfl, ?_⟩) hHeld ?_ ?_
   rotate_left
   ·rintro w' ⟨s0, s1, s2, s3⟩
    go_simp
    with_reducible rfl
   rotate_left
   ·simp only [Act.put, List.setIfInBounds_toArray, List.set_cons_zero, List.set_cons_succ, i64_w, i32_w]
    rfl
   refine pure_ (i := 4) (N := some 29) (v := ?_) (a' := ?_) #[true, true, true, true, true, true, false, true, false, false, false, false, false, false, false, false] rfl rfl (any_of HT_.out (by kernel_rfl)) (fun _ _ _ h => h) (Or.inl ⟨by rfl, ?_⟩) ?_ ?_
   rotate_left
   ·intro w'
    go_simp
    with_reducible rfl
   rotate_left
   ·simp only [Act.put, List.setIfInBounds_toArray, List.set_cons_zero, List.set_cons_succ, i64_w, i32_w]
    rfl
   refine take_ (i := 6) (N := some 31) (v := ?_) (a' := ?_) #[true, true, true, true, true, true, true, true, false, false, false, false, false, false, false, false] rfl rfl (take_ofW HT_.out HW_.out (by kernel_rfl)) (fun _ _ _ h => h) (Or.inl ⟨by rfl, ?_⟩) hHeld ?_ ?_
   rotate_left
   ·rintro w' ⟨s0, s1, s2, s3⟩
    go_simp
    with_reducible rfl
   rotate_left
   ·simp only [Act.put, List.setIfInBounds_toArray, List.set_cons_zero, List.set_cons_succ, i64_w, i32_w]
    rfl
   refine take_ (i := 8) (N := some 33) (v := ?_) (a' := ?_) #[true, true, true, true, true, true, true, true, true, false, false, false, false, false, false, false] rfl rfl (take_ofW HT_.out HW_.out (by kernel_rfl)) (fun _ _ _ h => h) (Or.inl ⟨by rfl, ?_⟩) hHeld ?_ ?_
   rotate_left
   ·rintro w' ⟨s0, s1, s2, s3⟩
    go_simp
    with_reducible rfl
   rotate_left
   ·simp only [Act.put, List.setIfInBounds_toArray, List.set_cons_zero, List.set_cons_succ, i64_w, i32_w]
    rfl
   refine one_ (i := 9) (N := some 34) #[true, true, true, true, true, true, true, true, true, true, false, false, false, false, false, false] rfl rfl (one_of HT_.out (by kernel_rfl)) (by decide) (fun K hK => ?_)
   refine goes_ Tryd.func50 (by kernel_rfl) rfl #[.slice Ao24 t528.length co24, .slice Ao26 t532.length co26] (by rfl) rfl rfl ag ?_
   with_reducible refine (integer_times.calls k _ _ t528 _ _ t532 t537 _ ?side1 ?side2 ?side3 ?side4 ?side5 A15.out).mono ?_
   (case side1 => exact GOK.below hG.out bel)
   (case side2 => exact kc ((Kd.V_reads' HO530.out).2.2))
   (case side3 => exact (Kd.V_reads' HO530.out).2.1)
   (case side4 => exact kc ((Kd.V_reads' HO534.out).2.2))
   (case side5 => exact (Kd.V_reads' HO534.out).2.1)
   rintro e w29 ⟨v538, rfl, ho0, hb⟩
   refine ⟨_, rfl, ?_⟩
   have n0_ := Aside0.mk (Kd.V_below (kv HO530.out) hb)
   have n1_ := Aside0.mk (Kd.V_below (kv HO534.out) hb)
   have n2_ := Aside0.mk (Kd.V_lower (Kd.V_mono (ok' := fun k_ => k_ ≠ gb535 ∧ k_ ≠ gb536) ho0 (fun k_ hk_ => ⟨(Kd.freshB (bk BK535.out) k_ hk_), (Kd.freshB (bk BK536.out) k_ hk_)⟩)) (below_size bel))
   have n3_ := Aside0.mk (blk_below (bk BK535.out) hb)
   have n4_ := Aside0.mk (blk_below (bk BK536.out) hb)
   have n5_ := Aside0.mk (below_step bel hb)
   clear HO530
   clear HO534
   clear BK535
   clear BK536
   clear HB
   have HO530 := n0_
   have HO534 := n1_
   have HO539 := n2_
   have BK535 := n3_
   have BK536 := n4_
   have HB := n5_
   clear n0_ n1_ n2_ n3_ n4_ n5_
   (try clear hb)
   (try clear hb2)
   (try clear hk)
   (try clear hi)
   (try clear ho0)
   obtain ⟨Ao30, co30, eo30⟩ := Kd.V_slice HO539.out
   (first | subst eo30 | (injection eo30 with f1_ f2_ f3_; have f4_ := f1_.symm; have f5_ := f3_.symm; clear f1_ f2_ f3_; subst f4_; subst f5_))
   refine hK.out _ _ ⟨(blk_cell BK535.out 0).trans rfl, (blk_cell BK535.out 1).trans rfl, (blk_cell BK536.out 0).trans rfl, (blk_cell BK536.out 1).trans rfl⟩ (fun hHeld => ?_)
   clear hK K
   refine norm_ (a' := ?_) ?_ ?_
   rotate_left
   ·show Act.put _ (some 34) _ = _
    simp only [Act.put, List.setIfInBounds_toArray, List.set_cons_zero, List.set_cons_succ, i64_w, i32_w]
    rfl
   refine one_ (i := 10) (N := some 35) #[true, true, true, true, true, true, true, true, true, true, true, false, false, false, false, false] rfl rfl (one_of HT_.out (by kernel_rfl)) (by decide) (fun K hK => ?_)
   refine goes_ Tryd.func38 (by kernel_rfl) rfl #[.bool (t527 != t531), .slice Ao30 t537.length co30] (by rfl) rfl rfl ag ?_
   with_reducible refine (integer_signed.calls (t527 != t531) (fun k_ => (k_ ≠ gb535 ∧ k_ ≠ gb536)) _ _ t537 t540 t541 _ ?side1 ?side2 A16.out).mono ?_
   (case side1 => exact GOK.below hG.out bel)
   (case side2 => exact HO539.out)
   rintro e w31 ⟨v542, rfl, ho0, hb⟩
   refine ⟨_, rfl, ?_⟩
   have n0_ := Aside0.mk (Kd.V_below (kv HO530.out) hb)
   have n1_ := Aside0.mk (Kd.V_below (kv HO534.out) hb)
   have n2_ := Aside0.mk (Kd.V_below (kv HO539.out) hb)
   have n3_ := Aside0.mk (Kd.V_lower (Kd.V_mono (ok' := fun k_ => k_ ≠ gb535 ∧ k_ ≠ gb536) ho0 (fun k_ hk_ => ⟨Or.elim hk_ (fun hs_ => hs_.1) (fun hn_ => (Kd.freshB (bk BK535.out) k_ hn_)), Or.elim hk_ (fun hs_ => hs_.2) (fun hn_ => (Kd.freshB (bk BK536.out) k_ hn_))⟩)) (below_size bel))
   have n4_ := Aside0.mk (blk_below (bk BK535.out) hb)
   have n5_ := Aside0.mk (blk_below (bk BK536.out) hb)
   have n6_ := Aside0.mk (below_step bel hb)
   clear HO530
   clear HO534
   clear HO539
   clear BK535
   clear BK536
   clear HB
   have HO530 := n0_
   have HO534 := n1_
   have HO539 := n2_
   have HO543 := n3_
   have BK535 := n4_
   have BK536 := n5_
   have HB := n6_
   clear n0_ n1_ n2_ n3_ n4_ n5_ n6_
   (try clear hb)
   (try clear hb2)
   (try clear hk)
   (try clear hi)
   (try clear ho0)
   obtain ⟨Ao32, co32, eo32⟩ := Kd.V_slice HO543.out
   (first | subst eo32 | (injection eo32 with f1_ f2_ f3_; have f4_ := f1_.symm; have f5_ := f3_.symm; clear f1_ f2_ f3_; subst f4_; subst f5_))
   refine hK.out _ _ ⟨(blk_cell BK535.out 0).trans rfl, (blk_cell BK535.out 1).trans rfl, (blk_cell BK536.out 0).trans rfl, (blk_cell BK536.out 1).trans rfl⟩ (fun hHeld => ?_)
   clear hK K
   refine norm_ (a' := ?_) ?_ ?_
   rotate_left
   ·show Act.put _ (some 35) _ = _
    simp only [Act.put, List.setIfInBounds_toArray, List.set_cons_zero, List.set_cons_succ, i64_w, i32_w]
    rfl
   refine one_ (i := 11) (N := some 36) #[true, true, true, true, true, true, true, true, true, true, true, true, false, false, false, false] rfl rfl (one_of HT_.out (by kernel_rfl)) (by decide) (fun K hK => ?_)
   refine goes_ Tryd.func40 (by kernel_rfl) rfl #[.agg #[.bool t540, .slice Ao32 t541.length co32]] (by rfl) rfl rfl ag ?_
   with_reducible refine (integer_number_text.calls t540 _ _ t541 t544 t545 _ ?side1 ?side2 ?side3 A17.out).mono ?_
   (case side1 => exact GOK.below hG.out bel)
   (case side2 => exact kc ((Kd.V_reads' HO543.out).2.2))
   (case side3 => exact (Kd.V_reads' HO543.out).2.1)
   rintro e w33 ⟨rfl, hb⟩
   refine ⟨_, rfl, ?_⟩
   have n0_ := Aside0.mk (Kd.V_below (kv HO530.out) hb)
   have n1_ := Aside0.mk (Kd.V_below (kv HO534.out) hb)
   have n2_ := Aside0.mk (Kd.V_below (kv HO539.out) hb)
   have n3_ := Aside0.mk (Kd.V_below (kv HO543.out) hb)
   have n4_ := Aside0.mk (blk_below (bk BK535.out) hb)
   have n5_ := Aside0.mk (blk_below (bk BK536.out) hb)
   have n6_ := Aside0.mk (below_step bel hb)
   clear HO530
   clear HO534
   clear HO539
   clear HO543
   clear BK535
   clear BK536
   clear HB
   have HO530 := n0_
   have HO534 := n1_
   have HO539 := n2_
   have HO543 := n3_
   have BK535 := n4_
   have BK536 := n5_
   have HB := n6_
   clear n0_ n1_ n2_ n3_ n4_ n5_ n6_
   (try clear hb)
   (try clear hb2)
   (try clear hk)
   (try clear hi)
   refine hK.out _ _ ⟨(blk_cell BK535.out 0).trans rfl, (blk_cell BK535.out 1).trans rfl, (blk_cell BK536.out 0).trans rfl, (blk_cell BK536.out 1).trans rfl⟩ (fun hHeld => ?_)
   clear hK K
   refine norm_ (a' := ?_) ?_ ?_
   rotate_left
   ·show Act.put _ (some 36) _ = _
    simp only [Act.put, List.setIfInBounds_toArray, List.set_cons_zero, List.set_cons_succ, i64_w, i32_w]
    rfl
   refine pure_ (i := 12) (N := some 37) (v := ?_) (a' := ?_) #[true, true, true, true, true, true, true, true, true, true, true, true, true, false, false, false] rfl rfl (any_of HT_.out (by kernel_rfl)) (fun _ _ _ h => h) (Or.inl ⟨by rfl, ?_⟩) ?_ ?_
   rotate_left
   ·intro w'
    go_simp
    with_reducible rfl
   rotate_left
   ·simp only [Act.put, List.setIfInBounds_toArray, List.set_cons_zero, List.set_cons_succ, i64_w, i32_w]
    rfl
   refine pure_ (i := 13) (N := some 38) (v := ?_) (a' := ?_) #[true, true, true, true, true, true, true, true, true, true, true, true, true, true, false, false] rfl rfl (any_of HT_.out (by kernel_rfl)) (fun _ _ _ h => h) (Or.inl ⟨by rfl, ?_⟩) ?_ ?_
   rotate_left
   ·intro w'
    go_simp
    with_reducible rfl
   rotate_left
   ·simp only [Act.put, List.setIfInBounds_toArray, List.set_cons_zero, List.set_cons_succ, i64_w, i32_w]
    rfl
   refine pure_ (i := 14) (N := some 4) (v := ?_) (a' := ?_) #[true, true, true, true, true, true, true, true, true, true, true, true, true, true, true, false] rfl rfl (any_of HT_.out (by kernel_rfl)) (fun _ _ _ h => h) (Or.inl ⟨by rfl, ?_⟩) ?_ ?_
   rotate_left
   ·intro w'
    go_simp
    with_reducible rfl
   rotate_left
   ·simp only [Act.put, List.setIfInBounds_toArray, List.set_cons_zero, List.set_cons_succ, i64_w, i32_w]
    rfl
   refine pure_ (i := 15) (N := some 5) (v := ?_) (a' := ?_) #[true, true, true, true, true, true, true, true, true, true, true, true, true, true, true, true] rfl rfl (any_of HT_.out (by kernel_rfl)) (fun _ _ _ h => h) (Or.inl ⟨by rfl, ?_⟩) ?_ ?_
   rotate_left
   ·intro w'
    go_simp
    with_reducible rfl
   rotate_left
   ·simp only [Act.put, List.setIfInBounds_toArray, List.set_cons_zero, List.set_cons_succ, i64_w, i32_w]
    rfl
   refine done_ (done_of HT_.out (by kernel_rfl)) ?_
   try go_wp2
   go_ret2
   exact ⟨by first | rfl | (simp [errW_none, errW_some] <;> rfl) | (simp [*, errW_none, errW_some] <;> rfl), bel⟩
 ·replace c4 := Bool.eq_false_iff.mpr c4
  subst c4
  have H1 : (some ((⟨#[]⟩ : ByteArray), 3)) = some (r1, r2) := by rw [if_neg (show ¬ (false = true) by decide)] at H; exact H
  clear H
  have H := H1
  clear H1
  simp only [Option.some.injEq, Prod.mk.injEq] at H
  obtain ⟨rfl, rfl⟩ := H
  go_enter Tryd.func26, Tryd.ntmps26
  go_wp2_with (first | ((with_reducible refine gate_callee (f := 35) rfl ?_); refine goesL_ (some 10) rfl rfl Tryd.func35 (by kernel_rfl) rfl #[.string a0, .string a1] rfl ag ?_; (with_reducible refine (integer_both.calls k a0 a1 false _ ?side1 A3.out).mono ?_); (case side1 => exact GOK.below hG.out bel); rintro e w' ⟨rfl, ⟨nd, rfl⟩⟩; refine ⟨_, rfl, ?_⟩))
  go_ret2
  exact ⟨by first | rfl | (simp [errW_none, errW_some] <;> rfl) | (simp [*, errW_none, errW_some] <;> rfl), bel⟩

end Go.Proofs.YtdnjlmoggnbknaaDoor.PInt
