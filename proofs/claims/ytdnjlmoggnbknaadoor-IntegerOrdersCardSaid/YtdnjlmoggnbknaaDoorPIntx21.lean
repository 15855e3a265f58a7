-- Written by a program of this session's (xprint.py) over the kit's print.
import Derived.Test.YtdnjlmoggnbknaaDoorPIntx0
import Derived.Test.YtdnjlmoggnbknaaDoorPIntx1
import Derived.Test.YtdnjlmoggnbknaaDoorPIntx6
import Derived.Test.YtdnjlmoggnbknaaDoorPIntx9
import Derived.Test.YtdnjlmoggnbknaaDoorPIntx10
import Derived.Test.YtdnjlmoggnbknaaDoorPIntx12
import Derived.Test.YtdnjlmoggnbknaaDoorPIntD
import Derived.Test.YtdnjlmoggnbknaaDoorAuto
namespace Go.Proofs.YtdnjlmoggnbknaaDoor.PInt
open Go.RowKit Go.Proofs.YtdnjlmoggnbknaaDoor.Ext Go.Proofs.YtdnjlmoggnbknaaDoorW.PrintWords Go.Proofs.YtdnjlmoggnbknaaDoorW.PrintLast Go.Proofs.YtdnjlmoggnbknaaDoorW.PrintMore
attribute [local go_sem high] gtr_print leq_print
attribute [local go_sem] max2_int min2_int max_two min_two max_three min_three max_four min_four   -- for this text's walks alone
set_option linter.unusedVariables false
set_option linter.unusedSimpArgs false

/-! ### integer_Neg: function 31 -/
set_option maxHeartbeats 8000000 in
set_option maxRecDepth 100000 in
theorem integer_Neg.calls (k : Nat) (a0 : ByteArray) (r : ByteArray) (w : World) (hG : GOK w) (h : integer_Neg.f k a0 = some r) :
  Calls Tryd.prog 31 #[.string a0] w fun e w' => e = .returned (.string r) ∧ Below w.heap.size w w' := by
 replace hG := Aside0.mk hG
 have HB := Aside0.mk (Below.refl w.heap.size w)
 have H : ((integer_Valid.f k a0).bind fun t811 => (if t811 = true then ((integer_read.f k a0).bind fun bt812 => ((integer_opposite.f bt812.1 bt812.2).bind fun bt816 => ((integer_number_text.f bt816.1 bt816.2).bind fun bt820 => (some bt820.1)))) else (some (⟨#[]⟩ : ByteArray)))) = some r := h
 clear h
 replace H := Option.bind_eq_some_iff.mp H
 obtain ⟨t811, A20, H⟩ := H
 replace H : (if t811 = true then ((integer_read.f k a0).bind fun bt812 => ((integer_opposite.f bt812.1 bt812.2).bind fun bt816 => ((integer_number_text.f bt816.1 bt816.2).bind fun bt820 => (some bt820.1)))) else (some (⟨#[]⟩ : ByteArray))) = some r := H
 have A2 := Aside0.mk A20
 clear A20
 by_cases c3 : t811 = true
 ·subst c3
  have H1 : ((integer_read.f k a0).bind fun bt812 => ((integer_opposite.f bt812.1 bt812.2).bind fun bt816 => ((integer_number_text.f bt816.1 bt816.2).bind fun bt820 => (some bt820.1)))) = some r := by rw [if_pos rfl] at H; exact H
  clear H
  have H := H1
  clear H1
  replace H := Option.bind_eq_some_iff.mp H
  obtain ⟨⟨t812, t813⟩, A40, H⟩ := H
  replace H : ((integer_opposite.f t812 t813).bind fun bt816 => ((integer_number_text.f bt816.1 bt816.2).bind fun bt820 => (some bt820.1))) = some r := H
  have A4 := Aside0.mk A40
  clear A40
  replace H := Option.bind_eq_some_iff.mp H
  obtain ⟨⟨t816, t817⟩, A50, H⟩ := H
  replace H : ((integer_number_text.f t816 t817).bind fun bt820 => (some bt820.1)) = some r := H
  have A5 := Aside0.mk A50
  clear A50
  replace H := Option.bind_eq_some_iff.mp H
  obtain ⟨⟨t820, t821⟩, A60, H⟩ := H
  replace H : (some t820) = some r := H
  have A6 := Aside0.mk A60
  clear A60
  obtain rfl := Option.some.inj H
  go_enter Tryd.func31, Tryd.ntmps31
  go_wp2_with (first | ((with_reducible refine gate_callee (f := 23) rfl ?_); refine goesL_ (some 6) rfl rfl Tryd.func23 (by kernel_rfl) rfl #[.string a0] rfl ag ?_; (with_reducible refine (integer_Valid.calls k a0 true _ ?side1 A2.out).mono ?_); (case side1 => exact GOK.below hG.out bel); rintro e w' ⟨rfl, ⟨nd, rfl⟩⟩; refine ⟨_, rfl, ?_⟩) | ((with_reducible refine gate_callee (f := 36) rfl ?_); refine goesL_ (some 10) rfl rfl Tryd.func36 (by kernel_rfl) rfl #[.string a0] rfl ag ?_; (with_reducible refine (integer_read.calls k a0 t812 t813 _ ?side1 A4.out).mono ?_); (case side1 => exact GOK.below hG.out bel); rintro e w7 ⟨v814, rfl, ho0, hb⟩; refine ⟨_, rfl, ?_⟩; have n0_ := Aside0.mk (Kd.V_lower (Kd.V_mono (ok' := fun k_ => True) ho0 (fun k_ hk_ => trivial)) (below_size bel)); have n1_ := Aside0.mk (below_step bel hb); clear HB; have HO815 := n0_; have HB := n1_; clear n0_ n1_; (try clear hb); (try clear hb2); (try clear hk); (try clear hi); (try clear ho0); obtain ⟨Ao8, co8, eo8⟩ := Kd.V_slice HO815.out; subst eo8) | ((with_reducible refine gate_callee (f := 48) rfl ?_); refine goesL_ (some 11) rfl rfl Tryd.func48 (by kernel_rfl) rfl #[.agg #[.bool t812, .slice Ao8 t813.length co8]] rfl ag ?_; (with_reducible refine (integer_opposite.calls t812 (fun k_ => True) _ _ t813 t816 t817 _ ?side1 ?side2 A5.out).mono ?_); (case side1 => exact GOK.below hG.out bel); (case side2 => exact HO815.out); rintro e w9 ⟨v818, rfl, ho0, hb⟩; refine ⟨_, rfl, ?_⟩; have n0_ := Aside0.mk (Kd.V_below (kv HO815.out) hb); have n1_ := Aside0.mk (Kd.V_lower (Kd.V_mono (ok' := fun k_ => True) ho0 (fun k_ hk_ => trivial)) (below_size bel)); have n2_ := Aside0.mk (below_step bel hb); clear HO815; clear HB; have HO815 := n0_; have HO819 := n1_; have HB := n2_; clear n0_ n1_ n2_; (try clear hb); (try clear hb2); (try clear hk); (try clear hi); (try clear ho0); obtain ⟨Ao10, co10, eo10⟩ := Kd.V_slice HO819.out; subst eo10) | ((with_reducible refine gate_callee (f := 40) rfl ?_); refine goesL_ (some 12) rfl rfl Tryd.func40 (by kernel_rfl) rfl #[.agg #[.bool t816, .slice Ao10 t817.length co10]] rfl ag ?_; (with_reducible refine (integer_number_text.calls t816 _ _ t817 t820 t821 _ ?side1 ?side2 ?side3 A6.out).mono ?_); (case side1 => exact GOK.below hG.out bel); (case side2 => exact kc ((Kd.V_reads' HO819.out).2.2)); (case side3 => exact (Kd.V_reads' HO819.out).2.1); rintro e w11 ⟨rfl, hb⟩; refine ⟨_, rfl, ?_⟩; have n0_ := Aside0.mk (Kd.V_below (kv HO815.out) hb); have n1_ := Aside0.mk (Kd.V_below (kv HO819.out) hb); have n2_ := Aside0.mk (below_step bel hb); clear HO815; clear HO819; clear HB; have HO815 := n0_; have HO819 := n1_; have HB := n2_; clear n0_ n1_ n2_; (try clear hb); (try clear hb2); (try clear hk); (try clear hi)))
  go_ret
  exact ⟨by first | rfl | (simp [errW_none, errW_some] <;> rfl) | (simp [*, errW_none, errW_some] <;> rfl), bel⟩
 ·replace c3 := Bool.eq_false_iff.mpr c3
  subst c3
  have H1 : (some (⟨#[]⟩ : ByteArray)) = some r := by rw [if_neg (show ¬ (false = true) by decide)] at H; exact H
  clear H
  have H := H1
  clear H1
  obtain rfl := Option.some.inj H
  go_enter Tryd.func31, Tryd.ntmps31
  go_wp2_with (first | ((with_reducible refine gate_callee (f := 23) rfl ?_); refine goesL_ (some 6) rfl rfl Tryd.func23 (by kernel_rfl) rfl #[.string a0] rfl ag ?_; (with_reducible refine (integer_Valid.calls k a0 false _ ?side1 A2.out).mono ?_); (case side1 => exact GOK.below hG.out bel); rintro e w' ⟨rfl, ⟨nd, rfl⟩⟩; refine ⟨_, rfl, ?_⟩))
  go_ret
  exact ⟨by first | rfl | (simp [errW_none, errW_some] <;> rfl) | (simp [*, errW_none, errW_some] <;> rfl), bel⟩

/-! ### cellarerref02_Cmp: function 34 -/
set_option maxHeartbeats 8000000 in
set_option maxRecDepth 100000 in
theorem cellarerref02_Cmp.calls (k : Nat) (a0_0 : Bool) (A0_1 : Option Addr) (c0_1 : Nat) (l0_1 : List Int) (a1_0 : Bool) (A1_1 : Option Addr) (c1_1 : Nat) (l1_1 : List Int) (r : Int) (w : World) (hG : GOK w) (hr0_1 : Kd.C (Kd.int .i64) w A0_1 l0_1.length l0_1) (hc0_1 : l0_1.length ≤ c0_1) (hr1_1 : Kd.C (Kd.int .i64) w A1_1 l1_1.length l1_1) (hc1_1 : l1_1.length ≤ c1_1) (h : cellarerref02_Cmp.f k a0_0 l0_1 a1_0 l1_1 = some r) :
  Calls Tryd.prog 34 #[.agg #[.bool a0_0, .slice A0_1 l0_1.length c0_1], .agg #[.bool a1_0, .slice A1_1 l1_1.length c1_1]] w fun e w' => e = .returned (.int .i64 r) ∧ Below w.heap.size w w' := by
 have hu32 := Tryd.underlying32
 have HR0_1 := Aside0.mk hr0_1
 have HC0_1 := Aside0.mk hc0_1
 clear hr0_1 hc0_1
 have HR1_1 := Aside0.mk hr1_1
 have HC1_1 := Aside0.mk hc1_1
 clear hr1_1 hc1_1
 replace hG := Aside0.mk hG
 have HB := Aside0.mk (Below.refl w.heap.size w)
 have H : ((cellarerref02_Sub.f k a0_0 l0_1 a1_0 l1_1).bind fun bt824 => (if (bt824.2.length : Int) = 0 then (some 0) else (if bt824.1 = true then (some (-1)) else (some 1)))) = some r := h
 clear h
 replace H := Option.bind_eq_some_iff.mp H
 obtain ⟨⟨t824, t825⟩, A30, H⟩ := H
 replace H : (if (t825.length : Int) = 0 then (some 0) else (if t824 = true then (some (-1)) else (some 1))) = some r := H
 have A3 := Aside0.mk A30
 clear A30
 by_cases c4 : (t825.length : Int) = 0
 ·rw [if_pos c4] at H
  have c4b0 : ((t825.length : Int) == 0) = true := beq_iff_eq.mpr c4
  have c4b1 : ((t825.length : Int) != 0) = false := bne_eq_false_iff_eq.mpr c4
  clear c4
  obtain rfl := Option.some.inj H
  go_enter Tryd.func34, Tryd.ntmps34
  go_wp2_with (first | ((with_reducible refine gate_dst (N := 2) rfl ?_); refine box_event ?hg (N := 2) ?hd (cs := #[.bool a0_0, .slice A0_1 l0_1.length c0_1]) (t := 32) ?hr ?_; (case hd => rfl); (case hg => rfl); (case hr => first | (go_simp; done) | (go_simp; rfl)); intro gb822 hg w5 hbox hb; have n0_ := Aside0.mk (below_step bel hb); have n1_ := Aside0.mk (hbox); have n2_ := Aside0.mk ((by rw [hg]; exact (below_size bel) : w.heap.size ≤ gb822)); have n3_ := Aside0.mk ((by rw [hg]; exact (below_size bel) : w.heap.size ≤ gb822)); clear HB; have HB := n0_; have BK822 := n1_; have GW822 := n2_; have GE822 := n3_; clear n0_ n1_ n2_ n3_; clear hb hbox hg) | ((with_reducible refine gate_dst (N := 3) rfl ?_); refine box_event ?hg (N := 3) ?hd (cs := #[.bool a1_0, .slice A1_1 l1_1.length c1_1]) (t := 32) ?hr ?_; (case hd => rfl); (case hg => rfl); (case hr => first | (go_simp; done) | (go_simp; rfl)); intro gb823 hg w6 hbox hb; have n0_ := Aside0.mk (blk_below (bk BK822.out) hb); have n1_ := Aside0.mk (below_step bel hb); have n2_ := Aside0.mk (hbox); have n3_ := Aside0.mk ((by rw [hg]; exact (below_size bel) : w.heap.size ≤ gb823)); have n4_ := Aside0.mk ((by rw [hg]; exact (below_size bel) : w.heap.size ≤ gb823)); have n5_ := Aside0.mk ((by rw [hg]; exact Nat.ne_of_lt (blk_lt (bk BK822.out)) : gb822 ≠ gb823)); have n6_ := Aside0.mk ((by rw [hg]; exact Nat.ne_of_gt (blk_lt (bk BK822.out)) : gb823 ≠ gb822)); clear BK822; clear HB; have BK822 := n0_; have HB := n1_; have BK823 := n2_; have GW823 := n3_; have GE823 := n4_; have NB822_823 := n5_; have NB823_822 := n6_; clear n0_ n1_ n2_ n3_ n4_ n5_ n6_; clear hb hbox hg; have hnb7 := NB822_823.out; have hnc7 := NB823_822.out; have hcz8_0 : w6.cell? ⟨gb822, 0, none⟩ = some (.bool a0_0) := (blk_cell BK822.out 0).trans rfl; have hcz8_1 : w6.cell? ⟨gb822, 1, none⟩ = some (.slice A0_1 l0_1.length c0_1) := (blk_cell BK822.out 1).trans rfl; have hfz8_0 := blk_frozen BK822.out 0; have hfz8_1 := blk_frozen BK822.out 1; have hcz9_0 : w6.cell? ⟨gb823, 0, none⟩ = some (.bool a1_0) := (blk_cell BK823.out 0).trans rfl; have hcz9_1 : w6.cell? ⟨gb823, 1, none⟩ = some (.slice A1_1 l1_1.length c1_1) := (blk_cell BK823.out 1).trans rfl; have hfz9_0 := blk_frozen BK823.out 0; have hfz9_1 := blk_frozen BK823.out 1) | ((with_reducible refine gate_callee (f := 25) rfl ?_); refine goesL_ (some 8) rfl rfl Tryd.func25 (by kernel_rfl) rfl #[.agg #[.bool a0_0, .slice A0_1 l0_1.length c0_1], .agg #[.bool a1_0, .slice A1_1 l1_1.length c1_1]] rfl ag ?_; (with_reducible refine (cellarerref02_Sub.calls k a0_0 _ _ l0_1 a1_0 (fun k_ => k_ < w.heap.size) _ _ l1_1 t824 t825 _ ?side1 ?side2 ?side3 ?side4 A3.out).mono ?_); (case side1 => exact GOK.below hG.out bel); (case side2 => exact kc ((Kd.C_below HR0_1.out HB.out))); (case side3 => exact HC0_1.out); (case side4 => exact Kd.V_mk HC1_1.out (Kd.F_below (Kd.C_F (Kd.heap_int .i64) HR1_1.out) bel)); rintro e w10 ⟨v826, rfl, ho0, hb⟩; refine ⟨_, rfl, ?_⟩; have n0_ := Aside0.mk (Kd.V_lower (Kd.V_mono (ok' := fun k_ => k_ ≠ gb822 ∧ k_ ≠ gb823) ho0 (fun k_ hk_ => ⟨Or.elim hk_ (fun hs_ => fun e_ => Nat.not_le.2 hs_ (by rw [e_]; exact GW822.out)) (fun hn_ => (Kd.freshB (bk BK822.out) k_ hn_)), Or.elim hk_ (fun hs_ => fun e_ => Nat.not_le.2 hs_ (by rw [e_]; exact GW823.out)) (fun hn_ => (Kd.freshB (bk BK823.out) k_ hn_))⟩)) (below_size bel)); have n1_ := Aside0.mk (blk_below (bk BK822.out) hb); have n2_ := Aside0.mk (blk_below (bk BK823.out) hb); have n3_ := Aside0.mk (below_step bel hb); clear BK822; clear BK823; clear HB; have HO827 := n0_; have BK822 := n1_; have BK823 := n2_; have HB := n3_; clear n0_ n1_ n2_ n3_; (try clear hb); (try clear hb2); (try clear hk); (try clear hi); (try clear ho0)) | ((with_reducible refine gate_dst (N := 5) rfl ?_); refine box_event ?hg (N := 5) ?hd (cs := #[.bool false, .slice none 0 0]) (t := 32) ?hr ?_; (case hd => rfl); (case hg => rfl); (case hr => first | (go_simp; done) | (go_simp; rfl)); intro gb828 hg w11 hbox hb; have n0_ := Aside0.mk (Kd.V_below (Kd.V_elderB (kv HO827.out) gb828 (Nat.le_of_eq hg.symm)) hb); have n1_ := Aside0.mk (blk_below (bk BK822.out) hb); have n2_ := Aside0.mk (blk_below (bk BK823.out) hb); have n3_ := Aside0.mk (below_step bel hb); have n4_ := Aside0.mk (hbox); have n5_ := Aside0.mk ((by rw [hg]; exact (below_size bel) : w.heap.size ≤ gb828)); have n6_ := Aside0.mk ((by rw [hg]; exact (below_size bel) : w.heap.size ≤ gb828)); have n7_ := Aside0.mk ((by rw [hg]; exact Nat.ne_of_lt (blk_lt (bk BK822.out)) : gb822 ≠ gb828)); have n8_ := Aside0.mk ((by rw [hg]; exact Nat.ne_of_gt (blk_lt (bk BK822.out)) : gb828 ≠ gb822)); have n9_ := Aside0.mk ((by rw [hg]; exact Nat.ne_of_lt (blk_lt (bk BK823.out)) : gb823 ≠ gb828)); have n10_ := Aside0.mk ((by rw [hg]; exact Nat.ne_of_gt (blk_lt (bk BK823.out)) : gb828 ≠ gb823)); clear HO827; clear BK822; clear BK823; clear HB; have HO827 := n0_; have BK822 := n1_; have BK823 := n2_; have HB := n3_; have BK828 := n4_; have GW828 := n5_; have GE828 := n6_; have NB822_828 := n7_; have NB828_822 := n8_; have NB823_828 := n9_; have NB828_823 := n10_; clear n0_ n1_ n2_ n3_ n4_ n5_ n6_ n7_ n8_ n9_ n10_; clear hb hbox hg; have hnb12 := NB828_822.out; have hnc12 := NB822_828.out; have hnb13 := NB828_823.out; have hnc13 := NB823_828.out; have hcz14_0 : w11.cell? ⟨gb828, 0, none⟩ = some (.bool false) := (blk_cell BK828.out 0).trans rfl; have hcz14_1 : w11.cell? ⟨gb828, 1, none⟩ = some (.slice none 0 0) := (blk_cell BK828.out 1).trans rfl; have hfz14_0 := blk_frozen BK828.out 0; have hfz14_1 := blk_frozen BK828.out 1; obtain ⟨Ao15, co15, eo15⟩ := Kd.V_slice HO827.out; subst eo15))
  go_ret
  exact ⟨by first | rfl | (simp [errW_none, errW_some] <;> rfl) | (simp [*, errW_none, errW_some] <;> rfl), bel⟩
 ·rw [if_neg c4] at H
  have c4b0 : ((t825.length : Int) == 0) = false := beq_eq_false_iff_ne.mpr c4
  have c4b1 : ((t825.length : Int) != 0) = true := bne_iff_ne.mpr c4
  have c4b2 : ¬ (t825 = []) := fun h_ => c4 (by rw [h_]; rfl)
  by_cases c16 : t824 = true
  ·subst c16
   have H1 : (some (-1)) = some r := by rw [if_pos rfl] at H; exact H
   clear H
   have H := H1
   clear H1
   obtain rfl := Option.some.inj H
   go_enter Tryd.func34, Tryd.ntmps34
   go_wp2_with (first | ((with_reducible refine gate_dst (N := 2) rfl ?_); refine box_event ?hg (N := 2) ?hd (cs := #[.bool a0_0, .slice A0_1 l0_1.length c0_1]) (t := 32) ?hr ?_; (case hd => rfl); (case hg => rfl); (case hr => first | (go_simp; done) | (go_simp; rfl)); intro gb822 hg w17 hbox hb; have n0_ := Aside0.mk (below_step bel hb); have n1_ := Aside0.mk (hbox); have n2_ := Aside0.mk ((by rw [hg]; exact (below_size bel) : w.heap.size ≤ gb822)); have n3_ := Aside0.mk ((by rw [hg]; exact (below_size bel) : w.heap.size ≤ gb822)); clear HB; have HB := n0_; have BK822 := n1_; have GW822 := n2_; have GE822 := n3_; clear n0_ n1_ n2_ n3_; clear hb hbox hg) | ((with_reducible refine gate_dst (N := 3) rfl ?_); refine box_event ?hg (N := 3) ?hd (cs := #[.bool a1_0, .slice A1_1 l1_1.length c1_1]) (t := 32) ?hr ?_; (case hd => rfl); (case hg => rfl); (case hr => first | (go_simp; done) | (go_simp; rfl)); intro gb823 hg w18 hbox hb; have n0_ := Aside0.mk (blk_below (bk BK822.out) hb); have n1_ := Aside0.mk (below_step bel hb); have n2_ := Aside0.mk (hbox); have n3_ := Aside0.mk ((by rw [hg]; exact (below_size bel) : w.heap.size ≤ gb823)); have n4_ := Aside0.mk ((by rw [hg]; exact (below_size bel) : w.heap.size ≤ gb823)); have n5_ := Aside0.mk ((by rw [hg]; exact Nat.ne_of_lt (blk_lt (bk BK822.out)) : gb822 ≠ gb823)); have n6_ := Aside0.mk ((by rw [hg]; exact Nat.ne_of_gt (blk_lt (bk BK822.out)) : gb823 ≠ gb822)); clear BK822; clear HB; have BK822 := n0_; have HB := n1_; have BK823 := n2_; have GW823 := n3_; have GE823 := n4_; have NB822_823 := n5_; have NB823_822 := n6_; clear n0_ n1_ n2_ n3_ n4_ n5_ n6_; clear hb hbox hg; have hnb19 := NB822_823.out; have hnc19 := NB823_822.out; have hcz20_0 : w18.cell? ⟨gb822, 0, none⟩ = some (.bool a0_0) := (blk_cell BK822.out 0).trans rfl; have hcz20_1 : w18.cell? ⟨gb822, 1, none⟩ = some (.slice A0_1 l0_1.length c0_1) := (blk_cell BK822.out 1).trans rfl; have hfz20_0 := blk_frozen BK822.out 0; have hfz20_1 := blk_frozen BK822.out 1; have hcz21_0 : w18.cell? ⟨gb823, 0, none⟩ = some (.bool a1_0) := (blk_cell BK823.out 0).trans rfl; have hcz21_1 : w18.cell? ⟨gb823, 1, none⟩ = some (.slice A1_1 l1_1.length c1_1) := (blk_cell BK823.out 1).trans rfl; have hfz21_0 := blk_frozen BK823.out 0; have hfz21_1 := blk_frozen BK823.out 1) | ((with_reducible refine gate_callee (f := 25) rfl ?_); refine goesL_ (some 8) rfl rfl Tryd.func25 (by kernel_rfl) rfl #[.agg #[.bool a0_0, .slice A0_1 l0_1.length c0_1], .agg #[.bool a1_0, .slice A1_1 l1_1.length c1_1]] rfl ag ?_; (with_reducible refine (cellarerref02_Sub.calls k a0_0 _ _ l0_1 a1_0 (fun k_ => k_ < w.heap.size) _ _ l1_1 true t825 _ ?side1 ?side2 ?side3 ?side4 A3.out).mono ?_); (case side1 => exact GOK.below hG.out bel); (case side2 => exact kc ((Kd.C_below HR0_1.out HB.out))); (case side3 => exact HC0_1.out); (case side4 => exact Kd.V_mk HC1_1.out (Kd.F_below (Kd.C_F (Kd.heap_int .i64) HR1_1.out) bel)); rintro e w22 ⟨v826, rfl, ho0, hb⟩; refine ⟨_, rfl, ?_⟩; have n0_ := Aside0.mk (Kd.V_lower (Kd.V_mono (ok' := fun k_ => k_ ≠ gb822 ∧ k_ ≠ gb823) ho0 (fun k_ hk_ => ⟨Or.elim hk_ (fun hs_ => fun e_ => Nat.not_le.2 hs_ (by rw [e_]; exact GW822.out)) (fun hn_ => (Kd.freshB (bk BK822.out) k_ hn_)), Or.elim hk_ (fun hs_ => fun e_ => Nat.not_le.2 hs_ (by rw [e_]; exact GW823.out)) (fun hn_ => (Kd.freshB (bk BK823.out) k_ hn_))⟩)) (below_size bel)); have n1_ := Aside0.mk (blk_below (bk BK822.out) hb); have n2_ := Aside0.mk (blk_below (bk BK823.out) hb); have n3_ := Aside0.mk (below_step bel hb); clear BK822; clear BK823; clear HB; have HO827 := n0_; have BK822 := n1_; have BK823 := n2_; have HB := n3_; clear n0_ n1_ n2_ n3_; (try clear hb); (try clear hb2); (try clear hk); (try clear hi); (try clear ho0)) | ((with_reducible refine gate_dst (N := 5) rfl ?_); refine box_event ?hg (N := 5) ?hd (cs := #[.bool false, .slice none 0 0]) (t := 32) ?hr ?_; (case hd => rfl); (case hg => rfl); (case hr => first | (go_simp; done) | (go_simp; rfl)); intro gb828 hg w23 hbox hb; have n0_ := Aside0.mk (Kd.V_below (Kd.V_elderB (kv HO827.out) gb828 (Nat.le_of_eq hg.symm)) hb); have n1_ := Aside0.mk (blk_below (bk BK822.out) hb); have n2_ := Aside0.mk (blk_below (bk BK823.out) hb); have n3_ := Aside0.mk (below_step bel hb); have n4_ := Aside0.mk (hbox); have n5_ := Aside0.mk ((by rw [hg]; exact (below_size bel) : w.heap.size ≤ gb828)); have n6_ := Aside0.mk ((by rw [hg]; exact (below_size bel) : w.heap.size ≤ gb828)); have n7_ := Aside0.mk ((by rw [hg]; exact Nat.ne_of_lt (blk_lt (bk BK822.out)) : gb822 ≠ gb828)); have n8_ := Aside0.mk ((by rw [hg]; exact Nat.ne_of_gt (blk_lt (bk BK822.out)) : gb828 ≠ gb822)); have n9_ := Aside0.mk ((by rw [hg]; exact Nat.ne_of_lt (blk_lt (bk BK823.out)) : gb823 ≠ gb828)); have n10_ := Aside0.mk ((by rw [hg]; exact Nat.ne_of_gt (blk_lt (bk BK823.out)) : gb828 ≠ gb823)); clear HO827; clear BK822; clear BK823; clear HB; have HO827 := n0_; have BK822 := n1_; have BK823 := n2_; have HB := n3_; have BK828 := n4_; have GW828 := n5_; have GE828 := n6_; have NB822_828 := n7_; have NB828_822 := n8_; have NB823_828 := n9_; have NB828_823 := n10_; clear n0_ n1_ n2_ n3_ n4_ n5_ n6_ n7_ n8_ n9_ n10_; clear hb hbox hg; have hnb24 := NB828_822.out; have hnc24 := NB822_828.out; have hnb25 := NB828_823.out; have hnc25 := NB823_828.out; have hcz26_0 : w23.cell? ⟨gb828, 0, none⟩ = some (.bool false) := (blk_cell BK828.out 0).trans rfl; have hcz26_1 : w23.cell? ⟨gb828, 1, none⟩ = some (.slice none 0 0) := (blk_cell BK828.out 1).trans rfl; have hfz26_0 := blk_frozen BK828.out 0; have hfz26_1 := blk_frozen BK828.out 1; obtain ⟨Ao27, co27, eo27⟩ := Kd.V_slice HO827.out; subst eo27))
   go_ret
   exact ⟨by first | rfl | (simp [errW_none, errW_some] <;> rfl) | (simp [*, errW_none, errW_some] <;> rfl), bel⟩
  ·replace c16 := Bool.eq_false_iff.mpr c16
   subst c16
   have H1 : (some 1) = some r := by rw [if_neg (show ¬ (false = true) by decide)] at H; exact H
   clear H
   have H := H1
   clear H1
   obtain rfl := Option.some.inj H
   go_enter Tryd.func34, Tryd.ntmps34
   go_wp2_with (first | ((with_reducible refine gate_dst (N := 2) rfl ?_); refine box_event ?hg (N := 2) ?hd (cs := #[.bool a0_0, .slice A0_1 l0_1.length c0_1]) (t := 32) ?hr ?_; (case hd => rfl); (case hg => rfl); (case hr => first | (go_simp; done) | (go_simp; rfl)); intro gb822 hg w28 hbox hb; have n0_ := Aside0.mk (below_step bel hb); have n1_ := Aside0.mk (hbox); have n2_ := Aside0.mk ((by rw [hg]; exact (below_size bel) : w.heap.size ≤ gb822)); have n3_ := Aside0.mk ((by rw [hg]; exact (below_size bel) : w.heap.size ≤ gb822)); clear HB; have HB := n0_; have BK822 := n1_; have GW822 := n2_; have GE822 := n3_; clear n0_ n1_ n2_ n3_; clear hb hbox hg) | ((with_reducible refine gate_dst (N := 3) rfl ?_); refine box_event ?hg (N := 3) ?hd (cs := #[.bool a1_0, .slice A1_1 l1_1.length c1_1]) (t := 32) ?hr ?_; (case hd => rfl); (case hg => rfl); (case hr => first | (go_simp; done) | (go_simp; rfl)); intro gb823 hg w29 hbox hb; have n0_ := Aside0.mk (blk_below (bk BK822.out) hb); have n1_ := Aside0.mk (below_step bel hb); have n2_ := Aside0.mk (hbox); have n3_ := Aside0.mk ((by rw [hg]; exact (below_size bel) : w.heap.size ≤ gb823)); have n4_ := Aside0.mk ((by rw [hg]; exact (below_size bel) : w.heap.size ≤ gb823)); have n5_ := Aside0.mk ((by rw [hg]; exact Nat.ne_of_lt (blk_lt (bk BK822.out)) : gb822 ≠ gb823)); have n6_ := Aside0.mk ((by rw [hg]; exact Nat.ne_of_gt (blk_lt (bk BK822.out)) : gb823 ≠ gb822)); clear BK822; clear HB; have BK822 := n0_; have HB := n1_; have BK823 := n2_; have GW823 := n3_; have GE823 := n4_; have NB822_823 := n5_; have NB823_822 := n6_; clear n0_ n1_ n2_ n3_ n4_ n5_ n6_; clear hb hbox hg; have hnb30 := NB822_823.out; have hnc30 := NB823_822.out; have hcz31_0 : w29.cell? ⟨gb822, 0, none⟩ = some (.bool a0_0) := (blk_cell BK822.out 0).trans rfl; have hcz31_1 : w29.cell? ⟨gb822, 1, none⟩ = some (.slice A0_1 l0_1.length c0_1) := (blk_cell BK822.out 1).trans rfl; have hfz31_0 := blk_frozen BK822.out 0; have hfz31_1 := blk_frozen BK822.out 1; have hcz32_0 : w29.cell? ⟨gb823, 0, none⟩ = some (.bool a1_0) := (blk_cell BK823.out 0).trans rfl; have hcz32_1 : w29.cell? ⟨gb823, 1, none⟩ = some (.slice A1_1 l1_1.length c1_1) := (blk_cell BK823.out 1).trans rfl; have hfz32_0 := blk_frozen BK823.out 0; have hfz32_1 := blk_frozen BK823.out 1) | ((with_reducible refine gate_callee (f := 25) rfl ?_); refine goesL_ (some 8) rfl rfl Tryd.func25 (by kernel_rfl) rfl #[.agg #[.bool a0_0, .slice A0_1 l0_1.length c0_1], .agg #[.bool a1_0, .slice A1_1 l1_1.length c1_1]] rfl ag ?_; (with_reducible refine (cellarerref02_Sub.calls k a0_0 _ _ l0_1 a1_0 (fun k_ => k_ < w.heap.size) _ _ l1_1 false t825 _ ?side1 ?side2 ?side3 ?side4 A3.out).mono ?_); (case side1 => exact GOK.below hG.out bel); (case side2 => exact kc ((Kd.C_below HR0_1.out HB.out))); (case side3 => exact HC0_1.out); (case side4 => exact Kd.V_mk HC1_1.out (Kd.F_below (Kd.C_F (Kd.heap_int .i64) HR1_1.out) bel)); rintro e w33 ⟨v826, rfl, ho0, hb⟩; refine ⟨_, rfl, ?_⟩; have n0_ := Aside0.mk (Kd.V_lower (Kd.V_mono (ok' := fun k_ => k_ ≠ gb822 ∧ k_ ≠ gb823) ho0 (fun k_ hk_ => ⟨Or.elim hk_ (fun hs_ => fun e_ => Nat.not_le.2 hs_ (by rw [e_]; exact GW822.out)) (fun hn_ => (Kd.freshB (bk BK822.out) k_ hn_)), Or.elim hk_ (fun hs_ => fun e_ => Nat.not_le.2 hs_ (by rw [e_]; exact GW823.out)) (fun hn_ => (Kd.freshB (bk BK823.out) k_ hn_))⟩)) (below_size bel)); have n1_ := Aside0.mk (blk_below (bk BK822.out) hb); have n2_ := Aside0.mk (blk_below (bk BK823.out) hb); have n3_ := Aside0.mk (below_step bel hb); clear BK822; clear BK823; clear HB; have HO827 := n0_; have BK822 := n1_; have BK823 := n2_; have HB := n3_; clear n0_ n1_ n2_ n3_; (try clear hb); (try clear hb2); (try clear hk); (try clear hi); (try clear ho0)) | ((with_reducible refine gate_dst (N := 5) rfl ?_); refine box_event ?hg (N := 5) ?hd (cs := #[.bool false, .slice none 0 0]) (t := 32) ?hr ?_; (case hd => rfl); (case hg => rfl); (case hr => first | (go_simp; done) | (go_simp; rfl)); intro gb828 hg w34 hbox hb; have n0_ := Aside0.mk (Kd.V_below (Kd.V_elderB (kv HO827.out) gb828 (Nat.le_of_eq hg.symm)) hb); have n1_ := Aside0.mk (blk_below (bk BK822.out) hb); have n2_ := Aside0.mk (blk_below (bk BK823.out) hb); have n3_ := Aside0.mk (below_step bel hb); have n4_ := Aside0.mk (hbox); have n5_ := Aside0.mk ((by rw [hg]; exact (below_size bel) : w.heap.size ≤ gb828)); have n6_ := Aside0.mk ((by rw [hg]; exact (below_size bel) : w.heap.size ≤ gb828)); have n7_ := Aside0.mk ((by rw [hg]; exact Nat.ne_of_lt (blk_lt (bk BK822.out)) : gb822 ≠ gb828)); have n8_ := Aside0.mk ((by rw [hg]; exact Nat.ne_of_gt (blk_lt (bk BK822.out)) : gb828 ≠ gb822)); have n9_ := Aside0.mk ((by rw [hg]; exact Nat.ne_of_lt (blk_lt (bk BK823.out)) : gb823 ≠ gb828)); have n10_ := Aside0.mk ((by rw [hg]; exact Nat.ne_of_gt (blk_lt (bk BK823.out)) : gb828 ≠ gb823)); clear HO827; clear BK822; clear BK823; clear HB; have HO827 := n0_; have BK822 := n1_; have BK823 := n2_; have HB := n3_; have BK828 := n4_; have GW828 := n5_; have GE828 := n6_; have NB822_828 := n7_; have NB828_822 := n8_; have NB823_828 := n9_; have NB828_823 := n10_; clear n0_ n1_ n2_ n3_ n4_ n5_ n6_ n7_ n8_ n9_ n10_; clear hb hbox hg; have hnb35 := NB828_822.out; have hnc35 := NB822_828.out; have hnb36 := NB828_823.out; have hnc36 := NB823_828.out; have hcz37_0 : w34.cell? ⟨gb828, 0, none⟩ = some (.bool false) := (blk_cell BK828.out 0).trans rfl; have hcz37_1 : w34.cell? ⟨gb828, 1, none⟩ = some (.slice none 0 0) := (blk_cell BK828.out 1).trans rfl; have hfz37_0 := blk_frozen BK828.out 0; have hfz37_1 := blk_frozen BK828.out 1; obtain ⟨Ao38, co38, eo38⟩ := Kd.V_slice HO827.out; subst eo38))
   go_ret
   exact ⟨by first | rfl | (simp [errW_none, errW_some] <;> rfl) | (simp [*, errW_none, errW_some] <;> rfl), bel⟩

/-! ### cellarerref02_Small: function 32 -/
set_option maxHeartbeats 8000000 in
set_option maxRecDepth 100000 in
theorem cellarerref02_Small.calls (k : Nat) (a0_0 : Bool) (A0_1 : Option Addr) (c0_1 : Nat) (l0_1 : List Int) (r1 : Int) (r2 : Bool) (w : World) (hG : GOK w) (hr0_1 : Kd.C (Kd.int .i64) w A0_1 l0_1.length l0_1) (hc0_1 : l0_1.length ≤ c0_1) (h : cellarerref02_Small.f k a0_0 l0_1 = some (r1, r2)) :
  Calls Tryd.prog 32 #[.agg #[.bool a0_0, .slice A0_1 l0_1.length c0_1]] w fun e w' => e = .returned (.tuple #[.int .i64 r1, .bool r2]) ∧ Below w.heap.size w w' := by
 have hu32 := Tryd.underlying32
 have HR0_1 := Aside0.mk hr0_1
 have HC0_1 := Aside0.mk hc0_1
 clear hr0_1 hc0_1
 replace hG := Aside0.mk hG
 have HB := Aside0.mk (Below.refl w.heap.size w)
 have H : ((cellarerref02_Of.f k (⟨#[57, 50, 50, 51, 51, 55, 50, 48, 51, 54, 56, 53, 52, 55, 55, 53, 56, 48, 55]⟩ : ByteArray)).bind fun bt830 => ((cellarerref02_Cmp.f k a0_0 l0_1 bt830.1 bt830.2).bind fun t834 => (if t834 > 0 then (cellarerref02_Small.j0 k true a0_0 l0_1) else ((cellarerref02_Of.f k (⟨#[45, 57, 50, 50, 51, 51, 55, 50, 48, 51, 54, 56, 53, 52, 55, 55, 53, 56, 48, 56]⟩ : ByteArray)).bind fun bt835 => ((cellarerref02_Cmp.f k a0_0 l0_1 bt835.1 bt835.2).bind fun t839 => (cellarerref02_Small.j0 k (decide (t839 < 0)) a0_0 l0_1)))))) = some (r1, r2) := h
 clear h
 have HC2 := Aside0.mk H
 clear H
 go_enter Tryd.func32, Tryd.ntmps32
 go_upto_region 1 with (first | ((with_reducible refine gate_dst (N := 1) rfl ?_); refine box_event ?hg (N := 1) ?hd (cs := #[.bool a0_0, .slice A0_1 l0_1.length c0_1]) (t := 32) ?hr ?_; (case hd => rfl); (case hg => rfl); (case hr => first | (go_simp; done) | (go_simp; rfl)); intro gb829 hg w3 hbox hb; have n0_ := Aside0.mk (below_step bel hb); have n1_ := Aside0.mk (hbox); have n2_ := Aside0.mk ((by rw [hg]; exact (below_size bel) : w.heap.size ≤ gb829)); have n3_ := Aside0.mk ((by rw [hg]; exact (below_size bel) : w.heap.size ≤ gb829)); clear HB; have HB := n0_; have BK829 := n1_; have GW829 := n2_; have GE829 := n3_; clear n0_ n1_ n2_ n3_; clear hb hbox hg))
 (try simp only [Act.put, List.setIfInBounds_toArray, List.set_cons_zero, List.set_cons_succ])
 go_cut [15] (fun v15 wc => ∃ (kq : Nat) (x15_1 : Bool), v15 = .bool x15_1 ∧ Aside0 (cellarerref02_Small.j0 kq x15_1 a0_0 l0_1 = some (r1, r2)) ∧ Aside0 (kq ≤ k) ∧ Aside0 (wc.heap[gb829]? = some (.cells #[.bool a0_0, (.slice A0_1 l0_1.length c0_1)] 32 (0, 0))) ∧ Aside0 (Below w.heap.size w wc))
 case first =>
  have H := HC2.out
  clear HC2
  replace H := Option.bind_eq_some_iff.mp H
  obtain ⟨⟨t830, t831⟩, A40, H⟩ := H
  replace H : ((cellarerref02_Cmp.f k a0_0 l0_1 t830 t831).bind fun t834 => (if t834 > 0 then (cellarerref02_Small.j0 k true a0_0 l0_1) else ((cellarerref02_Of.f k (⟨#[45, 57, 50, 50, 51, 51, 55, 50, 48, 51, 54, 56, 53, 52, 55, 55, 53, 56, 48, 56]⟩ : ByteArray)).bind fun bt835 => ((cellarerref02_Cmp.f k a0_0 l0_1 bt835.1 bt835.2).bind fun t839 => (cellarerref02_Small.j0 k (decide (t839 < 0)) a0_0 l0_1))))) = some (r1, r2) := H
  have A4 := Aside0.mk A40
  clear A40
  replace H := Option.bind_eq_some_iff.mp H
  obtain ⟨t834, A50, H⟩ := H
  replace H : (if t834 > 0 then (cellarerref02_Small.j0 k true a0_0 l0_1) else ((cellarerref02_Of.f k (⟨#[45, 57, 50, 50, 51, 51, 55, 50, 48, 51, 54, 56, 53, 52, 55, 55, 53, 56, 48, 56]⟩ : ByteArray)).bind fun bt835 => ((cellarerref02_Cmp.f k a0_0 l0_1 bt835.1 bt835.2).bind fun t839 => (cellarerref02_Small.j0 k (decide (t839 < 0)) a0_0 l0_1)))) = some (r1, r2) := H
  have A5 := Aside0.mk A50
  clear A50
  by_cases c6 : t834 > 0
  ·rw [if_pos c6] at H
   have c6b0 : decide (0 < t834) = true := decide_eq_true c6
   clear c6
   (first | rw [c6b0] | rw [c6b1] | (simp only [i64_w, i32_w]; rw [c6b0]) | skip)
   have H' := Aside0.mk H
   clear H
   try go_wp2
   have n0_ := Aside0.mk (blk_drew BK829.out)
   have n1_ := Aside0.mk (below_drew1 HB.out)
   clear BK829
   clear HB
   have BK829 := n0_
   have HB := n1_
   clear n0_ n1_
   refine start_ (n := 10) (S := fun w' => w'.cell? ⟨gb829, 0, none⟩ = some (.bool a0_0) ∧ w'.cell? ⟨gb829, 1, none⟩ = some (.slice A0_1 l0_1.length c0_1)) (ds := []) #[false, false, false, false, false, false, false, false, false, false] (by kernel_rfl) rfl rfl ⟨(blk_cell BK829.out 0).trans rfl, (blk_cell BK829.out 1).trans rfl⟩ (fun hHeld => ?_); refine with_tabW cellarerref02_Small.tab1 cellarerref02_Small.bits1 (fun HT_ HW_ => ?_)
   generalize w3.drew = w7 at BK829 HB hHeld ⊢
   refine take_ (i := 0) (N := some 6) (v := ?_) (a' := ?_) #[true, false, false, false, false, false, false, false, false, false] rfl rfl (take_ofW HT_.out HW_.out (by kernel_rfl)) (fun _ _ _ h => h) (Or.inl ⟨by rfl, ?_⟩) hHeld ?_ ?_
   rotate_left
   ·rintro w' ⟨s0, s1⟩
    go_simp
    with_reducible rfl
   rotate_left
   ·simp only [Act.put, List.setIfInBounds_toArray, List.set_cons_zero, List.set_cons_succ, i64_w, i32_w]
    rfl
   refine one_ (i := 1) (N := some 7) #[true, true, false, false, false, false, false, false, false, false] rfl rfl (one_of HT_.out (by kernel_rfl)) (by decide) (fun K hK => ?_)
   refine goes_ Tryd.func16 (by kernel_rfl) rfl #[.string (⟨#[57, 50, 50, 51, 51, 55, 50, 48, 51, 54, 56, 53, 52, 55, 55, 53, 56, 48, 55]⟩ : ByteArray)] (by rfl) rfl rfl ag ?_
   with_reducible refine (cellarerref02_Of.calls k (⟨#[57, 50, 50, 51, 51, 55, 50, 48, 51, 54, 56, 53, 52, 55, 55, 53, 56, 48, 55]⟩ : ByteArray) t830 t831 _ ?side1 A4.out).mono ?_
   (case side1 => exact GOK.below hG.out bel)
   rintro e w8 ⟨v832, rfl, ho0, hb⟩
   refine ⟨_, rfl, ?_⟩
   have n0_ := Aside0.mk (Kd.V_lower (Kd.V_mono (ok' := fun k_ => k_ ≠ gb829) ho0 (fun k_ hk_ => (Kd.freshB (bk BK829.out) k_ hk_))) (below_size bel))
   have n1_ := Aside0.mk (blk_below (bk BK829.out) hb)
   have n2_ := Aside0.mk (below_step bel hb)
   clear BK829
   clear HB
   have HO833 := n0_
   have BK829 := n1_
   have HB := n2_
   clear n0_ n1_ n2_
   (try clear hb)
   (try clear hb2)
   (try clear hk)
   (try clear hi)
   (try clear ho0)
   obtain ⟨Ao9, co9, eo9⟩ := Kd.V_slice HO833.out
   (first | subst eo9 | (injection eo9 with f1_ f2_ f3_; have f4_ := f1_.symm; have f5_ := f3_.symm; clear f1_ f2_ f3_; subst f4_; subst f5_))
   refine hK.out _ _ ⟨(blk_cell BK829.out 0).trans rfl, (blk_cell BK829.out 1).trans rfl⟩ (fun hHeld => ?_)
   clear hK K
   refine norm_ (a' := ?_) ?_ ?_
   rotate_left
   ·show Act.put _ (some 7) _ = _
    simp only [Act.put, List.setIfInBounds_toArray, List.set_cons_zero, List.set_cons_succ, i64_w, i32_w]
    rfl
   refine one_ (i := 2) (N := some 8) #[true, true, true, false, false, false, false, false, false, false] rfl rfl (one_of HT_.out (by kernel_rfl)) (by decide) (fun K hK => ?_)
   refine goes_ Tryd.func34 (by kernel_rfl) rfl #[.agg #[.bool a0_0, .slice A0_1 l0_1.length c0_1], .agg #[.bool t830, .slice Ao9 t831.length co9]] (by rfl) rfl rfl ag ?_
   with_reducible refine (cellarerref02_Cmp.calls k a0_0 _ _ l0_1 t830 _ _ t831 t834 _ ?side1 ?side2 ?side3 ?side4 ?side5 A5.out).mono ?_
   (case side1 => exact GOK.below hG.out bel)
   (case side2 => exact kc ((Kd.C_below HR0_1.out HB.out)))
   (case side3 => exact HC0_1.out)
   (case side4 => exact kc ((Kd.V_reads' HO833.out).2.2))
   (case side5 => exact (Kd.V_reads' HO833.out).2.1)
   rintro e w10 ⟨rfl, hb⟩
   refine ⟨_, rfl, ?_⟩
   have n0_ := Aside0.mk (Kd.V_below (kv HO833.out) hb)
   have n1_ := Aside0.mk (blk_below (bk BK829.out) hb)
   have n2_ := Aside0.mk (below_step bel hb)
   clear HO833
   clear BK829
   clear HB
   have HO833 := n0_
   have BK829 := n1_
   have HB := n2_
   clear n0_ n1_ n2_
   (try clear hb)
   (try clear hb2)
   (try clear hk)
   (try clear hi)
   refine hK.out _ _ ⟨(blk_cell BK829.out 0).trans rfl, (blk_cell BK829.out 1).trans rfl⟩ (fun hHeld => ?_)
   clear hK K
   refine norm_ (a' := ?_) ?_ ?_
   rotate_left
   ·show Act.put _ (some 8) _ = _
    simp only [Act.put, List.setIfInBounds_toArray, List.set_cons_zero, List.set_cons_succ, i64_w, i32_w]
    rfl
   refine pure_ (i := 3) (N := some 9) (v := ?_) (a' := ?_) #[true, true, true, true, false, false, false, false, false, false] rfl rfl (any_of HT_.out (by kernel_rfl)) (fun _ _ _ h => h) (Or.inl ⟨by rfl, ?_⟩) ?_ ?_
   rotate_left
   ·intro w'
    go_simp
    with_reducible rfl
   rotate_left
   ·simp only [Act.put, List.setIfInBounds_toArray, List.set_cons_zero, List.set_cons_succ, i64_w, i32_w]
    rfl
   refine pure_ (i := 4) (N := some 10) (v := ?_) (a' := ?_) #[true, true, true, true, true, false, false, false, false, false] rfl rfl (any_of HT_.out (by kernel_rfl)) (fun _ _ _ h => h) (Or.inl ⟨by rfl, ?_⟩) ?_ ?_
   rotate_left
   ·intro w'
    go_simp
    with_reducible rfl
   rotate_left
   ·simp only [Act.put, List.setIfInBounds_toArray, List.set_cons_zero, List.set_cons_succ, i64_w, i32_w]
    rfl
   refine pure_ (i := 5) (N := some 11) (v := undef) (a' := ?_) #[true, true, true, true, true, true, false, false, false, false] rfl rfl (any_of HT_.out (by kernel_rfl)) (fun _ _ _ h => h) (Or.inr ⟨by rfl, rfl⟩) ?_ ?_
   rotate_left
   ·simp only [Act.put, List.setIfInBounds_toArray, List.set_cons_zero, List.set_cons_succ, i64_w, i32_w]
    rfl
   refine pure_ (i := 6) (N := some 12) (v := undef) (a' := ?_) #[true, true, true, true, true, true, true, false, false, false] rfl rfl (any_of HT_.out (by kernel_rfl)) (fun _ _ _ h => h) (Or.inr ⟨by rfl, rfl⟩) ?_ ?_
   rotate_left
   ·simp only [Act.put, List.setIfInBounds_toArray, List.set_cons_zero, List.set_cons_succ, i64_w, i32_w]
    rfl
   refine pure_ (i := 7) (N := some 13) (v := undef) (a' := ?_) #[true, true, true, true, true, true, true, true, false, false] rfl rfl (any_of HT_.out (by kernel_rfl)) (fun _ _ _ h => h) (Or.inr ⟨by rfl, rfl⟩) ?_ ?_
   rotate_left
   ·simp only [Act.put, List.setIfInBounds_toArray, List.set_cons_zero, List.set_cons_succ, i64_w, i32_w]
    rfl
   refine pure_ (i := 8) (N := some 14) (v := undef) (a' := ?_) #[true, true, true, true, true, true, true, true, true, false] rfl rfl (any_of HT_.out (by kernel_rfl)) (fun _ _ _ h => h) (Or.inr ⟨by rfl, rfl⟩) ?_ ?_
   rotate_left
   ·simp only [Act.put, List.setIfInBounds_toArray, List.set_cons_zero, List.set_cons_succ, i64_w, i32_w]
    rfl
   refine pure_ (i := 9) (N := some 15) (v := ?_) (a' := ?_) #[true, true, true, true, true, true, true, true, true, true] rfl rfl (any_of HT_.out (by kernel_rfl)) (fun _ _ _ h => h) (Or.inl ⟨by rfl, ?_⟩) ?_ ?_
   rotate_left
   ·intro w'
    go_simp
    with_reducible rfl
   rotate_left
   ·simp only [Act.put, List.setIfInBounds_toArray, List.set_cons_zero, List.set_cons_succ, i64_w, i32_w]
    rfl
   refine done_ (done_of HT_.out (by kernel_rfl)) ?_
   try go_wp2
   go_meet
   case rel => exact ⟨_, (true), (by first | rfl | (simp; done) | (simp [*]; done)), H', ⟨by first | omega | exact Nat.le_refl _⟩, ⟨bk BK829.out⟩, ⟨bel⟩⟩
  ·rw [if_neg c6] at H
   have c6b0 : decide (0 < t834) = false := decide_eq_false c6
   clear c6
   (first | rw [c6b0] | rw [c6b1] | (simp only [i64_w, i32_w]; rw [c6b0]) | skip)
   replace H := Option.bind_eq_some_iff.mp H
   obtain ⟨⟨t835, t836⟩, A110, H⟩ := H
   replace H : ((cellarerref02_Cmp.f k a0_0 l0_1 t835 t836).bind fun t839 => (cellarerref02_Small.j0 k (decide (t839 < 0)) a0_0 l0_1)) = some (r1, r2) := H
   have A11 := Aside0.mk A110
   clear A110
   replace H := Option.bind_eq_some_iff.mp H
   obtain ⟨t839, A120, H⟩ := H
   replace H : (cellarerref02_Small.j0 k (decide (t839 < 0)) a0_0 l0_1) = some (r1, r2) := H
   have A12 := Aside0.mk A120
   clear A120
   have H' := Aside0.mk H
   clear H
   try go_wp2
   have n0_ := Aside0.mk (blk_drew BK829.out)
   have n1_ := Aside0.mk (below_drew1 HB.out)
   clear BK829
   clear HB
   have BK829 := n0_
   have HB := n1_
   clear n0_ n1_
   refine start_ (n := 10) (S := fun w' => w'.cell? ⟨gb829, 0, none⟩ = some (.bool a0_0) ∧ w'.cell? ⟨gb829, 1, none⟩ = some (.slice A0_1 l0_1.length c0_1)) (ds := []) #[false, false, false, false, false, false, false, false, false, false] (by kernel_rfl) rfl rfl ⟨(blk_cell BK829.out 0).trans rfl, (blk_cell BK829.out 1).trans rfl⟩ (fun hHeld => ?_); refine with_tabW cellarerref02_Small.tab1 cellarerref02_Small.bits1 (fun HT_ HW_ => ?_)
   generalize w3.drew = w13 at BK829 HB hHeld ⊢
   refine take_ (i := 0) (N := some 6) (v := ?_) (a' := ?_) #[true, false, false, false, false, false, false, false, false, false] rfl rfl (take_ofW HT_.out HW_.out (by kernel_rfl)) (fun _ _ _ h => h) (Or.inl ⟨by rfl, ?_⟩) hHeld ?_ ?_
   rotate_left
   ·rintro w' ⟨s0, s1⟩
    go_simp
    with_reducible rfl
   rotate_left
   ·simp only [Act.put, List.setIfInBounds_toArray, List.set_cons_zero, List.set_cons_succ, i64_w, i32_w]
    rfl
   refine one_ (i := 1) (N := some 7) #[true, true, false, false, false, false, false, false, false, false] rfl rfl (one_of HT_.out (by kernel_rfl)) (by decide) (fun K hK => ?_)
   refine goes_ Tryd.func16 (by kernel_rfl) rfl #[.string (⟨#[57, 50, 50, 51, 51, 55, 50, 48, 51, 54, 56, 53, 52, 55, 55, 53, 56, 48, 55]⟩ : ByteArray)] (by rfl) rfl rfl ag ?_
   with_reducible refine (cellarerref02_Of.calls k (⟨#[57, 50, 50, 51, 51, 55, 50, 48, 51, 54, 56, 53, 52, 55, 55, 53, 56, 48, 55]⟩ : ByteArray) t830 t831 _ ?side1 A4.out).mono ?_
   (case side1 => exact GOK.below hG.out bel)
   rintro e w14 ⟨v832, rfl, ho0, hb⟩
   refine ⟨_, rfl, ?_⟩
   have n0_ := Aside0.mk (Kd.V_lower (Kd.V_mono (ok' := fun k_ => k_ ≠ gb829) ho0 (fun k_ hk_ => (Kd.freshB (bk BK829.out) k_ hk_))) (below_size bel))
   have n1_ := Aside0.mk (blk_below (bk BK829.out) hb)
   have n2_ := Aside0.mk (below_step bel hb)
   clear BK829
   clear HB
   have HO833 := n0_
   have BK829 := n1_
   have HB := n2_
   clear n0_ n1_ n2_
   (try clear hb)
   (try clear hb2)
   (try clear hk)
   (try clear hi)
   (try clear ho0)
   obtain ⟨Ao15, co15, eo15⟩ := Kd.V_slice HO833.out
   (first | subst eo15 | (injection eo15 with f1_ f2_ f3_; have f4_ := f1_.symm; have f5_ := f3_.symm; clear f1_ f2_ f3_; subst f4_; subst f5_))
   refine hK.out _ _ ⟨(blk_cell BK829.out 0).trans rfl, (blk_cell BK829.out 1).trans rfl⟩ (fun hHeld => ?_)
   clear hK K
   refine norm_ (a' := ?_) ?_ ?_
   rotate_left
   ·show Act.put _ (some 7) _ = _
    simp only [Act.put, List.setIfInBounds_toArray, List.set_cons_zero, List.set_cons_succ, i64_w, i32_w]
    rfl
   refine one_ (i := 2) (N := some 8) #[true, true, true, false, false, false, false, false, false, false] rfl rfl (one_of HT_.out (by kernel_rfl)) (by decide) (fun K hK => ?_)
   refine goes_ Tryd.func34 (by kernel_rfl) rfl #[.agg #[.bool a0_0, .slice A0_1 l0_1.length c0_1], .agg #[.bool t830, .slice Ao15 t831.length co15]] (by rfl) rfl rfl ag ?_
   with_reducible refine (cellarerref02_Cmp.calls k a0_0 _ _ l0_1 t830 _ _ t831 t834 _ ?side1 ?side2 ?side3 ?side4 ?side5 A5.out).mono ?_
   (case side1 => exact GOK.below hG.out bel)
   (case side2 => exact kc ((Kd.C_below HR0_1.out HB.out)))
   (case side3 => exact HC0_1.out)
   (case side4 => exact kc ((Kd.V_reads' HO833.out).2.2))
   (case side5 => exact (Kd.V_reads' HO833.out).2.1)
   rintro e w16 ⟨rfl, hb⟩
   refine ⟨_, rfl, ?_⟩
   have n0_ := Aside0.mk (Kd.V_below (kv HO833.out) hb)
   have n1_ := Aside0.mk (blk_below (bk BK829.out) hb)
   have n2_ := Aside0.mk (below_step bel hb)
   clear HO833
   clear BK829
   clear HB
   have HO833 := n0_
   have BK829 := n1_
   have HB := n2_
   clear n0_ n1_ n2_
   (try clear hb)
   (try clear hb2)
   (try clear hk)
   (try clear hi)
   refine hK.out _ _ ⟨(blk_cell BK829.out 0).trans rfl, (blk_cell BK829.out 1).trans rfl⟩ (fun hHeld => ?_)
   clear hK K
   refine norm_ (a' := ?_) ?_ ?_
   rotate_left
   ·show Act.put _ (some 8) _ = _
    simp only [Act.put, List.setIfInBounds_toArray, List.set_cons_zero, List.set_cons_succ, i64_w, i32_w]
    rfl
   refine pure_ (i := 3) (N := some 9) (v := ?_) (a' := ?_) #[true, true, true, true, false, false, false, false, false, false] rfl rfl (any_of HT_.out (by kernel_rfl)) (fun _ _ _ h => h) (Or.inl ⟨by rfl, ?_⟩) ?_ ?_
   rotate_left
   ·intro w'
    go_simp
    with_reducible rfl
   rotate_left
   ·simp only [Act.put, List.setIfInBounds_toArray, List.set_cons_zero, List.set_cons_succ, i64_w, i32_w]
    rfl
   refine pure_ (i := 4) (N := some 10) (v := ?_) (a' := ?_) #[true, true, true, true, true, false, false, false, false, false] rfl rfl (any_of HT_.out (by kernel_rfl)) (fun _ _ _ h => h) (Or.inl ⟨by rfl, ?_⟩) ?_ ?_
   rotate_left
   ·intro w'
    go_simp
    with_reducible rfl
   rotate_left
   ·simp only [Act.put, List.setIfInBounds_toArray, List.set_cons_zero, List.set_cons_succ, i64_w, i32_w]
    rfl
   refine take_ (i := 5) (N := some 11) (v := ?_) (a' := ?_) #[true, true, true, true, true, true, false, false, false, false] rfl rfl (take_ofW HT_.out HW_.out (by kernel_rfl)) (fun _ _ _ h => h) (Or.inl ⟨by rfl, ?_⟩) hHeld ?_ ?_
   rotate_left
   ·rintro w' ⟨s0, s1⟩
    go_simp
    with_reducible rfl
   rotate_left
   ·simp only [Act.put, List.setIfInBounds_toArray, List.set_cons_zero, List.set_cons_succ, i64_w, i32_w]
    rfl
   refine one_ (i := 6) (N := some 12) #[true, true, true, true, true, true, true, false, false, false] rfl rfl (one_of HT_.out (by kernel_rfl)) (by decide) (fun K hK => ?_)
   refine goes_ Tryd.func16 (by kernel_rfl) rfl #[.string (⟨#[45, 57, 50, 50, 51, 51, 55, 50, 48, 51, 54, 56, 53, 52, 55, 55, 53, 56, 48, 56]⟩ : ByteArray)] (by rfl) rfl rfl ag ?_
   with_reducible refine (cellarerref02_Of.calls k (⟨#[45, 57, 50, 50, 51, 51, 55, 50, 48, 51, 54, 56, 53, 52, 55, 55, 53, 56, 48, 56]⟩ : ByteArray) t835 t836 _ ?side1 A11.out).mono ?_
   (case side1 => exact GOK.below hG.out bel)
   rintro e w17 ⟨v837, rfl, ho0, hb⟩
   refine ⟨_, rfl, ?_⟩
   have n0_ := Aside0.mk (Kd.V_below (kv HO833.out) hb)
   have n1_ := Aside0.mk (Kd.V_lower (Kd.V_mono (ok' := fun k_ => k_ ≠ gb829) ho0 (fun k_ hk_ => (Kd.freshB (bk BK829.out) k_ hk_))) (below_size bel))
   have n2_ := Aside0.mk (blk_below (bk BK829.out) hb)
   have n3_ := Aside0.mk (below_step bel hb)
   clear HO833
   clear BK829
   clear HB
   have HO833 := n0_
   have HO838 := n1_
   have BK829 := n2_
   have HB := n3_
   clear n0_ n1_ n2_ n3_
   (try clear hb)
   (try clear hb2)
   (try clear hk)
   (try clear hi)
   (try clear ho0)
   obtain ⟨Ao18, co18, eo18⟩ := Kd.V_slice HO838.out
   (first | subst eo18 | (injection eo18 with f1_ f2_ f3_; have f4_ := f1_.symm; have f5_ := f3_.symm; clear f1_ f2_ f3_; subst f4_; subst f5_))
   refine hK.out _ _ ⟨(blk_cell BK829.out 0).trans rfl, (blk_cell BK829.out 1).trans rfl⟩ (fun hHeld => ?_)
   clear hK K
   refine norm_ (a' := ?_) ?_ ?_
   rotate_left
   ·show Act.put _ (some 12) _ = _
    simp only [Act.put, List.setIfInBounds_toArray, List.set_cons_zero, List.set_cons_succ, i64_w, i32_w]
    rfl
   refine one_ (i := 7) (N := some 13) #[true, true, true, true, true, true, true, true, false, false] rfl rfl (one_of HT_.out (by kernel_rfl)) (by decide) (fun K hK => ?_)
   refine goes_ Tryd.func34 (by kernel_rfl) rfl #[.agg #[.bool a0_0, .slice A0_1 l0_1.length c0_1], .agg #[.bool t835, .slice Ao18 t836.length co18]] (by rfl) rfl rfl ag ?_
   with_reducible refine (cellarerref02_Cmp.calls k a0_0 _ _ l0_1 t835 _ _ t836 t839 _ ?side1 ?side2 ?side3 ?side4 ?side5 A12.out).mono ?_
   (case side1 => exact GOK.below hG.out bel)
   (case side2 => exact kc ((Kd.C_below HR0_1.out HB.out)))
   (case side3 => exact HC0_1.out)
   (case side4 => exact kc ((Kd.V_reads' HO838.out).2.2))
   (case side5 => exact (Kd.V_reads' HO838.out).2.1)
   rintro e w19 ⟨rfl, hb⟩
   refine ⟨_, rfl, ?_⟩
   have n0_ := Aside0.mk (Kd.V_below (kv HO833.out) hb)
   have n1_ := Aside0.mk (Kd.V_below (kv HO838.out) hb)
   have n2_ := Aside0.mk (blk_below (bk BK829.out) hb)
   have n3_ := Aside0.mk (below_step bel hb)
   clear HO833
   clear HO838
   clear BK829
   clear HB
   have HO833 := n0_
   have HO838 := n1_
   have BK829 := n2_
   have HB := n3_
   clear n0_ n1_ n2_ n3_
   (try clear hb)
   (try clear hb2)
   (try clear hk)
   (try clear hi)
   refine hK.out _ _ ⟨(blk_cell BK829.out 0).trans rfl, (blk_cell BK829.out 1).trans rfl⟩ (fun hHeld => ?_)
   clear hK K
   refine norm_ (a' := ?_) ?_ ?_
   rotate_left
   ·show Act.put _ (some 13) _ = _
    simp only [Act.put, List.setIfInBounds_toArray, List.set_cons_zero, List.set_cons_succ, i64_w, i32_w]
    rfl
   refine pure_ (i := 8) (N := some 14) (v := ?_) (a' := ?_) #[true, true, true, true, true, true, true, true, true, false] rfl rfl (any_of HT_.out (by kernel_rfl)) (fun _ _ _ h => h) (Or.inl ⟨by rfl, ?_⟩) ?_ ?_
   rotate_left
   ·intro w'
    go_simp
    with_reducible rfl
   rotate_left
   ·simp only [Act.put, List.setIfInBounds_toArray, List.set_cons_zero, List.set_cons_succ, i64_w, i32_w]
    rfl
   refine pure_ (i := 9) (N := some 15) (v := ?_) (a' := ?_) #[true, true, true, true, true, true, true, true, true, true] rfl rfl (any_of HT_.out (by kernel_rfl)) (fun _ _ _ h => h) (Or.inl ⟨by rfl, ?_⟩) ?_ ?_
   rotate_left
   ·intro w'
    go_simp
    with_reducible rfl
   rotate_left
   ·simp only [Act.put, List.setIfInBounds_toArray, List.set_cons_zero, List.set_cons_succ, i64_w, i32_w]
    rfl
   refine done_ (done_of HT_.out (by kernel_rfl)) ?_
   try go_wp2
   go_meet
   case rel => exact ⟨_, (decide (t839 < 0)), (by first | rfl | (simp; done) | (simp [*]; done)), H', ⟨by first | omega | exact Nat.le_refl _⟩, ⟨bk BK829.out⟩, ⟨bel⟩⟩
 case rest =>
  clear HC2
  (try clear c1); (try clear p2); (try clear c3); (try clear c6); (try clear c6b0); (try clear c16)
  obtain ⟨kq, x15_1, rfl, HA, HJ1, BK829, HB⟩ := hcut
  cases kq with
  | zero => exact absurd HA.out (by simp [cellarerref02_Small.j0])
  | succ kj1 =>
   have H := HA.out
   clear HA
   simp only [cellarerref02_Small.j0] at H
   by_cases c20 : x15_1 = true
   ·subst c20
    have H1 : (some (0, false)) = some (r1, r2) := by rw [if_pos rfl] at H; exact H
    clear H
    have H := H1
    clear H1
    simp only [Option.some.injEq, Prod.mk.injEq] at H
    obtain ⟨rfl, rfl⟩ := H
    go_wp2
    go_ret2
    exact ⟨by first | rfl | (simp [errW_none, errW_some] <;> rfl) | (simp [*, errW_none, errW_some] <;> rfl), bel⟩
   ·replace c20 := Bool.eq_false_iff.mpr c20
    subst c20
    have H1 : (cellarerref02_Small.l0 kj1 0 0 a0_0 l0_1) = some (r1, r2) := by rw [if_neg (show ¬ (false = true) by decide)] at H; exact H
    clear H
    have H := H1
    clear H1
    have H' := Aside0.mk H
    clear H
    go_wp2
    go_loopg [4, 5] kj1 (fun kq v4 v5 w' => ∃ (x4_2 : Int) (x5_2 : Int), v4 = .int .i64 x4_2 ∧ v5 = .int .i64 x5_2 ∧ Aside0 (cellarerref02_Small.l0 kq x4_2 x5_2 a0_0 l0_1 = some (r1, r2)) ∧ Aside0 (kq ≤ kj1) ∧ Aside0 (w'.heap[gb829]? = some (.cells #[.bool a0_0, (.slice A0_1 l0_1.length c0_1)] 32 (0, 0))) ∧ Aside0 (Below w.heap.size w w'))
    case atStart => exact ⟨(0), (0), (by first | rfl | (simp; done) | (simp [*]; done)), (by first | rfl | (simp; done) | (simp [*]; done)), H', ⟨Nat.le_refl _⟩, ⟨bk BK829.out⟩, ⟨bel⟩⟩
    case round =>
     clear H'
     (try clear c1); (try clear c2); (try clear p2); (try clear c3); (try clear c6); (try clear c6b0); (try clear c16); (try clear c20); (try clear p2)
     obtain ⟨x4_2, x5_2, rfl, rfl, HA, HK2, BK829, HB⟩ := hrel
     cases gk with
     | zero => exact absurd HA.out (by simp [cellarerref02_Small.l0])
     | succ k2 =>
      have H := HA.out
      clear HA
      simp only [cellarerref02_Small.l0] at H
      by_cases c21 : x5_2 < (l0_1.length : Int)
      ·rw [if_pos c21] at H
       have c21b0 : decide (x5_2 < (l0_1.length : Int)) = true := decide_eq_true c21
       clear c21
       by_cases c22 : 0 ≤ x5_2
       ·rw [if_pos c22] at H
        have c22b0 : decide (0 ≤ x5_2) = true := decide_eq_true c22
        clear c22
        have H' := Aside0.mk H
        clear H
        have hcz23_0 : wr.cell? ⟨gb829, 0, none⟩ = some (.bool a0_0) := (blk_cell BK829.out 0).trans rfl
        have hcz23_1 : wr.cell? ⟨gb829, 1, none⟩ = some (.slice A0_1 l0_1.length c0_1) := (blk_cell BK829.out 1).trans rfl
        have hfz23_0 := blk_frozen BK829.out 0
        have hfz23_1 := blk_frozen BK829.out 1
        have p840 : 0 ≤ (x5_2 : Int) := of_decide_eq_true (by first | (with_reducible assumption) | assumption)
        have q840 : x5_2 < (l0_1.length : Int) := of_decide_eq_true (by first | (with_reducible assumption) | assumption)
        obtain ⟨ad840, e840, hx840_0⟩ := Kd.at_int HR0_1.out x5_2 p840 q840
        cases e840
        replace hx840_0 := (HB.out.cell (World.block_lt_of_cell? w _ hx840_0)).trans hx840_0
        replace p840 := eq_true p840
        replace q840 := eq_true q840
        go_wp2
        go_roundg k2
        case measure => have := HJ1.out; have := HK2.out; omega
        case rel => exact ⟨(wrap64 ((wrap64 (10 * x4_2)) - (rd l0_1 x5_2))), (wrap64 (x5_2 + 1)), (by first | rfl | (simp; done) | (simp [*]; done)), (by first | rfl | (simp; done) | (simp [*]; done)), H', ⟨by have := HJ1.out; have := HK2.out; omega⟩, ⟨bk BK829.out⟩, ⟨bel⟩⟩
       ·rw [if_neg c22] at H
        exact absurd H (by simp)
      ·rw [if_neg c21] at H
       have c21b0 : decide (x5_2 < (l0_1.length : Int)) = false := decide_eq_false c21
       clear c21
       by_cases c24 : a0_0 = true
       ·subst c24
        have H1 : (some (x4_2, true)) = some (r1, r2) := by rw [if_pos rfl] at H; exact H
        clear H
        have H := H1
        clear H1
        simp only [Option.some.injEq, Prod.mk.injEq] at H
        obtain ⟨rfl, rfl⟩ := H
        have hcz25_0 : wr.cell? ⟨gb829, 0, none⟩ = some (.bool true) := (blk_cell BK829.out 0).trans rfl
        have hcz25_1 : wr.cell? ⟨gb829, 1, none⟩ = some (.slice A0_1 l0_1.length c0_1) := (blk_cell BK829.out 1).trans rfl
        have hfz25_0 := blk_frozen BK829.out 0
        have hfz25_1 := blk_frozen BK829.out 1
        go_wp2
        go_ret2
        exact ⟨by first | rfl | (simp [errW_none, errW_some] <;> rfl) | (simp [*, errW_none, errW_some] <;> rfl), bel⟩
       ·replace c24 := Bool.eq_false_iff.mpr c24
        subst c24
        have H1 : (some (wrap64 (-x4_2), true)) = some (r1, r2) := by rw [if_neg (show ¬ (false = true) by decide)] at H; exact H
        clear H
        have H := H1
        clear H1
        simp only [Option.some.injEq, Prod.mk.injEq] at H
        obtain ⟨rfl, rfl⟩ := H
        have hcz26_0 : wr.cell? ⟨gb829, 0, none⟩ = some (.bool false) := (blk_cell BK829.out 0).trans rfl
        have hcz26_1 : wr.cell? ⟨gb829, 1, none⟩ = some (.slice A0_1 l0_1.length c0_1) := (blk_cell BK829.out 1).trans rfl
        have hfz26_0 := blk_frozen BK829.out 0
        have hfz26_1 := blk_frozen BK829.out 1
        go_wp2
        go_ret2
        exact ⟨by first | rfl | (simp [errW_none, errW_some] <;> rfl) | (simp [*, errW_none, errW_some] <;> rfl), bel⟩

end Go.Proofs.YtdnjlmoggnbknaaDoor.PInt
