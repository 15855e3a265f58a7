-- Written by a program of this session's (xprint.py) over the kit's print.
import Derived.Test.YtdnjlmoggnbknaaDoorPIntx0
import Derived.Test.YtdnjlmoggnbknaaDoorPIntx8
import Derived.Test.YtdnjlmoggnbknaaDoorPIntx9
import Derived.Test.YtdnjlmoggnbknaaDoorPIntx10
import Derived.Test.YtdnjlmoggnbknaaDoorPIntx13
import Derived.Test.YtdnjlmoggnbknaaDoorPIntD
import Derived.Test.YtdnjlmoggnbknaaDoorAuto
namespace Go.Proofs.YtdnjlmoggnbknaaDoor.PInt
open Go.RowKit Go.Proofs.YtdnjlmoggnbknaaDoor.Ext Go.Proofs.YtdnjlmoggnbknaaDoorW.PrintWords Go.Proofs.YtdnjlmoggnbknaaDoorW.PrintLast Go.Proofs.YtdnjlmoggnbknaaDoorW.PrintMore
attribute [local go_sem high] gtr_print leq_print
attribute [local go_sem] max2_int min2_int max_two min_two max_three min_three max_four min_four   -- for this text's walks alone
set_option linter.unusedVariables false
set_option linter.unusedSimpArgs false

/-! ### cellarerref02_Mul: function 27 -/
set_option maxHeartbeats 8000000 in
set_option maxRecDepth 100000 in
theorem cellarerref02_Mul.calls (k : Nat) (a0_0 : Bool) (A0_1 : Option Addr) (c0_1 : Nat) (l0_1 : List Int) (a1_0 : Bool) (A1_1 : Option Addr) (c1_1 : Nat) (l1_1 : List Int) (r1 : Bool) (r2 : List Int) (w : World) (hG : GOK w) (hr0_1 : Kd.C (Kd.int .i64) w A0_1 l0_1.length l0_1) (hc0_1 : l0_1.length ≤ c0_1) (hr1_1 : Kd.C (Kd.int .i64) w A1_1 l1_1.length l1_1) (hc1_1 : l1_1.length ≤ c1_1) (h : cellarerref02_Mul.f k a0_0 l0_1 a1_0 l1_1 = some (r1, r2)) :
  Calls Tryd.prog 27 #[.agg #[.bool a0_0, .slice A0_1 l0_1.length c0_1], .agg #[.bool a1_0, .slice A1_1 l1_1.length c1_1]] w fun e w' => ∃ v1_ : Value, e = .returned (.agg #[.bool r1, v1_]) ∧ Kd.V (Kd.int .i64) 3 w' w.heap.size (fun k_ => (w.heap.size ≤ k_)) v1_ r2 ∧ Below w.heap.size w w' := by
 have hu32 := Tryd.underlying32
 have HR0_1 := Aside0.mk hr0_1
 have HC0_1 := Aside0.mk hc0_1
 clear hr0_1 hc0_1
 have HR1_1 := Aside0.mk hr1_1
 have HC1_1 := Aside0.mk hc1_1
 clear hr1_1 hc1_1
 replace hG := Aside0.mk hG
 have HB := Aside0.mk (Below.refl w.heap.size w)
 have H : (if 0 ≤ (wrap64 ((l0_1.length : Int) + (l1_1.length : Int))) then (if (wrap64 ((l0_1.length : Int) + (l1_1.length : Int)) : Int).toNat ≤ 35184372088832 then (cellarerref02_Mul.l0 k (List.replicate (wrap64 ((l0_1.length : Int) + (l1_1.length : Int)) : Int).toNat 0) (wrap64 ((l0_1.length : Int) - 1)) a0_0 l0_1 a1_0 l1_1) else (none)) else (none)) = some (r1, r2) := h
 clear h
 obtain ⟨ji3, hji3⟩ : ∃ j_ : Int, (wrap64 ((l0_1.length : Int) + (l1_1.length : Int))) = j_ := ⟨_, rfl⟩
 replace H : (if 0 ≤ (ji3) then (if (ji3 : Int).toNat ≤ 35184372088832 then (cellarerref02_Mul.l0 k (List.replicate (ji3 : Int).toNat 0) (wrap64 ((l0_1.length : Int) - 1)) a0_0 l0_1 a1_0 l1_1) else (none)) else (none)) = some (r1, r2) := by first | (rw [hji3] at H; exact H) | (simp only [hji3] at H ⊢; exact H)
 have hji3w : (IntKind.i64.wrap ((l0_1.length : Int) + (l1_1.length : Int))) = ji3 := (i64_w _).trans hji3
 by_cases c4 : 0 ≤ (ji3)
 ·rw [if_pos c4] at H
  have c4b0 := eq_true c4
  have c4b1 : decide (0 ≤ (ji3)) = true := decide_eq_true c4
  clear c4
  by_cases c5 : (ji3 : Int).toNat ≤ 35184372088832
  ·rw [if_pos c5] at H
   have c5b0 := eq_true c5
   have c5b1 : decide ((ji3 : Int).toNat ≤ 35184372088832) = true := decide_eq_true c5
   clear c5
   obtain ⟨y549, hy549⟩ : ∃ y_ : List Int, y_ = (List.replicate (ji3 : Int).toNat 0) := ⟨_, rfl⟩
   replace H : (cellarerref02_Mul.l0 k y549 (wrap64 ((l0_1.length : Int) - 1)) a0_0 l0_1 a1_0 l1_1) = some (r1, r2) := by first | (rw [hy549]; with_reducible exact H) | (have H2_ := (Option.bind_some _ _).symm.trans H; rw [hy549]; with_reducible exact H2_) | (have H2_ := (Option.bind_some _ _).symm.trans H; with_reducible exact H2_) | with_reducible exact H | (rw [hy549]; exact H) | exact H
   have Ny549 := Aside0.mk hy549
   clear hy549
   have H' := Aside0.mk H
   clear H
   go_enter Tryd.func27, Tryd.ntmps27
   go_wp2_with (first | ((with_reducible refine gate_dst (N := 2) rfl ?_); refine box_event ?hg (N := 2) ?hd (cs := #[.bool a0_0, .slice A0_1 l0_1.length c0_1]) (t := 32) ?hr ?_; (case hd => rfl); (case hg => rfl); (case hr => first | (go_simp; done) | (go_simp; rfl)); intro gb546 hg w6 hbox hb; have BK546 := Aside0.mk (hbox); have GW546 := Aside0.mk ((by rw [hg]; exact (below_size bel) : w.heap.size ≤ gb546)); have GE546 := Aside0.mk ((by rw [hg]; exact (below_size bel) : w.heap.size ≤ gb546)); replace HB := Aside0.mk (below_step bel hb); clear hb hbox hg) | ((with_reducible refine gate_dst (N := 3) rfl ?_); refine box_event ?hg (N := 3) ?hd (cs := #[.bool a1_0, .slice A1_1 l1_1.length c1_1]) (t := 32) ?hr ?_; (case hd => rfl); (case hg => rfl); (case hr => first | (go_simp; done) | (go_simp; rfl)); intro gb547 hg w7 hbox hb; have BK547 := Aside0.mk (hbox); have GW547 := Aside0.mk ((by rw [hg]; exact (below_size bel) : w.heap.size ≤ gb547)); have GE547 := Aside0.mk ((by rw [hg]; exact (below_size bel) : w.heap.size ≤ gb547)); have NB546_547 := Aside0.mk ((by rw [hg]; exact Nat.ne_of_lt (blk_lt (bk BK546.out)) : gb546 ≠ gb547)); have NB547_546 := Aside0.mk ((by rw [hg]; exact Nat.ne_of_gt (blk_lt (bk BK546.out)) : gb547 ≠ gb546)); replace BK546 := Aside0.mk (blk_below (bk BK546.out) hb); replace HB := Aside0.mk (below_step bel hb); clear hb hbox hg) | ((with_reducible refine gate_dst (N := 4) rfl ?_); refine box_event ?hg (N := 4) ?hd (cs := #[.bool false, .slice none 0 0]) (t := 32) ?hr ?_; (case hd => rfl); (case hg => rfl); (case hr => first | (go_simp; done) | (go_simp; rfl)); intro gb548 hg w8 hbox hb; have BK548 := Aside0.mk (hbox); have GW548 := Aside0.mk ((by rw [hg]; exact (below_size bel) : w.heap.size ≤ gb548)); have GE548 := Aside0.mk ((by rw [hg]; exact (below_size bel) : w.heap.size ≤ gb548)); have NB546_548 := Aside0.mk ((by rw [hg]; exact Nat.ne_of_lt (blk_lt (bk BK546.out)) : gb546 ≠ gb548)); have NB548_546 := Aside0.mk ((by rw [hg]; exact Nat.ne_of_gt (blk_lt (bk BK546.out)) : gb548 ≠ gb546)); have NB547_548 := Aside0.mk ((by rw [hg]; exact Nat.ne_of_lt (blk_lt (bk BK547.out)) : gb547 ≠ gb548)); have NB548_547 := Aside0.mk ((by rw [hg]; exact Nat.ne_of_gt (blk_lt (bk BK547.out)) : gb548 ≠ gb547)); replace BK546 := Aside0.mk (blk_below (bk BK546.out) hb); replace BK547 := Aside0.mk (blk_below (bk BK547.out) hb); replace HB := Aside0.mk (below_step bel hb); clear hb hbox hg; have hnb9 := NB546_547.out; have hnc9 := NB547_546.out; have hnb10 := NB546_548.out; have hnc10 := NB548_546.out; have hcz11_0 : w8.cell? ⟨gb546, 0, none⟩ = some (.bool a0_0) := (blk_cell BK546.out 0).trans rfl; have hcz11_1 : w8.cell? ⟨gb546, 1, none⟩ = some (.slice A0_1 l0_1.length c0_1) := (blk_cell BK546.out 1).trans rfl; have hfz11_0 := blk_frozen BK546.out 0; have hfz11_1 := blk_frozen BK546.out 1; have hnb12 := NB547_548.out; have hnc12 := NB548_547.out; have hcz13_0 : w8.cell? ⟨gb547, 0, none⟩ = some (.bool a1_0) := (blk_cell BK547.out 0).trans rfl; have hcz13_1 : w8.cell? ⟨gb547, 1, none⟩ = some (.slice A1_1 l1_1.length c1_1) := (blk_cell BK547.out 1).trans rfl; have hfz13_0 := blk_frozen BK547.out 0; have hfz13_1 := blk_frozen BK547.out 1) | ((with_reducible refine gate_dst (N := 17) rfl ?_); refine Kd.R_make (Kd.int .i64) _ 3 rfl (N := 17) rfl 30 _ _ rfl ji3 rfl rfl Tryd.underlying30 (.int .i64 0) 8 info3 rfl (by decide) (by omega) 0 (ok := fun _ => True) (okp := fun _ => True) rfl (fun _ hk => hk) trivial (of_decide_eq_true (by first | (with_reducible assumption) | assumption)) (Nat.le_trans (Nat.mul_le_mul_right _ (of_decide_eq_true (by first | (with_reducible assumption) | assumption) : ji3.toNat ≤ 35184372088832)) (by omega)) (Below.refl _ _) (Nat.le_refl _) ?_; intro v550 w14 ho15 hb hg_ hnew_; clear hg_ hnew_; (first | rw [← Ny549.out] at ho15 | (simp only [Int.reduceToNat] at ho15; rw [← Ny549.out] at ho15)); have HO551 := Aside0.mk (Kd.R_lower (Kd.R_newM (M := fun k_ => (w.heap.size ≤ k_)) ho15 (below_size bel) (fun k_ h_ => h_)) (below_size bel)); replace BK546 := Aside0.mk (blk_below (bk BK546.out) hb); replace BK547 := Aside0.mk (blk_below (bk BK547.out) hb); replace BK548 := Aside0.mk (blk_below (bk BK548.out) hb); replace HB := Aside0.mk (below_step bel hb); clear hb ho15; have hcz16_0 : w14.cell? ⟨gb546, 0, none⟩ = some (.bool a0_0) := (blk_cell BK546.out 0).trans rfl; have hcz16_1 : w14.cell? ⟨gb546, 1, none⟩ = some (.slice A0_1 l0_1.length c0_1) := (blk_cell BK546.out 1).trans rfl; have hfz16_0 := blk_frozen BK546.out 0; have hfz16_1 := blk_frozen BK546.out 1))
   repeat (go_quiet (first | ((with_reducible refine gate_dst (N := 2) rfl ?_); refine box_event ?hg (N := 2) ?hd (cs := #[.bool a0_0, .slice A0_1 l0_1.length c0_1]) (t := 32) ?hr ?_; (case hd => rfl); (case hg => rfl); (case hr => first | (go_simp; done) | (go_simp; rfl)); intro gb546 hg w6 hbox hb; have n0_ := Aside0.mk (below_step bel hb); have n1_ := Aside0.mk (hbox); have n2_ := Aside0.mk ((by rw [hg]; exact (below_size bel) : w.heap.size ≤ gb546)); have n3_ := Aside0.mk ((by rw [hg]; exact (below_size bel) : w.heap.size ≤ gb546)); clear HB; have HB := n0_; have BK546 := n1_; have GW546 := n2_; have GE546 := n3_; clear n0_ n1_ n2_ n3_; clear hb hbox hg) | ((with_reducible refine gate_dst (N := 3) rfl ?_); refine box_event ?hg (N := 3) ?hd (cs := #[.bool a1_0, .slice A1_1 l1_1.length c1_1]) (t := 32) ?hr ?_; (case hd => rfl); (case hg => rfl); (case hr => first | (go_simp; done) | (go_simp; rfl)); intro gb547 hg w7 hbox hb; have n0_ := Aside0.mk (blk_below (bk BK546.out) hb); have n1_ := Aside0.mk (below_step bel hb); have n2_ := Aside0.mk (hbox); have n3_ := Aside0.mk ((by rw [hg]; exact (below_size bel) : w.heap.size ≤ gb547)); have n4_ := Aside0.mk ((by rw [hg]; exact (below_size bel) : w.heap.size ≤ gb547)); have n5_ := Aside0.mk ((by rw [hg]; exact Nat.ne_of_lt (blk_lt (bk BK546.out)) : gb546 ≠ gb547)); have n6_ := Aside0.mk ((by rw [hg]; exact Nat.ne_of_gt (blk_lt (bk BK546.out)) : gb547 ≠ gb546)); clear BK546; clear HB; have BK546 := n0_; have HB := n1_; have BK547 := n2_; have GW547 := n3_; have GE547 := n4_; have NB546_547 := n5_; have NB547_546 := n6_; clear n0_ n1_ n2_ n3_ n4_ n5_ n6_; clear hb hbox hg) | ((with_reducible refine gate_dst (N := 4) rfl ?_); refine box_event ?hg (N := 4) ?hd (cs := #[.bool false, .slice none 0 0]) (t := 32) ?hr ?_; (case hd => rfl); (case hg => rfl); (case hr => first | (go_simp; done) | (go_simp; rfl)); intro gb548 hg w8 hbox hb; have n0_ := Aside0.mk (blk_below (bk BK546.out) hb); have n1_ := Aside0.mk (blk_below (bk BK547.out) hb); have n2_ := Aside0.mk (below_step bel hb); have n3_ := Aside0.mk (hbox); have n4_ := Aside0.mk ((by rw [hg]; exact (below_size bel) : w.heap.size ≤ gb548)); have n5_ := Aside0.mk ((by rw [hg]; exact (below_size bel) : w.heap.size ≤ gb548)); have n6_ := Aside0.mk ((by rw [hg]; exact Nat.ne_of_lt (blk_lt (bk BK546.out)) : gb546 ≠ gb548)); have n7_ := Aside0.mk ((by rw [hg]; exact Nat.ne_of_gt (blk_lt (bk BK546.out)) : gb548 ≠ gb546)); have n8_ := Aside0.mk ((by rw [hg]; exact Nat.ne_of_lt (blk_lt (bk BK547.out)) : gb547 ≠ gb548)); have n9_ := Aside0.mk ((by rw [hg]; exact Nat.ne_of_gt (blk_lt (bk BK547.out)) : gb548 ≠ gb547)); clear BK546; clear BK547; clear HB; have BK546 := n0_; have BK547 := n1_; have HB := n2_; have BK548 := n3_; have GW548 := n4_; have GE548 := n5_; have NB546_548 := n6_; have NB548_546 := n7_; have NB547_548 := n8_; have NB548_547 := n9_; clear n0_ n1_ n2_ n3_ n4_ n5_ n6_ n7_ n8_ n9_; clear hb hbox hg; have hnb9 := NB546_547.out; have hnc9 := NB547_546.out; have hnb10 := NB546_548.out; have hnc10 := NB548_546.out; have hcz11_0 : w8.cell? ⟨gb546, 0, none⟩ = some (.bool a0_0) := (blk_cell BK546.out 0).trans rfl; have hcz11_1 : w8.cell? ⟨gb546, 1, none⟩ = some (.slice A0_1 l0_1.length c0_1) := (blk_cell BK546.out 1).trans rfl; have hfz11_0 := blk_frozen BK546.out 0; have hfz11_1 := blk_frozen BK546.out 1; have hnb12 := NB547_548.out; have hnc12 := NB548_547.out; have hcz13_0 : w8.cell? ⟨gb547, 0, none⟩ = some (.bool a1_0) := (blk_cell BK547.out 0).trans rfl; have hcz13_1 : w8.cell? ⟨gb547, 1, none⟩ = some (.slice A1_1 l1_1.length c1_1) := (blk_cell BK547.out 1).trans rfl; have hfz13_0 := blk_frozen BK547.out 0; have hfz13_1 := blk_frozen BK547.out 1) | ((with_reducible refine gate_dst (N := 17) rfl ?_); refine Kd.R_make (Kd.int .i64) _ 3 rfl (N := 17) rfl 30 _ _ rfl ji3 rfl rfl Tryd.underlying30 (.int .i64 0) 8 info3 rfl (by decide) (by omega) 0 (ok := fun _ => True) (okp := fun _ => True) rfl (fun _ hk => hk) trivial (of_decide_eq_true (by first | (with_reducible assumption) | assumption)) (Nat.le_trans (Nat.mul_le_mul_right _ (of_decide_eq_true (by first | (with_reducible assumption) | assumption) : ji3.toNat ≤ 35184372088832)) (by omega)) (Below.refl _ _) (Nat.le_refl _) ?_; intro v550 w14 ho15 hb hg_ hnew_; clear hg_ hnew_; (first | rw [← Ny549.out] at ho15 | (simp only [Int.reduceToNat] at ho15; rw [← Ny549.out] at ho15)); have n0_ := Aside0.mk (Kd.R_lower (Kd.R_newM (M := fun k_ => (w.heap.size ≤ k_)) ho15 (below_size bel) (fun k_ h_ => h_)) (below_size bel)); have n1_ := Aside0.mk (blk_below (bk BK546.out) hb); have n2_ := Aside0.mk (blk_below (bk BK547.out) hb); have n3_ := Aside0.mk (blk_below (bk BK548.out) hb); have n4_ := Aside0.mk (below_step bel hb); clear BK546; clear BK547; clear BK548; clear HB; have HO551 := n0_; have BK546 := n1_; have BK547 := n2_; have BK548 := n3_; have HB := n4_; clear n0_ n1_ n2_ n3_ n4_; clear hb ho15; have hcz16_0 : w14.cell? ⟨gb546, 0, none⟩ = some (.bool a0_0) := (blk_cell BK546.out 0).trans rfl; have hcz16_1 : w14.cell? ⟨gb546, 1, none⟩ = some (.slice A0_1 l0_1.length c0_1) := (blk_cell BK546.out 1).trans rfl; have hfz16_0 := blk_frozen BK546.out 0; have hfz16_1 := blk_frozen BK546.out 1)); try go_wp2_with (first | ((with_reducible refine gate_dst (N := 2) rfl ?_); refine box_event ?hg (N := 2) ?hd (cs := #[.bool a0_0, .slice A0_1 l0_1.length c0_1]) (t := 32) ?hr ?_; (case hd => rfl); (case hg => rfl); (case hr => first | (go_simp; done) | (go_simp; rfl)); intro gb546 hg w6 hbox hb; have n0_ := Aside0.mk (below_step bel hb); have n1_ := Aside0.mk (hbox); have n2_ := Aside0.mk ((by rw [hg]; exact (below_size bel) : w.heap.size ≤ gb546)); have n3_ := Aside0.mk ((by rw [hg]; exact (below_size bel) : w.heap.size ≤ gb546)); clear HB; have HB := n0_; have BK546 := n1_; have GW546 := n2_; have GE546 := n3_; clear n0_ n1_ n2_ n3_; clear hb hbox hg) | ((with_reducible refine gate_dst (N := 3) rfl ?_); refine box_event ?hg (N := 3) ?hd (cs := #[.bool a1_0, .slice A1_1 l1_1.length c1_1]) (t := 32) ?hr ?_; (case hd => rfl); (case hg => rfl); (case hr => first | (go_simp; done) | (go_simp; rfl)); intro gb547 hg w7 hbox hb; have n0_ := Aside0.mk (blk_below (bk BK546.out) hb); have n1_ := Aside0.mk (below_step bel hb); have n2_ := Aside0.mk (hbox); have n3_ := Aside0.mk ((by rw [hg]; exact (below_size bel) : w.heap.size ≤ gb547)); have n4_ := Aside0.mk ((by rw [hg]; exact (below_size bel) : w.heap.size ≤ gb547)); have n5_ := Aside0.mk ((by rw [hg]; exact Nat.ne_of_lt (blk_lt (bk BK546.out)) : gb546 ≠ gb547)); have n6_ := Aside0.mk ((by rw [hg]; exact Nat.ne_of_gt (blk_lt (bk BK546.out)) : gb547 ≠ gb546)); clear BK546; clear HB; have BK546 := n0_; have HB := n1_; have BK547 := n2_; have GW547 := n3_; have GE547 := n4_; have NB546_547 := n5_; have NB547_546 := n6_; clear n0_ n1_ n2_ n3_ n4_ n5_ n6_; clear hb hbox hg) | ((with_reducible refine gate_dst (N := 4) rfl ?_); refine box_event ?hg (N := 4) ?hd (cs := #[.bool false, .slice none 0 0]) (t := 32) ?hr ?_; (case hd => rfl); (case hg => rfl); (case hr => first | (go_simp; done) | (go_simp; rfl)); intro gb548 hg w8 hbox hb; have n0_ := Aside0.mk (blk_below (bk BK546.out) hb); have n1_ := Aside0.mk (blk_below (bk BK547.out) hb); have n2_ := Aside0.mk (below_step bel hb); have n3_ := Aside0.mk (hbox); have n4_ := Aside0.mk ((by rw [hg]; exact (below_size bel) : w.heap.size ≤ gb548)); have n5_ := Aside0.mk ((by rw [hg]; exact (below_size bel) : w.heap.size ≤ gb548)); have n6_ := Aside0.mk ((by rw [hg]; exact Nat.ne_of_lt (blk_lt (bk BK546.out)) : gb546 ≠ gb548)); have n7_ := Aside0.mk ((by rw [hg]; exact Nat.ne_of_gt (blk_lt (bk BK546.out)) : gb548 ≠ gb546)); have n8_ := Aside0.mk ((by rw [hg]; exact Nat.ne_of_lt (blk_lt (bk BK547.out)) : gb547 ≠ gb548)); have n9_ := Aside0.mk ((by rw [hg]; exact Nat.ne_of_gt (blk_lt (bk BK547.out)) : gb548 ≠ gb547)); clear BK546; clear BK547; clear HB; have BK546 := n0_; have BK547 := n1_; have HB := n2_; have BK548 := n3_; have GW548 := n4_; have GE548 := n5_; have NB546_548 := n6_; have NB548_546 := n7_; have NB547_548 := n8_; have NB548_547 := n9_; clear n0_ n1_ n2_ n3_ n4_ n5_ n6_ n7_ n8_ n9_; clear hb hbox hg; have hnb9 := NB546_547.out; have hnc9 := NB547_546.out; have hnb10 := NB546_548.out; have hnc10 := NB548_546.out; have hcz11_0 : w8.cell? ⟨gb546, 0, none⟩ = some (.bool a0_0) := (blk_cell BK546.out 0).trans rfl; have hcz11_1 : w8.cell? ⟨gb546, 1, none⟩ = some (.slice A0_1 l0_1.length c0_1) := (blk_cell BK546.out 1).trans rfl; have hfz11_0 := blk_frozen BK546.out 0; have hfz11_1 := blk_frozen BK546.out 1; have hnb12 := NB547_548.out; have hnc12 := NB548_547.out; have hcz13_0 : w8.cell? ⟨gb547, 0, none⟩ = some (.bool a1_0) := (blk_cell BK547.out 0).trans rfl; have hcz13_1 : w8.cell? ⟨gb547, 1, none⟩ = some (.slice A1_1 l1_1.length c1_1) := (blk_cell BK547.out 1).trans rfl; have hfz13_0 := blk_frozen BK547.out 0; have hfz13_1 := blk_frozen BK547.out 1) | ((with_reducible refine gate_dst (N := 17) rfl ?_); refine Kd.R_make (Kd.int .i64) _ 3 rfl (N := 17) rfl 30 _ _ rfl ji3 rfl rfl Tryd.underlying30 (.int .i64 0) 8 info3 rfl (by decide) (by omega) 0 (ok := fun _ => True) (okp := fun _ => True) rfl (fun _ hk => hk) trivial (of_decide_eq_true (by first | (with_reducible assumption) | assumption)) (Nat.le_trans (Nat.mul_le_mul_right _ (of_decide_eq_true (by first | (with_reducible assumption) | assumption) : ji3.toNat ≤ 35184372088832)) (by omega)) (Below.refl _ _) (Nat.le_refl _) ?_; intro v550 w14 ho15 hb hg_ hnew_; clear hg_ hnew_; (first | rw [← Ny549.out] at ho15 | (simp only [Int.reduceToNat] at ho15; rw [← Ny549.out] at ho15)); have n0_ := Aside0.mk (Kd.R_lower (Kd.R_newM (M := fun k_ => (w.heap.size ≤ k_)) ho15 (below_size bel) (fun k_ h_ => h_)) (below_size bel)); have n1_ := Aside0.mk (blk_below (bk BK546.out) hb); have n2_ := Aside0.mk (blk_below (bk BK547.out) hb); have n3_ := Aside0.mk (blk_below (bk BK548.out) hb); have n4_ := Aside0.mk (below_step bel hb); clear BK546; clear BK547; clear BK548; clear HB; have HO551 := n0_; have BK546 := n1_; have BK547 := n2_; have BK548 := n3_; have HB := n4_; clear n0_ n1_ n2_ n3_ n4_; clear hb ho15; have hcz16_0 : w14.cell? ⟨gb546, 0, none⟩ = some (.bool a0_0) := (blk_cell BK546.out 0).trans rfl; have hcz16_1 : w14.cell? ⟨gb546, 1, none⟩ = some (.slice A0_1 l0_1.length c0_1) := (blk_cell BK546.out 1).trans rfl; have hfz16_0 := blk_frozen BK546.out 0; have hfz16_1 := blk_frozen BK546.out 1)))
   go_loopg [6] k (fun kq v6 w' => ∃ (x5_1 : List Int) (x6_1 : Int), v6 = .int .i64 x6_1 ∧ Aside0 (cellarerref02_Mul.l0 kq x5_1 x6_1 a0_0 l0_1 a1_0 l1_1 = some (r1, r2)) ∧ Aside0 (kq ≤ k) ∧ Aside0 (Kd.R (Kd.int .i64) 3 w' w.heap.size (fun k_ => (w.heap.size ≤ k_)) v550 x5_1) ∧ Aside0 (w'.heap[gb546]? = some (.cells #[.bool a0_0, (.slice A0_1 l0_1.length c0_1)] 32 (0, 0))) ∧ Aside0 (w'.heap[gb547]? = some (.cells #[.bool a1_0, (.slice A1_1 l1_1.length c1_1)] 32 (0, 0))) ∧ Aside0 (w'.heap[gb548]? = some (.cells #[.bool false, (.slice none 0 0)] 32 (0, 0))) ∧ Aside0 (Below w.heap.size w w'))
   case atStart => exact ⟨(y549), (wrap64 ((l0_1.length : Int) - 1)), (by first | rfl | (simp; done) | (simp [*]; done)), H', ⟨Nat.le_refl _⟩, ⟨kr (Kd.R_mono HO551.out (fun _ hk => hk.1))⟩, ⟨bk BK546.out⟩, ⟨bk BK547.out⟩, ⟨bk BK548.out⟩, ⟨bel⟩⟩
   case round =>
    clear H'
    (try clear c1); (try clear c2); (try clear p2); (try clear c4); (try clear c4b0); (try clear c4b1); (try clear c5); (try clear c5b0); (try clear c5b1); (try clear p6); (try clear c9); (try clear c10); (try clear c12); (try clear hcz11_0); (try clear hcz11_1); (try clear hcz13_0); (try clear hcz13_1); (try clear hcz16_0); (try clear hcz16_1); (try clear hfz11_0); (try clear hfz11_1); (try clear hfz13_0); (try clear hfz13_1); (try clear hfz16_0); (try clear hfz16_1)
    obtain ⟨x5_1, x6_1, rfl, HA, HK1, HO_5, BK546, BK547, BK548, HB⟩ := hrel
    cases gk with
    | zero => exact absurd HA.out (by simp [cellarerref02_Mul.l0])
    | succ k1 =>
     have H := HA.out
     clear HA
     simp only [cellarerref02_Mul.l0] at H
     by_cases c17 : x6_1 ≥ 0
     ·rw [if_pos c17] at H
      have c17b0 : decide (0 ≤ x6_1) = true := decide_eq_true c17
      clear c17
      have H' := Aside0.mk H
      clear H
      have hnb18 := NB547_546.out
      have hnc18 := NB546_547.out
      have hnb19 := NB547_548.out
      have hnc19 := NB548_547.out
      have hcz20_0 : wr.cell? ⟨gb547, 0, none⟩ = some (.bool a1_0) := (blk_cell BK547.out 0).trans rfl
      have hcz20_1 : wr.cell? ⟨gb547, 1, none⟩ = some (.slice A1_1 l1_1.length c1_1) := (blk_cell BK547.out 1).trans rfl
      have hfz20_0 := blk_frozen BK547.out 0
      have hfz20_1 := blk_frozen BK547.out 1
      go_wp2
      repeat (go_quiet (fail); try go_wp2)
      go_loopg [7] k1 (fun kq v7 w' => ∃ (x5_2 : List Int) (x7_2 : Int), v7 = .int .i64 x7_2 ∧ Aside0 (cellarerref02_Mul.l1 kq x5_2 x6_1 x7_2 a0_0 l0_1 a1_0 l1_1 = some (r1, r2)) ∧ Aside0 (kq ≤ k1) ∧ Aside0 (Kd.R (Kd.int .i64) 3 w' w.heap.size (fun k_ => (w.heap.size ≤ k_)) v550 x5_2) ∧ Aside0 (w'.heap[gb546]? = some (.cells #[.bool a0_0, (.slice A0_1 l0_1.length c0_1)] 32 (0, 0))) ∧ Aside0 (w'.heap[gb547]? = some (.cells #[.bool a1_0, (.slice A1_1 l1_1.length c1_1)] 32 (0, 0))) ∧ Aside0 (w'.heap[gb548]? = some (.cells #[.bool false, (.slice none 0 0)] 32 (0, 0))) ∧ Aside0 (Below w.heap.size w w'))
      case atStart => exact ⟨(x5_1), (wrap64 ((l1_1.length : Int) - 1)), (by first | rfl | (simp; done) | (simp [*]; done)), H', ⟨Nat.le_refl _⟩, ⟨kr HO_5.out⟩, ⟨bk BK546.out⟩, ⟨bk BK547.out⟩, ⟨bk BK548.out⟩, ⟨bel⟩⟩
      case round =>
       clear H'
       (try clear c1); (try clear c2); (try clear p2); (try clear c4); (try clear c4b0); (try clear c4b1); (try clear c5); (try clear c5b0); (try clear c5b1); (try clear p6); (try clear c9); (try clear c10); (try clear c12); (try clear c17); (try clear c17b0); (try clear c18); (try clear c19); (try clear hcz11_0); (try clear hcz11_1); (try clear hcz13_0); (try clear hcz13_1); (try clear hcz16_0); (try clear hcz16_1); (try clear hcz20_0); (try clear hcz20_1); (try clear hfz11_0); (try clear hfz11_1); (try clear hfz13_0); (try clear hfz13_1); (try clear hfz16_0); (try clear hfz16_1); (try clear hfz20_0); (try clear hfz20_1); (try clear p2); (try clear p6)
       obtain ⟨x5_2, x7_2, rfl, HA, HK2, HO_5, BK546, BK547, BK548, HB⟩ := hrel
       cases gk with
       | zero => exact absurd HA.out (by simp [cellarerref02_Mul.l1])
       | succ k2 =>
        have H := HA.out
        clear HA
        simp only [cellarerref02_Mul.l1] at H
        by_cases c21 : x7_2 ≥ 0
        ·rw [if_pos c21] at H
         have c21b0 : decide (0 ≤ x7_2) = true := decide_eq_true c21
         clear c21
         obtain ⟨ji22, hji22⟩ : ∃ j_ : Int, (wrap64 ((wrap64 (x6_1 + x7_2)) + 1)) = j_ := ⟨_, rfl⟩
         replace H : (if 0 ≤ (ji22) then (if (ji22) < (x5_2.length : Int) then (if 0 ≤ x6_1 then (if x6_1 < (l0_1.length : Int) then (if 0 ≤ x7_2 then (if x7_2 < (l1_1.length : Int) then (cellarerref02_Mul.l2 k2 (x5_2.set ((ji22) : Int).toNat (Int.tmod (wrap64 ((rd x5_2 (ji22)) + (wrap64 ((rd l0_1 x6_1) * (rd l1_1 x7_2))))) 10)) x6_1 x7_2 ji22 (wrap64 (Int.tdiv (wrap64 ((rd x5_2 (ji22)) + (wrap64 ((rd l0_1 x6_1) * (rd l1_1 x7_2))))) 10)) a0_0 l0_1 a1_0 l1_1) else (none)) else (none)) else (none)) else (none)) else (none)) else (none)) = some (r1, r2) := by first | (rw [hji22] at H; exact H) | (simp only [hji22] at H ⊢; exact H)
         have hji22w : (IntKind.i64.wrap ((wrap64 (x6_1 + x7_2)) + 1)) = ji22 := (i64_w _).trans hji22
         by_cases c23 : 0 ≤ (ji22)
         ·rw [if_pos c23] at H
          have c23b0 : decide (0 ≤ (ji22)) = true := decide_eq_true c23
          clear c23
          by_cases c24 : (ji22) < (x5_2.length : Int)
          ·rw [if_pos c24] at H
           have c24b0 : decide ((ji22) < (x5_2.length : Int)) = true := decide_eq_true c24
           clear c24
           by_cases c25 : 0 ≤ x6_1
           ·rw [if_pos c25] at H
            have c25b0 : decide (0 ≤ x6_1) = true := decide_eq_true c25
            clear c25
            by_cases c26 : x6_1 < (l0_1.length : Int)
            ·rw [if_pos c26] at H
             have c26b0 : decide (x6_1 < (l0_1.length : Int)) = true := decide_eq_true c26
             clear c26
             by_cases c27 : 0 ≤ x7_2
             ·rw [if_pos c27] at H
              have c27b0 : decide (0 ≤ x7_2) = true := decide_eq_true c27
              clear c27
              by_cases c28 : x7_2 < (l1_1.length : Int)
              ·rw [if_pos c28] at H
               have c28b0 : decide (x7_2 < (l1_1.length : Int)) = true := decide_eq_true c28
               clear c28
               obtain ⟨y559, hy559⟩ : ∃ y_ : List Int, y_ = (x5_2.set ((ji22) : Int).toNat (Int.tmod (wrap64 ((rd x5_2 (ji22)) + (wrap64 ((rd l0_1 x6_1) * (rd l1_1 x7_2))))) 10)) := ⟨_, rfl⟩
               replace H : (cellarerref02_Mul.l2 k2 y559 x6_1 x7_2 ji22 (wrap64 (Int.tdiv (wrap64 ((rd x5_2 (ji22)) + (wrap64 ((rd l0_1 x6_1) * (rd l1_1 x7_2))))) 10)) a0_0 l0_1 a1_0 l1_1) = some (r1, r2) := by first | (rw [hy559]; with_reducible exact H) | (have H2_ := (Option.bind_some _ _).symm.trans H; rw [hy559]; with_reducible exact H2_) | (have H2_ := (Option.bind_some _ _).symm.trans H; with_reducible exact H2_) | with_reducible exact H | (rw [hy559]; exact H) | exact H
               have Ny559 := Aside0.mk hy559
               clear hy559
               have H' := Aside0.mk H
               clear H
               obtain ⟨Ao30, co30, eo30⟩ := Kd.R_slice HO_5.out
               subst eo30
               have p556 : 0 ≤ ((ji22) : Int) := of_decide_eq_true (by first | (with_reducible assumption) | assumption)
               have q556 : (ji22) < (x5_2.length : Int) := of_decide_eq_true (by first | (with_reducible assumption) | assumption)
               obtain ⟨ad556, e556, hx556_0⟩ := Kd.at_int (Kd.R_reads' HO_5.out).2.2 (ji22) p556 q556
               cases e556
               replace p556 := eq_true p556
               replace q556 := eq_true q556
               have hnb31 := NB546_547.out
               have hnc31 := NB547_546.out
               have hnb32 := NB546_548.out
               have hnc32 := NB548_546.out
               have hcz33_0 : wr.cell? ⟨gb546, 0, none⟩ = some (.bool a0_0) := (blk_cell BK546.out 0).trans rfl
               have hcz33_1 : wr.cell? ⟨gb546, 1, none⟩ = some (.slice A0_1 l0_1.length c0_1) := (blk_cell BK546.out 1).trans rfl
               have hfz33_0 := blk_frozen BK546.out 0
               have hfz33_1 := blk_frozen BK546.out 1
               have p557 : 0 ≤ (x6_1 : Int) := of_decide_eq_true (by first | (with_reducible assumption) | assumption)
               have q557 : x6_1 < (l0_1.length : Int) := of_decide_eq_true (by first | (with_reducible assumption) | assumption)
               obtain ⟨ad557, e557, hx557_0⟩ := Kd.at_int HR0_1.out x6_1 p557 q557
               cases e557
               replace hx557_0 := (HB.out.cell (World.block_lt_of_cell? w _ hx557_0)).trans hx557_0
               replace p557 := eq_true p557
               replace q557 := eq_true q557
               have hnb34 := NB547_548.out
               have hnc34 := NB548_547.out
               have hcz35_0 : wr.cell? ⟨gb547, 0, none⟩ = some (.bool a1_0) := (blk_cell BK547.out 0).trans rfl
               have hcz35_1 : wr.cell? ⟨gb547, 1, none⟩ = some (.slice A1_1 l1_1.length c1_1) := (blk_cell BK547.out 1).trans rfl
               have hfz35_0 := blk_frozen BK547.out 0
               have hfz35_1 := blk_frozen BK547.out 1
               have p558 : 0 ≤ (x7_2 : Int) := of_decide_eq_true (by first | (with_reducible assumption) | assumption)
               have q558 : x7_2 < (l1_1.length : Int) := of_decide_eq_true (by first | (with_reducible assumption) | assumption)
               obtain ⟨ad558, e558, hx558_0⟩ := Kd.at_int HR1_1.out x7_2 p558 q558
               cases e558
               replace hx558_0 := (HB.out.cell (World.block_lt_of_cell? w _ hx558_0)).trans hx558_0
               replace p558 := eq_true p558
               replace q558 := eq_true q558
               have p29 : 0 ≤ ((ji22) : Int) := of_decide_eq_true (by first | (with_reducible assumption) | assumption)
               have q29 : ((ji22) : Int) < ((x5_2.length : Int) : Int) := of_decide_eq_true (by first | (with_reducible assumption) | assumption)
               obtain ⟨go29, co29, eo29, gb29, gl29, cl29, HG29⟩ := Kd.R_form HO_5.out (by omega)
               (first | cases eo29 | (injection eo29 with ea_ en_ ec_; (first | subst ea_ | (injection ea_ with ea_; subst ea_)); subst ec_; clear en_))
               have GB29 := Aside0.mk gb29
               have GG29 := Aside0.mk HG29
               clear gb29 gl29 HG29
               (first | simp only [add_plain] at hx556_0 | skip)
               obtain ⟨hx29_0, hf29_0⟩ := Kd.R_celln 0 HO_5.out ((ji22) : Int) p29 q29
               replace p29 := eq_true p29
               replace q29 := eq_true q29
               have HP36 := Kd.R_putg HO_5.out ((ji22) : Int) (Int.tmod (wrap64 ((rd x5_2 (ji22)) + (wrap64 ((rd l0_1 x6_1) * (rd l1_1 x7_2))))) 10)
               go_wp2_with (first | ((with_reducible refine gate_store (t := 3) (p := 58) rfl ?_); (try (rw [drewN_self wr]; generalize hq_ : World.drewN wr _ = wr; have n0_ := Aside0.mk (Kd.R_at hq_ HO_5.out); have n1_ := Aside0.mk (blk_at hq_ BK546.out); have n2_ := Aside0.mk (blk_at hq_ BK547.out); have n3_ := Aside0.mk (blk_at hq_ BK548.out); have n4_ := Aside0.mk (below_at hq_ HB.out); clear hq_ HO_5 BK546 BK547 BK548 HB; have HO_5 := n0_; have BK546 := n1_; have BK547 := n2_; have BK548 := n3_; have HB := n4_; clear n0_ n1_ n2_ n3_ n4_; (try (have HP36 := Kd.R_putg HO_5.out ((ji22) : Int) (Int.tmod (wrap64 ((rd x5_2 (ji22)) + (wrap64 ((rd l0_1 x6_1) * (rd l1_1 x7_2))))) 10))))); (try (obtain ⟨hyq36_, hzq36_⟩ := Kd.R_celln 0 HO_5.out ((ji22) : Int) (of_decide_eq_true (by first | (with_reducible assumption) | assumption)) (of_decide_eq_true (by first | (with_reducible assumption) | assumption)))); refine store_event (t := 3) (p := 58) (v := ?vo_w37) (w1 := (wr.setCell ⟨go29, ((ji22) : Int).toNat, none⟩ (.int .i64 (Int.tmod (wrap64 ((rd x5_2 (ji22)) + (wrap64 ((rd l0_1 x6_1) * (rd l1_1 x7_2))))) 10)))) ?hg ?ho ?hn ?hr ?_; (case ho => rfl); (case hg => rfl); (case hn => rfl); (case hr => first | (go_simp; done) | (go_simp; rfl)); intro w37 hw; have hg : wr.grownBy w37 (some go29) := (by rw [hw]; exact HP36.2); have hp_ : Kd.R (Kd.int .i64) 3 w37 w.heap.size (fun k_ => (w.heap.size ≤ k_)) (.slice (some ⟨go29, 0, none⟩) x5_2.length co30) y559 := (by rw [hw, Ny559.out]; exact HP36.1); clear HP36; replace BK546 := Aside0.mk (blk_grown (bk BK546.out) hg (Kd.R_ne HO_5.out BK546.out (by decide))); replace BK547 := Aside0.mk (blk_grown (bk BK547.out) hg (Kd.R_ne HO_5.out BK547.out (by decide))); replace BK548 := Aside0.mk (blk_grown (bk BK548.out) hg (Kd.R_ne HO_5.out BK548.out (by decide))); replace HO_5 := Aside0.mk (hp_); replace HB := Aside0.mk ((by rw [hw]; exact below_set (HB.out) GB29.out : Below w.heap.size w w37)); clear hg hw hp_))
               repeat (go_quiet (first | ((with_reducible refine gate_store (t := 3) (p := 58) rfl ?_); (try (rw [drewN_self wr]; generalize hq_ : World.drewN wr _ = wr; have n0_ := Aside0.mk (Kd.R_at hq_ HO_5.out); have n1_ := Aside0.mk (blk_at hq_ BK546.out); have n2_ := Aside0.mk (blk_at hq_ BK547.out); have n3_ := Aside0.mk (blk_at hq_ BK548.out); have n4_ := Aside0.mk (below_at hq_ HB.out); clear hq_ HO_5 BK546 BK547 BK548 HB; have HO_5 := n0_; have BK546 := n1_; have BK547 := n2_; have BK548 := n3_; have HB := n4_; clear n0_ n1_ n2_ n3_ n4_; (try (have HP36 := Kd.R_putg HO_5.out ((ji22) : Int) (Int.tmod (wrap64 ((rd x5_2 (ji22)) + (wrap64 ((rd l0_1 x6_1) * (rd l1_1 x7_2))))) 10))))); (try (obtain ⟨hyq36_, hzq36_⟩ := Kd.R_celln 0 HO_5.out ((ji22) : Int) (of_decide_eq_true (by first | (with_reducible assumption) | assumption)) (of_decide_eq_true (by first | (with_reducible assumption) | assumption)))); refine store_event (t := 3) (p := 58) (v := ?vo_w37) (w1 := (wr.setCell ⟨go29, ((ji22) : Int).toNat, none⟩ (.int .i64 (Int.tmod (wrap64 ((rd x5_2 (ji22)) + (wrap64 ((rd l0_1 x6_1) * (rd l1_1 x7_2))))) 10)))) ?hg ?ho ?hn ?hr ?_; (case ho => rfl); (case hg => rfl); (case hn => rfl); (case hr => first | (go_simp; done) | (go_simp; rfl)); intro w37 hw; have hg : wr.grownBy w37 (some go29) := (by rw [hw]; exact HP36.2); have hp_ : Kd.R (Kd.int .i64) 3 w37 w.heap.size (fun k_ => (w.heap.size ≤ k_)) (.slice (some ⟨go29, 0, none⟩) x5_2.length co30) y559 := (by rw [hw, Ny559.out]; exact HP36.1); clear HP36; have n0_ := Aside0.mk (hp_); have n1_ := Aside0.mk (blk_grown (bk BK546.out) hg (Kd.R_ne HO_5.out BK546.out (by decide))); have n2_ := Aside0.mk (blk_grown (bk BK547.out) hg (Kd.R_ne HO_5.out BK547.out (by decide))); have n3_ := Aside0.mk (blk_grown (bk BK548.out) hg (Kd.R_ne HO_5.out BK548.out (by decide))); have n4_ := Aside0.mk ((by rw [hw]; exact below_set (HB.out) GB29.out : Below w.heap.size w w37)); clear HO_5; clear BK546; clear BK547; clear BK548; clear HB; have HO_5 := n0_; have BK546 := n1_; have BK547 := n2_; have BK548 := n3_; have HB := n4_; clear n0_ n1_ n2_ n3_ n4_; clear hg hw hp_)); try go_wp2_with (first | ((with_reducible refine gate_store (t := 3) (p := 58) rfl ?_); (try (rw [drewN_self wr]; generalize hq_ : World.drewN wr _ = wr; have n0_ := Aside0.mk (Kd.R_at hq_ HO_5.out); have n1_ := Aside0.mk (blk_at hq_ BK546.out); have n2_ := Aside0.mk (blk_at hq_ BK547.out); have n3_ := Aside0.mk (blk_at hq_ BK548.out); have n4_ := Aside0.mk (below_at hq_ HB.out); clear hq_ HO_5 BK546 BK547 BK548 HB; have HO_5 := n0_; have BK546 := n1_; have BK547 := n2_; have BK548 := n3_; have HB := n4_; clear n0_ n1_ n2_ n3_ n4_; (try (have HP36 := Kd.R_putg HO_5.out ((ji22) : Int) (Int.tmod (wrap64 ((rd x5_2 (ji22)) + (wrap64 ((rd l0_1 x6_1) * (rd l1_1 x7_2))))) 10))))); (try (obtain ⟨hyq36_, hzq36_⟩ := Kd.R_celln 0 HO_5.out ((ji22) : Int) (of_decide_eq_true (by first | (with_reducible assumption) | assumption)) (of_decide_eq_true (by first | (with_reducible assumption) | assumption)))); refine store_event (t := 3) (p := 58) (v := ?vo_w37) (w1 := (wr.setCell ⟨go29, ((ji22) : Int).toNat, none⟩ (.int .i64 (Int.tmod (wrap64 ((rd x5_2 (ji22)) + (wrap64 ((rd l0_1 x6_1) * (rd l1_1 x7_2))))) 10)))) ?hg ?ho ?hn ?hr ?_; (case ho => rfl); (case hg => rfl); (case hn => rfl); (case hr => first | (go_simp; done) | (go_simp; rfl)); intro w37 hw; have hg : wr.grownBy w37 (some go29) := (by rw [hw]; exact HP36.2); have hp_ : Kd.R (Kd.int .i64) 3 w37 w.heap.size (fun k_ => (w.heap.size ≤ k_)) (.slice (some ⟨go29, 0, none⟩) x5_2.length co30) y559 := (by rw [hw, Ny559.out]; exact HP36.1); clear HP36; have n0_ := Aside0.mk (hp_); have n1_ := Aside0.mk (blk_grown (bk BK546.out) hg (Kd.R_ne HO_5.out BK546.out (by decide))); have n2_ := Aside0.mk (blk_grown (bk BK547.out) hg (Kd.R_ne HO_5.out BK547.out (by decide))); have n3_ := Aside0.mk (blk_grown (bk BK548.out) hg (Kd.R_ne HO_5.out BK548.out (by decide))); have n4_ := Aside0.mk ((by rw [hw]; exact below_set (HB.out) GB29.out : Below w.heap.size w w37)); clear HO_5; clear BK546; clear BK547; clear BK548; clear HB; have HO_5 := n0_; have BK546 := n1_; have BK547 := n2_; have BK548 := n3_; have HB := n4_; clear n0_ n1_ n2_ n3_ n4_; clear hg hw hp_)))
               go_loopg [8, 9] k2 (fun kq v8 v9 w' => ∃ (x5_3 : List Int) (x8_3 : Int) (x9_3 : Int), v8 = .int .i64 x8_3 ∧ v9 = .int .i64 x9_3 ∧ Aside0 (cellarerref02_Mul.l2 kq x5_3 x6_1 x7_2 x8_3 x9_3 a0_0 l0_1 a1_0 l1_1 = some (r1, r2)) ∧ Aside0 (kq ≤ k2) ∧ Aside0 (Kd.R (Kd.int .i64) 3 w' w.heap.size (fun k_ => (w.heap.size ≤ k_)) (.slice (some ⟨go29, 0, none⟩) x5_2.length co30) x5_3) ∧ Aside0 (w'.heap[gb546]? = some (.cells #[.bool a0_0, (.slice (some ad557) l0_1.length c0_1)] 32 (0, 0))) ∧ Aside0 (w'.heap[gb547]? = some (.cells #[.bool a1_0, (.slice (some ad558) l1_1.length c1_1)] 32 (0, 0))) ∧ Aside0 (w'.heap[gb548]? = some (.cells #[.bool false, (.slice none 0 0)] 32 (0, 0))) ∧ Aside0 (Below w.heap.size w w'))
               case atStart => exact ⟨(y559), (ji22), (wrap64 (Int.tdiv (wrap64 ((rd x5_2 (ji22)) + (wrap64 ((rd l0_1 x6_1) * (rd l1_1 x7_2))))) 10)), (by first | rfl | (simp; done) | (simp only [← hji22] <;> (first | rfl | simp)) | (simp [*]; done)), (by first | rfl | (simp; done) | (simp only [← hji22] <;> (first | rfl | simp)) | (simp [*]; done)), H', ⟨Nat.le_refl _⟩, ⟨kr HO_5.out⟩, ⟨bk BK546.out⟩, ⟨bk BK547.out⟩, ⟨bk BK548.out⟩, ⟨bel⟩⟩
               case round =>
                clear H'
                (try clear c1); (try clear c2); (try clear p2); (try clear q2); (try clear hx2); (try clear hf2); (try clear c3); (try clear q3); (try clear c4); (try clear c4b0); (try clear c4b1); (try clear c5); (try clear c5b0); (try clear c5b1); (try clear p5); (try clear q5); (try clear hx5); (try clear p6); (try clear c9); (try clear c10); (try clear c12); (try clear c17); (try clear c17b0); (try clear c18); (try clear c19); (try clear c21); (try clear c21b0); (try clear c23); (try clear c23b0); (try clear c24); (try clear c24b0); (try clear c25); (try clear c25b0); (try clear c26); (try clear c26b0); (try clear c27); (try clear c27b0); (try clear c28); (try clear c28b0); (try clear p29); (try clear q29); (try clear hx29); (try clear hf29); (try clear c31); (try clear c32); (try clear c34); (try clear q36); (try clear hcz11_0); (try clear hcz11_1); (try clear hcz13_0); (try clear hcz13_1); (try clear hcz16_0); (try clear hcz16_1); (try clear hcz20_0); (try clear hcz20_1); (try clear hcz33_0); (try clear hcz33_1); (try clear hcz35_0); (try clear hcz35_1); (try clear hfz11_0); (try clear hfz11_1); (try clear hfz13_0); (try clear hfz13_1); (try clear hfz16_0); (try clear hfz16_1); (try clear hfz20_0); (try clear hfz20_1); (try clear hfz33_0); (try clear hfz33_1); (try clear hfz35_0); (try clear hfz35_1); (try clear hx29_0); (try clear hx556_0); (try clear hx557_0); (try clear hx558_0); (try clear p2); (try clear p29); (try clear p556); (try clear p557); (try clear p558); (try clear p6); (try clear q29); (try clear q556); (try clear q557); (try clear q558)
                obtain ⟨x5_3, x8_3, x9_3, rfl, rfl, HA, HK3, HO_5, BK546, BK547, BK548, HB⟩ := hrel
                have hl5_3 := (Kd.R_reads' HO_5.out).1
                rw [hl5_3] at HO_5
                (try simp only [hl5_3])
                (try simp only [hl5_3] at BK546)
                (try simp only [hl5_3] at BK547)
                (try simp only [hl5_3] at BK548)
                cases gk with
                | zero => exact absurd HA.out (by simp [cellarerref02_Mul.l2])
                | succ k3 =>
                 have H := HA.out
                 clear HA
                 simp only [cellarerref02_Mul.l2] at H
                 by_cases c38 : x9_3 > 0
                 ·rw [if_pos c38] at H
                  have c38b0 : decide (0 < x9_3) = true := decide_eq_true c38
                  clear c38
                  obtain ⟨ji39, hji39⟩ : ∃ j_ : Int, (wrap64 (x8_3 - 1)) = j_ := ⟨_, rfl⟩
                  replace H : (if 0 ≤ (ji39) then (if (ji39) < (x5_3.length : Int) then (cellarerref02_Mul.l2 k3 (x5_3.set ((ji39) : Int).toNat (Int.tmod (wrap64 (x9_3 + (rd x5_3 (ji39)))) 10)) x6_1 x7_2 ji39 (wrap64 (Int.tdiv (wrap64 (x9_3 + (rd x5_3 (ji39)))) 10)) a0_0 l0_1 a1_0 l1_1) else (none)) else (none)) = some (r1, r2) := by first | (rw [hji39] at H; exact H) | (simp only [hji39] at H ⊢; exact H)
                  have hji39w : (IntKind.i64.wrap (x8_3 - 1)) = ji39 := (i64_w _).trans hji39
                  by_cases c40 : 0 ≤ (ji39)
                  ·rw [if_pos c40] at H
                   have c40b0 : decide (0 ≤ (ji39)) = true := decide_eq_true c40
                   clear c40
                   by_cases c41 : (ji39) < (x5_3.length : Int)
                   ·rw [if_pos c41] at H
                    have c41b0 : decide ((ji39) < (x5_3.length : Int)) = true := decide_eq_true c41
                    clear c41
                    obtain ⟨y561, hy561⟩ : ∃ y_ : List Int, y_ = (x5_3.set ((ji39) : Int).toNat (Int.tmod (wrap64 (x9_3 + (rd x5_3 (ji39)))) 10)) := ⟨_, rfl⟩
                    replace H : (cellarerref02_Mul.l2 k3 y561 x6_1 x7_2 ji39 (wrap64 (Int.tdiv (wrap64 (x9_3 + (rd x5_3 (ji39)))) 10)) a0_0 l0_1 a1_0 l1_1) = some (r1, r2) := by first | (rw [hy561]; with_reducible exact H) | (have H2_ := (Option.bind_some _ _).symm.trans H; rw [hy561]; with_reducible exact H2_) | (have H2_ := (Option.bind_some _ _).symm.trans H; with_reducible exact H2_) | with_reducible exact H | (rw [hy561]; exact H) | exact H
                    have Ny561 := Aside0.mk hy561
                    clear hy561
                    have H' := Aside0.mk H
                    clear H
                    have p560 : 0 ≤ ((ji39) : Int) := of_decide_eq_true (by first | (with_reducible assumption) | assumption)
                    have q560 : (ji39) < (x5_3.length : Int) := of_decide_eq_true (by first | (with_reducible assumption) | assumption)
                    obtain ⟨ad560, e560, hx560_0⟩ := Kd.at_int (Kd.R_reads' HO_5.out).2.2 (ji39) p560 q560
                    obtain rfl : (⟨go29, 0, none⟩ : Addr) = ad560 := (by injection e560)
                    (first | simp only [add_plain] at hx560_0 | simp only [add_at] at hx560_0 | simp only [Addr.add, Nat.zero_add] at hx560_0 | skip)
                    replace p560 := eq_true p560
                    replace q560 := eq_true q560
                    have p42 : 0 ≤ ((ji39) : Int) := of_decide_eq_true (by first | (with_reducible assumption) | assumption)
                    have q42 : ((ji39) : Int) < ((x5_3.length : Int) : Int) := of_decide_eq_true (by first | (with_reducible assumption) | assumption)
                    obtain ⟨hx42_0, hf42_0⟩ := Kd.R_celln 0 HO_5.out ((ji39) : Int) p42 q42
                    replace p42 := eq_true p42
                    replace q42 := eq_true q42
                    have HP43 := Kd.R_putg HO_5.out ((ji39) : Int) (Int.tmod (wrap64 (x9_3 + (rd x5_3 (ji39)))) 10)
                    go_wp2_with (first | ((with_reducible refine gate_store (t := 3) (p := 77) rfl ?_); (try (rw [drewN_self wr]; generalize hq_ : World.drewN wr _ = wr; have n0_ := Aside0.mk (Kd.R_at hq_ HO_5.out); have n1_ := Aside0.mk (blk_at hq_ BK546.out); have n2_ := Aside0.mk (blk_at hq_ BK547.out); have n3_ := Aside0.mk (blk_at hq_ BK548.out); have n4_ := Aside0.mk (below_at hq_ HB.out); clear hq_ HO_5 BK546 BK547 BK548 HB; have HO_5 := n0_; have BK546 := n1_; have BK547 := n2_; have BK548 := n3_; have HB := n4_; clear n0_ n1_ n2_ n3_ n4_; (try (have HP43 := Kd.R_putg HO_5.out ((ji39) : Int) (Int.tmod (wrap64 (x9_3 + (rd x5_3 (ji39)))) 10))))); (try (obtain ⟨hyq43_, hzq43_⟩ := Kd.R_celln 0 HO_5.out ((ji39) : Int) (of_decide_eq_true (by first | (with_reducible assumption) | assumption)) (of_decide_eq_true (by first | (with_reducible assumption) | assumption)))); refine store_event (t := 3) (p := 77) (v := ?vo_w44) (w1 := (wr.setCell ⟨go29, ((ji39) : Int).toNat, none⟩ (.int .i64 (Int.tmod (wrap64 (x9_3 + (rd x5_3 (ji39)))) 10)))) ?hg ?ho ?hn ?hr ?_; (case ho => rfl); (case hg => rfl); (case hn => rfl); (case hr => first | (go_simp; done) | (go_simp; rfl)); intro w44 hw; have hg : wr.grownBy w44 (some go29) := (by rw [hw]; exact HP43.2); have hp_ : Kd.R (Kd.int .i64) 3 w44 w.heap.size (fun k_ => (w.heap.size ≤ k_)) (.slice (some ⟨go29, 0, none⟩) x5_3.length co30) y561 := (by rw [hw, Ny561.out]; exact HP43.1); clear HP43; replace BK546 := Aside0.mk (blk_grown (bk BK546.out) hg (Kd.R_ne HO_5.out BK546.out (by decide))); replace BK547 := Aside0.mk (blk_grown (bk BK547.out) hg (Kd.R_ne HO_5.out BK547.out (by decide))); replace BK548 := Aside0.mk (blk_grown (bk BK548.out) hg (Kd.R_ne HO_5.out BK548.out (by decide))); replace HO_5 := Aside0.mk (hp_); replace HB := Aside0.mk ((by rw [hw]; exact below_set (HB.out) GB29.out : Below w.heap.size w w44)); clear hg hw hp_))
                    repeat (go_quiet (first | ((with_reducible refine gate_store (t := 3) (p := 77) rfl ?_); (try (rw [drewN_self wr]; generalize hq_ : World.drewN wr _ = wr; have n0_ := Aside0.mk (Kd.R_at hq_ HO_5.out); have n1_ := Aside0.mk (blk_at hq_ BK546.out); have n2_ := Aside0.mk (blk_at hq_ BK547.out); have n3_ := Aside0.mk (blk_at hq_ BK548.out); have n4_ := Aside0.mk (below_at hq_ HB.out); clear hq_ HO_5 BK546 BK547 BK548 HB; have HO_5 := n0_; have BK546 := n1_; have BK547 := n2_; have BK548 := n3_; have HB := n4_; clear n0_ n1_ n2_ n3_ n4_; (try (have HP43 := Kd.R_putg HO_5.out ((ji39) : Int) (Int.tmod (wrap64 (x9_3 + (rd x5_3 (ji39)))) 10))))); (try (obtain ⟨hyq43_, hzq43_⟩ := Kd.R_celln 0 HO_5.out ((ji39) : Int) (of_decide_eq_true (by first | (with_reducible assumption) | assumption)) (of_decide_eq_true (by first | (with_reducible assumption) | assumption)))); refine store_event (t := 3) (p := 77) (v := ?vo_w44) (w1 := (wr.setCell ⟨go29, ((ji39) : Int).toNat, none⟩ (.int .i64 (Int.tmod (wrap64 (x9_3 + (rd x5_3 (ji39)))) 10)))) ?hg ?ho ?hn ?hr ?_; (case ho => rfl); (case hg => rfl); (case hn => rfl); (case hr => first | (go_simp; done) | (go_simp; rfl)); intro w44 hw; have hg : wr.grownBy w44 (some go29) := (by rw [hw]; exact HP43.2); have hp_ : Kd.R (Kd.int .i64) 3 w44 w.heap.size (fun k_ => (w.heap.size ≤ k_)) (.slice (some ⟨go29, 0, none⟩) x5_3.length co30) y561 := (by rw [hw, Ny561.out]; exact HP43.1); clear HP43; have n0_ := Aside0.mk (hp_); have n1_ := Aside0.mk (blk_grown (bk BK546.out) hg (Kd.R_ne HO_5.out BK546.out (by decide))); have n2_ := Aside0.mk (blk_grown (bk BK547.out) hg (Kd.R_ne HO_5.out BK547.out (by decide))); have n3_ := Aside0.mk (blk_grown (bk BK548.out) hg (Kd.R_ne HO_5.out BK548.out (by decide))); have n4_ := Aside0.mk ((by rw [hw]; exact below_set (HB.out) GB29.out : Below w.heap.size w w44)); clear HO_5; clear BK546; clear BK547; clear BK548; clear HB; have HO_5 := n0_; have BK546 := n1_; have BK547 := n2_; have BK548 := n3_; have HB := n4_; clear n0_ n1_ n2_ n3_ n4_; clear hg hw hp_)); try go_wp2_with (first | ((with_reducible refine gate_store (t := 3) (p := 77) rfl ?_); (try (rw [drewN_self wr]; generalize hq_ : World.drewN wr _ = wr; have n0_ := Aside0.mk (Kd.R_at hq_ HO_5.out); have n1_ := Aside0.mk (blk_at hq_ BK546.out); have n2_ := Aside0.mk (blk_at hq_ BK547.out); have n3_ := Aside0.mk (blk_at hq_ BK548.out); have n4_ := Aside0.mk (below_at hq_ HB.out); clear hq_ HO_5 BK546 BK547 BK548 HB; have HO_5 := n0_; have BK546 := n1_; have BK547 := n2_; have BK548 := n3_; have HB := n4_; clear n0_ n1_ n2_ n3_ n4_; (try (have HP43 := Kd.R_putg HO_5.out ((ji39) : Int) (Int.tmod (wrap64 (x9_3 + (rd x5_3 (ji39)))) 10))))); (try (obtain ⟨hyq43_, hzq43_⟩ := Kd.R_celln 0 HO_5.out ((ji39) : Int) (of_decide_eq_true (by first | (with_reducible assumption) | assumption)) (of_decide_eq_true (by first | (with_reducible assumption) | assumption)))); refine store_event (t := 3) (p := 77) (v := ?vo_w44) (w1 := (wr.setCell ⟨go29, ((ji39) : Int).toNat, none⟩ (.int .i64 (Int.tmod (wrap64 (x9_3 + (rd x5_3 (ji39)))) 10)))) ?hg ?ho ?hn ?hr ?_; (case ho => rfl); (case hg => rfl); (case hn => rfl); (case hr => first | (go_simp; done) | (go_simp; rfl)); intro w44 hw; have hg : wr.grownBy w44 (some go29) := (by rw [hw]; exact HP43.2); have hp_ : Kd.R (Kd.int .i64) 3 w44 w.heap.size (fun k_ => (w.heap.size ≤ k_)) (.slice (some ⟨go29, 0, none⟩) x5_3.length co30) y561 := (by rw [hw, Ny561.out]; exact HP43.1); clear HP43; have n0_ := Aside0.mk (hp_); have n1_ := Aside0.mk (blk_grown (bk BK546.out) hg (Kd.R_ne HO_5.out BK546.out (by decide))); have n2_ := Aside0.mk (blk_grown (bk BK547.out) hg (Kd.R_ne HO_5.out BK547.out (by decide))); have n3_ := Aside0.mk (blk_grown (bk BK548.out) hg (Kd.R_ne HO_5.out BK548.out (by decide))); have n4_ := Aside0.mk ((by rw [hw]; exact below_set (HB.out) GB29.out : Below w.heap.size w w44)); clear HO_5; clear BK546; clear BK547; clear BK548; clear HB; have HO_5 := n0_; have BK546 := n1_; have BK547 := n2_; have BK548 := n3_; have HB := n4_; clear n0_ n1_ n2_ n3_ n4_; clear hg hw hp_)))
                    (try simp only [← hl5_3])
                    go_roundg k3
                    case measure => have := HK1.out; have := HK2.out; have := HK3.out; omega
                    case rel => exact ⟨(y561), (ji39), (wrap64 (Int.tdiv (wrap64 (x9_3 + (rd x5_3 (ji39)))) 10)), (by first | rfl | (simp; done) | (simp only [← hji39] <;> (first | rfl | simp)) | (simp [*]; done)), (by first | rfl | (simp; done) | (simp only [← hji39] <;> (first | rfl | simp)) | (simp [*]; done)), H', ⟨by have := HK1.out; have := HK2.out; have := HK3.out; omega⟩, ⟨by (try simp only [hl5_3]); (with_reducible repeat (first | apply Kd.R_alloc | apply Kd.R_drewN | apply Kd.R_drew)); exact HO_5.out⟩, ⟨by (try simp only [hl5_3]); (with_reducible repeat (first | refine blk_drewN ?_ _ | refine blk_drew ?_ | refine blk_alloc ?_ _)); exact BK546.out⟩, ⟨by (try simp only [hl5_3]); (with_reducible repeat (first | refine blk_drewN ?_ _ | refine blk_drew ?_ | refine blk_alloc ?_ _)); exact BK547.out⟩, ⟨by (try simp only [hl5_3]); (with_reducible repeat (first | refine blk_drewN ?_ _ | refine blk_drew ?_ | refine blk_alloc ?_ _)); exact BK548.out⟩, ⟨bel⟩⟩
                   ·rw [if_neg c41] at H
                    exact absurd H (by simp)
                  ·rw [if_neg c40] at H
                   exact absurd H (by simp)
                 ·rw [if_neg c38] at H
                  have c38b0 : decide (0 < x9_3) = false := decide_eq_false c38
                  clear c38
                  have H' := Aside0.mk H
                  clear H
                  go_wp2
                  repeat (go_quiet (fail); try go_wp2)
                  (try simp only [← hl5_3])
                  go_roundg k3
                  case measure => have := HK1.out; have := HK2.out; have := HK3.out; omega
                  case rel => exact ⟨(x5_3), (wrap64 (x7_2 - 1)), (by first | rfl | (simp; done) | (simp [*]; done)), H', ⟨by have := HK1.out; have := HK2.out; have := HK3.out; omega⟩, ⟨by (try simp only [hl5_3]); (with_reducible repeat (first | apply Kd.R_alloc | apply Kd.R_drewN | apply Kd.R_drew)); exact HO_5.out⟩, ⟨by (try simp only [hl5_3]); (with_reducible repeat (first | refine blk_drewN ?_ _ | refine blk_drew ?_ | refine blk_alloc ?_ _)); exact BK546.out⟩, ⟨by (try simp only [hl5_3]); (with_reducible repeat (first | refine blk_drewN ?_ _ | refine blk_drew ?_ | refine blk_alloc ?_ _)); exact BK547.out⟩, ⟨by (try simp only [hl5_3]); (with_reducible repeat (first | refine blk_drewN ?_ _ | refine blk_drew ?_ | refine blk_alloc ?_ _)); exact BK548.out⟩, ⟨bel⟩⟩
              ·rw [if_neg c28] at H
               exact absurd H (by simp)
             ·rw [if_neg c27] at H
              exact absurd H (by simp)
            ·rw [if_neg c26] at H
             exact absurd H (by simp)
           ·rw [if_neg c25] at H
            exact absurd H (by simp)
          ·rw [if_neg c24] at H
           exact absurd H (by simp)
         ·rw [if_neg c23] at H
          exact absurd H (by simp)
        ·rw [if_neg c21] at H
         have c21b0 : decide (0 ≤ x7_2) = false := decide_eq_false c21
         clear c21
         have H' := Aside0.mk H
         clear H
         go_wp2
         repeat (go_quiet (fail); try go_wp2)
         go_roundg k2
         case measure => have := HK1.out; have := HK2.out; omega
         case rel => exact ⟨(x5_2), (wrap64 (x6_1 - 1)), (by first | rfl | (simp; done) | (simp [*]; done)), H', ⟨by have := HK1.out; have := HK2.out; omega⟩, ⟨kr HO_5.out⟩, ⟨bk BK546.out⟩, ⟨bk BK547.out⟩, ⟨bk BK548.out⟩, ⟨bel⟩⟩
     ·rw [if_neg c17] at H
      have c17b0 : decide (0 ≤ x6_1) = false := decide_eq_false c17
      clear c17
      obtain ⟨⟨t552, t553⟩, A45, H⟩ := bind_ H
      try dsimp only at H
      simp only [Option.some.injEq, Prod.mk.injEq] at H
      obtain ⟨rfl, rfl⟩ := H
      have hnb46 := NB546_547.out
      have hnc46 := NB547_546.out
      have hnb47 := NB546_548.out
      have hnc47 := NB548_546.out
      have hcz48_0 : wr.cell? ⟨gb546, 0, none⟩ = some (.bool a0_0) := (blk_cell BK546.out 0).trans rfl
      have hcz48_1 : wr.cell? ⟨gb546, 1, none⟩ = some (.slice A0_1 l0_1.length c0_1) := (blk_cell BK546.out 1).trans rfl
      have hfz48_0 := blk_frozen BK546.out 0
      have hfz48_1 := blk_frozen BK546.out 1
      have hnb49 := NB547_548.out
      have hnc49 := NB548_547.out
      have hcz50_0 : wr.cell? ⟨gb547, 0, none⟩ = some (.bool a1_0) := (blk_cell BK547.out 0).trans rfl
      have hcz50_1 : wr.cell? ⟨gb547, 1, none⟩ = some (.slice A1_1 l1_1.length c1_1) := (blk_cell BK547.out 1).trans rfl
      have hfz50_0 := blk_frozen BK547.out 0
      have hfz50_1 := blk_frozen BK547.out 1
      obtain ⟨Ao51, co51, eo51⟩ := Kd.R_slice HO_5.out
      subst eo51
      go_wp2_with (first | (go_at_call 41; (refine calls_of_args (show _ = #[Value.bool (a0_0 != a1_0), .slice Ao51 x5_1.length co51] from rfl) ?_); (with_reducible refine (cellarerref02_make0.calls k1 (a0_0 != a1_0) (fun k_ => some k_ = (.slice Ao51 x5_1.length co51 : Value).ownBlock) _ _ x5_1 t552 t553 _ gk ?side2 A45.out).mono ?_); (case side2 => exact Kd.R_V (Kd.R_tight rfl (Kd.R_types (Kd.R_types (Kd.R_types HO_5.out BK546.out (by decide)) BK547.out (by decide)) BK548.out (by decide)))); rintro e w52 ⟨v554, rfl, ho0, hb⟩; have HO555 := Aside0.mk (Kd.V_lower (Kd.V_mono (ok' := fun k_ => (w.heap.size ≤ k_) ∧ k_ ≠ gb546 ∧ k_ ≠ gb547 ∧ k_ ≠ gb548) ho0 (fun k_ hk_ => ⟨Or.elim hk_ (fun hs_ => ((Kd.R_types (Kd.R_types (Kd.R_types HO_5.out BK546.out (by decide)) BK547.out (by decide)) BK548.out (by decide)).1 k_ hs_.symm).1.1.1) (fun hn_ => (Nat.le_trans (below_size bel) hn_)), Or.elim hk_ (fun hs_ => ((Kd.R_types (Kd.R_types (Kd.R_types HO_5.out BK546.out (by decide)) BK547.out (by decide)) BK548.out (by decide)).1 k_ hs_.symm).1.1.2) (fun hn_ => (Kd.freshB (bk BK546.out) k_ hn_)), Or.elim hk_ (fun hs_ => ((Kd.R_types (Kd.R_types (Kd.R_types HO_5.out BK546.out (by decide)) BK547.out (by decide)) BK548.out (by decide)).1 k_ hs_.symm).1.2) (fun hn_ => (Kd.freshB (bk BK547.out) k_ hn_)), Or.elim hk_ (fun hs_ => ((Kd.R_types (Kd.R_types (Kd.R_types HO_5.out BK546.out (by decide)) BK547.out (by decide)) BK548.out (by decide)).1 k_ hs_.symm).2) (fun hn_ => (Kd.freshB (bk BK548.out) k_ hn_))⟩)) (below_size bel)); replace HO_5 := Aside0.mk (Kd.R_below (kr HO_5.out) hb); replace BK546 := Aside0.mk (blk_below (bk BK546.out) hb); replace BK547 := Aside0.mk (blk_below (bk BK547.out) hb); replace BK548 := Aside0.mk (blk_below (bk BK548.out) hb); replace HB := Aside0.mk (below_step bel hb); clear hb ho0; have hcz53_0 : w52.cell? ⟨gb548, 0, none⟩ = some (.bool false) := (blk_cell BK548.out 0).trans rfl; have hcz53_1 : w52.cell? ⟨gb548, 1, none⟩ = some (.slice none 0 0) := (blk_cell BK548.out 1).trans rfl; have hfz53_0 := blk_frozen BK548.out 0; have hfz53_1 := blk_frozen BK548.out 1; obtain ⟨Ao54, co54, eo54⟩ := Kd.V_slice HO555.out; subst eo54))
      repeat (go_quiet (first | (go_at_call 41; (refine calls_of_args (show _ = #[Value.bool (a0_0 != a1_0), .slice Ao51 x5_1.length co51] from rfl) ?_); (with_reducible refine (cellarerref02_make0.calls k1 (a0_0 != a1_0) (fun k_ => some k_ = (.slice Ao51 x5_1.length co51 : Value).ownBlock) _ _ x5_1 t552 t553 _ gk ?side2 A45.out).mono ?_); (case side2 => exact Kd.R_V (Kd.R_tight rfl (Kd.R_types (Kd.R_types (Kd.R_types HO_5.out BK546.out (by decide)) BK547.out (by decide)) BK548.out (by decide)))); rintro e w52 ⟨v554, rfl, ho0, hb⟩; have n0_ := Aside0.mk (Kd.R_below (kr HO_5.out) hb); have n1_ := Aside0.mk (Kd.V_lower (Kd.V_mono (ok' := fun k_ => (w.heap.size ≤ k_) ∧ k_ ≠ gb546 ∧ k_ ≠ gb547 ∧ k_ ≠ gb548) ho0 (fun k_ hk_ => ⟨Or.elim hk_ (fun hs_ => ((Kd.R_types (Kd.R_types (Kd.R_types HO_5.out BK546.out (by decide)) BK547.out (by decide)) BK548.out (by decide)).1 k_ hs_.symm).1.1.1) (fun hn_ => (Nat.le_trans (below_size bel) hn_)), Or.elim hk_ (fun hs_ => ((Kd.R_types (Kd.R_types (Kd.R_types HO_5.out BK546.out (by decide)) BK547.out (by decide)) BK548.out (by decide)).1 k_ hs_.symm).1.1.2) (fun hn_ => (Kd.freshB (bk BK546.out) k_ hn_)), Or.elim hk_ (fun hs_ => ((Kd.R_types (Kd.R_types (Kd.R_types HO_5.out BK546.out (by decide)) BK547.out (by decide)) BK548.out (by decide)).1 k_ hs_.symm).1.2) (fun hn_ => (Kd.freshB (bk BK547.out) k_ hn_)), Or.elim hk_ (fun hs_ => ((Kd.R_types (Kd.R_types (Kd.R_types HO_5.out BK546.out (by decide)) BK547.out (by decide)) BK548.out (by decide)).1 k_ hs_.symm).2) (fun hn_ => (Kd.freshB (bk BK548.out) k_ hn_))⟩)) (below_size bel)); have n2_ := Aside0.mk (blk_below (bk BK546.out) hb); have n3_ := Aside0.mk (blk_below (bk BK547.out) hb); have n4_ := Aside0.mk (blk_below (bk BK548.out) hb); have n5_ := Aside0.mk (below_step bel hb); clear HO_5; clear BK546; clear BK547; clear BK548; clear HB; have HO_5 := n0_; have HO555 := n1_; have BK546 := n2_; have BK547 := n3_; have BK548 := n4_; have HB := n5_; clear n0_ n1_ n2_ n3_ n4_ n5_; (try clear hb); (try clear hb2); (try clear hk); (try clear hi); (try clear ho0); have hcz53_0 : w52.cell? ⟨gb548, 0, none⟩ = some (.bool false) := (blk_cell BK548.out 0).trans rfl; have hcz53_1 : w52.cell? ⟨gb548, 1, none⟩ = some (.slice none 0 0) := (blk_cell BK548.out 1).trans rfl; have hfz53_0 := blk_frozen BK548.out 0; have hfz53_1 := blk_frozen BK548.out 1; obtain ⟨Ao54, co54, eo54⟩ := Kd.V_slice HO555.out; subst eo54)); try go_wp2_with (first | (go_at_call 41; (refine calls_of_args (show _ = #[Value.bool (a0_0 != a1_0), .slice Ao51 x5_1.length co51] from rfl) ?_); (with_reducible refine (cellarerref02_make0.calls k1 (a0_0 != a1_0) (fun k_ => some k_ = (.slice Ao51 x5_1.length co51 : Value).ownBlock) _ _ x5_1 t552 t553 _ gk ?side2 A45.out).mono ?_); (case side2 => exact Kd.R_V (Kd.R_tight rfl (Kd.R_types (Kd.R_types (Kd.R_types HO_5.out BK546.out (by decide)) BK547.out (by decide)) BK548.out (by decide)))); rintro e w52 ⟨v554, rfl, ho0, hb⟩; have n0_ := Aside0.mk (Kd.R_below (kr HO_5.out) hb); have n1_ := Aside0.mk (Kd.V_lower (Kd.V_mono (ok' := fun k_ => (w.heap.size ≤ k_) ∧ k_ ≠ gb546 ∧ k_ ≠ gb547 ∧ k_ ≠ gb548) ho0 (fun k_ hk_ => ⟨Or.elim hk_ (fun hs_ => ((Kd.R_types (Kd.R_types (Kd.R_types HO_5.out BK546.out (by decide)) BK547.out (by decide)) BK548.out (by decide)).1 k_ hs_.symm).1.1.1) (fun hn_ => (Nat.le_trans (below_size bel) hn_)), Or.elim hk_ (fun hs_ => ((Kd.R_types (Kd.R_types (Kd.R_types HO_5.out BK546.out (by decide)) BK547.out (by decide)) BK548.out (by decide)).1 k_ hs_.symm).1.1.2) (fun hn_ => (Kd.freshB (bk BK546.out) k_ hn_)), Or.elim hk_ (fun hs_ => ((Kd.R_types (Kd.R_types (Kd.R_types HO_5.out BK546.out (by decide)) BK547.out (by decide)) BK548.out (by decide)).1 k_ hs_.symm).1.2) (fun hn_ => (Kd.freshB (bk BK547.out) k_ hn_)), Or.elim hk_ (fun hs_ => ((Kd.R_types (Kd.R_types (Kd.R_types HO_5.out BK546.out (by decide)) BK547.out (by decide)) BK548.out (by decide)).1 k_ hs_.symm).2) (fun hn_ => (Kd.freshB (bk BK548.out) k_ hn_))⟩)) (below_size bel)); have n2_ := Aside0.mk (blk_below (bk BK546.out) hb); have n3_ := Aside0.mk (blk_below (bk BK547.out) hb); have n4_ := Aside0.mk (blk_below (bk BK548.out) hb); have n5_ := Aside0.mk (below_step bel hb); clear HO_5; clear BK546; clear BK547; clear BK548; clear HB; have HO_5 := n0_; have HO555 := n1_; have BK546 := n2_; have BK547 := n3_; have BK548 := n4_; have HB := n5_; clear n0_ n1_ n2_ n3_ n4_ n5_; (try clear hb); (try clear hb2); (try clear hk); (try clear hi); (try clear ho0); have hcz53_0 : w52.cell? ⟨gb548, 0, none⟩ = some (.bool false) := (blk_cell BK548.out 0).trans rfl; have hcz53_1 : w52.cell? ⟨gb548, 1, none⟩ = some (.slice none 0 0) := (blk_cell BK548.out 1).trans rfl; have hfz53_0 := blk_frozen BK548.out 0; have hfz53_1 := blk_frozen BK548.out 1; obtain ⟨Ao54, co54, eo54⟩ := Kd.V_slice HO555.out; subst eo54)))
      refine bodyPost_ret (results_cell_row rfl _ _ gb548 32 #[.bool t552, .slice Ao54 t553.length co54] (0, 0) _ rfl (by (with_reducible repeat (first | refine blk_drewN ?_ _ | refine blk_drew ?_ | refine blk_alloc ?_ _)); refine blk_put (cs := #[.bool t552, .slice none 0 0]) ?_ 1 _ rfl; (with_reducible repeat (first | refine blk_drewN ?_ _ | refine blk_drew ?_ | refine blk_alloc ?_ _)); refine blk_put (cs := #[.bool false, .slice none 0 0]) ?_ 0 _ rfl; (with_reducible repeat (first | refine blk_drewN ?_ _ | refine blk_drew ?_ | refine blk_alloc ?_ _)); exact BK548.out) Tryd.underlying32 rfl (by kernel_rfl)) rfl ?_
      exact ⟨_, by first | rfl | (simp [errW_none, errW_some] <;> rfl) | (simp only [← hji3]; first | rfl | (simp [errW_none, errW_some] <;> rfl)) | (simp [*, errW_none, errW_some] <;> rfl), kv (Kd.V_mono (Kd.V_far (p := ⟨gb548, 1, none⟩) (Kd.V_far (p := ⟨gb548, 0, none⟩) (Kd.V_mono HO555.out (fun k_ hk => (⟨hk, hk.2.2.2⟩ : _ ∧ k_ ≠ gb548))) (fun _ hk => hk.2) (.bool t552)) (fun _ hk => hk.2) (.slice Ao54 t553.length co54)) (fun _ hk => hk.1.1)), bel⟩
  ·rw [if_neg c5] at H
   exact absurd H (by simp)
 ·rw [if_neg c4] at H
  exact absurd H (by simp)

/-! ### cellarerref02_From: function 45 -/
set_option maxHeartbeats 8000000 in
set_option maxRecDepth 100000 in
theorem cellarerref02_From.calls (k : Nat) (a0 : Int) (r1 : Bool) (r2 : List Int) (w : World) (hG : GOK w) (h : cellarerref02_From.f k a0 = some (r1, r2)) :
  Calls Tryd.prog 45 #[.int .i64 a0] w fun e w' => ∃ v1_ : Value, e = .returned (.agg #[.bool r1, v1_]) ∧ Kd.V (Kd.int .i64) 3 w' w.heap.size (fun k_ => (w.heap.size ≤ k_)) v1_ r2 ∧ Below w.heap.size w w' := by
 have hu32 := Tryd.underlying32
 replace hG := Aside0.mk hG
 have HB := Aside0.mk (Below.refl w.heap.size w)
 have H : (cellarerref02_From.l0 k a0 (decide (a0 < 0)) ([] : List Int)) = some (r1, r2) := h
 clear h
 have H' := Aside0.mk H
 clear H
 go_enter Tryd.func45, Tryd.ntmps45
 go_wp2_with (first | ((with_reducible refine gate_dst (N := 2) rfl ?_); refine box_event ?hg (N := 2) ?hd (cs := #[.bool false, .slice none 0 0]) (t := 32) ?hr ?_; (case hd => rfl); (case hg => rfl); (case hr => first | (go_simp; done) | (go_simp; rfl)); intro gb581 hg w2 hbox hb; have BK581 := Aside0.mk (hbox); have GW581 := Aside0.mk ((by rw [hg]; exact (below_size bel) : w.heap.size ≤ gb581)); have GE581 := Aside0.mk ((by rw [hg]; exact (below_size bel) : w.heap.size ≤ gb581)); replace HB := Aside0.mk (below_step bel hb); clear hb hbox hg))
 go_loopg [0, 4] k (fun kq v0 v4 w' => ∃ (x0_1 : Int) (x4_1 : List Int), v0 = .int .i64 x0_1 ∧ Aside0 (cellarerref02_From.l0 kq x0_1 (decide (a0 < 0)) x4_1 = some (r1, r2)) ∧ Aside0 (kq ≤ k) ∧ Aside0 (Kd.R (Kd.int .i64) 3 w' w.heap.size (fun k_ => (w.heap.size ≤ k_)) v4 x4_1) ∧ Aside0 (w'.heap[gb581]? = some (.cells #[.bool false, (.slice none 0 0)] 32 (0, 0))) ∧ Aside0 (Below w.heap.size w w'))
 case atStart => exact ⟨(a0), (([] : List Int)), (by first | rfl | (simp; done) | (simp [*]; done)), H', ⟨Nat.le_refl _⟩, ⟨by first | exact Kd.R_nil _ _ _ _ _ | exact Kd.N_nil _ _ _ _ _ | exact Kd.V_nil _ _ _ _ _ | exact Kd.Q_nil _ _ _ _ _ | exact Kd.S_nil _ _ _ _ _⟩, ⟨bk BK581.out⟩, ⟨bel⟩⟩
 case round =>
  clear H'
  (try clear p2)
  obtain ⟨x0_1, x4_1, rfl, HA, HK1, HO_4, BK581, HB⟩ := hrel
  cases gk with
  | zero => exact absurd HA.out (by simp [cellarerref02_From.l0])
  | succ k1 =>
   have H := HA.out
   clear HA
   simp only [cellarerref02_From.l0] at H
   by_cases c3 : x0_1 = 0
   ·rw [if_pos c3] at H
    have c3b0 : (x0_1 == 0) = true := beq_iff_eq.mpr c3
    have c3b1 : (x0_1 != 0) = false := bne_eq_false_iff_eq.mpr c3
    clear c3
    obtain ⟨⟨t582, t583⟩, A4, H⟩ := bind_ H
    try dsimp only at H
    simp only [Option.some.injEq, Prod.mk.injEq] at H
    obtain ⟨rfl, rfl⟩ := H
    obtain ⟨Ao5, co5, eo5⟩ := Kd.R_slice HO_4.out
    subst eo5
    go_wp2_with (first | ((with_reducible refine gate_callee (f := 41) rfl ?_); refine goesL_ (some 24) rfl rfl Tryd.func41 (by kernel_rfl) rfl #[.bool (decide (a0 < 0)), .slice Ao5 x4_1.length co5] rfl ag ?_; (with_reducible refine (cellarerref02_make0.calls k1 (decide (a0 < 0)) (fun k_ => some k_ = (.slice Ao5 x4_1.length co5 : Value).ownBlock) _ _ x4_1 t582 t583 _ gk ?side2 A4.out).mono ?_); (case side2 => exact Kd.R_V (Kd.R_tight rfl (Kd.R_types HO_4.out BK581.out (by decide)))); rintro e w6 ⟨v584, rfl, ho0, hb⟩; refine ⟨_, rfl, ?_⟩; have HO585 := Aside0.mk (Kd.V_lower (Kd.V_mono (ok' := fun k_ => (w.heap.size ≤ k_) ∧ k_ ≠ gb581) ho0 (fun k_ hk_ => ⟨Or.elim hk_ (fun hs_ => ((Kd.R_types HO_4.out BK581.out (by decide)).1 k_ hs_.symm).1) (fun hn_ => (Nat.le_trans (below_size bel) hn_)), Or.elim hk_ (fun hs_ => ((Kd.R_types HO_4.out BK581.out (by decide)).1 k_ hs_.symm).2) (fun hn_ => (Kd.freshB (bk BK581.out) k_ hn_))⟩)) (below_size bel)); replace HO_4 := Aside0.mk (Kd.R_below (kr HO_4.out) hb); replace BK581 := Aside0.mk (blk_below (bk BK581.out) hb); replace HB := Aside0.mk (below_step bel hb); clear hb ho0; have hcz7_0 : w6.cell? ⟨gb581, 0, none⟩ = some (.bool false) := (blk_cell BK581.out 0).trans rfl; have hcz7_1 : w6.cell? ⟨gb581, 1, none⟩ = some (.slice none 0 0) := (blk_cell BK581.out 1).trans rfl; have hfz7_0 := blk_frozen BK581.out 0; have hfz7_1 := blk_frozen BK581.out 1; obtain ⟨Ao8, co8, eo8⟩ := Kd.V_slice HO585.out; subst eo8))
    refine bodyPost_ret (results_cell_row rfl _ _ gb581 32 #[.bool t582, .slice Ao8 t583.length co8] (0, 0) _ rfl (by (with_reducible repeat (first | refine blk_drewN ?_ _ | refine blk_drew ?_ | refine blk_alloc ?_ _)); refine blk_put (cs := #[.bool t582, .slice none 0 0]) ?_ 1 _ rfl; (with_reducible repeat (first | refine blk_drewN ?_ _ | refine blk_drew ?_ | refine blk_alloc ?_ _)); refine blk_put (cs := #[.bool false, .slice none 0 0]) ?_ 0 _ rfl; (with_reducible repeat (first | refine blk_drewN ?_ _ | refine blk_drew ?_ | refine blk_alloc ?_ _)); exact BK581.out) Tryd.underlying32 rfl (by kernel_rfl)) rfl ?_
    exact ⟨_, by first | rfl | (simp [errW_none, errW_some] <;> rfl) | (simp [*, errW_none, errW_some] <;> rfl), kv (Kd.V_mono (Kd.V_far (p := ⟨gb581, 1, none⟩) (Kd.V_far (p := ⟨gb581, 0, none⟩) (Kd.V_mono HO585.out (fun k_ hk => (⟨hk, hk.2⟩ : _ ∧ k_ ≠ gb581))) (fun _ hk => hk.2) (.bool t582)) (fun _ hk => hk.2) (.slice Ao8 t583.length co8)) (fun _ hk => hk.1.1)), bel⟩
   ·rw [if_neg c3] at H
    have c3b0 : (x0_1 == 0) = false := beq_eq_false_iff_ne.mpr c3
    have c3b1 : (x0_1 != 0) = true := bne_iff_ne.mpr c3
    by_cases c9 : (Int.tmod x0_1 10) < 0
    ·rw [if_pos c9] at H
     have c9b0 : decide ((Int.tmod x0_1 10) < 0) = true := decide_eq_true c9
     clear c9
     obtain ⟨y586, hy586⟩ : ∃ y_ : List Int, y_ = (([wrap64 (-(Int.tmod x0_1 10))] : List Int)) := ⟨_, rfl⟩
     replace H : (if y586.length + x4_1.length < 17592186044416 then (cellarerref02_From.l0 k1 (wrap64 (Int.tdiv x0_1 10)) (decide (a0 < 0)) (y586 ++ x4_1)) else (none)) = some (r1, r2) := by first | (rw [hy586]; with_reducible exact H) | (have H2_ := (Option.bind_some _ _).symm.trans H; rw [hy586]; with_reducible exact H2_) | (have H2_ := (Option.bind_some _ _).symm.trans H; with_reducible exact H2_) | with_reducible exact H | (rw [hy586]; exact H) | exact H
     have Ny586 := Aside0.mk hy586
     clear hy586
     by_cases c10 : y586.length + x4_1.length < 17592186044416
     ·rw [if_pos c10] at H
      have LMc10 := Aside0.mk c10
      clear c10
      obtain ⟨y589, hy589⟩ : ∃ y_ : List Int, y_ = (y586 ++ x4_1) := ⟨_, rfl⟩
      replace H : (cellarerref02_From.l0 k1 (wrap64 (Int.tdiv x0_1 10)) (decide (a0 < 0)) y589) = some (r1, r2) := by first | (rw [hy589]; with_reducible exact H) | (have H2_ := (Option.bind_some _ _).symm.trans H; rw [hy589]; with_reducible exact H2_) | (have H2_ := (Option.bind_some _ _).symm.trans H; with_reducible exact H2_) | with_reducible exact H | (rw [hy589]; exact H) | exact H
      have Ny589 := Aside0.mk hy589
      clear hy589
      have H' := Aside0.mk H
      clear H
      go_wp2_with (first | ((with_reducible refine gate_dst (N := 17) rfl ?_); refine Kd.R_lit (Kd.int .i64) _ 3 ?hg (N := 17) ?hd (xs := ([wrap64 (-(Int.tmod x0_1 10))] : List Int)) (inner := [.int .i64 (wrap64 (-(Int.tmod x0_1 10)))]) (ok := fun _ => True) (okp := fun _ => True) ?hr ?hp (fun _ hk => hk) trivial (Below.refl _ _) (Nat.le_refl _) (by simp) ?_; (case hd => rfl); (case hg => rfl); (case hr => first | (go_simp; done) | (go_simp; rfl)); (case hp => exact (Reps.one (show Kd.M (Kd.int .i64) _ _ _ (wrap64 (-(Int.tmod x0_1 10))) [.int .i64 (wrap64 (-(Int.tmod x0_1 10)))] from rfl) (Reps.none _ _))); intro v587 w11 ho12 hb hg_ hnew_; clear hg_ hnew_; (first | rw [← Ny586.out] at ho12 | (simp only [Int.reduceToNat] at ho12; rw [← Ny586.out] at ho12)); have HO588 := Aside0.mk (Kd.R_lower (Kd.R_new' (Kd.R_newM (M := fun k_ => (w.heap.size ≤ k_)) ho12 (below_size bel) (fun k_ h_ => h_)) (Kd.R_lt (kr HO_4.out))) (below_size bel)); replace HO_4 := Aside0.mk (Kd.R_elder' (kr HO_4.out) (Kd.R_base ho12) hb); replace BK581 := Aside0.mk (blk_below (bk BK581.out) hb); replace HB := Aside0.mk (below_step bel hb); clear hb ho12; obtain ⟨Ao14, co14, eo14⟩ := Kd.R_slice HO_4.out; subst eo14) | ((with_reducible refine gate_builtin (b := .append) (xs := #[.tmp 17, .tmp 18]) rfl ?_); at_builtin; refine Kd.R_append_rows (Kd.int .i64) (w0 := w) w.heap.size rfl (.tmp 17) (.tmp 18) 30 3 (.int .i64 0) 8 rfl Tryd.underlying30 info3 rfl (by decide) (by omega) v587 y586 x4_1 _ _ _ (fun k_ => (w.heap.size ≤ k_) ∧ some k_ ≠ (.slice Ao14 x4_1.length co14 : Value).ownBlock) (fun _ => False) rfl rfl ?aO ?aR (fun _ _ h => h) (fun _ h => h.elim) ?aF ?aB ?aS ?aL ?_; (case aR => exact kc ((Kd.R_reads' HO_4.out).2.2)); (case aB => exact bel); (case aF => exact (fun k_ hk => ⟨(Nat.le_trans (below_size bel) hk), Kd.fresh' (Kd.R_lt (kr HO_4.out)) k_ hk⟩)); (case aO => exact (kr (Kd.R_mono HO588.out (fun _ hk => ⟨hk.1.1, hk.2⟩)))); (case aS => exact (below_size bel)); (case aL => have := LMc10.out; omega); intro v590 w13 ho hb hg hat; rw [← Ny589.out] at ho; have HO591 := Aside0.mk (ho); replace HO_4 := Aside0.mk (Kd.R_after (ok := (fun k_ => (w.heap.size ≤ k_))) (kr HO_4.out) hg hat); replace BK581 := Aside0.mk (blk_grown (bk BK581.out) hg (Kd.R_ne HO588.out BK581.out (by decide))); replace HB := Aside0.mk (hb); clear HO588; clear ho hb hg hat))
      go_roundg k1
      case measure => have := HK1.out; omega
      case rel => exact ⟨(wrap64 (Int.tdiv x0_1 10)), (y589), (by first | rfl | (simp; done) | (simp [*]; done)), H', ⟨by have := HK1.out; omega⟩, ⟨kr (Kd.R_mono HO591.out (fun _ hk => hk.1))⟩, ⟨bk BK581.out⟩, ⟨bel⟩⟩
     ·rw [if_neg c10] at H
      exact absurd H (by simp)
    ·rw [if_neg c9] at H
     have c9b0 : decide ((Int.tmod x0_1 10) < 0) = false := decide_eq_false c9
     clear c9
     obtain ⟨y592, hy592⟩ : ∃ y_ : List Int, y_ = (([Int.tmod x0_1 10] : List Int)) := ⟨_, rfl⟩
     replace H : (if y592.length + x4_1.length < 17592186044416 then (cellarerref02_From.l0 k1 (wrap64 (Int.tdiv x0_1 10)) (decide (a0 < 0)) (y592 ++ x4_1)) else (none)) = some (r1, r2) := by first | (rw [hy592]; with_reducible exact H) | (have H2_ := (Option.bind_some _ _).symm.trans H; rw [hy592]; with_reducible exact H2_) | (have H2_ := (Option.bind_some _ _).symm.trans H; with_reducible exact H2_) | with_reducible exact H | (rw [hy592]; exact H) | exact H
     have Ny592 := Aside0.mk hy592
     clear hy592
     by_cases c15 : y592.length + x4_1.length < 17592186044416
     ·rw [if_pos c15] at H
      have LMc15 := Aside0.mk c15
      clear c15
      obtain ⟨y595, hy595⟩ : ∃ y_ : List Int, y_ = (y592 ++ x4_1) := ⟨_, rfl⟩
      replace H : (cellarerref02_From.l0 k1 (wrap64 (Int.tdiv x0_1 10)) (decide (a0 < 0)) y595) = some (r1, r2) := by first | (rw [hy595]; with_reducible exact H) | (have H2_ := (Option.bind_some _ _).symm.trans H; rw [hy595]; with_reducible exact H2_) | (have H2_ := (Option.bind_some _ _).symm.trans H; with_reducible exact H2_) | with_reducible exact H | (rw [hy595]; exact H) | exact H
      have Ny595 := Aside0.mk hy595
      clear hy595
      have H' := Aside0.mk H
      clear H
      go_wp2_with (first | ((with_reducible refine gate_dst (N := 17) rfl ?_); refine Kd.R_lit (Kd.int .i64) _ 3 ?hg (N := 17) ?hd (xs := ([Int.tmod x0_1 10] : List Int)) (inner := [.int .i64 (Int.tmod x0_1 10)]) (ok := fun _ => True) (okp := fun _ => True) ?hr ?hp (fun _ hk => hk) trivial (Below.refl _ _) (Nat.le_refl _) (by simp) ?_; (case hd => rfl); (case hg => rfl); (case hr => first | (go_simp; done) | (go_simp; rfl)); (case hp => exact (Reps.one (show Kd.M (Kd.int .i64) _ _ _ (Int.tmod x0_1 10) [.int .i64 (Int.tmod x0_1 10)] from rfl) (Reps.none _ _))); intro v593 w16 ho17 hb hg_ hnew_; clear hg_ hnew_; (first | rw [← Ny592.out] at ho17 | (simp only [Int.reduceToNat] at ho17; rw [← Ny592.out] at ho17)); have HO594 := Aside0.mk (Kd.R_lower (Kd.R_new' (Kd.R_newM (M := fun k_ => (w.heap.size ≤ k_)) ho17 (below_size bel) (fun k_ h_ => h_)) (Kd.R_lt (kr HO_4.out))) (below_size bel)); replace HO_4 := Aside0.mk (Kd.R_elder' (kr HO_4.out) (Kd.R_base ho17) hb); replace BK581 := Aside0.mk (blk_below (bk BK581.out) hb); replace HB := Aside0.mk (below_step bel hb); clear hb ho17; obtain ⟨Ao19, co19, eo19⟩ := Kd.R_slice HO_4.out; subst eo19) | ((with_reducible refine gate_builtin (b := .append) (xs := #[.tmp 17, .tmp 18]) rfl ?_); at_builtin; refine Kd.R_append_rows (Kd.int .i64) (w0 := w) w.heap.size rfl (.tmp 17) (.tmp 18) 30 3 (.int .i64 0) 8 rfl Tryd.underlying30 info3 rfl (by decide) (by omega) v593 y592 x4_1 _ _ _ (fun k_ => (w.heap.size ≤ k_) ∧ some k_ ≠ (.slice Ao19 x4_1.length co19 : Value).ownBlock) (fun _ => False) rfl rfl ?aO ?aR (fun _ _ h => h) (fun _ h => h.elim) ?aF ?aB ?aS ?aL ?_; (case aR => exact kc ((Kd.R_reads' HO_4.out).2.2)); (case aB => exact bel); (case aF => exact (fun k_ hk => ⟨(Nat.le_trans (below_size bel) hk), Kd.fresh' (Kd.R_lt (kr HO_4.out)) k_ hk⟩)); (case aO => exact (kr (Kd.R_mono HO594.out (fun _ hk => ⟨hk.1.1, hk.2⟩)))); (case aS => exact (below_size bel)); (case aL => have := LMc15.out; omega); intro v596 w18 ho hb hg hat; rw [← Ny595.out] at ho; have HO597 := Aside0.mk (ho); replace HO_4 := Aside0.mk (Kd.R_after (ok := (fun k_ => (w.heap.size ≤ k_))) (kr HO_4.out) hg hat); replace BK581 := Aside0.mk (blk_grown (bk BK581.out) hg (Kd.R_ne HO594.out BK581.out (by decide))); replace HB := Aside0.mk (hb); clear HO594; clear ho hb hg hat))
      go_roundg k1
      case measure => have := HK1.out; omega
      case rel => exact ⟨(wrap64 (Int.tdiv x0_1 10)), (y595), (by first | rfl | (simp; done) | (simp [*]; done)), H', ⟨by have := HK1.out; omega⟩, ⟨kr (Kd.R_mono HO597.out (fun _ hk => hk.1))⟩, ⟨bk BK581.out⟩, ⟨bel⟩⟩
     ·rw [if_neg c15] at H
      exact absurd H (by simp)

end Go.Proofs.YtdnjlmoggnbknaaDoor.PInt
