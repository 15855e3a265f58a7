-- Written by a program of this session's (xprint.py) over the kit's print.
import Derived.Test.YtdnjlmoggnbknaaDoorPIntx0
import Derived.Test.YtdnjlmoggnbknaaDoorPIntx7
import Derived.Test.YtdnjlmoggnbknaaDoorPIntx8
import Derived.Test.YtdnjlmoggnbknaaDoorPIntx9
import Derived.Test.YtdnjlmoggnbknaaDoorPIntx10
import Derived.Test.YtdnjlmoggnbknaaDoorPIntx15
import Derived.Test.YtdnjlmoggnbknaaDoorPIntD
import Derived.Test.YtdnjlmoggnbknaaDoorAuto
namespace Go.Proofs.YtdnjlmoggnbknaaDoor.PInt
open Go.RowKit Go.Proofs.YtdnjlmoggnbknaaDoor.Ext Go.Proofs.YtdnjlmoggnbknaaDoorW.PrintWords Go.Proofs.YtdnjlmoggnbknaaDoorW.PrintLast Go.Proofs.YtdnjlmoggnbknaaDoorW.PrintMore
attribute [local go_sem high] gtr_print leq_print
attribute [local go_sem] max2_int min2_int max_two min_two max_three min_three max_four min_four   -- for this text's walks alone
set_option linter.unusedVariables false
set_option linter.unusedSimpArgs false

/-! ### cellarerref02_Gcd: function 18 -/
set_option maxHeartbeats 8000000 in
set_option maxRecDepth 100000 in
theorem cellarerref02_Gcd.calls (k : Nat) (a0_0 : Bool) (P0_1_ : Nat → Prop) (A0_1 : Option Addr) (c0_1 : Nat) (l0_1 : List Int) (a1_0 : Bool) (P1_1_ : Nat → Prop) (A1_1 : Option Addr) (c1_1 : Nat) (l1_1 : List Int) (r1 : Bool) (r2 : List Int) (w : World) (hG : GOK w) (hs0_1 : Kd.V (Kd.int .i64) 3 w w.heap.size (fun k_ => P0_1_ k_) (.slice A0_1 l0_1.length c0_1) l0_1) (hs1_1 : Kd.V (Kd.int .i64) 3 w w.heap.size (fun k_ => P1_1_ k_) (.slice A1_1 l1_1.length c1_1) l1_1) (h : cellarerref02_Gcd.f k a0_0 l0_1 a1_0 l1_1 = some (r1, r2)) :
  Calls Tryd.prog 18 #[.agg #[.bool a0_0, .slice A0_1 l0_1.length c0_1], .agg #[.bool a1_0, .slice A1_1 l1_1.length c1_1]] w fun e w' => ∃ v1_ : Value, e = .returned (.agg #[.bool r1, v1_]) ∧ Kd.V (Kd.int .i64) 3 w' w.heap.size (fun k_ => ((P0_1_ k_ ∨ P1_1_ k_) ∨ w.heap.size ≤ k_)) v1_ r2 ∧ Below w.heap.size w w' := by
 have hu32 := Tryd.underlying32
 have HO0_1 := Aside0.mk (show Kd.V (Kd.int .i64) 3 w w.heap.size (fun k_ => ((P0_1_ k_ ∨ P1_1_ k_) ∨ w.heap.size ≤ k_)) (.slice A0_1 l0_1.length c0_1) l0_1 from Kd.V_mono hs0_1 (fun k_ hk => .inl (.inl hk)))
 have HO1_1 := Aside0.mk (show Kd.V (Kd.int .i64) 3 w w.heap.size (fun k_ => ((P0_1_ k_ ∨ P1_1_ k_) ∨ w.heap.size ≤ k_)) (.slice A1_1 l1_1.length c1_1) l1_1 from Kd.V_mono hs1_1 (fun k_ hk => .inl (.inr hk)))
 replace hG := Aside0.mk hG
 have HB := Aside0.mk (Below.refl w.heap.size w)
 have H : (cellarerref02_Gcd.l0 k a0_0 l0_1 a1_0 l1_1) = some (r1, r2) := h
 clear h
 have H' := Aside0.mk H
 clear H
 go_enter Tryd.func18, Tryd.ntmps18
 go_wp2_with (first | ((with_reducible refine gate_dst (N := 2) rfl ?_); refine box_event ?hg (N := 2) ?hd (cs := #[.bool a0_0, .slice A0_1 l0_1.length c0_1]) (t := 32) ?hr ?_; (case hd => rfl); (case hg => rfl); (case hr => first | (go_simp; done) | (go_simp; rfl)); intro gb654 hg w3 hbox hb; have BK654 := Aside0.mk (hbox); have GW654 := Aside0.mk ((by rw [hg]; exact (below_size bel) : w.heap.size ≤ gb654)); have GE654 := Aside0.mk ((by rw [hg]; exact (below_size bel) : w.heap.size ≤ gb654)); replace HO0_1 := Aside0.mk (Kd.V_below (Kd.V_elderB (kv HO0_1.out) gb654 (Nat.le_of_eq hg.symm)) hb); replace HO1_1 := Aside0.mk (Kd.V_below (Kd.V_elderB (kv HO1_1.out) gb654 (Nat.le_of_eq hg.symm)) hb); replace HB := Aside0.mk (below_step bel hb); clear hb hbox hg) | ((with_reducible refine gate_dst (N := 3) rfl ?_); refine box_event ?hg (N := 3) ?hd (cs := #[.bool a1_0, .slice A1_1 l1_1.length c1_1]) (t := 32) ?hr ?_; (case hd => rfl); (case hg => rfl); (case hr => first | (go_simp; done) | (go_simp; rfl)); intro gb655 hg w4 hbox hb; have BK655 := Aside0.mk (hbox); have GW655 := Aside0.mk ((by rw [hg]; exact (below_size bel) : w.heap.size ≤ gb655)); have GE655 := Aside0.mk ((by rw [hg]; exact (below_size bel) : w.heap.size ≤ gb655)); have NB654_655 := Aside0.mk ((by rw [hg]; exact Nat.ne_of_lt (blk_lt (bk BK654.out)) : gb654 ≠ gb655)); have NB655_654 := Aside0.mk ((by rw [hg]; exact Nat.ne_of_gt (blk_lt (bk BK654.out)) : gb655 ≠ gb654)); replace HO0_1 := Aside0.mk (Kd.V_below (Kd.V_elderB (kv HO0_1.out) gb655 (Nat.le_of_eq hg.symm)) hb); replace HO1_1 := Aside0.mk (Kd.V_below (Kd.V_elderB (kv HO1_1.out) gb655 (Nat.le_of_eq hg.symm)) hb); replace BK654 := Aside0.mk (blk_below (bk BK654.out) hb); replace HB := Aside0.mk (below_step bel hb); clear hb hbox hg) | ((with_reducible refine gate_dst (N := 4) rfl ?_); refine box_event ?hg (N := 4) ?hd (cs := #[.bool false, .slice none 0 0]) (t := 32) ?hr ?_; (case hd => rfl); (case hg => rfl); (case hr => first | (go_simp; done) | (go_simp; rfl)); intro gb656 hg w5 hbox hb; have BK656 := Aside0.mk (hbox); have GW656 := Aside0.mk ((by rw [hg]; exact (below_size bel) : w.heap.size ≤ gb656)); have GE656 := Aside0.mk ((by rw [hg]; exact (below_size bel) : w.heap.size ≤ gb656)); have NB654_656 := Aside0.mk ((by rw [hg]; exact Nat.ne_of_lt (blk_lt (bk BK654.out)) : gb654 ≠ gb656)); have NB656_654 := Aside0.mk ((by rw [hg]; exact Nat.ne_of_gt (blk_lt (bk BK654.out)) : gb656 ≠ gb654)); have NB655_656 := Aside0.mk ((by rw [hg]; exact Nat.ne_of_lt (blk_lt (bk BK655.out)) : gb655 ≠ gb656)); have NB656_655 := Aside0.mk ((by rw [hg]; exact Nat.ne_of_gt (blk_lt (bk BK655.out)) : gb656 ≠ gb655)); replace HO0_1 := Aside0.mk (Kd.V_below (Kd.V_elderB (kv HO0_1.out) gb656 (Nat.le_of_eq hg.symm)) hb); replace HO1_1 := Aside0.mk (Kd.V_below (Kd.V_elderB (kv HO1_1.out) gb656 (Nat.le_of_eq hg.symm)) hb); replace BK654 := Aside0.mk (blk_below (bk BK654.out) hb); replace BK655 := Aside0.mk (blk_below (bk BK655.out) hb); replace HB := Aside0.mk (below_step bel hb); clear hb hbox hg))
 go_simp
 go_loopg [] k (fun kq w' => ∃ (x655000_1 : Bool) (x655001_1 : List Int) (x656000_1 : Bool) (x656001_1 : List Int) (u655001 : Value) (u656001 : Value), Aside0 (cellarerref02_Gcd.l0 kq x655000_1 x655001_1 x656000_1 x656001_1 = some (r1, r2)) ∧ Aside0 (kq ≤ k) ∧ Aside0 (Kd.V (Kd.int .i64) 3 w' w.heap.size (fun k_ => ((P0_1_ k_ ∨ P1_1_ k_) ∨ w.heap.size ≤ k_) ∧ k_ ≠ gb654 ∧ k_ ≠ gb655 ∧ k_ ≠ gb656) u655001 x655001_1) ∧ Aside0 (Kd.V (Kd.int .i64) 3 w' w.heap.size (fun k_ => ((P0_1_ k_ ∨ P1_1_ k_) ∨ w.heap.size ≤ k_) ∧ k_ ≠ gb654 ∧ k_ ≠ gb655 ∧ k_ ≠ gb656) u656001 x656001_1) ∧ Aside0 (w'.heap[gb654]? = some (.cells #[.bool x655000_1, u655001] 32 (0, 0))) ∧ Aside0 (w'.heap[gb655]? = some (.cells #[.bool x656000_1, u656001] 32 (0, 0))) ∧ Aside0 (w'.heap[gb656]? = some (.cells #[.bool false, (.slice none 0 0)] 32 (0, 0))) ∧ Aside0 (Below w.heap.size w w'))
 case atStart => exact ⟨(a0_0), (l0_1), (a1_0), (l1_1), (.slice A0_1 l0_1.length c0_1), (.slice A1_1 l1_1.length c1_1), H', ⟨Nat.le_refl _⟩, ⟨kv (Kd.V_mono HO0_1.out (fun _ hk => ⟨hk.1.1.1, ⟨hk.1.1.2, ⟨hk.1.2, hk.2⟩⟩⟩))⟩, ⟨kv (Kd.V_mono HO1_1.out (fun _ hk => ⟨hk.1.1.1, ⟨hk.1.1.2, ⟨hk.1.2, hk.2⟩⟩⟩))⟩, ⟨bk BK654.out⟩, ⟨bk BK655.out⟩, ⟨bk BK656.out⟩, ⟨bel⟩⟩
 case round =>
  clear H'
  (try clear c1); (try clear p2)
  obtain ⟨x655000_1, x655001_1, x656000_1, x656001_1, u655001, u656001, HA, HK1, HO_655001, HO_656001, BK654, BK655, BK656, HB⟩ := hrel
  cases gk with
  | zero => exact absurd HA.out (by simp [cellarerref02_Gcd.l0])
  | succ k1 =>
   have H := HA.out
   clear HA
   simp only [cellarerref02_Gcd.l0] at H
   by_cases c6 : (x656001_1.length : Int) > 0
   ·rw [if_pos c6] at H
    have c6b0 : decide (0 < (x656001_1.length : Int)) = true := decide_eq_true c6
    have c6b1 : decide (0 < x656001_1.length) = true := decide_eq_true (by omega)
    clear c6
    obtain ⟨⟨t657, t658, t661, t662⟩, A7, H⟩ := bind_ H
    try dsimp only at H
    have H' := Aside0.mk H
    clear H
    have hnb8 := NB655_654.out
    have hnc8 := NB654_655.out
    have hnb9 := NB655_656.out
    have hnc9 := NB656_655.out
    have hcz10_0 : wr.cell? ⟨gb655, 0, none⟩ = some (.bool x656000_1) := (blk_cell BK655.out 0).trans rfl
    have hcz10_1 : wr.cell? ⟨gb655, 1, none⟩ = some (u656001) := (blk_cell BK655.out 1).trans rfl
    have hfz10_0 := blk_frozen BK655.out 0
    have hfz10_1 := blk_frozen BK655.out 1
    obtain ⟨Ao11, co11, eo11⟩ := Kd.V_slice HO_656001.out
    subst eo11
    have hnb12 := NB654_656.out
    have hnc12 := NB656_654.out
    have hcz13_0 : wr.cell? ⟨gb654, 0, none⟩ = some (.bool x655000_1) := (blk_cell BK654.out 0).trans rfl
    have hcz13_1 : wr.cell? ⟨gb654, 1, none⟩ = some (u655001) := (blk_cell BK654.out 1).trans rfl
    have hfz13_0 := blk_frozen BK654.out 0
    have hfz13_1 := blk_frozen BK654.out 1
    obtain ⟨Ao14, co14, eo14⟩ := Kd.V_slice HO_655001.out
    subst eo14
    try go_wp2_with (first | ((with_reducible refine gate_callee (f := 19) rfl ?_); refine goesL_ (some 14) rfl rfl Tryd.func19 (by kernel_rfl) rfl #[.agg #[.bool x655000_1, .slice Ao14 x655001_1.length co14], .agg #[.bool x656000_1, .slice Ao11 x656001_1.length co11]] rfl ag ?_; (with_reducible refine (cellarerref02_DivMod.calls k1 x655000_1 _ _ x655001_1 x656000_1 _ _ x656001_1 t657 t658 t661 t662 _ gk ?side2 ?side3 ?side4 ?side5 A7.out).mono ?_); (case side2 => exact kc ((Kd.V_reads' HO_655001.out).2.2)); (case side3 => exact (Kd.V_reads' HO_655001.out).2.1); (case side4 => exact kc ((Kd.V_reads' HO_656001.out).2.2)); (case side5 => exact (Kd.V_reads' HO_656001.out).2.1); rintro e w15 ⟨v659, v663, rfl, ho0, ho1, hb⟩; refine ⟨_, rfl, ?_⟩; have HO660 := Aside0.mk (Kd.V_lower (Kd.V_mono (ok' := fun k_ => ((P0_1_ k_ ∨ P1_1_ k_) ∨ w.heap.size ≤ k_) ∧ k_ ≠ gb654 ∧ k_ ≠ gb655 ∧ k_ ≠ gb656) ho0 (fun k_ hk_ => ⟨(.inr (Nat.le_trans (below_size bel) hk_)), (Kd.freshB (bk BK654.out) k_ hk_), (Kd.freshB (bk BK655.out) k_ hk_), (Kd.freshB (bk BK656.out) k_ hk_)⟩)) (below_size bel)); have HO664 := Aside0.mk (Kd.V_lower (Kd.V_mono (ok' := fun k_ => ((P0_1_ k_ ∨ P1_1_ k_) ∨ w.heap.size ≤ k_) ∧ k_ ≠ gb654 ∧ k_ ≠ gb655 ∧ k_ ≠ gb656) ho1 (fun k_ hk_ => ⟨(.inr (Nat.le_trans (below_size bel) hk_)), (Kd.freshB (bk BK654.out) k_ hk_), (Kd.freshB (bk BK655.out) k_ hk_), (Kd.freshB (bk BK656.out) k_ hk_)⟩)) (below_size bel)); replace HO_655001 := Aside0.mk (Kd.V_below (kv HO_655001.out) hb); replace HO_656001 := Aside0.mk (Kd.V_below (kv HO_656001.out) hb); replace BK654 := Aside0.mk (blk_below (bk BK654.out) hb); replace BK655 := Aside0.mk (blk_below (bk BK655.out) hb); replace BK656 := Aside0.mk (blk_below (bk BK656.out) hb); replace HB := Aside0.mk (below_step bel hb); clear hb ho0 ho1) | ((with_reducible refine gate_dst (N := 5) rfl ?_); refine box_event ?hg (N := 5) ?hd (cs := #[.bool false, .slice none 0 0]) (t := 32) ?hr ?_; (case hd => rfl); (case hg => rfl); (case hr => first | (go_simp; done) | (go_simp; rfl)); intro gb665 hg w16 hbox hb; have BK665 := Aside0.mk (hbox); have GW665 := Aside0.mk ((by rw [hg]; exact (below_size bel) : w.heap.size ≤ gb665)); have GE665 := Aside0.mk ((by rw [hg]; exact (below_size bel) : w.heap.size ≤ gb665)); have NB654_665 := Aside0.mk ((by rw [hg]; exact Nat.ne_of_lt (blk_lt (bk BK654.out)) : gb654 ≠ gb665)); have NB665_654 := Aside0.mk ((by rw [hg]; exact Nat.ne_of_gt (blk_lt (bk BK654.out)) : gb665 ≠ gb654)); have NB655_665 := Aside0.mk ((by rw [hg]; exact Nat.ne_of_lt (blk_lt (bk BK655.out)) : gb655 ≠ gb665)); have NB665_655 := Aside0.mk ((by rw [hg]; exact Nat.ne_of_gt (blk_lt (bk BK655.out)) : gb665 ≠ gb655)); have NB656_665 := Aside0.mk ((by rw [hg]; exact Nat.ne_of_lt (blk_lt (bk BK656.out)) : gb656 ≠ gb665)); have NB665_656 := Aside0.mk ((by rw [hg]; exact Nat.ne_of_gt (blk_lt (bk BK656.out)) : gb665 ≠ gb656)); replace HO_655001 := Aside0.mk (Kd.V_below (Kd.V_elderB (kv HO_655001.out) gb665 (Nat.le_of_eq hg.symm)) hb); replace HO_656001 := Aside0.mk (Kd.V_below (Kd.V_elderB (kv HO_656001.out) gb665 (Nat.le_of_eq hg.symm)) hb); replace HO660 := Aside0.mk (Kd.V_below (Kd.V_elderB (kv HO660.out) gb665 (Nat.le_of_eq hg.symm)) hb); replace HO664 := Aside0.mk (Kd.V_below (Kd.V_elderB (kv HO664.out) gb665 (Nat.le_of_eq hg.symm)) hb); replace BK654 := Aside0.mk (blk_below (bk BK654.out) hb); replace BK655 := Aside0.mk (blk_below (bk BK655.out) hb); replace BK656 := Aside0.mk (blk_below (bk BK656.out) hb); replace HB := Aside0.mk (below_step bel hb); clear hb hbox hg) | ((with_reducible refine gate_dst (N := 6) rfl ?_); refine box_event ?hg (N := 6) ?hd (cs := #[.bool false, .slice none 0 0]) (t := 32) ?hr ?_; (case hd => rfl); (case hg => rfl); (case hr => first | (go_simp; done) | (go_simp; rfl)); intro gb666 hg w17 hbox hb; have BK666 := Aside0.mk (hbox); have GW666 := Aside0.mk ((by rw [hg]; exact (below_size bel) : w.heap.size ≤ gb666)); have GE666 := Aside0.mk ((by rw [hg]; exact (below_size bel) : w.heap.size ≤ gb666)); have NB654_666 := Aside0.mk ((by rw [hg]; exact Nat.ne_of_lt (blk_lt (bk BK654.out)) : gb654 ≠ gb666)); have NB666_654 := Aside0.mk ((by rw [hg]; exact Nat.ne_of_gt (blk_lt (bk BK654.out)) : gb666 ≠ gb654)); have NB655_666 := Aside0.mk ((by rw [hg]; exact Nat.ne_of_lt (blk_lt (bk BK655.out)) : gb655 ≠ gb666)); have NB666_655 := Aside0.mk ((by rw [hg]; exact Nat.ne_of_gt (blk_lt (bk BK655.out)) : gb666 ≠ gb655)); have NB656_666 := Aside0.mk ((by rw [hg]; exact Nat.ne_of_lt (blk_lt (bk BK656.out)) : gb656 ≠ gb666)); have NB666_656 := Aside0.mk ((by rw [hg]; exact Nat.ne_of_gt (blk_lt (bk BK656.out)) : gb666 ≠ gb656)); have NB665_666 := Aside0.mk ((by rw [hg]; exact Nat.ne_of_lt (blk_lt (bk BK665.out)) : gb665 ≠ gb666)); have NB666_665 := Aside0.mk ((by rw [hg]; exact Nat.ne_of_gt (blk_lt (bk BK665.out)) : gb666 ≠ gb665)); replace HO_655001 := Aside0.mk (Kd.V_below (Kd.V_elderB (kv HO_655001.out) gb666 (Nat.le_of_eq hg.symm)) hb); replace HO_656001 := Aside0.mk (Kd.V_below (Kd.V_elderB (kv HO_656001.out) gb666 (Nat.le_of_eq hg.symm)) hb); replace HO660 := Aside0.mk (Kd.V_below (Kd.V_elderB (kv HO660.out) gb666 (Nat.le_of_eq hg.symm)) hb); replace HO664 := Aside0.mk (Kd.V_below (Kd.V_elderB (kv HO664.out) gb666 (Nat.le_of_eq hg.symm)) hb); replace BK654 := Aside0.mk (blk_below (bk BK654.out) hb); replace BK655 := Aside0.mk (blk_below (bk BK655.out) hb); replace BK656 := Aside0.mk (blk_below (bk BK656.out) hb); replace BK665 := Aside0.mk (blk_below (bk BK665.out) hb); replace HB := Aside0.mk (below_step bel hb); clear hb hbox hg; have hnb18 := NB665_654.out; have hnc18 := NB654_665.out; have hnb19 := NB665_655.out; have hnc19 := NB655_665.out; have hnb20 := NB665_656.out; have hnc20 := NB656_665.out; have hnb21 := NB665_666.out; have hnc21 := NB666_665.out; have hcz22_0 : w17.cell? ⟨gb665, 0, none⟩ = some (.bool false) := (blk_cell BK665.out 0).trans rfl; have hcz22_1 : w17.cell? ⟨gb665, 1, none⟩ = some (.slice none 0 0) := (blk_cell BK665.out 1).trans rfl; have hfz22_0 := blk_frozen BK665.out 0; have hfz22_1 := blk_frozen BK665.out 1; obtain ⟨Ao23, co23, eo23⟩ := Kd.V_slice HO660.out; subst eo23; have hnb24 := NB666_654.out; have hnc24 := NB654_666.out; have hnb25 := NB666_655.out; have hnc25 := NB655_666.out; have hnb26 := NB666_656.out; have hnc26 := NB656_666.out; have hcz27_0 : w17.cell? ⟨gb666, 0, none⟩ = some (.bool false) := (blk_cell BK666.out 0).trans rfl; have hcz27_1 : w17.cell? ⟨gb666, 1, none⟩ = some (.slice none 0 0) := (blk_cell BK666.out 1).trans rfl; have hfz27_0 := blk_frozen BK666.out 0; have hfz27_1 := blk_frozen BK666.out 1; obtain ⟨Ao28, co28, eo28⟩ := Kd.V_slice HO664.out; subst eo28))
    have n0_ : Aside0 (Kd.V (Kd.int .i64) 3 ((((w17.setCell ⟨gb665, 0, none⟩ (.bool t657)).setCell ⟨gb665, 1, none⟩ (.slice Ao23 t658.length co23)).setCell ⟨gb666, 0, none⟩ (.bool t661)).setCell ⟨gb666, 1, none⟩ (.slice Ao28 t662.length co28)) w.heap.size (fun k_ => ((P0_1_ k_ ∨ P1_1_ k_) ∨ w.heap.size ≤ k_) ∧ k_ ≠ gb654 ∧ k_ ≠ gb655 ∧ k_ ≠ gb656 ∧ k_ ≠ gb665 ∧ k_ ≠ gb666) (.slice Ao14 x655001_1.length co14) x655001_1) := ⟨kv (Kd.V_mono (Kd.V_far (p := ⟨gb666, 1, none⟩) (Kd.V_far (p := ⟨gb666, 0, none⟩) (Kd.V_far (p := ⟨gb665, 1, none⟩) (Kd.V_far (p := ⟨gb665, 0, none⟩) (Kd.V_mono (Kd.V_mono HO_655001.out (fun k_ hk => (⟨hk, hk.1.2⟩ : _ ∧ k_ ≠ gb665))) (fun k_ hk => (⟨hk, hk.1.2⟩ : _ ∧ k_ ≠ gb666))) (fun _ hk => hk.1.2) (.bool t657)) (fun _ hk => hk.1.2) (.slice Ao23 t658.length co23)) (fun _ hk => hk.2) (.bool t661)) (fun _ hk => hk.2) (.slice Ao28 t662.length co28)) (fun _ hk => ⟨hk.1.1.1.1.1, ⟨hk.1.1.1.1.2.1, ⟨hk.1.1.1.1.2.2.1, ⟨hk.1.1.1.1.2.2.2, ⟨hk.1.1.1.2, hk.1.1.2⟩⟩⟩⟩⟩))⟩
    have n1_ : Aside0 (Kd.V (Kd.int .i64) 3 ((((w17.setCell ⟨gb665, 0, none⟩ (.bool t657)).setCell ⟨gb665, 1, none⟩ (.slice Ao23 t658.length co23)).setCell ⟨gb666, 0, none⟩ (.bool t661)).setCell ⟨gb666, 1, none⟩ (.slice Ao28 t662.length co28)) w.heap.size (fun k_ => ((P0_1_ k_ ∨ P1_1_ k_) ∨ w.heap.size ≤ k_) ∧ k_ ≠ gb654 ∧ k_ ≠ gb655 ∧ k_ ≠ gb656 ∧ k_ ≠ gb665 ∧ k_ ≠ gb666) (.slice Ao11 x656001_1.length co11) x656001_1) := ⟨kv (Kd.V_mono (Kd.V_far (p := ⟨gb666, 1, none⟩) (Kd.V_far (p := ⟨gb666, 0, none⟩) (Kd.V_far (p := ⟨gb665, 1, none⟩) (Kd.V_far (p := ⟨gb665, 0, none⟩) (Kd.V_mono (Kd.V_mono HO_656001.out (fun k_ hk => (⟨hk, hk.1.2⟩ : _ ∧ k_ ≠ gb665))) (fun k_ hk => (⟨hk, hk.1.2⟩ : _ ∧ k_ ≠ gb666))) (fun _ hk => hk.1.2) (.bool t657)) (fun _ hk => hk.1.2) (.slice Ao23 t658.length co23)) (fun _ hk => hk.2) (.bool t661)) (fun _ hk => hk.2) (.slice Ao28 t662.length co28)) (fun _ hk => ⟨hk.1.1.1.1.1, ⟨hk.1.1.1.1.2.1, ⟨hk.1.1.1.1.2.2.1, ⟨hk.1.1.1.1.2.2.2, ⟨hk.1.1.1.2, hk.1.1.2⟩⟩⟩⟩⟩))⟩
    have n2_ : Aside0 (Kd.V (Kd.int .i64) 3 ((((w17.setCell ⟨gb665, 0, none⟩ (.bool t657)).setCell ⟨gb665, 1, none⟩ (.slice Ao23 t658.length co23)).setCell ⟨gb666, 0, none⟩ (.bool t661)).setCell ⟨gb666, 1, none⟩ (.slice Ao28 t662.length co28)) w.heap.size (fun k_ => ((P0_1_ k_ ∨ P1_1_ k_) ∨ w.heap.size ≤ k_) ∧ k_ ≠ gb654 ∧ k_ ≠ gb655 ∧ k_ ≠ gb656 ∧ k_ ≠ gb665 ∧ k_ ≠ gb666) (.slice Ao23 t658.length co23) t658) := ⟨kv (Kd.V_mono (Kd.V_far (p := ⟨gb666, 1, none⟩) (Kd.V_far (p := ⟨gb666, 0, none⟩) (Kd.V_far (p := ⟨gb665, 1, none⟩) (Kd.V_far (p := ⟨gb665, 0, none⟩) (Kd.V_mono (Kd.V_mono HO660.out (fun k_ hk => (⟨hk, hk.1.2⟩ : _ ∧ k_ ≠ gb665))) (fun k_ hk => (⟨hk, hk.1.2⟩ : _ ∧ k_ ≠ gb666))) (fun _ hk => hk.1.2) (.bool t657)) (fun _ hk => hk.1.2) (.slice Ao23 t658.length co23)) (fun _ hk => hk.2) (.bool t661)) (fun _ hk => hk.2) (.slice Ao28 t662.length co28)) (fun _ hk => ⟨hk.1.1.1.1.1, ⟨hk.1.1.1.1.2.1, ⟨hk.1.1.1.1.2.2.1, ⟨hk.1.1.1.1.2.2.2, ⟨hk.1.1.1.2, hk.1.1.2⟩⟩⟩⟩⟩))⟩
    have n3_ : Aside0 (Kd.V (Kd.int .i64) 3 ((((w17.setCell ⟨gb665, 0, none⟩ (.bool t657)).setCell ⟨gb665, 1, none⟩ (.slice Ao23 t658.length co23)).setCell ⟨gb666, 0, none⟩ (.bool t661)).setCell ⟨gb666, 1, none⟩ (.slice Ao28 t662.length co28)) w.heap.size (fun k_ => ((P0_1_ k_ ∨ P1_1_ k_) ∨ w.heap.size ≤ k_) ∧ k_ ≠ gb654 ∧ k_ ≠ gb655 ∧ k_ ≠ gb656 ∧ k_ ≠ gb665 ∧ k_ ≠ gb666) (.slice Ao28 t662.length co28) t662) := ⟨kv (Kd.V_mono (Kd.V_far (p := ⟨gb666, 1, none⟩) (Kd.V_far (p := ⟨gb666, 0, none⟩) (Kd.V_far (p := ⟨gb665, 1, none⟩) (Kd.V_far (p := ⟨gb665, 0, none⟩) (Kd.V_mono (Kd.V_mono HO664.out (fun k_ hk => (⟨hk, hk.1.2⟩ : _ ∧ k_ ≠ gb665))) (fun k_ hk => (⟨hk, hk.1.2⟩ : _ ∧ k_ ≠ gb666))) (fun _ hk => hk.1.2) (.bool t657)) (fun _ hk => hk.1.2) (.slice Ao23 t658.length co23)) (fun _ hk => hk.2) (.bool t661)) (fun _ hk => hk.2) (.slice Ao28 t662.length co28)) (fun _ hk => ⟨hk.1.1.1.1.1, ⟨hk.1.1.1.1.2.1, ⟨hk.1.1.1.1.2.2.1, ⟨hk.1.1.1.1.2.2.2, ⟨hk.1.1.1.2, hk.1.1.2⟩⟩⟩⟩⟩))⟩
    have n4_ : Aside0 (((((w17.setCell ⟨gb665, 0, none⟩ (.bool t657)).setCell ⟨gb665, 1, none⟩ (.slice Ao23 t658.length co23)).setCell ⟨gb666, 0, none⟩ (.bool t661)).setCell ⟨gb666, 1, none⟩ (.slice Ao28 t662.length co28)).heap[gb654]? = some (.cells #[.bool x655000_1, .slice Ao14 x655001_1.length co14] 32 (0, 0))) := ⟨by (with_reducible repeat (first | refine blk_drewN ?_ _ | refine blk_drew ?_ | refine blk_alloc ?_ _)); refine blk_far ?_ NB654_666.out _; (with_reducible repeat (first | refine blk_drewN ?_ _ | refine blk_drew ?_ | refine blk_alloc ?_ _)); refine blk_far ?_ NB654_666.out _; (with_reducible repeat (first | refine blk_drewN ?_ _ | refine blk_drew ?_ | refine blk_alloc ?_ _)); refine blk_far ?_ NB654_665.out _; (with_reducible repeat (first | refine blk_drewN ?_ _ | refine blk_drew ?_ | refine blk_alloc ?_ _)); refine blk_far ?_ NB654_665.out _; (with_reducible repeat (first | refine blk_drewN ?_ _ | refine blk_drew ?_ | refine blk_alloc ?_ _)); exact BK654.out⟩
    have n5_ : Aside0 (((((w17.setCell ⟨gb665, 0, none⟩ (.bool t657)).setCell ⟨gb665, 1, none⟩ (.slice Ao23 t658.length co23)).setCell ⟨gb666, 0, none⟩ (.bool t661)).setCell ⟨gb666, 1, none⟩ (.slice Ao28 t662.length co28)).heap[gb655]? = some (.cells #[.bool x656000_1, .slice Ao11 x656001_1.length co11] 32 (0, 0))) := ⟨by (with_reducible repeat (first | refine blk_drewN ?_ _ | refine blk_drew ?_ | refine blk_alloc ?_ _)); refine blk_far ?_ NB655_666.out _; (with_reducible repeat (first | refine blk_drewN ?_ _ | refine blk_drew ?_ | refine blk_alloc ?_ _)); refine blk_far ?_ NB655_666.out _; (with_reducible repeat (first | refine blk_drewN ?_ _ | refine blk_drew ?_ | refine blk_alloc ?_ _)); refine blk_far ?_ NB655_665.out _; (with_reducible repeat (first | refine blk_drewN ?_ _ | refine blk_drew ?_ | refine blk_alloc ?_ _)); refine blk_far ?_ NB655_665.out _; (with_reducible repeat (first | refine blk_drewN ?_ _ | refine blk_drew ?_ | refine blk_alloc ?_ _)); exact BK655.out⟩
    have n6_ : Aside0 (((((w17.setCell ⟨gb665, 0, none⟩ (.bool t657)).setCell ⟨gb665, 1, none⟩ (.slice Ao23 t658.length co23)).setCell ⟨gb666, 0, none⟩ (.bool t661)).setCell ⟨gb666, 1, none⟩ (.slice Ao28 t662.length co28)).heap[gb656]? = some (.cells #[.bool false, .slice none 0 0] 32 (0, 0))) := ⟨by (with_reducible repeat (first | refine blk_drewN ?_ _ | refine blk_drew ?_ | refine blk_alloc ?_ _)); refine blk_far ?_ NB656_666.out _; (with_reducible repeat (first | refine blk_drewN ?_ _ | refine blk_drew ?_ | refine blk_alloc ?_ _)); refine blk_far ?_ NB656_666.out _; (with_reducible repeat (first | refine blk_drewN ?_ _ | refine blk_drew ?_ | refine blk_alloc ?_ _)); refine blk_far ?_ NB656_665.out _; (with_reducible repeat (first | refine blk_drewN ?_ _ | refine blk_drew ?_ | refine blk_alloc ?_ _)); refine blk_far ?_ NB656_665.out _; (with_reducible repeat (first | refine blk_drewN ?_ _ | refine blk_drew ?_ | refine blk_alloc ?_ _)); exact BK656.out⟩
    have n7_ : Aside0 (((((w17.setCell ⟨gb665, 0, none⟩ (.bool t657)).setCell ⟨gb665, 1, none⟩ (.slice Ao23 t658.length co23)).setCell ⟨gb666, 0, none⟩ (.bool t661)).setCell ⟨gb666, 1, none⟩ (.slice Ao28 t662.length co28)).heap[gb665]? = some (.cells #[.bool t657, .slice Ao23 t658.length co23] 32 (0, 0))) := ⟨by (with_reducible repeat (first | refine blk_drewN ?_ _ | refine blk_drew ?_ | refine blk_alloc ?_ _)); refine blk_far ?_ NB665_666.out _; (with_reducible repeat (first | refine blk_drewN ?_ _ | refine blk_drew ?_ | refine blk_alloc ?_ _)); refine blk_far ?_ NB665_666.out _; (with_reducible repeat (first | refine blk_drewN ?_ _ | refine blk_drew ?_ | refine blk_alloc ?_ _)); refine blk_put (cs := #[.bool t657, .slice none 0 0]) ?_ 1 _ rfl; (with_reducible repeat (first | refine blk_drewN ?_ _ | refine blk_drew ?_ | refine blk_alloc ?_ _)); refine blk_put (cs := #[.bool false, .slice none 0 0]) ?_ 0 _ rfl; (with_reducible repeat (first | refine blk_drewN ?_ _ | refine blk_drew ?_ | refine blk_alloc ?_ _)); exact BK665.out⟩
    have n8_ : Aside0 (((((w17.setCell ⟨gb665, 0, none⟩ (.bool t657)).setCell ⟨gb665, 1, none⟩ (.slice Ao23 t658.length co23)).setCell ⟨gb666, 0, none⟩ (.bool t661)).setCell ⟨gb666, 1, none⟩ (.slice Ao28 t662.length co28)).heap[gb666]? = some (.cells #[.bool t661, .slice Ao28 t662.length co28] 32 (0, 0))) := ⟨by (with_reducible repeat (first | refine blk_drewN ?_ _ | refine blk_drew ?_ | refine blk_alloc ?_ _)); refine blk_put (cs := #[.bool t661, .slice none 0 0]) ?_ 1 _ rfl; (with_reducible repeat (first | refine blk_drewN ?_ _ | refine blk_drew ?_ | refine blk_alloc ?_ _)); refine blk_put (cs := #[.bool false, .slice none 0 0]) ?_ 0 _ rfl; (with_reducible repeat (first | refine blk_drewN ?_ _ | refine blk_drew ?_ | refine blk_alloc ?_ _)); refine blk_far ?_ NB666_665.out _; (with_reducible repeat (first | refine blk_drewN ?_ _ | refine blk_drew ?_ | refine blk_alloc ?_ _)); refine blk_far ?_ NB666_665.out _; (with_reducible repeat (first | refine blk_drewN ?_ _ | refine blk_drew ?_ | refine blk_alloc ?_ _)); exact BK666.out⟩
    have n9_ : Aside0 (Below w.heap.size w ((((w17.setCell ⟨gb665, 0, none⟩ (.bool t657)).setCell ⟨gb665, 1, none⟩ (.slice Ao23 t658.length co23)).setCell ⟨gb666, 0, none⟩ (.bool t661)).setCell ⟨gb666, 1, none⟩ (.slice Ao28 t662.length co28))) := ⟨bel⟩
    (try clear HO_655001); (try clear HO_656001); (try clear HO660); (try clear HO664); (try clear BK654); (try clear BK655); (try clear BK656); (try clear BK665); (try clear BK666); (try clear HB)
    generalize ((((w17.setCell ⟨gb665, 0, none⟩ (.bool t657)).setCell ⟨gb665, 1, none⟩ (.slice Ao23 t658.length co23)).setCell ⟨gb666, 0, none⟩ (.bool t661)).setCell ⟨gb666, 1, none⟩ (.slice Ao28 t662.length co28)) = w29 at n0_ n1_ n2_ n3_ n4_ n5_ n6_ n7_ n8_ n9_ ⊢
    have HO_655001 := n0_
    have HO_656001 := n1_
    have HO660 := n2_
    have HO664 := n3_
    have BK654 := n4_
    have BK655 := n5_
    have BK656 := n6_
    have BK665 := n7_
    have BK666 := n8_
    have HB := n9_
    clear n0_ n1_ n2_ n3_ n4_ n5_ n6_ n7_ n8_ n9_
    replace HO_655001 := Aside0.mk (Kd.V_drew HO_655001.out)
    replace HO_656001 := Aside0.mk (Kd.V_drew HO_656001.out)
    replace HO660 := Aside0.mk (Kd.V_drew HO660.out)
    replace HO664 := Aside0.mk (Kd.V_drew HO664.out)
    replace BK654 := Aside0.mk (blk_drew BK654.out)
    replace BK655 := Aside0.mk (blk_drew BK655.out)
    replace BK656 := Aside0.mk (blk_drew BK656.out)
    replace BK665 := Aside0.mk (blk_drew BK665.out)
    replace BK666 := Aside0.mk (blk_drew BK666.out)
    replace HB := Aside0.mk (below_drew1 HB.out)
    refine start_ (n := 4) (S := fun w' => w'.cell? ⟨gb655, 0, none⟩ = some (.bool x656000_1) ∧ w'.cell? ⟨gb655, 1, none⟩ = some (.slice Ao11 x656001_1.length co11) ∧ w'.cell? ⟨gb666, 0, none⟩ = some (.bool t661) ∧ w'.cell? ⟨gb666, 1, none⟩ = some (.slice Ao28 t662.length co28)) (ds := [3]) #[false, false, false, false] (by kernel_rfl) rfl rfl ⟨(blk_cell BK655.out 0).trans rfl, (blk_cell BK655.out 1).trans rfl, (blk_cell BK666.out 0).trans rfl, (blk_cell BK666.out 1).trans rfl⟩ (fun hHeld => ?_)
    generalize w29.drew = w30 at HO_655001 HO_656001 HO660 HO664 BK654 BK655 BK656 BK665 BK666 HB hHeld ⊢
    refine take_ (i := 0) (N := some 17) #[true, false, false, false] rfl rfl (by kernel_rfl) (fun _ _ _ h => h) (Or.inl ⟨by rfl, yt4⟩) hHeld nm ?_
    refine take_ (i := 1) (N := some 18) #[true, true, false, false] rfl rfl (by kernel_rfl) (fun _ _ _ h => h) (Or.inl ⟨by rfl, yt4⟩) hHeld nm ?_
    refine one_ (i := 2) (N := none) #[true, true, true, false] rfl rfl (by kernel_rfl) (by decide) (fun K hK => ?_)
    have hs31 : w30.cell? ⟨gb654, 0, none⟩ = some (.bool x655000_1) := (blk_cell BK654.out 0).trans rfl
    have hfs31 := blk_frozen BK654.out 0
    have hns31_1 := NB655_654.out
    have hns31_2 := NB656_654.out
    have hns31_3 := NB665_654.out
    have hns31_4 := NB666_654.out
    have hms31_1 := NB654_655.out
    have hms31_2 := NB654_656.out
    have hms31_3 := NB654_665.out
    have hms31_4 := NB654_666.out
    have hs32 : w30.cell? ⟨gb654, 1, none⟩ = some (.slice Ao14 x655001_1.length co14) := (blk_cell BK654.out 1).trans rfl
    have hfs32 := blk_frozen BK654.out 1
    have hns32_1 := NB655_654.out
    have hns32_2 := NB656_654.out
    have hns32_3 := NB665_654.out
    have hns32_4 := NB666_654.out
    have hms32_1 := NB654_655.out
    have hms32_2 := NB654_656.out
    have hms32_3 := NB654_665.out
    have hms32_4 := NB654_666.out
    refine skip_ (w1 := ?_) (by rfl) rfl ?_ ?_
    rotate_left
    ·go_simp
     rfl
    refine hK.out _ _ ⟨((cell_far (p := ⟨gb654, _, none⟩) NB655_654.out _).trans (((cell_far (p := ⟨gb654, _, none⟩) NB655_654.out _).trans (hHeld.1)))), ((cell_far (p := ⟨gb654, _, none⟩) NB655_654.out _).trans (((cell_far (p := ⟨gb654, _, none⟩) NB655_654.out _).trans (hHeld.2.1)))), ((cell_far (p := ⟨gb654, _, none⟩) NB666_654.out _).trans (((cell_far (p := ⟨gb654, _, none⟩) NB666_654.out _).trans (hHeld.2.2.1)))), ((cell_far (p := ⟨gb654, _, none⟩) NB666_654.out _).trans (((cell_far (p := ⟨gb654, _, none⟩) NB666_654.out _).trans (hHeld.2.2.2))))⟩ (fun hHeld => ?_)
    clear hK K
    refine last_ (i := 3) (N := none) #[true, true, true, true] rfl rfl (by kernel_rfl) (by decide) (fun K hK => ?_)
    have hs33 : w30.cell? ⟨gb655, 0, none⟩ = some (.bool x656000_1) := (blk_cell BK655.out 0).trans rfl
    have hfs33 := blk_frozen BK655.out 0
    have hns33_0 := NB654_655.out
    have hns33_2 := NB656_655.out
    have hns33_3 := NB665_655.out
    have hns33_4 := NB666_655.out
    have hms33_0 := NB655_654.out
    have hms33_2 := NB655_656.out
    have hms33_3 := NB655_665.out
    have hms33_4 := NB655_666.out
    have hs34 : w30.cell? ⟨gb655, 1, none⟩ = some (.slice Ao11 x656001_1.length co11) := (blk_cell BK655.out 1).trans rfl
    have hfs34 := blk_frozen BK655.out 1
    have hns34_0 := NB654_655.out
    have hns34_2 := NB656_655.out
    have hns34_3 := NB665_655.out
    have hns34_4 := NB666_655.out
    have hms34_0 := NB655_654.out
    have hms34_2 := NB655_656.out
    have hms34_3 := NB655_665.out
    have hms34_4 := NB655_666.out
    refine skip_ (w1 := ?_) (by rfl) rfl ?_ ?_
    rotate_left
    ·go_simp
     rfl
    refine hK.out _ _ ?_
    clear hK K
    refine done_ (by kernel_rfl) ?_
    try go_wp2
    go_roundg k1
    case measure => have := HK1.out; omega
    case rel => exact ⟨(x656000_1), (x656001_1), (t661), (t662), (.slice Ao11 x656001_1.length co11), (.slice Ao28 t662.length co28), H', ⟨by have := HK1.out; omega⟩, ⟨kv (Kd.V_mono (Kd.V_far (p := ⟨gb655, 1, none⟩) (Kd.V_far (p := ⟨gb655, 0, none⟩) (Kd.V_far (p := ⟨gb654, 1, none⟩) (Kd.V_far (p := ⟨gb654, 0, none⟩) (Kd.V_mono (Kd.V_mono HO_656001.out (fun k_ hk => (⟨hk, hk.2.1⟩ : _ ∧ k_ ≠ gb654))) (fun k_ hk => (⟨hk, hk.1.2.2.1⟩ : _ ∧ k_ ≠ gb655))) (fun _ hk => hk.1.2) (.bool x656000_1)) (fun _ hk => hk.1.2) (.slice Ao11 x656001_1.length co11)) (fun _ hk => hk.2) (.bool t661)) (fun _ hk => hk.2) (.slice Ao28 t662.length co28)) (fun _ hk => ⟨hk.1.1.1, ⟨hk.1.1.2.1, ⟨hk.1.1.2.2.1, hk.1.1.2.2.2.1⟩⟩⟩))⟩, ⟨kv (Kd.V_mono (Kd.V_far (p := ⟨gb655, 1, none⟩) (Kd.V_far (p := ⟨gb655, 0, none⟩) (Kd.V_far (p := ⟨gb654, 1, none⟩) (Kd.V_far (p := ⟨gb654, 0, none⟩) (Kd.V_mono (Kd.V_mono HO664.out (fun k_ hk => (⟨hk, hk.2.1⟩ : _ ∧ k_ ≠ gb654))) (fun k_ hk => (⟨hk, hk.1.2.2.1⟩ : _ ∧ k_ ≠ gb655))) (fun _ hk => hk.1.2) (.bool x656000_1)) (fun _ hk => hk.1.2) (.slice Ao11 x656001_1.length co11)) (fun _ hk => hk.2) (.bool t661)) (fun _ hk => hk.2) (.slice Ao28 t662.length co28)) (fun _ hk => ⟨hk.1.1.1, ⟨hk.1.1.2.1, ⟨hk.1.1.2.2.1, hk.1.1.2.2.2.1⟩⟩⟩))⟩, ⟨by (with_reducible repeat (first | refine blk_drewN ?_ _ | refine blk_drew ?_ | refine blk_alloc ?_ _)); refine blk_far ?_ NB654_655.out _; (with_reducible repeat (first | refine blk_drewN ?_ _ | refine blk_drew ?_ | refine blk_alloc ?_ _)); refine blk_far ?_ NB654_655.out _; (with_reducible repeat (first | refine blk_drewN ?_ _ | refine blk_drew ?_ | refine blk_alloc ?_ _)); refine blk_put (cs := #[.bool x656000_1, .slice Ao14 x655001_1.length co14]) ?_ 1 _ rfl; (with_reducible repeat (first | refine blk_drewN ?_ _ | refine blk_drew ?_ | refine blk_alloc ?_ _)); refine blk_put (cs := #[.bool x655000_1, .slice Ao14 x655001_1.length co14]) ?_ 0 _ rfl; (with_reducible repeat (first | refine blk_drewN ?_ _ | refine blk_drew ?_ | refine blk_alloc ?_ _)); exact BK654.out⟩, ⟨by (with_reducible repeat (first | refine blk_drewN ?_ _ | refine blk_drew ?_ | refine blk_alloc ?_ _)); refine blk_put (cs := #[.bool t661, .slice Ao11 x656001_1.length co11]) ?_ 1 _ rfl; (with_reducible repeat (first | refine blk_drewN ?_ _ | refine blk_drew ?_ | refine blk_alloc ?_ _)); refine blk_put (cs := #[.bool x656000_1, .slice Ao11 x656001_1.length co11]) ?_ 0 _ rfl; (with_reducible repeat (first | refine blk_drewN ?_ _ | refine blk_drew ?_ | refine blk_alloc ?_ _)); refine blk_far ?_ NB655_654.out _; (with_reducible repeat (first | refine blk_drewN ?_ _ | refine blk_drew ?_ | refine blk_alloc ?_ _)); refine blk_far ?_ NB655_654.out _; (with_reducible repeat (first | refine blk_drewN ?_ _ | refine blk_drew ?_ | refine blk_alloc ?_ _)); exact BK655.out⟩, ⟨by (with_reducible repeat (first | refine blk_drewN ?_ _ | refine blk_drew ?_ | refine blk_alloc ?_ _)); refine blk_far ?_ NB656_655.out _; (with_reducible repeat (first | refine blk_drewN ?_ _ | refine blk_drew ?_ | refine blk_alloc ?_ _)); refine blk_far ?_ NB656_655.out _; (with_reducible repeat (first | refine blk_drewN ?_ _ | refine blk_drew ?_ | refine blk_alloc ?_ _)); refine blk_far ?_ NB656_654.out _; (with_reducible repeat (first | refine blk_drewN ?_ _ | refine blk_drew ?_ | refine blk_alloc ?_ _)); refine blk_far ?_ NB656_654.out _; (with_reducible repeat (first | refine blk_drewN ?_ _ | refine blk_drew ?_ | refine blk_alloc ?_ _)); exact BK656.out⟩, ⟨bel⟩⟩
   ·rw [if_neg c6] at H
    have c6b0 : decide (0 < (x656001_1.length : Int)) = false := decide_eq_false c6
    have c6b1 : decide (0 < x656001_1.length) = false := decide_eq_false (by omega)
    clear c6
    obtain ⟨⟨t667, t668⟩, A35, H⟩ := bind_ H
    try dsimp only at H
    simp only [Option.some.injEq, Prod.mk.injEq] at H
    obtain ⟨rfl, rfl⟩ := H
    have hnb36 := NB655_654.out
    have hnc36 := NB654_655.out
    have hnb37 := NB655_656.out
    have hnc37 := NB656_655.out
    have hcz38_0 : wr.cell? ⟨gb655, 0, none⟩ = some (.bool x656000_1) := (blk_cell BK655.out 0).trans rfl
    have hcz38_1 : wr.cell? ⟨gb655, 1, none⟩ = some (u656001) := (blk_cell BK655.out 1).trans rfl
    have hfz38_0 := blk_frozen BK655.out 0
    have hfz38_1 := blk_frozen BK655.out 1
    obtain ⟨Ao39, co39, eo39⟩ := Kd.V_slice HO_656001.out
    subst eo39
    have hnb40 := NB654_656.out
    have hnc40 := NB656_654.out
    have hcz41_0 : wr.cell? ⟨gb654, 0, none⟩ = some (.bool x655000_1) := (blk_cell BK654.out 0).trans rfl
    have hcz41_1 : wr.cell? ⟨gb654, 1, none⟩ = some (u655001) := (blk_cell BK654.out 1).trans rfl
    have hfz41_0 := blk_frozen BK654.out 0
    have hfz41_1 := blk_frozen BK654.out 1
    obtain ⟨Ao42, co42, eo42⟩ := Kd.V_slice HO_655001.out
    subst eo42
    go_wp2_with (first | ((with_reducible refine gate_callee (f := 41) rfl ?_); refine goesL_ (some 21) rfl rfl Tryd.func41 (by kernel_rfl) rfl #[.bool false, .slice Ao42 x655001_1.length co42] rfl ag ?_; (with_reducible refine (cellarerref02_make0.calls k1 false (fun k_ => (((P0_1_ k_ ∨ P1_1_ k_) ∨ w.heap.size ≤ k_) ∧ (k_ ≠ gb654 ∧ (k_ ≠ gb655 ∧ k_ ≠ gb656)))) _ _ x655001_1 t667 t668 _ ?side1 ?side2 A35.out).mono ?_); (case side1 => exact GOK.below hG.out bel); (case side2 => exact HO_655001.out); rintro e w43 ⟨v669, rfl, ho0, hb⟩; refine ⟨_, rfl, ?_⟩; have HO670 := Aside0.mk (Kd.V_lower (Kd.V_mono (ok' := fun k_ => ((P0_1_ k_ ∨ P1_1_ k_) ∨ w.heap.size ≤ k_) ∧ k_ ≠ gb654 ∧ k_ ≠ gb655 ∧ k_ ≠ gb656) ho0 (fun k_ hk_ => ⟨Or.elim hk_ (fun hs_ => hs_.1) (fun hn_ => (.inr (Nat.le_trans (below_size bel) hn_))), Or.elim hk_ (fun hs_ => hs_.2.1) (fun hn_ => (Kd.freshB (bk BK654.out) k_ hn_)), Or.elim hk_ (fun hs_ => hs_.2.2.1) (fun hn_ => (Kd.freshB (bk BK655.out) k_ hn_)), Or.elim hk_ (fun hs_ => hs_.2.2.2) (fun hn_ => (Kd.freshB (bk BK656.out) k_ hn_))⟩)) (below_size bel)); replace HO_655001 := Aside0.mk (Kd.V_below (kv HO_655001.out) hb); replace HO_656001 := Aside0.mk (Kd.V_below (kv HO_656001.out) hb); replace BK654 := Aside0.mk (blk_below (bk BK654.out) hb); replace BK655 := Aside0.mk (blk_below (bk BK655.out) hb); replace BK656 := Aside0.mk (blk_below (bk BK656.out) hb); replace HB := Aside0.mk (below_step bel hb); clear hb ho0; have hcz44_0 : w43.cell? ⟨gb656, 0, none⟩ = some (.bool false) := (blk_cell BK656.out 0).trans rfl; have hcz44_1 : w43.cell? ⟨gb656, 1, none⟩ = some (.slice none 0 0) := (blk_cell BK656.out 1).trans rfl; have hfz44_0 := blk_frozen BK656.out 0; have hfz44_1 := blk_frozen BK656.out 1; obtain ⟨Ao45, co45, eo45⟩ := Kd.V_slice HO670.out; subst eo45))
    refine bodyPost_ret (results_cell_row rfl _ _ gb656 32 #[.bool t667, .slice Ao45 t668.length co45] (0, 0) _ rfl (by (with_reducible repeat (first | refine blk_drewN ?_ _ | refine blk_drew ?_ | refine blk_alloc ?_ _)); refine blk_put (cs := #[.bool t667, .slice none 0 0]) ?_ 1 _ rfl; (with_reducible repeat (first | refine blk_drewN ?_ _ | refine blk_drew ?_ | refine blk_alloc ?_ _)); refine blk_put (cs := #[.bool false, .slice none 0 0]) ?_ 0 _ rfl; (with_reducible repeat (first | refine blk_drewN ?_ _ | refine blk_drew ?_ | refine blk_alloc ?_ _)); exact BK656.out) Tryd.underlying32 rfl (by kernel_rfl)) rfl ?_
    exact ⟨_, by first | rfl | (simp [errW_none, errW_some] <;> rfl) | (simp [*, errW_none, errW_some] <;> rfl), kv (Kd.V_mono (Kd.V_far (p := ⟨gb656, 1, none⟩) (Kd.V_far (p := ⟨gb656, 0, none⟩) (Kd.V_mono HO670.out (fun k_ hk => (⟨hk, hk.2.2.2⟩ : _ ∧ k_ ≠ gb656))) (fun _ hk => hk.2) (.bool t667)) (fun _ hk => hk.2) (.slice Ao45 t668.length co45)) (fun _ hk => hk.1.1)), bel⟩

end Go.Proofs.YtdnjlmoggnbknaaDoor.PInt
