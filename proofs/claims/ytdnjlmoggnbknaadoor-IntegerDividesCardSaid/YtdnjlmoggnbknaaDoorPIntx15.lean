-- Written by a program of this session's (xprint.py) over the kit's print.
import Derived.Test.YtdnjlmoggnbknaaDoorPIntx0
import Derived.Test.YtdnjlmoggnbknaaDoorPIntx9
import Derived.Test.YtdnjlmoggnbknaaDoorPIntx10
import Derived.Test.YtdnjlmoggnbknaaDoorPIntx11
import Derived.Test.YtdnjlmoggnbknaaDoorPIntx12
import Derived.Test.YtdnjlmoggnbknaaDoorPIntx14
import Derived.Test.YtdnjlmoggnbknaaDoorPIntD
import Derived.Test.YtdnjlmoggnbknaaDoorAuto
namespace Go.Proofs.YtdnjlmoggnbknaaDoor.PInt
open Go.RowKit Go.Proofs.YtdnjlmoggnbknaaDoor.Ext Go.Proofs.YtdnjlmoggnbknaaDoorW.PrintWords Go.Proofs.YtdnjlmoggnbknaaDoorW.PrintLast Go.Proofs.YtdnjlmoggnbknaaDoorW.PrintMore
attribute [local go_sem high] gtr_print leq_print
attribute [local go_sem] max2_int min2_int max_two min_two max_three min_three max_four min_four   -- for this text's walks alone
set_option linter.unusedVariables false
set_option linter.unusedSimpArgs false

/-! ### cellarerref02_DivMod: function 19 -/
set_option maxHeartbeats 8000000 in
set_option maxRecDepth 100000 in
theorem cellarerref02_DivMod.calls (k : Nat) (a0_0 : Bool) (A0_1 : Option Addr) (c0_1 : Nat) (l0_1 : List Int) (a1_0 : Bool) (A1_1 : Option Addr) (c1_1 : Nat) (l1_1 : List Int) (r1 : Bool) (r2 : List Int) (r3 : Bool) (r4 : List Int) (w : World) (hG : GOK w) (hr0_1 : Kd.C (Kd.int .i64) w A0_1 l0_1.length l0_1) (hc0_1 : l0_1.length ≤ c0_1) (hr1_1 : Kd.C (Kd.int .i64) w A1_1 l1_1.length l1_1) (hc1_1 : l1_1.length ≤ c1_1) (h : cellarerref02_DivMod.f k a0_0 l0_1 a1_0 l1_1 = some (r1, r2, r3, r4)) :
  Calls Tryd.prog 19 #[.agg #[.bool a0_0, .slice A0_1 l0_1.length c0_1], .agg #[.bool a1_0, .slice A1_1 l1_1.length c1_1]] w fun e w' => ∃ v1_ v3_ : Value, e = .returned (.tuple #[.agg #[.bool r1, v1_], .agg #[.bool r3, v3_]]) ∧ Kd.V (Kd.int .i64) 3 w' w.heap.size (fun k_ => (w.heap.size ≤ k_)) v1_ r2 ∧ Kd.V (Kd.int .i64) 3 w' w.heap.size (fun k_ => (w.heap.size ≤ k_)) v3_ r4 ∧ Below w.heap.size w w' := by
 have hu32 := Tryd.underlying32
 have HR0_1 := Aside0.mk hr0_1
 have HC0_1 := Aside0.mk hc0_1
 clear hr0_1 hc0_1
 have HR1_1 := Aside0.mk hr1_1
 have HC1_1 := Aside0.mk hc1_1
 clear hr1_1 hc1_1
 replace hG := Aside0.mk hG
 have HB := Aside0.mk (Below.refl w.heap.size w)
 have H : (cellarerref02_DivMod.l0 k ([] : List Int) 0 a0_0 l0_1 a1_0 l1_1 false ([] : List Int)) = some (r1, r2, r3, r4) := h
 clear h
 have H' := Aside0.mk H
 clear H
 go_enter Tryd.func19, Tryd.ntmps19
 go_wp2_with (first | ((with_reducible refine gate_dst (N := 2) rfl ?_); refine box_event ?hg (N := 2) ?hd (cs := #[.bool a0_0, .slice A0_1 l0_1.length c0_1]) (t := 32) ?hr ?_; (case hd => rfl); (case hg => rfl); (case hr => first | (go_simp; done) | (go_simp; rfl)); intro gb598 hg w3 hbox hb; have BK598 := Aside0.mk (hbox); have GW598 := Aside0.mk ((by rw [hg]; exact (below_size bel) : w.heap.size ≤ gb598)); have GE598 := Aside0.mk ((by rw [hg]; exact (below_size bel) : w.heap.size ≤ gb598)); replace HB := Aside0.mk (below_step bel hb); clear hb hbox hg) | ((with_reducible refine gate_dst (N := 3) rfl ?_); refine box_event ?hg (N := 3) ?hd (cs := #[.bool a1_0, .slice A1_1 l1_1.length c1_1]) (t := 32) ?hr ?_; (case hd => rfl); (case hg => rfl); (case hr => first | (go_simp; done) | (go_simp; rfl)); intro gb599 hg w4 hbox hb; have BK599 := Aside0.mk (hbox); have GW599 := Aside0.mk ((by rw [hg]; exact (below_size bel) : w.heap.size ≤ gb599)); have GE599 := Aside0.mk ((by rw [hg]; exact (below_size bel) : w.heap.size ≤ gb599)); have NB598_599 := Aside0.mk ((by rw [hg]; exact Nat.ne_of_lt (blk_lt (bk BK598.out)) : gb598 ≠ gb599)); have NB599_598 := Aside0.mk ((by rw [hg]; exact Nat.ne_of_gt (blk_lt (bk BK598.out)) : gb599 ≠ gb598)); replace BK598 := Aside0.mk (blk_below (bk BK598.out) hb); replace HB := Aside0.mk (below_step bel hb); clear hb hbox hg) | ((with_reducible refine gate_dst (N := 4) rfl ?_); refine box_event ?hg (N := 4) ?hd (cs := #[.bool false, .slice none 0 0]) (t := 32) ?hr ?_; (case hd => rfl); (case hg => rfl); (case hr => first | (go_simp; done) | (go_simp; rfl)); intro gb600 hg w5 hbox hb; have BK600 := Aside0.mk (hbox); have GW600 := Aside0.mk ((by rw [hg]; exact (below_size bel) : w.heap.size ≤ gb600)); have GE600 := Aside0.mk ((by rw [hg]; exact (below_size bel) : w.heap.size ≤ gb600)); have NB598_600 := Aside0.mk ((by rw [hg]; exact Nat.ne_of_lt (blk_lt (bk BK598.out)) : gb598 ≠ gb600)); have NB600_598 := Aside0.mk ((by rw [hg]; exact Nat.ne_of_gt (blk_lt (bk BK598.out)) : gb600 ≠ gb598)); have NB599_600 := Aside0.mk ((by rw [hg]; exact Nat.ne_of_lt (blk_lt (bk BK599.out)) : gb599 ≠ gb600)); have NB600_599 := Aside0.mk ((by rw [hg]; exact Nat.ne_of_gt (blk_lt (bk BK599.out)) : gb600 ≠ gb599)); replace BK598 := Aside0.mk (blk_below (bk BK598.out) hb); replace BK599 := Aside0.mk (blk_below (bk BK599.out) hb); replace HB := Aside0.mk (below_step bel hb); clear hb hbox hg) | ((with_reducible refine gate_dst (N := 5) rfl ?_); refine box_event ?hg (N := 5) ?hd (cs := #[.bool false, .slice none 0 0]) (t := 32) ?hr ?_; (case hd => rfl); (case hg => rfl); (case hr => first | (go_simp; done) | (go_simp; rfl)); intro gb601 hg w6 hbox hb; have BK601 := Aside0.mk (hbox); have GW601 := Aside0.mk ((by rw [hg]; exact (below_size bel) : w.heap.size ≤ gb601)); have GE601 := Aside0.mk ((by rw [hg]; exact (below_size bel) : w.heap.size ≤ gb601)); have NB598_601 := Aside0.mk ((by rw [hg]; exact Nat.ne_of_lt (blk_lt (bk BK598.out)) : gb598 ≠ gb601)); have NB601_598 := Aside0.mk ((by rw [hg]; exact Nat.ne_of_gt (blk_lt (bk BK598.out)) : gb601 ≠ gb598)); have NB599_601 := Aside0.mk ((by rw [hg]; exact Nat.ne_of_lt (blk_lt (bk BK599.out)) : gb599 ≠ gb601)); have NB601_599 := Aside0.mk ((by rw [hg]; exact Nat.ne_of_gt (blk_lt (bk BK599.out)) : gb601 ≠ gb599)); have NB600_601 := Aside0.mk ((by rw [hg]; exact Nat.ne_of_lt (blk_lt (bk BK600.out)) : gb600 ≠ gb601)); have NB601_600 := Aside0.mk ((by rw [hg]; exact Nat.ne_of_gt (blk_lt (bk BK600.out)) : gb601 ≠ gb600)); replace BK598 := Aside0.mk (blk_below (bk BK598.out) hb); replace BK599 := Aside0.mk (blk_below (bk BK599.out) hb); replace BK600 := Aside0.mk (blk_below (bk BK600.out) hb); replace HB := Aside0.mk (below_step bel hb); clear hb hbox hg) | ((with_reducible refine gate_dst (N := 6) rfl ?_); refine box_event ?hg (N := 6) ?hd (cs := #[.bool false, .slice none 0 0]) (t := 32) ?hr ?_; (case hd => rfl); (case hg => rfl); (case hr => first | (go_simp; done) | (go_simp; rfl)); intro gb602 hg w7 hbox hb; have BK602 := Aside0.mk (hbox); have GW602 := Aside0.mk ((by rw [hg]; exact (below_size bel) : w.heap.size ≤ gb602)); have GE602 := Aside0.mk ((by rw [hg]; exact (below_size bel) : w.heap.size ≤ gb602)); have NB598_602 := Aside0.mk ((by rw [hg]; exact Nat.ne_of_lt (blk_lt (bk BK598.out)) : gb598 ≠ gb602)); have NB602_598 := Aside0.mk ((by rw [hg]; exact Nat.ne_of_gt (blk_lt (bk BK598.out)) : gb602 ≠ gb598)); have NB599_602 := Aside0.mk ((by rw [hg]; exact Nat.ne_of_lt (blk_lt (bk BK599.out)) : gb599 ≠ gb602)); have NB602_599 := Aside0.mk ((by rw [hg]; exact Nat.ne_of_gt (blk_lt (bk BK599.out)) : gb602 ≠ gb599)); have NB600_602 := Aside0.mk ((by rw [hg]; exact Nat.ne_of_lt (blk_lt (bk BK600.out)) : gb600 ≠ gb602)); have NB602_600 := Aside0.mk ((by rw [hg]; exact Nat.ne_of_gt (blk_lt (bk BK600.out)) : gb602 ≠ gb600)); have NB601_602 := Aside0.mk ((by rw [hg]; exact Nat.ne_of_lt (blk_lt (bk BK601.out)) : gb601 ≠ gb602)); have NB602_601 := Aside0.mk ((by rw [hg]; exact Nat.ne_of_gt (blk_lt (bk BK601.out)) : gb602 ≠ gb601)); replace BK598 := Aside0.mk (blk_below (bk BK598.out) hb); replace BK599 := Aside0.mk (blk_below (bk BK599.out) hb); replace BK600 := Aside0.mk (blk_below (bk BK600.out) hb); replace BK601 := Aside0.mk (blk_below (bk BK601.out) hb); replace HB := Aside0.mk (below_step bel hb); clear hb hbox hg; have hnb8 := NB602_598.out; have hnc8 := NB598_602.out; have hnb9 := NB602_599.out; have hnc9 := NB599_602.out; have hnb10 := NB602_600.out; have hnc10 := NB600_602.out; have hnb11 := NB602_601.out; have hnc11 := NB601_602.out; have hcz12_0 : w7.cell? ⟨gb602, 0, none⟩ = some (.bool false) := (blk_cell BK602.out 0).trans rfl; have hcz12_1 : w7.cell? ⟨gb602, 1, none⟩ = some (.slice none 0 0) := (blk_cell BK602.out 1).trans rfl; have hfz12_0 := blk_frozen BK602.out 0; have hfz12_1 := blk_frozen BK602.out 1))
 go_loopg [7, 8] k (fun kq v7 v8 w' => ∃ (x7_1 : List Int) (x8_1 : Int) (x603000_1 : Bool) (x603001_1 : List Int) (u603001 : Value), v8 = .int .i64 x8_1 ∧ Aside0 (cellarerref02_DivMod.l0 kq x7_1 x8_1 a0_0 l0_1 a1_0 l1_1 x603000_1 x603001_1 = some (r1, r2, r3, r4)) ∧ Aside0 (kq ≤ k) ∧ Aside0 (Kd.R (Kd.int .i64) 3 w' w.heap.size (fun k_ => (w.heap.size ≤ k_)) v7 x7_1) ∧ Aside0 (Kd.V (Kd.int .i64) 3 w' w.heap.size (fun k_ => (w.heap.size ≤ k_) ∧ some k_ ≠ (v7 : Value).ownBlock ∧ k_ ≠ gb598 ∧ k_ ≠ gb599 ∧ k_ ≠ gb600 ∧ k_ ≠ gb601 ∧ k_ ≠ gb602) u603001 x603001_1) ∧ Aside0 (w'.heap[gb598]? = some (.cells #[.bool a0_0, (.slice A0_1 l0_1.length c0_1)] 32 (0, 0))) ∧ Aside0 (w'.heap[gb599]? = some (.cells #[.bool a1_0, (.slice A1_1 l1_1.length c1_1)] 32 (0, 0))) ∧ Aside0 (w'.heap[gb600]? = some (.cells #[.bool false, (.slice none 0 0)] 32 (0, 0))) ∧ Aside0 (w'.heap[gb601]? = some (.cells #[.bool false, (.slice none 0 0)] 32 (0, 0))) ∧ Aside0 (w'.heap[gb602]? = some (.cells #[.bool x603000_1, u603001] 32 (0, 0))) ∧ Aside0 (Below w.heap.size w w'))
 case atStart => exact ⟨(([] : List Int)), (0), (false), (([] : List Int)), (.slice none 0 0), (by first | rfl | (simp; done) | (simp [*]; done)), H', ⟨Nat.le_refl _⟩, ⟨by first | exact Kd.R_nil _ _ _ _ _ | exact Kd.N_nil _ _ _ _ _ | exact Kd.V_nil _ _ _ _ _ | exact Kd.Q_nil _ _ _ _ _ | exact Kd.S_nil _ _ _ _ _⟩, ⟨Kd.V_nil _ _ _ _ _⟩, ⟨by (with_reducible repeat (first | refine blk_drewN ?_ _ | refine blk_drew ?_ | refine blk_alloc ?_ _)); refine blk_far ?_ NB598_602.out _; (with_reducible repeat (first | refine blk_drewN ?_ _ | refine blk_drew ?_ | refine blk_alloc ?_ _)); refine blk_far ?_ NB598_602.out _; (with_reducible repeat (first | refine blk_drewN ?_ _ | refine blk_drew ?_ | refine blk_alloc ?_ _)); exact BK598.out⟩, ⟨by (with_reducible repeat (first | refine blk_drewN ?_ _ | refine blk_drew ?_ | refine blk_alloc ?_ _)); refine blk_far ?_ NB599_602.out _; (with_reducible repeat (first | refine blk_drewN ?_ _ | refine blk_drew ?_ | refine blk_alloc ?_ _)); refine blk_far ?_ NB599_602.out _; (with_reducible repeat (first | refine blk_drewN ?_ _ | refine blk_drew ?_ | refine blk_alloc ?_ _)); exact BK599.out⟩, ⟨by (with_reducible repeat (first | refine blk_drewN ?_ _ | refine blk_drew ?_ | refine blk_alloc ?_ _)); refine blk_far ?_ NB600_602.out _; (with_reducible repeat (first | refine blk_drewN ?_ _ | refine blk_drew ?_ | refine blk_alloc ?_ _)); refine blk_far ?_ NB600_602.out _; (with_reducible repeat (first | refine blk_drewN ?_ _ | refine blk_drew ?_ | refine blk_alloc ?_ _)); exact BK600.out⟩, ⟨by (with_reducible repeat (first | refine blk_drewN ?_ _ | refine blk_drew ?_ | refine blk_alloc ?_ _)); refine blk_far ?_ NB601_602.out _; (with_reducible repeat (first | refine blk_drewN ?_ _ | refine blk_drew ?_ | refine blk_alloc ?_ _)); refine blk_far ?_ NB601_602.out _; (with_reducible repeat (first | refine blk_drewN ?_ _ | refine blk_drew ?_ | refine blk_alloc ?_ _)); exact BK601.out⟩, ⟨by (with_reducible repeat (first | refine blk_drewN ?_ _ | refine blk_drew ?_ | refine blk_alloc ?_ _)); refine blk_put (cs := #[.bool false, .slice none 0 0]) ?_ 1 _ rfl; (with_reducible repeat (first | refine blk_drewN ?_ _ | refine blk_drew ?_ | refine blk_alloc ?_ _)); refine blk_put (cs := #[.bool false, .slice none 0 0]) ?_ 0 _ rfl; (with_reducible repeat (first | refine blk_drewN ?_ _ | refine blk_drew ?_ | refine blk_alloc ?_ _)); exact BK602.out⟩, ⟨bel⟩⟩
 case round =>
  clear H'
  (try clear c1); (try clear p2); (try clear c8); (try clear c9); (try clear c10); (try clear c11); (try clear hcz12_0); (try clear hcz12_1); (try clear hfz12_0); (try clear hfz12_1)
  obtain ⟨x7_1, x8_1, x603000_1, x603001_1, u603001, rfl, HA, HK1, HO_7, HO_603001, BK598, BK599, BK600, BK601, BK602, HB⟩ := hrel
  cases gk with
  | zero => exact absurd HA.out (by simp [cellarerref02_DivMod.l0])
  | succ k1 =>
   have H := HA.out
   clear HA
   simp only [cellarerref02_DivMod.l0] at H
   by_cases c13 : x8_1 < (l0_1.length : Int)
   ·rw [if_pos c13] at H
    have c13b0 : decide (x8_1 < (l0_1.length : Int)) = true := decide_eq_true c13
    clear c13
    by_cases c14 : ([] : List Int).length + x603001_1.length < 17592186044416
    ·rw [if_pos c14] at H
     have LMc14 := Aside0.mk c14
     clear c14
     obtain ⟨y603, hy603⟩ : ∃ y_ : List Int, y_ = (([] : List Int) ++ x603001_1) := ⟨_, rfl⟩
     replace H : (if 0 ≤ x8_1 then (if y603.length < 17592186044416 then ((cellarerref02_make0.f k1 false (y603 ++ [rd l0_1 x8_1])).bind fun bt610 => (cellarerref02_DivMod.l1 k1 x7_1 x8_1 0 a0_0 l0_1 a1_0 l1_1 bt610.1 bt610.2)) else (none)) else (none)) = some (r1, r2, r3, r4) := by first | (rw [hy603]; with_reducible exact H) | (have H2_ := (Option.bind_some _ _).symm.trans H; rw [hy603]; with_reducible exact H2_) | (have H2_ := (Option.bind_some _ _).symm.trans H; with_reducible exact H2_) | with_reducible exact H | (rw [hy603]; exact H) | exact H
     have Ny603 := Aside0.mk hy603
     clear hy603
     by_cases c15 : 0 ≤ x8_1
     ·rw [if_pos c15] at H
      have c15b0 : decide (0 ≤ x8_1) = true := decide_eq_true c15
      clear c15
      by_cases c16 : y603.length < 17592186044416
      ·rw [if_pos c16] at H
       have LMc16 := Aside0.mk c16
       clear c16
       obtain ⟨y607, hy607⟩ : ∃ y_ : List Int, y_ = (y603 ++ [rd l0_1 x8_1]) := ⟨_, rfl⟩
       replace H : ((cellarerref02_make0.f k1 false y607).bind fun bt610 => (cellarerref02_DivMod.l1 k1 x7_1 x8_1 0 a0_0 l0_1 a1_0 l1_1 bt610.1 bt610.2)) = some (r1, r2, r3, r4) := by first | (rw [hy607]; with_reducible exact H) | (have H2_ := (Option.bind_some _ _).symm.trans H; rw [hy607]; with_reducible exact H2_) | (have H2_ := (Option.bind_some _ _).symm.trans H; with_reducible exact H2_) | with_reducible exact H | (rw [hy607]; exact H) | exact H
       have Ny607 := Aside0.mk hy607
       clear hy607
       obtain ⟨⟨t610, t611⟩, A17, H⟩ := bind_ H
       try dsimp only at H
       have H' := Aside0.mk H
       clear H
       have hnb18 := NB598_599.out
       have hnc18 := NB599_598.out
       have hnb19 := NB598_600.out
       have hnc19 := NB600_598.out
       have hnb20 := NB598_601.out
       have hnc20 := NB601_598.out
       have hnb21 := NB598_602.out
       have hnc21 := NB602_598.out
       have hcz22_0 : wr.cell? ⟨gb598, 0, none⟩ = some (.bool a0_0) := (blk_cell BK598.out 0).trans rfl
       have hcz22_1 : wr.cell? ⟨gb598, 1, none⟩ = some (.slice A0_1 l0_1.length c0_1) := (blk_cell BK598.out 1).trans rfl
       have hfz22_0 := blk_frozen BK598.out 0
       have hfz22_1 := blk_frozen BK598.out 1
       have hnb23 := NB602_599.out
       have hnc23 := NB599_602.out
       have hnb24 := NB602_600.out
       have hnc24 := NB600_602.out
       have hnb25 := NB602_601.out
       have hnc25 := NB601_602.out
       have hcz26_0 : wr.cell? ⟨gb602, 0, none⟩ = some (.bool x603000_1) := (blk_cell BK602.out 0).trans rfl
       have hcz26_1 : wr.cell? ⟨gb602, 1, none⟩ = some (u603001) := (blk_cell BK602.out 1).trans rfl
       have hfz26_0 := blk_frozen BK602.out 0
       have hfz26_1 := blk_frozen BK602.out 1
       obtain ⟨Ao28, co28, eo28⟩ := Kd.V_slice HO_603001.out
       subst eo28
       go_wp2_with (first | ((with_reducible refine gate_builtin (b := .append) (xs := #[.tmp 20, .tmp 22]) rfl ?_); at_builtin; refine Kd.R_append_rows (Kd.int .i64) (w0 := w) w.heap.size rfl (.tmp 20) (.tmp 22) 30 3 (.int .i64 0) 8 rfl Tryd.underlying30 info3 rfl (by decide) (by omega) (.slice none 0 0) ([] : List Int) x603001_1 _ _ _ (fun k_ => (w.heap.size ≤ k_) ∧ some k_ ≠ (u7 : Value).ownBlock) (fun _ => False) rfl rfl ?aO ?aR (fun _ _ h => h) (fun _ h => h.elim) ?aF ?aB ?aS ?aL ?_; (case aR => exact kc ((Kd.V_reads' HO_603001.out).2.2)); (case aB => exact bel); (case aF => exact (fun k_ hk => ⟨(Nat.le_trans (below_size bel) hk), Kd.fresh' (Kd.R_lt (kr HO_7.out)) k_ hk⟩)); (case aO => exact ((Kd.R_nil _ _ _ _ (fun k_ => (w.heap.size ≤ k_) ∧ some k_ ≠ (u7 : Value).ownBlock)))); (case aS => exact (below_size bel)); (case aL => have := LMc14.out; omega); intro v604 w27 ho hb hg hat; rw [← Ny603.out] at ho; have HO605 := Aside0.mk (ho); replace HO_7 := Aside0.mk (Kd.R_after (Kd.R_apart_nil (kr HO_7.out)) hg hat); replace HO_603001 := Aside0.mk (Kd.V_afterv (Kd.V_apart_nil (kv HO_603001.out)) hg hat); replace BK598 := Aside0.mk (blk_grown (bk BK598.out) hg (by simp [Value.ownBlock])); replace BK599 := Aside0.mk (blk_grown (bk BK599.out) hg (by simp [Value.ownBlock])); replace BK600 := Aside0.mk (blk_grown (bk BK600.out) hg (by simp [Value.ownBlock])); replace BK601 := Aside0.mk (blk_grown (bk BK601.out) hg (by simp [Value.ownBlock])); replace BK602 := Aside0.mk (blk_grown (bk BK602.out) hg (by simp [Value.ownBlock])); replace HB := Aside0.mk (hb); clear ho hb hg hat; have hcz29_0 : w27.cell? ⟨gb598, 0, none⟩ = some (.bool a0_0) := (blk_cell BK598.out 0).trans rfl; have hcz29_1 : w27.cell? ⟨gb598, 1, none⟩ = some (.slice A0_1 l0_1.length c0_1) := (blk_cell BK598.out 1).trans rfl; have hfz29_0 := blk_frozen BK598.out 0; have hfz29_1 := blk_frozen BK598.out 1; have p606 : 0 ≤ (x8_1 : Int) := of_decide_eq_true (by first | (with_reducible assumption) | assumption); have q606 : x8_1 < (l0_1.length : Int) := of_decide_eq_true (by first | (with_reducible assumption) | assumption); obtain ⟨ad606, e606, hx606_0⟩ := Kd.at_int HR0_1.out x8_1 p606 q606; cases e606; replace hx606_0 := (HB.out.cell (World.block_lt_of_cell? w _ hx606_0)).trans hx606_0; replace p606 := eq_true p606; replace q606 := eq_true q606) | ((with_reducible refine gate_builtin (b := .append) (xs := #[.tmp 24, .tmp 30]) rfl ?_); at_builtin; refine Kd.R_append (Kd.int .i64) (w0 := w) w.heap.size rfl (.tmp 24) (.tmp 30) 30 3 (.int .i64 0) 8 rfl Tryd.underlying30 info3 rfl (by decide) (by omega) v604 y603 (rd l0_1 x8_1) [.int .i64 (rd l0_1 x8_1)] (fun k_ => (w.heap.size ≤ k_) ∧ some k_ ≠ (u7 : Value).ownBlock) (fun _ => False) rfl rfl ?aP (fun _ hk => hk.elim) ?aF ?aO ?aB ?aS ?aL ?_; (case aP => exact rfl); (case aB => exact bel); (case aF => exact (fun k_ hk => ⟨(Nat.le_trans (below_size bel) hk), Kd.fresh' (Kd.R_lt (kr HO_7.out)) k_ hk⟩)); (case aO => exact (kr HO605.out)); (case aS => exact (below_size bel)); (case aL => have := LMc16.out; omega); intro v608 w30 ho hb hg hat; rw [← Ny607.out] at ho; have HO609 := Aside0.mk (ho); replace HO_7 := Aside0.mk (Kd.R_after (ok := (fun k_ => (w.heap.size ≤ k_))) (kr HO_7.out) hg hat); replace HO_603001 := Aside0.mk (Kd.V_afterv (ok := (fun k_ => (w.heap.size ≤ k_) ∧ some k_ ≠ (u7 : Value).ownBlock ∧ k_ ≠ gb598 ∧ k_ ≠ gb599 ∧ k_ ≠ gb600 ∧ k_ ≠ gb601 ∧ k_ ≠ gb602)) (kv HO_603001.out) hg hat); replace BK598 := Aside0.mk (blk_grown (bk BK598.out) hg (Kd.R_ne HO605.out BK598.out (by decide))); replace BK599 := Aside0.mk (blk_grown (bk BK599.out) hg (Kd.R_ne HO605.out BK599.out (by decide))); replace BK600 := Aside0.mk (blk_grown (bk BK600.out) hg (Kd.R_ne HO605.out BK600.out (by decide))); replace BK601 := Aside0.mk (blk_grown (bk BK601.out) hg (Kd.R_ne HO605.out BK601.out (by decide))); replace BK602 := Aside0.mk (blk_grown (bk BK602.out) hg (Kd.R_ne HO605.out BK602.out (by decide))); replace HB := Aside0.mk (hb); clear HO605; clear ho hb hg hat; obtain ⟨Ao31, co31, eo31⟩ := Kd.R_slice HO609.out; subst eo31) | ((with_reducible refine gate_callee (f := 41) rfl ?_); refine goesL_ (some 32) rfl rfl Tryd.func41 (by kernel_rfl) rfl #[.bool false, .slice Ao31 y607.length co31] rfl ag ?_; (with_reducible refine (cellarerref02_make0.calls k1 false (fun k_ => some k_ = (.slice Ao31 y607.length co31 : Value).ownBlock) _ _ y607 t610 t611 _ gk ?side2 A17.out).mono ?_); (case side2 => exact Kd.R_V (Kd.R_tight rfl (Kd.R_types (Kd.R_types (Kd.R_types (Kd.R_types (Kd.R_types HO609.out BK598.out (by decide)) BK599.out (by decide)) BK600.out (by decide)) BK601.out (by decide)) BK602.out (by decide)))); rintro e w32 ⟨v612, rfl, ho0, hb⟩; refine ⟨_, rfl, ?_⟩; have HO613 := Aside0.mk (Kd.V_lower (Kd.V_mono (ok' := fun k_ => (w.heap.size ≤ k_) ∧ some k_ ≠ (u7 : Value).ownBlock ∧ k_ ≠ gb598 ∧ k_ ≠ gb599 ∧ k_ ≠ gb600 ∧ k_ ≠ gb601 ∧ k_ ≠ gb602) ho0 (fun k_ hk_ => ⟨Or.elim hk_ (fun hs_ => ((Kd.R_types (Kd.R_types (Kd.R_types (Kd.R_types (Kd.R_types HO609.out BK598.out (by decide)) BK599.out (by decide)) BK600.out (by decide)) BK601.out (by decide)) BK602.out (by decide)).1 k_ hs_.symm).1.1.1.1.1.1) (fun hn_ => (Nat.le_trans (below_size bel) hn_)), Or.elim hk_ (fun hs_ => ((Kd.R_types (Kd.R_types (Kd.R_types (Kd.R_types (Kd.R_types HO609.out BK598.out (by decide)) BK599.out (by decide)) BK600.out (by decide)) BK601.out (by decide)) BK602.out (by decide)).1 k_ hs_.symm).1.1.1.1.1.2) (fun hn_ => (Kd.fresh' (Kd.R_lt (kr HO_7.out)) k_ hn_)), Or.elim hk_ (fun hs_ => ((Kd.R_types (Kd.R_types (Kd.R_types (Kd.R_types (Kd.R_types HO609.out BK598.out (by decide)) BK599.out (by decide)) BK600.out (by decide)) BK601.out (by decide)) BK602.out (by decide)).1 k_ hs_.symm).1.1.1.1.2) (fun hn_ => (Kd.freshB (bk BK598.out) k_ hn_)), Or.elim hk_ (fun hs_ => ((Kd.R_types (Kd.R_types (Kd.R_types (Kd.R_types (Kd.R_types HO609.out BK598.out (by decide)) BK599.out (by decide)) BK600.out (by decide)) BK601.out (by decide)) BK602.out (by decide)).1 k_ hs_.symm).1.1.1.2) (fun hn_ => (Kd.freshB (bk BK599.out) k_ hn_)), Or.elim hk_ (fun hs_ => ((Kd.R_types (Kd.R_types (Kd.R_types (Kd.R_types (Kd.R_types HO609.out BK598.out (by decide)) BK599.out (by decide)) BK600.out (by decide)) BK601.out (by decide)) BK602.out (by decide)).1 k_ hs_.symm).1.1.2) (fun hn_ => (Kd.freshB (bk BK600.out) k_ hn_)), Or.elim hk_ (fun hs_ => ((Kd.R_types (Kd.R_types (Kd.R_types (Kd.R_types (Kd.R_types HO609.out BK598.out (by decide)) BK599.out (by decide)) BK600.out (by decide)) BK601.out (by decide)) BK602.out (by decide)).1 k_ hs_.symm).1.2) (fun hn_ => (Kd.freshB (bk BK601.out) k_ hn_)), Or.elim hk_ (fun hs_ => ((Kd.R_types (Kd.R_types (Kd.R_types (Kd.R_types (Kd.R_types HO609.out BK598.out (by decide)) BK599.out (by decide)) BK600.out (by decide)) BK601.out (by decide)) BK602.out (by decide)).1 k_ hs_.symm).2) (fun hn_ => (Kd.freshB (bk BK602.out) k_ hn_))⟩)) (below_size bel)); replace HO_7 := Aside0.mk (Kd.R_below (kr HO_7.out) hb); replace HO_603001 := Aside0.mk (Kd.V_below (kv HO_603001.out) hb); replace HO609 := Aside0.mk (Kd.R_below (kr HO609.out) hb); replace BK598 := Aside0.mk (blk_below (bk BK598.out) hb); replace BK599 := Aside0.mk (blk_below (bk BK599.out) hb); replace BK600 := Aside0.mk (blk_below (bk BK600.out) hb); replace BK601 := Aside0.mk (blk_below (bk BK601.out) hb); replace BK602 := Aside0.mk (blk_below (bk BK602.out) hb); replace HB := Aside0.mk (below_step bel hb); clear hb ho0; have hcz33_0 : w32.cell? ⟨gb602, 0, none⟩ = some (.bool x603000_1) := (blk_cell BK602.out 0).trans rfl; have hcz33_1 : w32.cell? ⟨gb602, 1, none⟩ = some (.slice Ao28 x603001_1.length co28) := (blk_cell BK602.out 1).trans rfl; have hfz33_0 := blk_frozen BK602.out 0; have hfz33_1 := blk_frozen BK602.out 1; obtain ⟨Ao34, co34, eo34⟩ := Kd.V_slice HO613.out; subst eo34))
       go_loopg [10] k1 (fun kq v10 w' => ∃ (x10_2 : Int) (x603000_2 : Bool) (x603001_2 : List Int) (u603001 : Value), v10 = .int .i64 x10_2 ∧ Aside0 (cellarerref02_DivMod.l1 kq x7_1 x8_1 x10_2 a0_0 l0_1 a1_0 l1_1 x603000_2 x603001_2 = some (r1, r2, r3, r4)) ∧ Aside0 (kq ≤ k1) ∧ Aside0 (Kd.R (Kd.int .i64) 3 w' w.heap.size (fun k_ => (w.heap.size ≤ k_)) u7 x7_1) ∧ Aside0 (Kd.V (Kd.int .i64) 3 w' w.heap.size (fun k_ => (w.heap.size ≤ k_) ∧ some k_ ≠ (u7 : Value).ownBlock ∧ k_ ≠ gb598 ∧ k_ ≠ gb599 ∧ k_ ≠ gb600 ∧ k_ ≠ gb601 ∧ k_ ≠ gb602) u603001 x603001_2) ∧ Aside0 (w'.heap[gb598]? = some (.cells #[.bool a0_0, (.slice (some ad606) l0_1.length c0_1)] 32 (0, 0))) ∧ Aside0 (w'.heap[gb599]? = some (.cells #[.bool a1_0, (.slice A1_1 l1_1.length c1_1)] 32 (0, 0))) ∧ Aside0 (w'.heap[gb600]? = some (.cells #[.bool false, (.slice none 0 0)] 32 (0, 0))) ∧ Aside0 (w'.heap[gb601]? = some (.cells #[.bool false, (.slice none 0 0)] 32 (0, 0))) ∧ Aside0 (w'.heap[gb602]? = some (.cells #[.bool x603000_2, u603001] 32 (0, 0))) ∧ Aside0 (Below w.heap.size w w'))
       case atStart => exact ⟨(0), (t610), (t611), (.slice Ao34 t611.length co34), (by first | rfl | (simp; done) | (simp [*]; done)), H', ⟨Nat.le_refl _⟩, ⟨kr (Kd.R_mono (Kd.R_far (p := ⟨gb602, 1, none⟩) (Kd.R_far (p := ⟨gb602, 0, none⟩) (Kd.R_types HO_7.out BK602.out (by decide)) (fun _ hk => hk.2) (.bool t610)) (fun _ hk => hk.2) (.slice Ao34 t611.length co34)) (fun _ hk => hk.1.1))⟩, ⟨kv (Kd.V_mono (Kd.V_far (p := ⟨gb602, 1, none⟩) (Kd.V_far (p := ⟨gb602, 0, none⟩) (Kd.V_mono HO613.out (fun k_ hk => (⟨hk, hk.2.2.2.2.2.2⟩ : _ ∧ k_ ≠ gb602))) (fun _ hk => hk.2) (.bool t610)) (fun _ hk => hk.2) (.slice Ao34 t611.length co34)) (fun _ hk => ⟨hk.1.1, ⟨hk.1.2.1, ⟨hk.1.2.2.1, ⟨hk.1.2.2.2.1, ⟨hk.1.2.2.2.2.1, ⟨hk.1.2.2.2.2.2.1, hk.1.2.2.2.2.2.2⟩⟩⟩⟩⟩⟩))⟩, ⟨by (with_reducible repeat (first | refine blk_drewN ?_ _ | refine blk_drew ?_ | refine blk_alloc ?_ _)); refine blk_far ?_ NB598_602.out _; (with_reducible repeat (first | refine blk_drewN ?_ _ | refine blk_drew ?_ | refine blk_alloc ?_ _)); refine blk_far ?_ NB598_602.out _; (with_reducible repeat (first | refine blk_drewN ?_ _ | refine blk_drew ?_ | refine blk_alloc ?_ _)); exact BK598.out⟩, ⟨by (with_reducible repeat (first | refine blk_drewN ?_ _ | refine blk_drew ?_ | refine blk_alloc ?_ _)); refine blk_far ?_ NB599_602.out _; (with_reducible repeat (first | refine blk_drewN ?_ _ | refine blk_drew ?_ | refine blk_alloc ?_ _)); refine blk_far ?_ NB599_602.out _; (with_reducible repeat (first | refine blk_drewN ?_ _ | refine blk_drew ?_ | refine blk_alloc ?_ _)); exact BK599.out⟩, ⟨by (with_reducible repeat (first | refine blk_drewN ?_ _ | refine blk_drew ?_ | refine blk_alloc ?_ _)); refine blk_far ?_ NB600_602.out _; (with_reducible repeat (first | refine blk_drewN ?_ _ | refine blk_drew ?_ | refine blk_alloc ?_ _)); refine blk_far ?_ NB600_602.out _; (with_reducible repeat (first | refine blk_drewN ?_ _ | refine blk_drew ?_ | refine blk_alloc ?_ _)); exact BK600.out⟩, ⟨by (with_reducible repeat (first | refine blk_drewN ?_ _ | refine blk_drew ?_ | refine blk_alloc ?_ _)); refine blk_far ?_ NB601_602.out _; (with_reducible repeat (first | refine blk_drewN ?_ _ | refine blk_drew ?_ | refine blk_alloc ?_ _)); refine blk_far ?_ NB601_602.out _; (with_reducible repeat (first | refine blk_drewN ?_ _ | refine blk_drew ?_ | refine blk_alloc ?_ _)); exact BK601.out⟩, ⟨by (with_reducible repeat (first | refine blk_drewN ?_ _ | refine blk_drew ?_ | refine blk_alloc ?_ _)); refine blk_put (cs := #[.bool t610, .slice Ao28 x603001_1.length co28]) ?_ 1 _ rfl; (with_reducible repeat (first | refine blk_drewN ?_ _ | refine blk_drew ?_ | refine blk_alloc ?_ _)); refine blk_put (cs := #[.bool x603000_1, .slice Ao28 x603001_1.length co28]) ?_ 0 _ rfl; (with_reducible repeat (first | refine blk_drewN ?_ _ | refine blk_drew ?_ | refine blk_alloc ?_ _)); exact BK602.out⟩, ⟨bel⟩⟩
       case round =>
        clear H'
        (try clear c1); (try clear c2); (try clear p2); (try clear c4); (try clear p6); (try clear q6); (try clear hx6); (try clear c8); (try clear c9); (try clear c10); (try clear c11); (try clear c13); (try clear c13b0); (try clear c14); (try clear c15); (try clear c15b0); (try clear c16); (try clear c18); (try clear c19); (try clear c20); (try clear c21); (try clear c23); (try clear c24); (try clear c25); (try clear hcz12_0); (try clear hcz12_1); (try clear hcz22_0); (try clear hcz22_1); (try clear hcz26_0); (try clear hcz26_1); (try clear hcz29_0); (try clear hcz29_1); (try clear hcz33_0); (try clear hcz33_1); (try clear hfz12_0); (try clear hfz12_1); (try clear hfz22_0); (try clear hfz22_1); (try clear hfz26_0); (try clear hfz26_1); (try clear hfz29_0); (try clear hfz29_1); (try clear hfz33_0); (try clear hfz33_1); (try clear hx606_0); (try clear p2); (try clear p606); (try clear q606)
        obtain ⟨x10_2, x603000_2, x603001_2, u603001, rfl, HA, HK2, HO_7, HO_603001, BK598, BK599, BK600, BK601, BK602, HB⟩ := hrel
        cases gk with
        | zero => exact absurd HA.out (by simp [cellarerref02_DivMod.l1])
        | succ k2 =>
         have H := HA.out
         clear HA
         simp only [cellarerref02_DivMod.l1] at H
         obtain ⟨t614, A35, H⟩ := bind_ H
         try dsimp only at H
         by_cases c36 : t614 ≥ 0
         ·rw [if_pos c36] at H
          have c36b0 : decide (0 ≤ t614) = true := decide_eq_true c36
          clear c36
          obtain ⟨t615, A37, H⟩ := bind_ H
          try dsimp only at H
          obtain ⟨⟨t618, t619⟩, A38, H⟩ := bind_ H
          try dsimp only at H
          have H' := Aside0.mk H
          clear H
          have hnb39 := NB602_598.out
          have hnc39 := NB598_602.out
          have hnb40 := NB602_599.out
          have hnc40 := NB599_602.out
          have hnb41 := NB602_600.out
          have hnc41 := NB600_602.out
          have hnb42 := NB602_601.out
          have hnc42 := NB601_602.out
          have hcz43_0 : wr.cell? ⟨gb602, 0, none⟩ = some (.bool x603000_2) := (blk_cell BK602.out 0).trans rfl
          have hcz43_1 : wr.cell? ⟨gb602, 1, none⟩ = some (u603001) := (blk_cell BK602.out 1).trans rfl
          have hfz43_0 := blk_frozen BK602.out 0
          have hfz43_1 := blk_frozen BK602.out 1
          have hnb44 := NB599_598.out
          have hnc44 := NB598_599.out
          have hnb45 := NB599_600.out
          have hnc45 := NB600_599.out
          have hnb46 := NB599_601.out
          have hnc46 := NB601_599.out
          have hcz47_0 : wr.cell? ⟨gb599, 0, none⟩ = some (.bool a1_0) := (blk_cell BK599.out 0).trans rfl
          have hcz47_1 : wr.cell? ⟨gb599, 1, none⟩ = some (.slice A1_1 l1_1.length c1_1) := (blk_cell BK599.out 1).trans rfl
          have hfz47_0 := blk_frozen BK599.out 0
          have hfz47_1 := blk_frozen BK599.out 1
          obtain ⟨Ao48, co48, eo48⟩ := Kd.V_slice HO_603001.out
          subst eo48
          go_wp2_with (first | ((with_reducible refine gate_callee (f := 43) rfl ?_); refine goesL_ (some 37) rfl rfl Tryd.func43 (by kernel_rfl) rfl #[.slice Ao48 x603001_2.length co48, .slice A1_1 l1_1.length c1_1] rfl ag ?_; (with_reducible refine (cellarerref02_cmp.calls k2 _ _ x603001_2 _ _ l1_1 t614 _ gk ?side2 ?side3 ?side4 ?side5 A35.out).mono ?_); (case side2 => exact kc ((Kd.V_reads' HO_603001.out).2.2)); (case side3 => exact (Kd.V_reads' HO_603001.out).2.1); (case side4 => exact kc ((Kd.C_below HR1_1.out HB.out))); (case side5 => exact HC1_1.out); rintro e w' ⟨rfl, ⟨nd, rfl⟩⟩; refine ⟨_, rfl, ?_⟩; (try (rw [drewN_self wr]; generalize hq_ : World.drewN wr _ = wr; have n0_ : Aside0 (Kd.V (Kd.int .i64) 3 wr w.heap.size (fun k_ => (w.heap.size ≤ k_) ∧ some k_ ≠ (u7 : Value).ownBlock ∧ k_ ≠ gb598 ∧ k_ ≠ gb599 ∧ k_ ≠ gb600 ∧ k_ ≠ gb601 ∧ k_ ≠ gb602) (.slice Ao48 x603001_2.length co48) x603001_2) := ⟨by rw [← hq_]; exact (kv HO_603001.out)⟩; have n1_ : Aside0 (Kd.R (Kd.int .i64) 3 wr w.heap.size (fun k_ => (w.heap.size ≤ k_)) u7 x7_1) := ⟨by rw [← hq_]; exact (kr HO_7.out)⟩; have n2_ : Aside0 (wr.heap[gb598]? = some (.cells #[.bool a0_0, .slice (some ad606) l0_1.length c0_1] 32 (0, 0))) := ⟨by rw [← hq_]; exact (bk BK598.out)⟩; have n3_ : Aside0 (wr.heap[gb599]? = some (.cells #[.bool a1_0, .slice A1_1 l1_1.length c1_1] 32 (0, 0))) := ⟨by rw [← hq_]; exact (bk BK599.out)⟩; have n4_ : Aside0 (wr.heap[gb600]? = some (.cells #[.bool false, .slice none 0 0] 32 (0, 0))) := ⟨by rw [← hq_]; exact (bk BK600.out)⟩; have n5_ : Aside0 (wr.heap[gb601]? = some (.cells #[.bool false, .slice none 0 0] 32 (0, 0))) := ⟨by rw [← hq_]; exact (bk BK601.out)⟩; have n6_ : Aside0 (wr.heap[gb602]? = some (.cells #[.bool x603000_2, .slice Ao48 x603001_2.length co48] 32 (0, 0))) := ⟨by rw [← hq_]; exact (bk BK602.out)⟩; have n7_ : Aside0 (Below w.heap.size w wr) := ⟨by rw [← hq_]; exact bel⟩; clear HO_603001 HO_7 BK598 BK599 BK600 BK601 BK602 HB hq_; have HO_603001 := n0_; have HO_7 := n1_; have BK598 := n2_; have BK599 := n3_; have BK600 := n4_; have BK601 := n5_; have BK602 := n6_; have HB := n7_; clear n0_ n1_ n2_ n3_ n4_ n5_ n6_ n7_; have hczr598_0 : wr.cell? ⟨gb598, 0, none⟩ = some (.bool a0_0) := (blk_cell BK598.out 0).trans rfl; have hfzr598_0 := blk_frozen BK598.out 0; have hczr598_1 : wr.cell? ⟨gb598, 1, none⟩ = some (.slice (some ad606) l0_1.length c0_1) := (blk_cell BK598.out 1).trans rfl; have hfzr598_1 := blk_frozen BK598.out 1; have hczr599_0 : wr.cell? ⟨gb599, 0, none⟩ = some (.bool a1_0) := (blk_cell BK599.out 0).trans rfl; have hfzr599_0 := blk_frozen BK599.out 0; have hczr599_1 : wr.cell? ⟨gb599, 1, none⟩ = some (.slice A1_1 l1_1.length c1_1) := (blk_cell BK599.out 1).trans rfl; have hfzr599_1 := blk_frozen BK599.out 1; have hczr600_0 : wr.cell? ⟨gb600, 0, none⟩ = some (.bool false) := (blk_cell BK600.out 0).trans rfl; have hfzr600_0 := blk_frozen BK600.out 0; have hczr600_1 : wr.cell? ⟨gb600, 1, none⟩ = some (.slice none 0 0) := (blk_cell BK600.out 1).trans rfl; have hfzr600_1 := blk_frozen BK600.out 1; have hczr601_0 : wr.cell? ⟨gb601, 0, none⟩ = some (.bool false) := (blk_cell BK601.out 0).trans rfl; have hfzr601_0 := blk_frozen BK601.out 0; have hczr601_1 : wr.cell? ⟨gb601, 1, none⟩ = some (.slice none 0 0) := (blk_cell BK601.out 1).trans rfl; have hfzr601_1 := blk_frozen BK601.out 1; have hczr602_0 : wr.cell? ⟨gb602, 0, none⟩ = some (.bool x603000_2) := (blk_cell BK602.out 0).trans rfl; have hfzr602_0 := blk_frozen BK602.out 0; have hczr602_1 : wr.cell? ⟨gb602, 1, none⟩ = some (.slice Ao48 x603001_2.length co48) := (blk_cell BK602.out 1).trans rfl; have hfzr602_1 := blk_frozen BK602.out 1))) | ((with_reducible refine gate_callee (f := 44) rfl ?_); refine goesL_ (some 43) rfl rfl Tryd.func44 (by kernel_rfl) rfl #[.slice Ao48 x603001_2.length co48, .slice A1_1 l1_1.length c1_1, .int .i64 (-1)] rfl ag ?_; (with_reducible refine (cellarerref02_plus.calls k2 _ _ x603001_2 _ _ l1_1 (-1) t615 _ gk ?side2 ?side3 ?side4 ?side5 A37.out).mono ?_); (case side2 => exact kc ((Kd.V_reads' HO_603001.out).2.2)); (case side3 => exact (Kd.V_reads' HO_603001.out).2.1); (case side4 => exact kc ((Kd.C_below HR1_1.out HB.out))); (case side5 => exact HC1_1.out); rintro e w49 ⟨v616, rfl, ho0, hb⟩; refine ⟨_, rfl, ?_⟩; have HO617 := Aside0.mk (Kd.R_lower (Kd.R_new' (Kd.R_newM (M := fun k_ => (w.heap.size ≤ k_)) ho0 (below_size bel) (fun k_ h_ => h_)) (Kd.R_lt (kr HO_7.out))) (below_size bel)); replace HO_7 := Aside0.mk (Kd.R_elder' (kr HO_7.out) (Kd.R_base ho0) hb); replace HO_603001 := Aside0.mk (Kd.V_elder' (kv HO_603001.out) (Kd.R_base ho0) hb); replace BK598 := Aside0.mk (blk_below (bk BK598.out) hb); replace BK599 := Aside0.mk (blk_below (bk BK599.out) hb); replace BK600 := Aside0.mk (blk_below (bk BK600.out) hb); replace BK601 := Aside0.mk (blk_below (bk BK601.out) hb); replace BK602 := Aside0.mk (blk_below (bk BK602.out) hb); replace HB := Aside0.mk (below_step bel hb); clear hb ho0; obtain ⟨Ao50, co50, eo50⟩ := Kd.R_slice HO617.out; subst eo50) | ((with_reducible refine gate_callee (f := 41) rfl ?_); refine goesL_ (some 44) rfl rfl Tryd.func41 (by kernel_rfl) rfl #[.bool false, .slice Ao50 t615.length co50] rfl ag ?_; (with_reducible refine (cellarerref02_make0.calls k2 false (fun k_ => some k_ = (.slice Ao50 t615.length co50 : Value).ownBlock) _ _ t615 t618 t619 _ gk ?side2 A38.out).mono ?_); (case side2 => exact Kd.R_V (Kd.R_tight rfl (Kd.R_types (Kd.R_types (Kd.R_types (Kd.R_types (Kd.R_types HO617.out BK598.out (by decide)) BK599.out (by decide)) BK600.out (by decide)) BK601.out (by decide)) BK602.out (by decide)))); rintro e w51 ⟨v620, rfl, ho0, hb⟩; refine ⟨_, rfl, ?_⟩; have HO621 := Aside0.mk (Kd.V_lower (Kd.V_mono (ok' := fun k_ => (w.heap.size ≤ k_) ∧ some k_ ≠ (u7 : Value).ownBlock ∧ k_ ≠ gb598 ∧ k_ ≠ gb599 ∧ k_ ≠ gb600 ∧ k_ ≠ gb601 ∧ k_ ≠ gb602) ho0 (fun k_ hk_ => ⟨Or.elim hk_ (fun hs_ => ((Kd.R_types (Kd.R_types (Kd.R_types (Kd.R_types (Kd.R_types HO617.out BK598.out (by decide)) BK599.out (by decide)) BK600.out (by decide)) BK601.out (by decide)) BK602.out (by decide)).1 k_ hs_.symm).1.1.1.1.1.1.1) (fun hn_ => (Nat.le_trans (below_size bel) hn_)), Or.elim hk_ (fun hs_ => ((Kd.R_types (Kd.R_types (Kd.R_types (Kd.R_types (Kd.R_types HO617.out BK598.out (by decide)) BK599.out (by decide)) BK600.out (by decide)) BK601.out (by decide)) BK602.out (by decide)).1 k_ hs_.symm).1.1.1.1.1.2) (fun hn_ => (Kd.fresh' (Kd.R_lt (kr HO_7.out)) k_ hn_)), Or.elim hk_ (fun hs_ => ((Kd.R_types (Kd.R_types (Kd.R_types (Kd.R_types (Kd.R_types HO617.out BK598.out (by decide)) BK599.out (by decide)) BK600.out (by decide)) BK601.out (by decide)) BK602.out (by decide)).1 k_ hs_.symm).1.1.1.1.2) (fun hn_ => (Kd.freshB (bk BK598.out) k_ hn_)), Or.elim hk_ (fun hs_ => ((Kd.R_types (Kd.R_types (Kd.R_types (Kd.R_types (Kd.R_types HO617.out BK598.out (by decide)) BK599.out (by decide)) BK600.out (by decide)) BK601.out (by decide)) BK602.out (by decide)).1 k_ hs_.symm).1.1.1.2) (fun hn_ => (Kd.freshB (bk BK599.out) k_ hn_)), Or.elim hk_ (fun hs_ => ((Kd.R_types (Kd.R_types (Kd.R_types (Kd.R_types (Kd.R_types HO617.out BK598.out (by decide)) BK599.out (by decide)) BK600.out (by decide)) BK601.out (by decide)) BK602.out (by decide)).1 k_ hs_.symm).1.1.2) (fun hn_ => (Kd.freshB (bk BK600.out) k_ hn_)), Or.elim hk_ (fun hs_ => ((Kd.R_types (Kd.R_types (Kd.R_types (Kd.R_types (Kd.R_types HO617.out BK598.out (by decide)) BK599.out (by decide)) BK600.out (by decide)) BK601.out (by decide)) BK602.out (by decide)).1 k_ hs_.symm).1.2) (fun hn_ => (Kd.freshB (bk BK601.out) k_ hn_)), Or.elim hk_ (fun hs_ => ((Kd.R_types (Kd.R_types (Kd.R_types (Kd.R_types (Kd.R_types HO617.out BK598.out (by decide)) BK599.out (by decide)) BK600.out (by decide)) BK601.out (by decide)) BK602.out (by decide)).1 k_ hs_.symm).2) (fun hn_ => (Kd.freshB (bk BK602.out) k_ hn_))⟩)) (below_size bel)); replace HO_7 := Aside0.mk (Kd.R_below (kr HO_7.out) hb); replace HO_603001 := Aside0.mk (Kd.V_below (kv HO_603001.out) hb); replace HO617 := Aside0.mk (Kd.R_below (kr HO617.out) hb); replace BK598 := Aside0.mk (blk_below (bk BK598.out) hb); replace BK599 := Aside0.mk (blk_below (bk BK599.out) hb); replace BK600 := Aside0.mk (blk_below (bk BK600.out) hb); replace BK601 := Aside0.mk (blk_below (bk BK601.out) hb); replace BK602 := Aside0.mk (blk_below (bk BK602.out) hb); replace HB := Aside0.mk (below_step bel hb); clear hb ho0; have hcz52_0 : w51.cell? ⟨gb602, 0, none⟩ = some (.bool x603000_2) := (blk_cell BK602.out 0).trans rfl; have hcz52_1 : w51.cell? ⟨gb602, 1, none⟩ = some (.slice Ao48 x603001_2.length co48) := (blk_cell BK602.out 1).trans rfl; have hfz52_0 := blk_frozen BK602.out 0; have hfz52_1 := blk_frozen BK602.out 1; obtain ⟨Ao53, co53, eo53⟩ := Kd.V_slice HO621.out; subst eo53))
          go_roundg k2
          case measure => have := HK1.out; have := HK2.out; omega
          case rel => exact ⟨(wrap64 (x10_2 + 1)), (t618), (t619), (.slice Ao53 t619.length co53), (by first | rfl | (simp; done) | (simp [*]; done)), H', ⟨by have := HK1.out; have := HK2.out; omega⟩, ⟨kr (Kd.R_mono (Kd.R_far (p := ⟨gb602, 1, none⟩) (Kd.R_far (p := ⟨gb602, 0, none⟩) (Kd.R_types HO_7.out BK602.out (by decide)) (fun _ hk => hk.2) (.bool t618)) (fun _ hk => hk.2) (.slice Ao53 t619.length co53)) (fun _ hk => hk.1.1))⟩, ⟨kv (Kd.V_mono (Kd.V_far (p := ⟨gb602, 1, none⟩) (Kd.V_far (p := ⟨gb602, 0, none⟩) (Kd.V_mono HO621.out (fun k_ hk => (⟨hk, hk.2.2.2.2.2.2⟩ : _ ∧ k_ ≠ gb602))) (fun _ hk => hk.2) (.bool t618)) (fun _ hk => hk.2) (.slice Ao53 t619.length co53)) (fun _ hk => ⟨hk.1.1, ⟨hk.1.2.1, ⟨hk.1.2.2.1, ⟨hk.1.2.2.2.1, ⟨hk.1.2.2.2.2.1, ⟨hk.1.2.2.2.2.2.1, hk.1.2.2.2.2.2.2⟩⟩⟩⟩⟩⟩))⟩, ⟨by (with_reducible repeat (first | refine blk_drewN ?_ _ | refine blk_drew ?_ | refine blk_alloc ?_ _)); refine blk_far ?_ NB598_602.out _; (with_reducible repeat (first | refine blk_drewN ?_ _ | refine blk_drew ?_ | refine blk_alloc ?_ _)); refine blk_far ?_ NB598_602.out _; (with_reducible repeat (first | refine blk_drewN ?_ _ | refine blk_drew ?_ | refine blk_alloc ?_ _)); exact BK598.out⟩, ⟨by (with_reducible repeat (first | refine blk_drewN ?_ _ | refine blk_drew ?_ | refine blk_alloc ?_ _)); refine blk_far ?_ NB599_602.out _; (with_reducible repeat (first | refine blk_drewN ?_ _ | refine blk_drew ?_ | refine blk_alloc ?_ _)); refine blk_far ?_ NB599_602.out _; (with_reducible repeat (first | refine blk_drewN ?_ _ | refine blk_drew ?_ | refine blk_alloc ?_ _)); exact BK599.out⟩, ⟨by (with_reducible repeat (first | refine blk_drewN ?_ _ | refine blk_drew ?_ | refine blk_alloc ?_ _)); refine blk_far ?_ NB600_602.out _; (with_reducible repeat (first | refine blk_drewN ?_ _ | refine blk_drew ?_ | refine blk_alloc ?_ _)); refine blk_far ?_ NB600_602.out _; (with_reducible repeat (first | refine blk_drewN ?_ _ | refine blk_drew ?_ | refine blk_alloc ?_ _)); exact BK600.out⟩, ⟨by (with_reducible repeat (first | refine blk_drewN ?_ _ | refine blk_drew ?_ | refine blk_alloc ?_ _)); refine blk_far ?_ NB601_602.out _; (with_reducible repeat (first | refine blk_drewN ?_ _ | refine blk_drew ?_ | refine blk_alloc ?_ _)); refine blk_far ?_ NB601_602.out _; (with_reducible repeat (first | refine blk_drewN ?_ _ | refine blk_drew ?_ | refine blk_alloc ?_ _)); exact BK601.out⟩, ⟨by (with_reducible repeat (first | refine blk_drewN ?_ _ | refine blk_drew ?_ | refine blk_alloc ?_ _)); refine blk_put (cs := #[.bool t618, .slice Ao48 x603001_2.length co48]) ?_ 1 _ rfl; (with_reducible repeat (first | refine blk_drewN ?_ _ | refine blk_drew ?_ | refine blk_alloc ?_ _)); refine blk_put (cs := #[.bool x603000_2, .slice Ao48 x603001_2.length co48]) ?_ 0 _ rfl; (with_reducible repeat (first | refine blk_drewN ?_ _ | refine blk_drew ?_ | refine blk_alloc ?_ _)); exact BK602.out⟩, ⟨bel⟩⟩
         ·rw [if_neg c36] at H
          have c36b0 : decide (0 ≤ t614) = false := decide_eq_false c36
          clear c36
          by_cases c54 : x7_1.length < 17592186044416
          ·rw [if_pos c54] at H
           have LMc54 := Aside0.mk c54
           clear c54
           obtain ⟨y622, hy622⟩ : ∃ y_ : List Int, y_ = (x7_1 ++ [x10_2]) := ⟨_, rfl⟩
           replace H : (cellarerref02_DivMod.l0 k2 y622 (wrap64 (x8_1 + 1)) a0_0 l0_1 a1_0 l1_1 x603000_2 x603001_2) = some (r1, r2, r3, r4) := by first | (rw [hy622]; with_reducible exact H) | (have H2_ := (Option.bind_some _ _).symm.trans H; rw [hy622]; with_reducible exact H2_) | (have H2_ := (Option.bind_some _ _).symm.trans H; with_reducible exact H2_) | with_reducible exact H | (rw [hy622]; exact H) | exact H
           have Ny622 := Aside0.mk hy622
           clear hy622
           have H' := Aside0.mk H
           clear H
           have hnb55 := NB602_598.out
           have hnc55 := NB598_602.out
           have hnb56 := NB602_599.out
           have hnc56 := NB599_602.out
           have hnb57 := NB602_600.out
           have hnc57 := NB600_602.out
           have hnb58 := NB602_601.out
           have hnc58 := NB601_602.out
           have hcz59_0 : wr.cell? ⟨gb602, 0, none⟩ = some (.bool x603000_2) := (blk_cell BK602.out 0).trans rfl
           have hcz59_1 : wr.cell? ⟨gb602, 1, none⟩ = some (u603001) := (blk_cell BK602.out 1).trans rfl
           have hfz59_0 := blk_frozen BK602.out 0
           have hfz59_1 := blk_frozen BK602.out 1
           have hnb60 := NB599_598.out
           have hnc60 := NB598_599.out
           have hnb61 := NB599_600.out
           have hnc61 := NB600_599.out
           have hnb62 := NB599_601.out
           have hnc62 := NB601_599.out
           have hcz63_0 : wr.cell? ⟨gb599, 0, none⟩ = some (.bool a1_0) := (blk_cell BK599.out 0).trans rfl
           have hcz63_1 : wr.cell? ⟨gb599, 1, none⟩ = some (.slice A1_1 l1_1.length c1_1) := (blk_cell BK599.out 1).trans rfl
           have hfz63_0 := blk_frozen BK599.out 0
           have hfz63_1 := blk_frozen BK599.out 1
           obtain ⟨Ao64, co64, eo64⟩ := Kd.V_slice HO_603001.out
           subst eo64
           go_wp2_with (first | ((with_reducible refine gate_callee (f := 43) rfl ?_); refine goesL_ (some 37) rfl rfl Tryd.func43 (by kernel_rfl) rfl #[.slice Ao64 x603001_2.length co64, .slice A1_1 l1_1.length c1_1] rfl ag ?_; (with_reducible refine (cellarerref02_cmp.calls k2 _ _ x603001_2 _ _ l1_1 t614 _ gk ?side2 ?side3 ?side4 ?side5 A35.out).mono ?_); (case side2 => exact kc ((Kd.V_reads' HO_603001.out).2.2)); (case side3 => exact (Kd.V_reads' HO_603001.out).2.1); (case side4 => exact kc ((Kd.C_below HR1_1.out HB.out))); (case side5 => exact HC1_1.out); rintro e w' ⟨rfl, ⟨nd, rfl⟩⟩; refine ⟨_, rfl, ?_⟩) | ((with_reducible refine gate_builtin (b := .append) (xs := #[.tmp 47, .tmp 49]) rfl ?_); at_builtin; refine Kd.R_append (Kd.int .i64) (w0 := w) w.heap.size rfl (.tmp 47) (.tmp 49) 30 3 (.int .i64 0) 8 rfl Tryd.underlying30 info3 rfl (by decide) (by omega) u7 x7_1 x10_2 [.int .i64 x10_2] (fun k_ => (w.heap.size ≤ k_)) (fun _ => False) rfl rfl ?aP (fun _ hk => hk.elim) ?aF ?aO ?aB ?aS ?aL ?_; (case aP => exact rfl); (case aB => exact bel); (case aF => exact (fun k_ hk => (Nat.le_trans (below_size bel) hk))); (case aO => exact (kr HO_7.out)); (case aS => exact (below_size bel)); (case aL => have := LMc54.out; omega); intro v623 w65 ho hb hg hat; rw [← Ny622.out] at ho; have HO624 := Aside0.mk (ho); replace HO_603001 := Aside0.mk (Kd.V_afterv (ok := (fun k_ => (w.heap.size ≤ k_) ∧ k_ ≠ gb598 ∧ k_ ≠ gb599 ∧ k_ ≠ gb600 ∧ k_ ≠ gb601 ∧ k_ ≠ gb602)) (kv (Kd.V_mono HO_603001.out (fun _ hk => ⟨⟨hk.1, ⟨hk.2.2.1, ⟨hk.2.2.2.1, ⟨hk.2.2.2.2.1, ⟨hk.2.2.2.2.2.1, hk.2.2.2.2.2.2⟩⟩⟩⟩⟩, hk.2.1⟩))) hg hat); replace BK598 := Aside0.mk (blk_grown (bk BK598.out) hg (Kd.R_ne HO_7.out BK598.out (by decide))); replace BK599 := Aside0.mk (blk_grown (bk BK599.out) hg (Kd.R_ne HO_7.out BK599.out (by decide))); replace BK600 := Aside0.mk (blk_grown (bk BK600.out) hg (Kd.R_ne HO_7.out BK600.out (by decide))); replace BK601 := Aside0.mk (blk_grown (bk BK601.out) hg (Kd.R_ne HO_7.out BK601.out (by decide))); replace BK602 := Aside0.mk (blk_grown (bk BK602.out) hg (Kd.R_ne HO_7.out BK602.out (by decide))); replace HB := Aside0.mk (hb); clear HO_7; clear ho hb hg hat))
           go_roundg k2
           case measure => have := HK1.out; have := HK2.out; omega
           case rel => exact ⟨(y622), (wrap64 (x8_1 + 1)), (x603000_2), (x603001_2), (.slice Ao64 x603001_2.length co64), (by first | rfl | (simp; done) | (simp [*]; done)), H', ⟨by have := HK1.out; have := HK2.out; omega⟩, ⟨kr HO624.out⟩, ⟨kv (Kd.V_mono HO_603001.out (fun _ hk => ⟨hk.1.1, ⟨hk.2, ⟨hk.1.2.1, ⟨hk.1.2.2.1, ⟨hk.1.2.2.2.1, ⟨hk.1.2.2.2.2.1, hk.1.2.2.2.2.2⟩⟩⟩⟩⟩⟩))⟩, ⟨bk BK598.out⟩, ⟨bk BK599.out⟩, ⟨bk BK600.out⟩, ⟨bk BK601.out⟩, ⟨bk BK602.out⟩, ⟨bel⟩⟩
          ·rw [if_neg c54] at H
           exact absurd H (by simp)
      ·rw [if_neg c16] at H
       exact absurd H (by simp)
     ·rw [if_neg c15] at H
      exact absurd H (by simp)
    ·rw [if_neg c14] at H
     exact absurd H (by simp)
   ·rw [if_neg c13] at H
    have c13b0 : decide (x8_1 < (l0_1.length : Int)) = false := decide_eq_false c13
    clear c13
    obtain ⟨⟨t625, t626⟩, A66, H⟩ := bind_ H
    try dsimp only at H
    have HC67 := Aside0.mk H
    clear H
    have hnb68 := NB598_599.out
    have hnc68 := NB599_598.out
    have hnb69 := NB598_600.out
    have hnc69 := NB600_598.out
    have hnb70 := NB598_601.out
    have hnc70 := NB601_598.out
    have hnb71 := NB598_602.out
    have hnc71 := NB602_598.out
    have hcz72_0 : wr.cell? ⟨gb598, 0, none⟩ = some (.bool a0_0) := (blk_cell BK598.out 0).trans rfl
    have hcz72_1 : wr.cell? ⟨gb598, 1, none⟩ = some (.slice A0_1 l0_1.length c0_1) := (blk_cell BK598.out 1).trans rfl
    have hfz72_0 := blk_frozen BK598.out 0
    have hfz72_1 := blk_frozen BK598.out 1
    have hnb73 := NB599_600.out
    have hnc73 := NB600_599.out
    have hnb74 := NB599_601.out
    have hnc74 := NB601_599.out
    have hnb75 := NB599_602.out
    have hnc75 := NB602_599.out
    have hcz76_0 : wr.cell? ⟨gb599, 0, none⟩ = some (.bool a1_0) := (blk_cell BK599.out 0).trans rfl
    have hcz76_1 : wr.cell? ⟨gb599, 1, none⟩ = some (.slice A1_1 l1_1.length c1_1) := (blk_cell BK599.out 1).trans rfl
    have hfz76_0 := blk_frozen BK599.out 0
    have hfz76_1 := blk_frozen BK599.out 1
    obtain ⟨Ao77, co77, eo77⟩ := Kd.R_slice HO_7.out
    subst eo77
    go_upto_region 15 with (first | ((with_reducible refine gate_callee (f := 41) rfl ?_); refine goesL_ (some 57) rfl rfl Tryd.func41 (by kernel_rfl) rfl #[.bool (a0_0 != a1_0), .slice Ao77 x7_1.length co77] rfl ag ?_; (with_reducible refine (cellarerref02_make0.calls k1 (a0_0 != a1_0) (fun k_ => some k_ = (.slice Ao77 x7_1.length co77 : Value).ownBlock) _ _ x7_1 t625 t626 _ gk ?side2 A66.out).mono ?_); (case side2 => exact Kd.R_V (Kd.R_tight rfl (Kd.R_types (Kd.R_types (Kd.R_types (Kd.R_types (Kd.R_types HO_7.out BK598.out (by decide)) BK599.out (by decide)) BK600.out (by decide)) BK601.out (by decide)) BK602.out (by decide)))); rintro e w78 ⟨v627, rfl, ho0, hb⟩; refine ⟨_, rfl, ?_⟩; have HO628 := Aside0.mk (Kd.V_lower (Kd.V_mono (ok' := fun k_ => (w.heap.size ≤ k_) ∧ k_ ≠ gb598 ∧ k_ ≠ gb599 ∧ k_ ≠ gb600 ∧ k_ ≠ gb601 ∧ k_ ≠ gb602) ho0 (fun k_ hk_ => ⟨Or.elim hk_ (fun hs_ => ((Kd.R_types (Kd.R_types (Kd.R_types (Kd.R_types (Kd.R_types HO_7.out BK598.out (by decide)) BK599.out (by decide)) BK600.out (by decide)) BK601.out (by decide)) BK602.out (by decide)).1 k_ hs_.symm).1.1.1.1.1) (fun hn_ => (Nat.le_trans (below_size bel) hn_)), Or.elim hk_ (fun hs_ => ((Kd.R_types (Kd.R_types (Kd.R_types (Kd.R_types (Kd.R_types HO_7.out BK598.out (by decide)) BK599.out (by decide)) BK600.out (by decide)) BK601.out (by decide)) BK602.out (by decide)).1 k_ hs_.symm).1.1.1.1.2) (fun hn_ => (Kd.freshB (bk BK598.out) k_ hn_)), Or.elim hk_ (fun hs_ => ((Kd.R_types (Kd.R_types (Kd.R_types (Kd.R_types (Kd.R_types HO_7.out BK598.out (by decide)) BK599.out (by decide)) BK600.out (by decide)) BK601.out (by decide)) BK602.out (by decide)).1 k_ hs_.symm).1.1.1.2) (fun hn_ => (Kd.freshB (bk BK599.out) k_ hn_)), Or.elim hk_ (fun hs_ => ((Kd.R_types (Kd.R_types (Kd.R_types (Kd.R_types (Kd.R_types HO_7.out BK598.out (by decide)) BK599.out (by decide)) BK600.out (by decide)) BK601.out (by decide)) BK602.out (by decide)).1 k_ hs_.symm).1.1.2) (fun hn_ => (Kd.freshB (bk BK600.out) k_ hn_)), Or.elim hk_ (fun hs_ => ((Kd.R_types (Kd.R_types (Kd.R_types (Kd.R_types (Kd.R_types HO_7.out BK598.out (by decide)) BK599.out (by decide)) BK600.out (by decide)) BK601.out (by decide)) BK602.out (by decide)).1 k_ hs_.symm).1.2) (fun hn_ => (Kd.freshB (bk BK601.out) k_ hn_)), Or.elim hk_ (fun hs_ => ((Kd.R_types (Kd.R_types (Kd.R_types (Kd.R_types (Kd.R_types HO_7.out BK598.out (by decide)) BK599.out (by decide)) BK600.out (by decide)) BK601.out (by decide)) BK602.out (by decide)).1 k_ hs_.symm).2) (fun hn_ => (Kd.freshB (bk BK602.out) k_ hn_))⟩)) (below_size bel)); replace HO_7 := Aside0.mk (Kd.R_below (kr HO_7.out) hb); replace HO_603001 := Aside0.mk (Kd.V_below (kv HO_603001.out) hb); replace BK598 := Aside0.mk (blk_below (bk BK598.out) hb); replace BK599 := Aside0.mk (blk_below (bk BK599.out) hb); replace BK600 := Aside0.mk (blk_below (bk BK600.out) hb); replace BK601 := Aside0.mk (blk_below (bk BK601.out) hb); replace BK602 := Aside0.mk (blk_below (bk BK602.out) hb); replace HB := Aside0.mk (below_step bel hb); clear hb ho0) | ((with_reducible refine gate_dst (N := 11) rfl ?_); refine box_event ?hg (N := 11) ?hd (cs := #[.bool false, .slice none 0 0]) (t := 32) ?hr ?_; (case hd => rfl); (case hg => rfl); (case hr => first | (go_simp; done) | (go_simp; rfl)); intro gb629 hg w79 hbox hb; have BK629 := Aside0.mk (hbox); have GW629 := Aside0.mk ((by rw [hg]; exact (below_size bel) : w.heap.size ≤ gb629)); have GE629 := Aside0.mk ((by rw [hg]; exact (below_size bel) : w.heap.size ≤ gb629)); have NB598_629 := Aside0.mk ((by rw [hg]; exact Nat.ne_of_lt (blk_lt (bk BK598.out)) : gb598 ≠ gb629)); have NB629_598 := Aside0.mk ((by rw [hg]; exact Nat.ne_of_gt (blk_lt (bk BK598.out)) : gb629 ≠ gb598)); have NB599_629 := Aside0.mk ((by rw [hg]; exact Nat.ne_of_lt (blk_lt (bk BK599.out)) : gb599 ≠ gb629)); have NB629_599 := Aside0.mk ((by rw [hg]; exact Nat.ne_of_gt (blk_lt (bk BK599.out)) : gb629 ≠ gb599)); have NB600_629 := Aside0.mk ((by rw [hg]; exact Nat.ne_of_lt (blk_lt (bk BK600.out)) : gb600 ≠ gb629)); have NB629_600 := Aside0.mk ((by rw [hg]; exact Nat.ne_of_gt (blk_lt (bk BK600.out)) : gb629 ≠ gb600)); have NB601_629 := Aside0.mk ((by rw [hg]; exact Nat.ne_of_lt (blk_lt (bk BK601.out)) : gb601 ≠ gb629)); have NB629_601 := Aside0.mk ((by rw [hg]; exact Nat.ne_of_gt (blk_lt (bk BK601.out)) : gb629 ≠ gb601)); have NB602_629 := Aside0.mk ((by rw [hg]; exact Nat.ne_of_lt (blk_lt (bk BK602.out)) : gb602 ≠ gb629)); have NB629_602 := Aside0.mk ((by rw [hg]; exact Nat.ne_of_gt (blk_lt (bk BK602.out)) : gb629 ≠ gb602)); replace HO_7 := Aside0.mk (Kd.R_below (kr HO_7.out) hb); replace HO_603001 := Aside0.mk (Kd.V_below (Kd.V_elderB (kv HO_603001.out) gb629 (Nat.le_of_eq hg.symm)) hb); replace HO628 := Aside0.mk (Kd.V_below (Kd.V_elderB (kv HO628.out) gb629 (Nat.le_of_eq hg.symm)) hb); replace BK598 := Aside0.mk (blk_below (bk BK598.out) hb); replace BK599 := Aside0.mk (blk_below (bk BK599.out) hb); replace BK600 := Aside0.mk (blk_below (bk BK600.out) hb); replace BK601 := Aside0.mk (blk_below (bk BK601.out) hb); replace BK602 := Aside0.mk (blk_below (bk BK602.out) hb); replace HB := Aside0.mk (below_step bel hb); clear hb hbox hg; have hnb80 := NB629_598.out; have hnc80 := NB598_629.out; have hnb81 := NB629_599.out; have hnc81 := NB599_629.out; have hnb82 := NB629_600.out; have hnc82 := NB600_629.out; have hnb83 := NB629_601.out; have hnc83 := NB601_629.out; have hnb84 := NB629_602.out; have hnc84 := NB602_629.out; have hcz85_0 : w79.cell? ⟨gb629, 0, none⟩ = some (.bool false) := (blk_cell BK629.out 0).trans rfl; have hcz85_1 : w79.cell? ⟨gb629, 1, none⟩ = some (.slice none 0 0) := (blk_cell BK629.out 1).trans rfl; have hfz85_0 := blk_frozen BK629.out 0; have hfz85_1 := blk_frozen BK629.out 1; obtain ⟨Ao86, co86, eo86⟩ := Kd.V_slice HO628.out; subst eo86))
    (try simp only [Act.put, List.setIfInBounds_toArray, List.set_cons_zero, List.set_cons_succ])
    go_cut [68] (fun v68 wc => ∃ (kq : Nat) (x68_66 : Bool), v68 = .bool x68_66 ∧ Aside0 (cellarerref02_DivMod.j2 kq x68_66 a0_0 l0_1 a1_0 l1_1 t625 t626 = some (r1, r2, r3, r4)) ∧ Aside0 (kq ≤ k1) ∧ Aside0 (Kd.V (Kd.int .i64) 3 wc w.heap.size (fun k_ => (w.heap.size ≤ k_) ∧ k_ ≠ gb598 ∧ k_ ≠ gb599 ∧ k_ ≠ gb600 ∧ k_ ≠ gb601 ∧ k_ ≠ gb602 ∧ k_ ≠ gb629) u603001 x603001_1) ∧ Aside0 (Kd.V (Kd.int .i64) 3 wc w.heap.size (fun k_ => (w.heap.size ≤ k_) ∧ k_ ≠ gb598 ∧ k_ ≠ gb599 ∧ k_ ≠ gb600 ∧ k_ ≠ gb601 ∧ k_ ≠ gb602 ∧ k_ ≠ gb629) (.slice Ao86 t626.length co86) t626) ∧ Aside0 (wc.heap[gb598]? = some (.cells #[.bool a0_0, (.slice A0_1 l0_1.length c0_1)] 32 (0, 0))) ∧ Aside0 (wc.heap[gb599]? = some (.cells #[.bool a1_0, (.slice A1_1 l1_1.length c1_1)] 32 (0, 0))) ∧ Aside0 (wc.heap[gb600]? = some (.cells #[.bool false, (.slice none 0 0)] 32 (0, 0))) ∧ Aside0 (wc.heap[gb601]? = some (.cells #[.bool false, (.slice none 0 0)] 32 (0, 0))) ∧ Aside0 (wc.heap[gb602]? = some (.cells #[.bool x603000_1, u603001] 32 (0, 0))) ∧ Aside0 (wc.heap[gb629]? = some (.cells #[.bool t625, (.slice Ao86 t626.length co86)] 32 (0, 0))) ∧ Aside0 (Below w.heap.size w wc))
    case first =>
     have H := HC67.out
     clear HC67
     by_cases c87 : (x603001_1.length : Int) > 0
     ·rw [if_pos c87] at H
      have c87b0 : decide (0 < (x603001_1.length : Int)) = true := decide_eq_true c87
      have c87b1 : decide (0 < x603001_1.length) = true := decide_eq_true (by omega)
      clear c87
      (first | rw [c87b0] | rw [c87b1] | (simp only [i64_w, i32_w]; rw [c87b0]) | skip)
      have H' := Aside0.mk H
      clear H
      have hnb88 := NB602_598.out
      have hnc88 := NB598_602.out
      have hnb89 := NB602_599.out
      have hnc89 := NB599_602.out
      have hnb90 := NB602_600.out
      have hnc90 := NB600_602.out
      have hnb91 := NB602_601.out
      have hnc91 := NB601_602.out
      have hnb92 := NB602_629.out
      have hnc92 := NB629_602.out
      have hcz93_0 : w79.cell? ⟨gb602, 0, none⟩ = some (.bool x603000_1) := (blk_cell BK602.out 0).trans rfl
      have hcz93_1 : w79.cell? ⟨gb602, 1, none⟩ = some (u603001) := (blk_cell BK602.out 1).trans rfl
      have hfz93_0 := blk_frozen BK602.out 0
      have hfz93_1 := blk_frozen BK602.out 1
      obtain ⟨Ao94, co94, eo94⟩ := Kd.V_slice HO_603001.out
      subst eo94
      have hnb95 := NB598_599.out
      have hnc95 := NB599_598.out
      have hnb96 := NB598_600.out
      have hnc96 := NB600_598.out
      have hnb97 := NB598_601.out
      have hnc97 := NB601_598.out
      have hnb98 := NB598_629.out
      have hnc98 := NB629_598.out
      have hcz99_0 : w79.cell? ⟨gb598, 0, none⟩ = some (.bool a0_0) := (blk_cell BK598.out 0).trans rfl
      have hcz99_1 : w79.cell? ⟨gb598, 1, none⟩ = some (.slice A0_1 l0_1.length c0_1) := (blk_cell BK598.out 1).trans rfl
      have hfz99_0 := blk_frozen BK598.out 0
      have hfz99_1 := blk_frozen BK598.out 1
      have hnb100 := NB599_600.out
      have hnc100 := NB600_599.out
      have hnb101 := NB599_601.out
      have hnc101 := NB601_599.out
      have hnb102 := NB599_629.out
      have hnc102 := NB629_599.out
      have hcz103_0 : w79.cell? ⟨gb599, 0, none⟩ = some (.bool a1_0) := (blk_cell BK599.out 0).trans rfl
      have hcz103_1 : w79.cell? ⟨gb599, 1, none⟩ = some (.slice A1_1 l1_1.length c1_1) := (blk_cell BK599.out 1).trans rfl
      have hfz103_0 := blk_frozen BK599.out 0
      have hfz103_1 := blk_frozen BK599.out 1
      go_wp2
      go_meet
      case rel => exact ⟨_, ((a0_0 != a1_0)), (by first | rfl | (simp; done) | (simp [*]; done)), H', ⟨by have := HK1.out; first | omega | exact Nat.le_refl _⟩, ⟨kv (Kd.V_mono (Kd.V_far (p := ⟨gb629, 1, none⟩) (Kd.V_far (p := ⟨gb629, 0, none⟩) (Kd.V_mono HO_603001.out (fun k_ hk => (⟨hk, hk.2⟩ : _ ∧ k_ ≠ gb629))) (fun _ hk => hk.2) (.bool t625)) (fun _ hk => hk.2) (.slice Ao86 t626.length co86)) (fun _ hk => ⟨hk.1.1.1, ⟨hk.1.1.2.2.1, ⟨hk.1.1.2.2.2.1, ⟨hk.1.1.2.2.2.2.1, ⟨hk.1.1.2.2.2.2.2.1, ⟨hk.1.1.2.2.2.2.2.2, hk.1.2⟩⟩⟩⟩⟩⟩))⟩, ⟨kv (Kd.V_mono (Kd.V_far (p := ⟨gb629, 1, none⟩) (Kd.V_far (p := ⟨gb629, 0, none⟩) (Kd.V_mono HO628.out (fun k_ hk => (⟨hk, hk.2⟩ : _ ∧ k_ ≠ gb629))) (fun _ hk => hk.2) (.bool t625)) (fun _ hk => hk.2) (.slice Ao86 t626.length co86)) (fun _ hk => ⟨hk.1.1.1, ⟨hk.1.1.2.1, ⟨hk.1.1.2.2.1, ⟨hk.1.1.2.2.2.1, ⟨hk.1.1.2.2.2.2.1, ⟨hk.1.1.2.2.2.2.2, hk.1.2⟩⟩⟩⟩⟩⟩))⟩, ⟨by (with_reducible repeat (first | refine blk_drewN ?_ _ | refine blk_drew ?_ | refine blk_alloc ?_ _)); refine blk_far ?_ NB598_629.out _; (with_reducible repeat (first | refine blk_drewN ?_ _ | refine blk_drew ?_ | refine blk_alloc ?_ _)); refine blk_far ?_ NB598_629.out _; (with_reducible repeat (first | refine blk_drewN ?_ _ | refine blk_drew ?_ | refine blk_alloc ?_ _)); exact BK598.out⟩, ⟨by (with_reducible repeat (first | refine blk_drewN ?_ _ | refine blk_drew ?_ | refine blk_alloc ?_ _)); refine blk_far ?_ NB599_629.out _; (with_reducible repeat (first | refine blk_drewN ?_ _ | refine blk_drew ?_ | refine blk_alloc ?_ _)); refine blk_far ?_ NB599_629.out _; (with_reducible repeat (first | refine blk_drewN ?_ _ | refine blk_drew ?_ | refine blk_alloc ?_ _)); exact BK599.out⟩, ⟨by (with_reducible repeat (first | refine blk_drewN ?_ _ | refine blk_drew ?_ | refine blk_alloc ?_ _)); refine blk_far ?_ NB600_629.out _; (with_reducible repeat (first | refine blk_drewN ?_ _ | refine blk_drew ?_ | refine blk_alloc ?_ _)); refine blk_far ?_ NB600_629.out _; (with_reducible repeat (first | refine blk_drewN ?_ _ | refine blk_drew ?_ | refine blk_alloc ?_ _)); exact BK600.out⟩, ⟨by (with_reducible repeat (first | refine blk_drewN ?_ _ | refine blk_drew ?_ | refine blk_alloc ?_ _)); refine blk_far ?_ NB601_629.out _; (with_reducible repeat (first | refine blk_drewN ?_ _ | refine blk_drew ?_ | refine blk_alloc ?_ _)); refine blk_far ?_ NB601_629.out _; (with_reducible repeat (first | refine blk_drewN ?_ _ | refine blk_drew ?_ | refine blk_alloc ?_ _)); exact BK601.out⟩, ⟨by (with_reducible repeat (first | refine blk_drewN ?_ _ | refine blk_drew ?_ | refine blk_alloc ?_ _)); refine blk_far ?_ NB602_629.out _; (with_reducible repeat (first | refine blk_drewN ?_ _ | refine blk_drew ?_ | refine blk_alloc ?_ _)); refine blk_far ?_ NB602_629.out _; (with_reducible repeat (first | refine blk_drewN ?_ _ | refine blk_drew ?_ | refine blk_alloc ?_ _)); exact BK602.out⟩, ⟨by (with_reducible repeat (first | refine blk_drewN ?_ _ | refine blk_drew ?_ | refine blk_alloc ?_ _)); refine blk_put (cs := #[.bool t625, .slice none 0 0]) ?_ 1 _ rfl; (with_reducible repeat (first | refine blk_drewN ?_ _ | refine blk_drew ?_ | refine blk_alloc ?_ _)); refine blk_put (cs := #[.bool false, .slice none 0 0]) ?_ 0 _ rfl; (with_reducible repeat (first | refine blk_drewN ?_ _ | refine blk_drew ?_ | refine blk_alloc ?_ _)); exact BK629.out⟩, ⟨bel⟩⟩
     ·rw [if_neg c87] at H
      have c87b0 : decide (0 < (x603001_1.length : Int)) = false := decide_eq_false c87
      have c87b1 : decide (0 < x603001_1.length) = false := decide_eq_false (by omega)
      clear c87
      (first | rw [c87b0] | rw [c87b1] | (simp only [i64_w, i32_w]; rw [c87b0]) | skip)
      have H' := Aside0.mk H
      clear H
      have hnb104 := NB602_598.out
      have hnc104 := NB598_602.out
      have hnb105 := NB602_599.out
      have hnc105 := NB599_602.out
      have hnb106 := NB602_600.out
      have hnc106 := NB600_602.out
      have hnb107 := NB602_601.out
      have hnc107 := NB601_602.out
      have hnb108 := NB602_629.out
      have hnc108 := NB629_602.out
      have hcz109_0 : w79.cell? ⟨gb602, 0, none⟩ = some (.bool x603000_1) := (blk_cell BK602.out 0).trans rfl
      have hcz109_1 : w79.cell? ⟨gb602, 1, none⟩ = some (u603001) := (blk_cell BK602.out 1).trans rfl
      have hfz109_0 := blk_frozen BK602.out 0
      have hfz109_1 := blk_frozen BK602.out 1
      obtain ⟨Ao110, co110, eo110⟩ := Kd.V_slice HO_603001.out
      subst eo110
      go_wp2
      go_meet
      case rel => exact ⟨_, (false), (by first | rfl | (simp; done) | (simp [*]; done)), H', ⟨by have := HK1.out; first | omega | exact Nat.le_refl _⟩, ⟨kv (Kd.V_mono (Kd.V_far (p := ⟨gb629, 1, none⟩) (Kd.V_far (p := ⟨gb629, 0, none⟩) (Kd.V_mono HO_603001.out (fun k_ hk => (⟨hk, hk.2⟩ : _ ∧ k_ ≠ gb629))) (fun _ hk => hk.2) (.bool t625)) (fun _ hk => hk.2) (.slice Ao86 t626.length co86)) (fun _ hk => ⟨hk.1.1.1, ⟨hk.1.1.2.2.1, ⟨hk.1.1.2.2.2.1, ⟨hk.1.1.2.2.2.2.1, ⟨hk.1.1.2.2.2.2.2.1, ⟨hk.1.1.2.2.2.2.2.2, hk.1.2⟩⟩⟩⟩⟩⟩))⟩, ⟨kv (Kd.V_mono (Kd.V_far (p := ⟨gb629, 1, none⟩) (Kd.V_far (p := ⟨gb629, 0, none⟩) (Kd.V_mono HO628.out (fun k_ hk => (⟨hk, hk.2⟩ : _ ∧ k_ ≠ gb629))) (fun _ hk => hk.2) (.bool t625)) (fun _ hk => hk.2) (.slice Ao86 t626.length co86)) (fun _ hk => ⟨hk.1.1.1, ⟨hk.1.1.2.1, ⟨hk.1.1.2.2.1, ⟨hk.1.1.2.2.2.1, ⟨hk.1.1.2.2.2.2.1, ⟨hk.1.1.2.2.2.2.2, hk.1.2⟩⟩⟩⟩⟩⟩))⟩, ⟨by (with_reducible repeat (first | refine blk_drewN ?_ _ | refine blk_drew ?_ | refine blk_alloc ?_ _)); refine blk_far ?_ NB598_629.out _; (with_reducible repeat (first | refine blk_drewN ?_ _ | refine blk_drew ?_ | refine blk_alloc ?_ _)); refine blk_far ?_ NB598_629.out _; (with_reducible repeat (first | refine blk_drewN ?_ _ | refine blk_drew ?_ | refine blk_alloc ?_ _)); exact BK598.out⟩, ⟨by (with_reducible repeat (first | refine blk_drewN ?_ _ | refine blk_drew ?_ | refine blk_alloc ?_ _)); refine blk_far ?_ NB599_629.out _; (with_reducible repeat (first | refine blk_drewN ?_ _ | refine blk_drew ?_ | refine blk_alloc ?_ _)); refine blk_far ?_ NB599_629.out _; (with_reducible repeat (first | refine blk_drewN ?_ _ | refine blk_drew ?_ | refine blk_alloc ?_ _)); exact BK599.out⟩, ⟨by (with_reducible repeat (first | refine blk_drewN ?_ _ | refine blk_drew ?_ | refine blk_alloc ?_ _)); refine blk_far ?_ NB600_629.out _; (with_reducible repeat (first | refine blk_drewN ?_ _ | refine blk_drew ?_ | refine blk_alloc ?_ _)); refine blk_far ?_ NB600_629.out _; (with_reducible repeat (first | refine blk_drewN ?_ _ | refine blk_drew ?_ | refine blk_alloc ?_ _)); exact BK600.out⟩, ⟨by (with_reducible repeat (first | refine blk_drewN ?_ _ | refine blk_drew ?_ | refine blk_alloc ?_ _)); refine blk_far ?_ NB601_629.out _; (with_reducible repeat (first | refine blk_drewN ?_ _ | refine blk_drew ?_ | refine blk_alloc ?_ _)); refine blk_far ?_ NB601_629.out _; (with_reducible repeat (first | refine blk_drewN ?_ _ | refine blk_drew ?_ | refine blk_alloc ?_ _)); exact BK601.out⟩, ⟨by (with_reducible repeat (first | refine blk_drewN ?_ _ | refine blk_drew ?_ | refine blk_alloc ?_ _)); refine blk_far ?_ NB602_629.out _; (with_reducible repeat (first | refine blk_drewN ?_ _ | refine blk_drew ?_ | refine blk_alloc ?_ _)); refine blk_far ?_ NB602_629.out _; (with_reducible repeat (first | refine blk_drewN ?_ _ | refine blk_drew ?_ | refine blk_alloc ?_ _)); exact BK602.out⟩, ⟨by (with_reducible repeat (first | refine blk_drewN ?_ _ | refine blk_drew ?_ | refine blk_alloc ?_ _)); refine blk_put (cs := #[.bool t625, .slice none 0 0]) ?_ 1 _ rfl; (with_reducible repeat (first | refine blk_drewN ?_ _ | refine blk_drew ?_ | refine blk_alloc ?_ _)); refine blk_put (cs := #[.bool false, .slice none 0 0]) ?_ 0 _ rfl; (with_reducible repeat (first | refine blk_drewN ?_ _ | refine blk_drew ?_ | refine blk_alloc ?_ _)); exact BK629.out⟩, ⟨bel⟩⟩
    case rest =>
     clear HC67
     (try clear c1); (try clear c2); (try clear p2); (try clear c3); (try clear c4); (try clear c5); (try clear c6); (try clear p6); (try clear q6); (try clear hx6); (try clear c7); (try clear c8); (try clear c9); (try clear c10); (try clear c11); (try clear c13); (try clear c13b0); (try clear c14); (try clear c15); (try clear c15b0); (try clear c16); (try clear c18); (try clear c19); (try clear c20); (try clear c21); (try clear c23); (try clear c24); (try clear c25); (try clear c36); (try clear c36b0); (try clear c39); (try clear c40); (try clear c41); (try clear c42); (try clear c43); (try clear c44); (try clear c45); (try clear c46); (try clear c54); (try clear c55); (try clear c56); (try clear c57); (try clear c58); (try clear c60); (try clear p60); (try clear q60); (try clear hx60); (try clear c61); (try clear c62); (try clear p64); (try clear c68); (try clear c69); (try clear c70); (try clear c71); (try clear c73); (try clear c74); (try clear c75); (try clear c80); (try clear c81); (try clear c82); (try clear c83); (try clear c84); (try clear c87); (try clear c87b0); (try clear c87b1); (try clear c88); (try clear c89); (try clear c90); (try clear c91); (try clear c92); (try clear c95); (try clear c96); (try clear c97); (try clear c98); (try clear c100); (try clear c101); (try clear c102); (try clear c104); (try clear c105); (try clear c106); (try clear c107); (try clear c108); (try clear hcz103_0); (try clear hcz103_1); (try clear hcz109_0); (try clear hcz109_1); (try clear hcz12_0); (try clear hcz12_1); (try clear hcz22_0); (try clear hcz22_1); (try clear hcz26_0); (try clear hcz26_1); (try clear hcz29_0); (try clear hcz29_1); (try clear hcz33_0); (try clear hcz33_1); (try clear hcz43_0); (try clear hcz43_1); (try clear hcz47_0); (try clear hcz47_1); (try clear hcz52_0); (try clear hcz52_1); (try clear hcz59_0); (try clear hcz59_1); (try clear hcz63_0); (try clear hcz63_1); (try clear hcz72_0); (try clear hcz72_1); (try clear hcz76_0); (try clear hcz76_1); (try clear hcz85_0); (try clear hcz85_1); (try clear hcz93_0); (try clear hcz93_1); (try clear hcz99_0); (try clear hcz99_1); (try clear hfz103_0); (try clear hfz103_1); (try clear hfz109_0); (try clear hfz109_1); (try clear hfz12_0); (try clear hfz12_1); (try clear hfz22_0); (try clear hfz22_1); (try clear hfz26_0); (try clear hfz26_1); (try clear hfz29_0); (try clear hfz29_1); (try clear hfz33_0); (try clear hfz33_1); (try clear hfz43_0); (try clear hfz43_1); (try clear hfz47_0); (try clear hfz47_1); (try clear hfz52_0); (try clear hfz52_1); (try clear hfz59_0); (try clear hfz59_1); (try clear hfz63_0); (try clear hfz63_1); (try clear hfz72_0); (try clear hfz72_1); (try clear hfz76_0); (try clear hfz76_1); (try clear hfz85_0); (try clear hfz85_1); (try clear hfz93_0); (try clear hfz93_1); (try clear hfz99_0); (try clear hfz99_1); (try clear hx606_0); (try clear p2); (try clear p6); (try clear p606); (try clear q6); (try clear q606)
     obtain ⟨kq, x68_66, rfl, HA, HJ66, HO_603001, HO_630001, BK598, BK599, BK600, BK601, BK602, BK629, HB⟩ := hcut
     cases kq with
     | zero => exact absurd HA.out (by simp [cellarerref02_DivMod.j2])
     | succ kj66 =>
      have H := HA.out
      clear HA
      simp only [cellarerref02_DivMod.j2] at H
      by_cases c111 : x68_66 = true
      ·subst c111
       rw [if_pos rfl] at H
       obtain ⟨⟨t630, t631⟩, A112, H⟩ := bind_ H
       try dsimp only at H
       obtain ⟨⟨t634, t635⟩, A113, H⟩ := bind_ H
       try dsimp only at H
       obtain ⟨⟨t638, t639⟩, A114, H⟩ := bind_ H
       try dsimp only at H
       obtain ⟨⟨t642, t643⟩, A115, H⟩ := bind_ H
       try dsimp only at H
       simp only [Option.some.injEq, Prod.mk.injEq] at H
       obtain ⟨rfl, rfl, rfl, rfl⟩ := H
       try go_wp2
       replace HO_603001 := Aside0.mk (Kd.V_drew HO_603001.out)
       replace HO_630001 := Aside0.mk (Kd.V_drew HO_630001.out)
       replace BK598 := Aside0.mk (blk_drew BK598.out)
       replace BK599 := Aside0.mk (blk_drew BK599.out)
       replace BK600 := Aside0.mk (blk_drew BK600.out)
       replace BK601 := Aside0.mk (blk_drew BK601.out)
       replace BK602 := Aside0.mk (blk_drew BK602.out)
       replace BK629 := Aside0.mk (blk_drew BK629.out)
       replace HB := Aside0.mk (below_drew1 HB.out)
       refine start_ (n := 4) (S := fun w' => w'.cell? ⟨gb629, 0, none⟩ = some (.bool t625) ∧ w'.cell? ⟨gb629, 1, none⟩ = some (.slice Ao86 t626.length co86)) (ds := [3]) #[false, false, false, false] (by kernel_rfl) rfl rfl ⟨(blk_cell BK629.out 0).trans rfl, (blk_cell BK629.out 1).trans rfl⟩ (fun hHeld => ?_)
       generalize wc.drew = w116 at HO_603001 HO_630001 BK598 BK599 BK600 BK601 BK602 BK629 HB hHeld ⊢
       refine take_ (i := 0) (N := some 69) #[true, false, false, false] rfl rfl (by kernel_rfl) (fun _ _ _ h => h) (Or.inl ⟨by rfl, yt2⟩) hHeld nm ?_
       refine one_ (i := 1) (N := some 70) #[true, true, false, false] rfl rfl (by kernel_rfl) (by decide) (fun K hK => ?_)
       refine goes_ Tryd.func45 (by kernel_rfl) rfl #[.int .i64 1] (by rfl) rfl rfl ag ?_
       with_reducible refine (cellarerref02_From.calls kj66 1 t630 t631 _ ?side1 A112.out).mono ?_
       (case side1 => exact GOK.below hG.out bel)
       rintro e w117 ⟨v632, rfl, ho0, hb⟩
       refine ⟨_, rfl, ?_⟩
       have HO633 := Aside0.mk (Kd.V_lower (Kd.V_mono (ok' := fun k_ => (w.heap.size ≤ k_) ∧ k_ ≠ gb598 ∧ k_ ≠ gb599 ∧ k_ ≠ gb600 ∧ k_ ≠ gb601 ∧ k_ ≠ gb602 ∧ k_ ≠ gb629) ho0 (fun k_ hk_ => ⟨(Nat.le_trans (below_size bel) hk_), (Kd.freshB (bk BK598.out) k_ hk_), (Kd.freshB (bk BK599.out) k_ hk_), (Kd.freshB (bk BK600.out) k_ hk_), (Kd.freshB (bk BK601.out) k_ hk_), (Kd.freshB (bk BK602.out) k_ hk_), (Kd.freshB (bk BK629.out) k_ hk_)⟩)) (below_size bel))
       replace HO_603001 := Aside0.mk (Kd.V_below (kv HO_603001.out) hb)
       replace HO_630001 := Aside0.mk (Kd.V_below (kv HO_630001.out) hb)
       replace BK598 := Aside0.mk (blk_below (bk BK598.out) hb)
       replace BK599 := Aside0.mk (blk_below (bk BK599.out) hb)
       replace BK600 := Aside0.mk (blk_below (bk BK600.out) hb)
       replace BK601 := Aside0.mk (blk_below (bk BK601.out) hb)
       replace BK602 := Aside0.mk (blk_below (bk BK602.out) hb)
       replace BK629 := Aside0.mk (blk_below (bk BK629.out) hb)
       replace HB := Aside0.mk (below_step bel hb)
       clear hb ho0
       obtain ⟨Ao118, co118, eo118⟩ := Kd.V_slice HO633.out
       (first | subst eo118 | (injection eo118 with f1_ f2_ f3_; have f4_ := f1_.symm; have f5_ := f3_.symm; clear f1_ f2_ f3_; subst f4_; subst f5_))
       refine hK.out _ _ ⟨(blk_cell BK629.out 0).trans rfl, (blk_cell BK629.out 1).trans rfl⟩ (fun hHeld => ?_)
       clear hK K
       refine norm_ (a' := ?_) ?_ ?_
       rotate_left
       ·show Act.put _ (some 70) _ = _
        simp only [Act.put, List.setIfInBounds_toArray, List.set_cons_zero, List.set_cons_succ, i64_w, i32_w]
        rfl
       refine one_ (i := 2) (N := some 71) #[true, true, true, false] rfl rfl (by kernel_rfl) (by decide) (fun K hK => ?_)
       refine goes_ Tryd.func25 (by kernel_rfl) rfl #[.agg #[.bool t625, .slice Ao86 t626.length co86], .agg #[.bool t630, .slice Ao118 t631.length co118]] (by rfl) rfl rfl ag ?_
       with_reducible refine (cellarerref02_Sub.calls kj66 t625 _ _ t626 t630 (fun k_ => ((w.heap.size ≤ k_) ∧ (k_ ≠ gb598 ∧ (k_ ≠ gb599 ∧ (k_ ≠ gb600 ∧ (k_ ≠ gb601 ∧ (k_ ≠ gb602 ∧ k_ ≠ gb629))))))) _ _ t631 t634 t635 _ ?side1 ?side2 ?side3 ?side4 A113.out).mono ?_
       (case side1 => exact GOK.below hG.out bel)
       (case side2 => exact kc ((Kd.V_reads' HO_630001.out).2.2))
       (case side3 => exact (Kd.V_reads' HO_630001.out).2.1)
       (case side4 => exact HO633.out)
       rintro e w119 ⟨v636, rfl, ho0, hb⟩
       refine ⟨_, rfl, ?_⟩
       have HO637 := Aside0.mk (Kd.V_lower (Kd.V_mono (ok' := fun k_ => (w.heap.size ≤ k_) ∧ k_ ≠ gb598 ∧ k_ ≠ gb599 ∧ k_ ≠ gb600 ∧ k_ ≠ gb601 ∧ k_ ≠ gb602 ∧ k_ ≠ gb629) ho0 (fun k_ hk_ => ⟨Or.elim hk_ (fun hs_ => hs_.1) (fun hn_ => (Nat.le_trans (below_size bel) hn_)), Or.elim hk_ (fun hs_ => hs_.2.1) (fun hn_ => (Kd.freshB (bk BK598.out) k_ hn_)), Or.elim hk_ (fun hs_ => hs_.2.2.1) (fun hn_ => (Kd.freshB (bk BK599.out) k_ hn_)), Or.elim hk_ (fun hs_ => hs_.2.2.2.1) (fun hn_ => (Kd.freshB (bk BK600.out) k_ hn_)), Or.elim hk_ (fun hs_ => hs_.2.2.2.2.1) (fun hn_ => (Kd.freshB (bk BK601.out) k_ hn_)), Or.elim hk_ (fun hs_ => hs_.2.2.2.2.2.1) (fun hn_ => (Kd.freshB (bk BK602.out) k_ hn_)), Or.elim hk_ (fun hs_ => hs_.2.2.2.2.2.2) (fun hn_ => (Kd.freshB (bk BK629.out) k_ hn_))⟩)) (below_size bel))
       replace HO_603001 := Aside0.mk (Kd.V_below (kv HO_603001.out) hb)
       replace HO_630001 := Aside0.mk (Kd.V_below (kv HO_630001.out) hb)
       replace HO633 := Aside0.mk (Kd.V_below (kv HO633.out) hb)
       replace BK598 := Aside0.mk (blk_below (bk BK598.out) hb)
       replace BK599 := Aside0.mk (blk_below (bk BK599.out) hb)
       replace BK600 := Aside0.mk (blk_below (bk BK600.out) hb)
       replace BK601 := Aside0.mk (blk_below (bk BK601.out) hb)
       replace BK602 := Aside0.mk (blk_below (bk BK602.out) hb)
       replace BK629 := Aside0.mk (blk_below (bk BK629.out) hb)
       replace HB := Aside0.mk (below_step bel hb)
       clear hb ho0
       obtain ⟨Ao121, co121, eo121⟩ := Kd.V_slice HO637.out
       (first | subst eo121 | (injection eo121 with f1_ f2_ f3_; have f4_ := f1_.symm; have f5_ := f3_.symm; clear f1_ f2_ f3_; subst f4_; subst f5_))
       refine hK.out _ _ ⟨(blk_cell BK629.out 0).trans rfl, (blk_cell BK629.out 1).trans rfl⟩ (fun hHeld => ?_)
       clear hK K
       refine norm_ (a' := ?_) ?_ ?_
       rotate_left
       ·show Act.put _ (some 71) _ = _
        simp only [Act.put, List.setIfInBounds_toArray, List.set_cons_zero, List.set_cons_succ, i64_w, i32_w]
        rfl
       refine last_ (i := 3) (N := none) #[true, true, true, true] rfl rfl (by kernel_rfl) (by decide) (fun K hK => ?_)
       have hs120 : w119.cell? ⟨gb629, 0, none⟩ = some (.bool t625) := (blk_cell BK629.out 0).trans rfl
       have hfs120 := blk_frozen BK629.out 0
       have hns120_0 := NB598_629.out
       have hns120_1 := NB599_629.out
       have hns120_2 := NB600_629.out
       have hns120_3 := NB601_629.out
       have hns120_4 := NB602_629.out
       have hms120_0 := NB629_598.out
       have hms120_1 := NB629_599.out
       have hms120_2 := NB629_600.out
       have hms120_3 := NB629_601.out
       have hms120_4 := NB629_602.out
       have hs122 : w119.cell? ⟨gb629, 1, none⟩ = some (.slice Ao86 t626.length co86) := (blk_cell BK629.out 1).trans rfl
       have hfs122 := blk_frozen BK629.out 1
       have hns122_0 := NB598_629.out
       have hns122_1 := NB599_629.out
       have hns122_2 := NB600_629.out
       have hns122_3 := NB601_629.out
       have hns122_4 := NB602_629.out
       have hms122_0 := NB629_598.out
       have hms122_1 := NB629_599.out
       have hms122_2 := NB629_600.out
       have hms122_3 := NB629_601.out
       have hms122_4 := NB629_602.out
       refine skip_ (w1 := ?_) (by rfl) rfl ?_ ?_
       rotate_left
       ·go_simp
        rfl
       refine hK.out _ _ ?_
       clear hK K
       refine done_ (by kernel_rfl) ?_
       try go_wp2
       have n0_ : Aside0 (Kd.V (Kd.int .i64) 3 ((w119.setCell ⟨gb629, 0, none⟩ (.bool t634)).setCell ⟨gb629, 1, none⟩ (.slice Ao121 t635.length co121)) w.heap.size (fun k_ => (w.heap.size ≤ k_) ∧ k_ ≠ gb598 ∧ k_ ≠ gb599 ∧ k_ ≠ gb600 ∧ k_ ≠ gb601 ∧ k_ ≠ gb602 ∧ k_ ≠ gb629) u603001 x603001_1) := ⟨kv (Kd.V_mono (Kd.V_far (p := ⟨gb629, 1, none⟩) (Kd.V_far (p := ⟨gb629, 0, none⟩) (Kd.V_mono HO_603001.out (fun k_ hk => (⟨hk, hk.2.2.2.2.2.2⟩ : _ ∧ k_ ≠ gb629))) (fun _ hk => hk.2) (.bool t634)) (fun _ hk => hk.2) (.slice Ao121 t635.length co121)) (fun _ hk => ⟨hk.1.1, ⟨hk.1.2.1, ⟨hk.1.2.2.1, ⟨hk.1.2.2.2.1, ⟨hk.1.2.2.2.2.1, ⟨hk.1.2.2.2.2.2.1, hk.1.2.2.2.2.2.2⟩⟩⟩⟩⟩⟩))⟩
       have n1_ : Aside0 (Kd.V (Kd.int .i64) 3 ((w119.setCell ⟨gb629, 0, none⟩ (.bool t634)).setCell ⟨gb629, 1, none⟩ (.slice Ao121 t635.length co121)) w.heap.size (fun k_ => (w.heap.size ≤ k_) ∧ k_ ≠ gb598 ∧ k_ ≠ gb599 ∧ k_ ≠ gb600 ∧ k_ ≠ gb601 ∧ k_ ≠ gb602 ∧ k_ ≠ gb629) (.slice Ao86 t626.length co86) t626) := ⟨kv (Kd.V_mono (Kd.V_far (p := ⟨gb629, 1, none⟩) (Kd.V_far (p := ⟨gb629, 0, none⟩) (Kd.V_mono HO_630001.out (fun k_ hk => (⟨hk, hk.2.2.2.2.2.2⟩ : _ ∧ k_ ≠ gb629))) (fun _ hk => hk.2) (.bool t634)) (fun _ hk => hk.2) (.slice Ao121 t635.length co121)) (fun _ hk => ⟨hk.1.1, ⟨hk.1.2.1, ⟨hk.1.2.2.1, ⟨hk.1.2.2.2.1, ⟨hk.1.2.2.2.2.1, ⟨hk.1.2.2.2.2.2.1, hk.1.2.2.2.2.2.2⟩⟩⟩⟩⟩⟩))⟩
       have n2_ : Aside0 (Kd.V (Kd.int .i64) 3 ((w119.setCell ⟨gb629, 0, none⟩ (.bool t634)).setCell ⟨gb629, 1, none⟩ (.slice Ao121 t635.length co121)) w.heap.size (fun k_ => (w.heap.size ≤ k_) ∧ k_ ≠ gb598 ∧ k_ ≠ gb599 ∧ k_ ≠ gb600 ∧ k_ ≠ gb601 ∧ k_ ≠ gb602 ∧ k_ ≠ gb629) (.slice Ao118 t631.length co118) t631) := ⟨kv (Kd.V_mono (Kd.V_far (p := ⟨gb629, 1, none⟩) (Kd.V_far (p := ⟨gb629, 0, none⟩) (Kd.V_mono HO633.out (fun k_ hk => (⟨hk, hk.2.2.2.2.2.2⟩ : _ ∧ k_ ≠ gb629))) (fun _ hk => hk.2) (.bool t634)) (fun _ hk => hk.2) (.slice Ao121 t635.length co121)) (fun _ hk => ⟨hk.1.1, ⟨hk.1.2.1, ⟨hk.1.2.2.1, ⟨hk.1.2.2.2.1, ⟨hk.1.2.2.2.2.1, ⟨hk.1.2.2.2.2.2.1, hk.1.2.2.2.2.2.2⟩⟩⟩⟩⟩⟩))⟩
       have n3_ : Aside0 (Kd.V (Kd.int .i64) 3 ((w119.setCell ⟨gb629, 0, none⟩ (.bool t634)).setCell ⟨gb629, 1, none⟩ (.slice Ao121 t635.length co121)) w.heap.size (fun k_ => (w.heap.size ≤ k_) ∧ k_ ≠ gb598 ∧ k_ ≠ gb599 ∧ k_ ≠ gb600 ∧ k_ ≠ gb601 ∧ k_ ≠ gb602 ∧ k_ ≠ gb629) (.slice Ao121 t635.length co121) t635) := ⟨kv (Kd.V_mono (Kd.V_far (p := ⟨gb629, 1, none⟩) (Kd.V_far (p := ⟨gb629, 0, none⟩) (Kd.V_mono HO637.out (fun k_ hk => (⟨hk, hk.2.2.2.2.2.2⟩ : _ ∧ k_ ≠ gb629))) (fun _ hk => hk.2) (.bool t634)) (fun _ hk => hk.2) (.slice Ao121 t635.length co121)) (fun _ hk => ⟨hk.1.1, ⟨hk.1.2.1, ⟨hk.1.2.2.1, ⟨hk.1.2.2.2.1, ⟨hk.1.2.2.2.2.1, ⟨hk.1.2.2.2.2.2.1, hk.1.2.2.2.2.2.2⟩⟩⟩⟩⟩⟩))⟩
       have n4_ : Aside0 (((w119.setCell ⟨gb629, 0, none⟩ (.bool t634)).setCell ⟨gb629, 1, none⟩ (.slice Ao121 t635.length co121)).heap[gb598]? = some (.cells #[.bool a0_0, .slice A0_1 l0_1.length c0_1] 32 (0, 0))) := ⟨by (with_reducible repeat (first | refine blk_drewN ?_ _ | refine blk_drew ?_ | refine blk_alloc ?_ _)); refine blk_far ?_ NB598_629.out _; (with_reducible repeat (first | refine blk_drewN ?_ _ | refine blk_drew ?_ | refine blk_alloc ?_ _)); refine blk_far ?_ NB598_629.out _; (with_reducible repeat (first | refine blk_drewN ?_ _ | refine blk_drew ?_ | refine blk_alloc ?_ _)); exact BK598.out⟩
       have n5_ : Aside0 (((w119.setCell ⟨gb629, 0, none⟩ (.bool t634)).setCell ⟨gb629, 1, none⟩ (.slice Ao121 t635.length co121)).heap[gb599]? = some (.cells #[.bool a1_0, .slice A1_1 l1_1.length c1_1] 32 (0, 0))) := ⟨by (with_reducible repeat (first | refine blk_drewN ?_ _ | refine blk_drew ?_ | refine blk_alloc ?_ _)); refine blk_far ?_ NB599_629.out _; (with_reducible repeat (first | refine blk_drewN ?_ _ | refine blk_drew ?_ | refine blk_alloc ?_ _)); refine blk_far ?_ NB599_629.out _; (with_reducible repeat (first | refine blk_drewN ?_ _ | refine blk_drew ?_ | refine blk_alloc ?_ _)); exact BK599.out⟩
       have n6_ : Aside0 (((w119.setCell ⟨gb629, 0, none⟩ (.bool t634)).setCell ⟨gb629, 1, none⟩ (.slice Ao121 t635.length co121)).heap[gb600]? = some (.cells #[.bool false, .slice none 0 0] 32 (0, 0))) := ⟨by (with_reducible repeat (first | refine blk_drewN ?_ _ | refine blk_drew ?_ | refine blk_alloc ?_ _)); refine blk_far ?_ NB600_629.out _; (with_reducible repeat (first | refine blk_drewN ?_ _ | refine blk_drew ?_ | refine blk_alloc ?_ _)); refine blk_far ?_ NB600_629.out _; (with_reducible repeat (first | refine blk_drewN ?_ _ | refine blk_drew ?_ | refine blk_alloc ?_ _)); exact BK600.out⟩
       have n7_ : Aside0 (((w119.setCell ⟨gb629, 0, none⟩ (.bool t634)).setCell ⟨gb629, 1, none⟩ (.slice Ao121 t635.length co121)).heap[gb601]? = some (.cells #[.bool false, .slice none 0 0] 32 (0, 0))) := ⟨by (with_reducible repeat (first | refine blk_drewN ?_ _ | refine blk_drew ?_ | refine blk_alloc ?_ _)); refine blk_far ?_ NB601_629.out _; (with_reducible repeat (first | refine blk_drewN ?_ _ | refine blk_drew ?_ | refine blk_alloc ?_ _)); refine blk_far ?_ NB601_629.out _; (with_reducible repeat (first | refine blk_drewN ?_ _ | refine blk_drew ?_ | refine blk_alloc ?_ _)); exact BK601.out⟩
       have n8_ : Aside0 (((w119.setCell ⟨gb629, 0, none⟩ (.bool t634)).setCell ⟨gb629, 1, none⟩ (.slice Ao121 t635.length co121)).heap[gb602]? = some (.cells #[.bool x603000_1, u603001] 32 (0, 0))) := ⟨by (with_reducible repeat (first | refine blk_drewN ?_ _ | refine blk_drew ?_ | refine blk_alloc ?_ _)); refine blk_far ?_ NB602_629.out _; (with_reducible repeat (first | refine blk_drewN ?_ _ | refine blk_drew ?_ | refine blk_alloc ?_ _)); refine blk_far ?_ NB602_629.out _; (with_reducible repeat (first | refine blk_drewN ?_ _ | refine blk_drew ?_ | refine blk_alloc ?_ _)); exact BK602.out⟩
       have n9_ : Aside0 (((w119.setCell ⟨gb629, 0, none⟩ (.bool t634)).setCell ⟨gb629, 1, none⟩ (.slice Ao121 t635.length co121)).heap[gb629]? = some (.cells #[.bool t634, .slice Ao121 t635.length co121] 32 (0, 0))) := ⟨by (with_reducible repeat (first | refine blk_drewN ?_ _ | refine blk_drew ?_ | refine blk_alloc ?_ _)); refine blk_put (cs := #[.bool t634, .slice Ao86 t626.length co86]) ?_ 1 _ rfl; (with_reducible repeat (first | refine blk_drewN ?_ _ | refine blk_drew ?_ | refine blk_alloc ?_ _)); refine blk_put (cs := #[.bool t625, .slice Ao86 t626.length co86]) ?_ 0 _ rfl; (with_reducible repeat (first | refine blk_drewN ?_ _ | refine blk_drew ?_ | refine blk_alloc ?_ _)); exact BK629.out⟩
       have n10_ : Aside0 (Below w.heap.size w ((w119.setCell ⟨gb629, 0, none⟩ (.bool t634)).setCell ⟨gb629, 1, none⟩ (.slice Ao121 t635.length co121))) := ⟨bel⟩
       (try clear HO_603001); (try clear HO_630001); (try clear HO633); (try clear HO637); (try clear BK598); (try clear BK599); (try clear BK600); (try clear BK601); (try clear BK602); (try clear BK629); (try clear HB)
       generalize ((w119.setCell ⟨gb629, 0, none⟩ (.bool t634)).setCell ⟨gb629, 1, none⟩ (.slice Ao121 t635.length co121)) = w123 at n0_ n1_ n2_ n3_ n4_ n5_ n6_ n7_ n8_ n9_ n10_ ⊢
       have HO_603001 := n0_
       have HO_630001 := n1_
       have HO633 := n2_
       have HO637 := n3_
       have BK598 := n4_
       have BK599 := n5_
       have BK600 := n6_
       have BK601 := n7_
       have BK602 := n8_
       have BK629 := n9_
       have HB := n10_
       clear n0_ n1_ n2_ n3_ n4_ n5_ n6_ n7_ n8_ n9_ n10_
       replace HO_603001 := Aside0.mk (Kd.V_drew HO_603001.out)
       replace HO_630001 := Aside0.mk (Kd.V_drew HO_630001.out)
       replace HO633 := Aside0.mk (Kd.V_drew HO633.out)
       replace HO637 := Aside0.mk (Kd.V_drew HO637.out)
       replace BK598 := Aside0.mk (blk_drew BK598.out)
       replace BK599 := Aside0.mk (blk_drew BK599.out)
       replace BK600 := Aside0.mk (blk_drew BK600.out)
       replace BK601 := Aside0.mk (blk_drew BK601.out)
       replace BK602 := Aside0.mk (blk_drew BK602.out)
       replace BK629 := Aside0.mk (blk_drew BK629.out)
       replace HB := Aside0.mk (below_drew1 HB.out)
       refine start_ (n := 8) (S := fun w' => w'.cell? ⟨gb629, 0, none⟩ = some (.bool t634) ∧ w'.cell? ⟨gb629, 1, none⟩ = some (.slice Ao121 t635.length co121) ∧ w'.cell? ⟨gb598, 0, none⟩ = some (.bool a0_0) ∧ w'.cell? ⟨gb598, 1, none⟩ = some (.slice A0_1 l0_1.length c0_1) ∧ w'.cell? ⟨gb599, 0, none⟩ = some (.bool a1_0) ∧ w'.cell? ⟨gb599, 1, none⟩ = some (.slice A1_1 l1_1.length c1_1)) (ds := []) #[false, false, false, false, false, false, false, false] (by kernel_rfl) rfl rfl ⟨(blk_cell BK629.out 0).trans rfl, (blk_cell BK629.out 1).trans rfl, (blk_cell BK598.out 0).trans rfl, (blk_cell BK598.out 1).trans rfl, (blk_cell BK599.out 0).trans rfl, (blk_cell BK599.out 1).trans rfl⟩ (fun hHeld => ?_); refine with_tabW cellarerref02_DivMod.tab17 cellarerref02_DivMod.bits17 (fun HT_ HW_ => ?_)
       generalize w123.drew = w124 at HO_603001 HO_630001 HO633 HO637 BK598 BK599 BK600 BK601 BK602 BK629 HB hHeld ⊢
       refine take_ (i := 0) (N := some 72) #[true, false, false, false, false, false, false, false] rfl rfl (take_ofW HT_.out HW_.out (by kernel_rfl)) (fun _ _ _ h => h) (Or.inl ⟨by rfl, yt6⟩) hHeld nm ?_
       refine take_ (i := 1) (N := some 73) #[true, true, false, false, false, false, false, false] rfl rfl (take_ofW HT_.out HW_.out (by kernel_rfl)) (fun _ _ _ h => h) (Or.inl ⟨by rfl, yt6⟩) hHeld nm ?_
       refine take_ (i := 2) (N := some 74) #[true, true, true, false, false, false, false, false] rfl rfl (take_ofW HT_.out HW_.out (by kernel_rfl)) (fun _ _ _ h => h) (Or.inl ⟨by rfl, yt6⟩) hHeld nm ?_
       refine take_ (i := 3) (N := some 75) #[true, true, true, true, false, false, false, false] rfl rfl (take_ofW HT_.out HW_.out (by kernel_rfl)) (fun _ _ _ h => h) (Or.inl ⟨by rfl, yt6⟩) hHeld nm ?_
       refine one_ (i := 4) (N := some 76) #[true, true, true, true, true, false, false, false] rfl rfl (one_of HT_.out (by kernel_rfl)) (by decide) (fun K hK => ?_)
       refine goes_ Tryd.func27 (by kernel_rfl) rfl #[.agg #[.bool t634, .slice Ao121 t635.length co121], .agg #[.bool a1_0, .slice A1_1 l1_1.length c1_1]] (by rfl) rfl rfl ag ?_
       with_reducible refine (cellarerref02_Mul.calls kj66 t634 _ _ t635 a1_0 _ _ l1_1 t638 t639 _ ?side1 ?side2 ?side3 ?side4 ?side5 A114.out).mono ?_
       (case side1 => exact GOK.below hG.out bel)
       (case side2 => exact kc ((Kd.V_reads' HO637.out).2.2))
       (case side3 => exact (Kd.V_reads' HO637.out).2.1)
       (case side4 => exact kc ((Kd.C_below HR1_1.out HB.out)))
       (case side5 => exact HC1_1.out)
       rintro e w125 ⟨v640, rfl, ho0, hb⟩
       refine ⟨_, rfl, ?_⟩
       have HO641 := Aside0.mk (Kd.V_lower (Kd.V_mono (ok' := fun k_ => (w.heap.size ≤ k_) ∧ k_ ≠ gb598 ∧ k_ ≠ gb599 ∧ k_ ≠ gb600 ∧ k_ ≠ gb601 ∧ k_ ≠ gb602 ∧ k_ ≠ gb629) ho0 (fun k_ hk_ => ⟨(Nat.le_trans (below_size bel) hk_), (Kd.freshB (bk BK598.out) k_ hk_), (Kd.freshB (bk BK599.out) k_ hk_), (Kd.freshB (bk BK600.out) k_ hk_), (Kd.freshB (bk BK601.out) k_ hk_), (Kd.freshB (bk BK602.out) k_ hk_), (Kd.freshB (bk BK629.out) k_ hk_)⟩)) (below_size bel))
       replace HO_603001 := Aside0.mk (Kd.V_below (kv HO_603001.out) hb)
       replace HO_630001 := Aside0.mk (Kd.V_below (kv HO_630001.out) hb)
       replace HO633 := Aside0.mk (Kd.V_below (kv HO633.out) hb)
       replace HO637 := Aside0.mk (Kd.V_below (kv HO637.out) hb)
       replace BK598 := Aside0.mk (blk_below (bk BK598.out) hb)
       replace BK599 := Aside0.mk (blk_below (bk BK599.out) hb)
       replace BK600 := Aside0.mk (blk_below (bk BK600.out) hb)
       replace BK601 := Aside0.mk (blk_below (bk BK601.out) hb)
       replace BK602 := Aside0.mk (blk_below (bk BK602.out) hb)
       replace BK629 := Aside0.mk (blk_below (bk BK629.out) hb)
       replace HB := Aside0.mk (below_step bel hb)
       clear hb ho0
       obtain ⟨Ao126, co126, eo126⟩ := Kd.V_slice HO641.out
       (first | subst eo126 | (injection eo126 with f1_ f2_ f3_; have f4_ := f1_.symm; have f5_ := f3_.symm; clear f1_ f2_ f3_; subst f4_; subst f5_))
       refine hK.out _ _ ⟨(blk_cell BK629.out 0).trans rfl, (blk_cell BK629.out 1).trans rfl, (blk_cell BK598.out 0).trans rfl, (blk_cell BK598.out 1).trans rfl, (blk_cell BK599.out 0).trans rfl, (blk_cell BK599.out 1).trans rfl⟩ (fun hHeld => ?_)
       clear hK K
       refine norm_ (a' := ?_) ?_ ?_
       rotate_left
       ·show Act.put _ (some 76) _ = _
        simp only [Act.put, List.setIfInBounds_toArray, List.set_cons_zero, List.set_cons_succ, i64_w, i32_w]
        rfl
       refine one_ (i := 5) (N := some 77) #[true, true, true, true, true, true, false, false] rfl rfl (one_of HT_.out (by kernel_rfl)) (by decide) (fun K hK => ?_)
       refine goes_ Tryd.func25 (by kernel_rfl) rfl #[.agg #[.bool a0_0, .slice A0_1 l0_1.length c0_1], .agg #[.bool t638, .slice Ao126 t639.length co126]] (by rfl) rfl rfl ag ?_
       with_reducible refine (cellarerref02_Sub.calls kj66 a0_0 _ _ l0_1 t638 (fun k_ => ((w.heap.size ≤ k_) ∧ (k_ ≠ gb598 ∧ (k_ ≠ gb599 ∧ (k_ ≠ gb600 ∧ (k_ ≠ gb601 ∧ (k_ ≠ gb602 ∧ k_ ≠ gb629))))))) _ _ t639 t642 t643 _ ?side1 ?side2 ?side3 ?side4 A115.out).mono ?_
       (case side1 => exact GOK.below hG.out bel)
       (case side2 => exact kc ((Kd.C_below HR0_1.out HB.out)))
       (case side3 => exact HC0_1.out)
       (case side4 => exact HO641.out)
       rintro e w127 ⟨v644, rfl, ho0, hb⟩
       refine ⟨_, rfl, ?_⟩
       have HO645 := Aside0.mk (Kd.V_lower (Kd.V_mono (ok' := fun k_ => (w.heap.size ≤ k_) ∧ k_ ≠ gb598 ∧ k_ ≠ gb599 ∧ k_ ≠ gb600 ∧ k_ ≠ gb601 ∧ k_ ≠ gb602 ∧ k_ ≠ gb629) ho0 (fun k_ hk_ => ⟨Or.elim hk_ (fun hs_ => hs_.1) (fun hn_ => (Nat.le_trans (below_size bel) hn_)), Or.elim hk_ (fun hs_ => hs_.2.1) (fun hn_ => (Kd.freshB (bk BK598.out) k_ hn_)), Or.elim hk_ (fun hs_ => hs_.2.2.1) (fun hn_ => (Kd.freshB (bk BK599.out) k_ hn_)), Or.elim hk_ (fun hs_ => hs_.2.2.2.1) (fun hn_ => (Kd.freshB (bk BK600.out) k_ hn_)), Or.elim hk_ (fun hs_ => hs_.2.2.2.2.1) (fun hn_ => (Kd.freshB (bk BK601.out) k_ hn_)), Or.elim hk_ (fun hs_ => hs_.2.2.2.2.2.1) (fun hn_ => (Kd.freshB (bk BK602.out) k_ hn_)), Or.elim hk_ (fun hs_ => hs_.2.2.2.2.2.2) (fun hn_ => (Kd.freshB (bk BK629.out) k_ hn_))⟩)) (below_size bel))
       replace HO_603001 := Aside0.mk (Kd.V_below (kv HO_603001.out) hb)
       replace HO_630001 := Aside0.mk (Kd.V_below (kv HO_630001.out) hb)
       replace HO633 := Aside0.mk (Kd.V_below (kv HO633.out) hb)
       replace HO637 := Aside0.mk (Kd.V_below (kv HO637.out) hb)
       replace HO641 := Aside0.mk (Kd.V_below (kv HO641.out) hb)
       replace BK598 := Aside0.mk (blk_below (bk BK598.out) hb)
       replace BK599 := Aside0.mk (blk_below (bk BK599.out) hb)
       replace BK600 := Aside0.mk (blk_below (bk BK600.out) hb)
       replace BK601 := Aside0.mk (blk_below (bk BK601.out) hb)
       replace BK602 := Aside0.mk (blk_below (bk BK602.out) hb)
       replace BK629 := Aside0.mk (blk_below (bk BK629.out) hb)
       replace HB := Aside0.mk (below_step bel hb)
       clear hb ho0
       obtain ⟨Ao131, co131, eo131⟩ := Kd.V_slice HO645.out
       (first | subst eo131 | (injection eo131 with f1_ f2_ f3_; have f4_ := f1_.symm; have f5_ := f3_.symm; clear f1_ f2_ f3_; subst f4_; subst f5_))
       refine hK.out _ _ ⟨(blk_cell BK629.out 0).trans rfl, (blk_cell BK629.out 1).trans rfl, (blk_cell BK598.out 0).trans rfl, (blk_cell BK598.out 1).trans rfl, (blk_cell BK599.out 0).trans rfl, (blk_cell BK599.out 1).trans rfl⟩ (fun hHeld => ?_)
       clear hK K
       refine norm_ (a' := ?_) ?_ ?_
       rotate_left
       ·show Act.put _ (some 77) _ = _
        simp only [Act.put, List.setIfInBounds_toArray, List.set_cons_zero, List.set_cons_succ, i64_w, i32_w]
        rfl
       refine one_ (i := 6) (N := none) #[true, true, true, true, true, true, true, false] rfl rfl (one_of HT_.out (by kernel_rfl)) (by decide) (fun K hK => ?_)
       have hs128 : w127.cell? ⟨gb600, 0, none⟩ = some (.bool false) := (blk_cell BK600.out 0).trans rfl
       have hfs128 := blk_frozen BK600.out 0
       have hns128_0 := NB598_600.out
       have hns128_1 := NB599_600.out
       have hns128_3 := NB601_600.out
       have hns128_4 := NB602_600.out
       have hns128_5 := NB629_600.out
       have hms128_0 := NB600_598.out
       have hms128_1 := NB600_599.out
       have hms128_3 := NB600_601.out
       have hms128_4 := NB600_602.out
       have hms128_5 := NB600_629.out
       have hs129 : w127.cell? ⟨gb600, 1, none⟩ = some (.slice none 0 0) := (blk_cell BK600.out 1).trans rfl
       have hfs129 := blk_frozen BK600.out 1
       have hns129_0 := NB598_600.out
       have hns129_1 := NB599_600.out
       have hns129_3 := NB601_600.out
       have hns129_4 := NB602_600.out
       have hns129_5 := NB629_600.out
       have hms129_0 := NB600_598.out
       have hms129_1 := NB600_599.out
       have hms129_3 := NB600_601.out
       have hms129_4 := NB600_602.out
       have hms129_5 := NB600_629.out
       refine skip_ (w1 := ?_) (by rfl) rfl ?_ ?_
       rotate_left
       ·go_simp
        rfl
       refine hK.out _ _ ⟨((cell_far (p := ⟨gb600, _, none⟩) NB629_600.out _).trans (((cell_far (p := ⟨gb600, _, none⟩) NB629_600.out _).trans (hHeld.1)))), ((cell_far (p := ⟨gb600, _, none⟩) NB629_600.out _).trans (((cell_far (p := ⟨gb600, _, none⟩) NB629_600.out _).trans (hHeld.2.1)))), ((cell_far (p := ⟨gb600, _, none⟩) NB598_600.out _).trans (((cell_far (p := ⟨gb600, _, none⟩) NB598_600.out _).trans (hHeld.2.2.1)))), ((cell_far (p := ⟨gb600, _, none⟩) NB598_600.out _).trans (((cell_far (p := ⟨gb600, _, none⟩) NB598_600.out _).trans (hHeld.2.2.2.1)))), ((cell_far (p := ⟨gb600, _, none⟩) NB599_600.out _).trans (((cell_far (p := ⟨gb600, _, none⟩) NB599_600.out _).trans (hHeld.2.2.2.2.1)))), ((cell_far (p := ⟨gb600, _, none⟩) NB599_600.out _).trans (((cell_far (p := ⟨gb600, _, none⟩) NB599_600.out _).trans (hHeld.2.2.2.2.2))))⟩ (fun hHeld => ?_)
       clear hK K
       refine one_ (i := 7) (N := none) #[true, true, true, true, true, true, true, true] rfl rfl (one_of HT_.out (by kernel_rfl)) (by decide) (fun K hK => ?_)
       have hs130 : w127.cell? ⟨gb601, 0, none⟩ = some (.bool false) := (blk_cell BK601.out 0).trans rfl
       have hfs130 := blk_frozen BK601.out 0
       have hns130_0 := NB598_601.out
       have hns130_1 := NB599_601.out
       have hns130_2 := NB600_601.out
       have hns130_4 := NB602_601.out
       have hns130_5 := NB629_601.out
       have hms130_0 := NB601_598.out
       have hms130_1 := NB601_599.out
       have hms130_2 := NB601_600.out
       have hms130_4 := NB601_602.out
       have hms130_5 := NB601_629.out
       have hs132 : w127.cell? ⟨gb601, 1, none⟩ = some (.slice none 0 0) := (blk_cell BK601.out 1).trans rfl
       have hfs132 := blk_frozen BK601.out 1
       have hns132_0 := NB598_601.out
       have hns132_1 := NB599_601.out
       have hns132_2 := NB600_601.out
       have hns132_4 := NB602_601.out
       have hns132_5 := NB629_601.out
       have hms132_0 := NB601_598.out
       have hms132_1 := NB601_599.out
       have hms132_2 := NB601_600.out
       have hms132_4 := NB601_602.out
       have hms132_5 := NB601_629.out
       refine skip_ (w1 := ?_) (by rfl) rfl ?_ ?_
       rotate_left
       ·go_simp
        rfl
       refine hK.out _ _ ⟨((cell_far (p := ⟨gb601, _, none⟩) NB629_601.out _).trans (((cell_far (p := ⟨gb601, _, none⟩) NB629_601.out _).trans (hHeld.1)))), ((cell_far (p := ⟨gb601, _, none⟩) NB629_601.out _).trans (((cell_far (p := ⟨gb601, _, none⟩) NB629_601.out _).trans (hHeld.2.1)))), ((cell_far (p := ⟨gb601, _, none⟩) NB598_601.out _).trans (((cell_far (p := ⟨gb601, _, none⟩) NB598_601.out _).trans (hHeld.2.2.1)))), ((cell_far (p := ⟨gb601, _, none⟩) NB598_601.out _).trans (((cell_far (p := ⟨gb601, _, none⟩) NB598_601.out _).trans (hHeld.2.2.2.1)))), ((cell_far (p := ⟨gb601, _, none⟩) NB599_601.out _).trans (((cell_far (p := ⟨gb601, _, none⟩) NB599_601.out _).trans (hHeld.2.2.2.2.1)))), ((cell_far (p := ⟨gb601, _, none⟩) NB599_601.out _).trans (((cell_far (p := ⟨gb601, _, none⟩) NB599_601.out _).trans (hHeld.2.2.2.2.2))))⟩ (fun hHeld => ?_)
       clear hK K
       refine done_ (done_of HT_.out (by kernel_rfl)) ?_
       try go_wp2
       refine bodyPost_ret (results_cc rfl _ _ gb600 gb601 32 32 #[.bool t634, .slice Ao121 t635.length co121] #[.bool t642, .slice Ao131 t643.length co131] (0, 0) (0, 0) _ _ rfl (by (with_reducible repeat (first | refine blk_drewN ?_ _ | refine blk_drew ?_ | refine blk_alloc ?_ _)); refine blk_far ?_ NB600_601.out _; (with_reducible repeat (first | refine blk_drewN ?_ _ | refine blk_drew ?_ | refine blk_alloc ?_ _)); refine blk_far ?_ NB600_601.out _; (with_reducible repeat (first | refine blk_drewN ?_ _ | refine blk_drew ?_ | refine blk_alloc ?_ _)); refine blk_put (cs := #[.bool t634, .slice none 0 0]) ?_ 1 _ rfl; (with_reducible repeat (first | refine blk_drewN ?_ _ | refine blk_drew ?_ | refine blk_alloc ?_ _)); refine blk_put (cs := #[.bool false, .slice none 0 0]) ?_ 0 _ rfl; (with_reducible repeat (first | refine blk_drewN ?_ _ | refine blk_drew ?_ | refine blk_alloc ?_ _)); exact BK600.out) Tryd.underlying32 rfl (by kernel_rfl) rfl (by (with_reducible repeat (first | refine blk_drewN ?_ _ | refine blk_drew ?_ | refine blk_alloc ?_ _)); refine blk_put (cs := #[.bool t642, .slice none 0 0]) ?_ 1 _ rfl; (with_reducible repeat (first | refine blk_drewN ?_ _ | refine blk_drew ?_ | refine blk_alloc ?_ _)); refine blk_put (cs := #[.bool false, .slice none 0 0]) ?_ 0 _ rfl; (with_reducible repeat (first | refine blk_drewN ?_ _ | refine blk_drew ?_ | refine blk_alloc ?_ _)); refine blk_far ?_ NB601_600.out _; (with_reducible repeat (first | refine blk_drewN ?_ _ | refine blk_drew ?_ | refine blk_alloc ?_ _)); refine blk_far ?_ NB601_600.out _; (with_reducible repeat (first | refine blk_drewN ?_ _ | refine blk_drew ?_ | refine blk_alloc ?_ _)); exact BK601.out) Tryd.underlying32 rfl (by kernel_rfl)) rfl ?_
       exact ⟨_, _, by first | rfl | (simp [errW_none, errW_some] <;> rfl) | (simp [*, errW_none, errW_some] <;> rfl), kv (Kd.V_mono (Kd.V_far (p := ⟨gb601, 1, none⟩) (Kd.V_far (p := ⟨gb601, 0, none⟩) (Kd.V_far (p := ⟨gb600, 1, none⟩) (Kd.V_far (p := ⟨gb600, 0, none⟩) (Kd.V_mono (Kd.V_mono HO637.out (fun k_ hk => (⟨hk, hk.2.2.2.1⟩ : _ ∧ k_ ≠ gb600))) (fun k_ hk => (⟨hk, hk.1.2.2.2.2.1⟩ : _ ∧ k_ ≠ gb601))) (fun _ hk => hk.1.2) (.bool t634)) (fun _ hk => hk.1.2) (.slice Ao121 t635.length co121)) (fun _ hk => hk.2) (.bool t642)) (fun _ hk => hk.2) (.slice Ao131 t643.length co131)) (fun _ hk => hk.1.1.1)), kv (Kd.V_mono (Kd.V_far (p := ⟨gb601, 1, none⟩) (Kd.V_far (p := ⟨gb601, 0, none⟩) (Kd.V_far (p := ⟨gb600, 1, none⟩) (Kd.V_far (p := ⟨gb600, 0, none⟩) (Kd.V_mono (Kd.V_mono HO645.out (fun k_ hk => (⟨hk, hk.2.2.2.1⟩ : _ ∧ k_ ≠ gb600))) (fun k_ hk => (⟨hk, hk.1.2.2.2.2.1⟩ : _ ∧ k_ ≠ gb601))) (fun _ hk => hk.1.2) (.bool t634)) (fun _ hk => hk.1.2) (.slice Ao121 t635.length co121)) (fun _ hk => hk.2) (.bool t642)) (fun _ hk => hk.2) (.slice Ao131 t643.length co131)) (fun _ hk => hk.1.1.1)), bel⟩
      ·replace c111 := Bool.eq_false_iff.mpr c111
       subst c111
       rw [if_neg Bool.false_ne_true] at H
       obtain ⟨⟨t646, t647⟩, A133, H⟩ := bind_ H
       try dsimp only at H
       obtain ⟨⟨t650, t651⟩, A134, H⟩ := bind_ H
       try dsimp only at H
       simp only [Option.some.injEq, Prod.mk.injEq] at H
       obtain ⟨rfl, rfl, rfl, rfl⟩ := H
       try go_wp2
       replace HO_603001 := Aside0.mk (Kd.V_drew HO_603001.out)
       replace HO_630001 := Aside0.mk (Kd.V_drew HO_630001.out)
       replace BK598 := Aside0.mk (blk_drew BK598.out)
       replace BK599 := Aside0.mk (blk_drew BK599.out)
       replace BK600 := Aside0.mk (blk_drew BK600.out)
       replace BK601 := Aside0.mk (blk_drew BK601.out)
       replace BK602 := Aside0.mk (blk_drew BK602.out)
       replace BK629 := Aside0.mk (blk_drew BK629.out)
       replace HB := Aside0.mk (below_drew1 HB.out)
       refine start_ (n := 8) (S := fun w' => w'.cell? ⟨gb629, 0, none⟩ = some (.bool t625) ∧ w'.cell? ⟨gb629, 1, none⟩ = some (.slice Ao86 t626.length co86) ∧ w'.cell? ⟨gb598, 0, none⟩ = some (.bool a0_0) ∧ w'.cell? ⟨gb598, 1, none⟩ = some (.slice A0_1 l0_1.length c0_1) ∧ w'.cell? ⟨gb599, 0, none⟩ = some (.bool a1_0) ∧ w'.cell? ⟨gb599, 1, none⟩ = some (.slice A1_1 l1_1.length c1_1)) (ds := []) #[false, false, false, false, false, false, false, false] (by kernel_rfl) rfl rfl ⟨(blk_cell BK629.out 0).trans rfl, (blk_cell BK629.out 1).trans rfl, (blk_cell BK598.out 0).trans rfl, (blk_cell BK598.out 1).trans rfl, (blk_cell BK599.out 0).trans rfl, (blk_cell BK599.out 1).trans rfl⟩ (fun hHeld => ?_); refine with_tabW cellarerref02_DivMod.tab17 cellarerref02_DivMod.bits17 (fun HT_ HW_ => ?_)
       generalize wc.drew = w135 at HO_603001 HO_630001 BK598 BK599 BK600 BK601 BK602 BK629 HB hHeld ⊢
       refine take_ (i := 0) (N := some 72) #[true, false, false, false, false, false, false, false] rfl rfl (take_ofW HT_.out HW_.out (by kernel_rfl)) (fun _ _ _ h => h) (Or.inl ⟨by rfl, yt6⟩) hHeld nm ?_
       refine take_ (i := 1) (N := some 73) #[true, true, false, false, false, false, false, false] rfl rfl (take_ofW HT_.out HW_.out (by kernel_rfl)) (fun _ _ _ h => h) (Or.inl ⟨by rfl, yt6⟩) hHeld nm ?_
       refine take_ (i := 2) (N := some 74) #[true, true, true, false, false, false, false, false] rfl rfl (take_ofW HT_.out HW_.out (by kernel_rfl)) (fun _ _ _ h => h) (Or.inl ⟨by rfl, yt6⟩) hHeld nm ?_
       refine take_ (i := 3) (N := some 75) #[true, true, true, true, false, false, false, false] rfl rfl (take_ofW HT_.out HW_.out (by kernel_rfl)) (fun _ _ _ h => h) (Or.inl ⟨by rfl, yt6⟩) hHeld nm ?_
       refine one_ (i := 4) (N := some 76) #[true, true, true, true, true, false, false, false] rfl rfl (one_of HT_.out (by kernel_rfl)) (by decide) (fun K hK => ?_)
       refine goes_ Tryd.func27 (by kernel_rfl) rfl #[.agg #[.bool t625, .slice Ao86 t626.length co86], .agg #[.bool a1_0, .slice A1_1 l1_1.length c1_1]] (by rfl) rfl rfl ag ?_
       with_reducible refine (cellarerref02_Mul.calls kj66 t625 _ _ t626 a1_0 _ _ l1_1 t646 t647 _ ?side1 ?side2 ?side3 ?side4 ?side5 A133.out).mono ?_
       (case side1 => exact GOK.below hG.out bel)
       (case side2 => exact kc ((Kd.V_reads' HO_630001.out).2.2))
       (case side3 => exact (Kd.V_reads' HO_630001.out).2.1)
       (case side4 => exact kc ((Kd.C_below HR1_1.out HB.out)))
       (case side5 => exact HC1_1.out)
       rintro e w136 ⟨v648, rfl, ho0, hb⟩
       refine ⟨_, rfl, ?_⟩
       have HO649 := Aside0.mk (Kd.V_lower (Kd.V_mono (ok' := fun k_ => (w.heap.size ≤ k_) ∧ k_ ≠ gb598 ∧ k_ ≠ gb599 ∧ k_ ≠ gb600 ∧ k_ ≠ gb601 ∧ k_ ≠ gb602 ∧ k_ ≠ gb629) ho0 (fun k_ hk_ => ⟨(Nat.le_trans (below_size bel) hk_), (Kd.freshB (bk BK598.out) k_ hk_), (Kd.freshB (bk BK599.out) k_ hk_), (Kd.freshB (bk BK600.out) k_ hk_), (Kd.freshB (bk BK601.out) k_ hk_), (Kd.freshB (bk BK602.out) k_ hk_), (Kd.freshB (bk BK629.out) k_ hk_)⟩)) (below_size bel))
       replace HO_603001 := Aside0.mk (Kd.V_below (kv HO_603001.out) hb)
       replace HO_630001 := Aside0.mk (Kd.V_below (kv HO_630001.out) hb)
       replace BK598 := Aside0.mk (blk_below (bk BK598.out) hb)
       replace BK599 := Aside0.mk (blk_below (bk BK599.out) hb)
       replace BK600 := Aside0.mk (blk_below (bk BK600.out) hb)
       replace BK601 := Aside0.mk (blk_below (bk BK601.out) hb)
       replace BK602 := Aside0.mk (blk_below (bk BK602.out) hb)
       replace BK629 := Aside0.mk (blk_below (bk BK629.out) hb)
       replace HB := Aside0.mk (below_step bel hb)
       clear hb ho0
       obtain ⟨Ao137, co137, eo137⟩ := Kd.V_slice HO649.out
       (first | subst eo137 | (injection eo137 with f1_ f2_ f3_; have f4_ := f1_.symm; have f5_ := f3_.symm; clear f1_ f2_ f3_; subst f4_; subst f5_))
       refine hK.out _ _ ⟨(blk_cell BK629.out 0).trans rfl, (blk_cell BK629.out 1).trans rfl, (blk_cell BK598.out 0).trans rfl, (blk_cell BK598.out 1).trans rfl, (blk_cell BK599.out 0).trans rfl, (blk_cell BK599.out 1).trans rfl⟩ (fun hHeld => ?_)
       clear hK K
       refine norm_ (a' := ?_) ?_ ?_
       rotate_left
       ·show Act.put _ (some 76) _ = _
        simp only [Act.put, List.setIfInBounds_toArray, List.set_cons_zero, List.set_cons_succ, i64_w, i32_w]
        rfl
       refine one_ (i := 5) (N := some 77) #[true, true, true, true, true, true, false, false] rfl rfl (one_of HT_.out (by kernel_rfl)) (by decide) (fun K hK => ?_)
       refine goes_ Tryd.func25 (by kernel_rfl) rfl #[.agg #[.bool a0_0, .slice A0_1 l0_1.length c0_1], .agg #[.bool t646, .slice Ao137 t647.length co137]] (by rfl) rfl rfl ag ?_
       with_reducible refine (cellarerref02_Sub.calls kj66 a0_0 _ _ l0_1 t646 (fun k_ => ((w.heap.size ≤ k_) ∧ (k_ ≠ gb598 ∧ (k_ ≠ gb599 ∧ (k_ ≠ gb600 ∧ (k_ ≠ gb601 ∧ (k_ ≠ gb602 ∧ k_ ≠ gb629))))))) _ _ t647 t650 t651 _ ?side1 ?side2 ?side3 ?side4 A134.out).mono ?_
       (case side1 => exact GOK.below hG.out bel)
       (case side2 => exact kc ((Kd.C_below HR0_1.out HB.out)))
       (case side3 => exact HC0_1.out)
       (case side4 => exact HO649.out)
       rintro e w138 ⟨v652, rfl, ho0, hb⟩
       refine ⟨_, rfl, ?_⟩
       have HO653 := Aside0.mk (Kd.V_lower (Kd.V_mono (ok' := fun k_ => (w.heap.size ≤ k_) ∧ k_ ≠ gb598 ∧ k_ ≠ gb599 ∧ k_ ≠ gb600 ∧ k_ ≠ gb601 ∧ k_ ≠ gb602 ∧ k_ ≠ gb629) ho0 (fun k_ hk_ => ⟨Or.elim hk_ (fun hs_ => hs_.1) (fun hn_ => (Nat.le_trans (below_size bel) hn_)), Or.elim hk_ (fun hs_ => hs_.2.1) (fun hn_ => (Kd.freshB (bk BK598.out) k_ hn_)), Or.elim hk_ (fun hs_ => hs_.2.2.1) (fun hn_ => (Kd.freshB (bk BK599.out) k_ hn_)), Or.elim hk_ (fun hs_ => hs_.2.2.2.1) (fun hn_ => (Kd.freshB (bk BK600.out) k_ hn_)), Or.elim hk_ (fun hs_ => hs_.2.2.2.2.1) (fun hn_ => (Kd.freshB (bk BK601.out) k_ hn_)), Or.elim hk_ (fun hs_ => hs_.2.2.2.2.2.1) (fun hn_ => (Kd.freshB (bk BK602.out) k_ hn_)), Or.elim hk_ (fun hs_ => hs_.2.2.2.2.2.2) (fun hn_ => (Kd.freshB (bk BK629.out) k_ hn_))⟩)) (below_size bel))
       replace HO_603001 := Aside0.mk (Kd.V_below (kv HO_603001.out) hb)
       replace HO_630001 := Aside0.mk (Kd.V_below (kv HO_630001.out) hb)
       replace HO649 := Aside0.mk (Kd.V_below (kv HO649.out) hb)
       replace BK598 := Aside0.mk (blk_below (bk BK598.out) hb)
       replace BK599 := Aside0.mk (blk_below (bk BK599.out) hb)
       replace BK600 := Aside0.mk (blk_below (bk BK600.out) hb)
       replace BK601 := Aside0.mk (blk_below (bk BK601.out) hb)
       replace BK602 := Aside0.mk (blk_below (bk BK602.out) hb)
       replace BK629 := Aside0.mk (blk_below (bk BK629.out) hb)
       replace HB := Aside0.mk (below_step bel hb)
       clear hb ho0
       obtain ⟨Ao142, co142, eo142⟩ := Kd.V_slice HO653.out
       (first | subst eo142 | (injection eo142 with f1_ f2_ f3_; have f4_ := f1_.symm; have f5_ := f3_.symm; clear f1_ f2_ f3_; subst f4_; subst f5_))
       refine hK.out _ _ ⟨(blk_cell BK629.out 0).trans rfl, (blk_cell BK629.out 1).trans rfl, (blk_cell BK598.out 0).trans rfl, (blk_cell BK598.out 1).trans rfl, (blk_cell BK599.out 0).trans rfl, (blk_cell BK599.out 1).trans rfl⟩ (fun hHeld => ?_)
       clear hK K
       refine norm_ (a' := ?_) ?_ ?_
       rotate_left
       ·show Act.put _ (some 77) _ = _
        simp only [Act.put, List.setIfInBounds_toArray, List.set_cons_zero, List.set_cons_succ, i64_w, i32_w]
        rfl
       refine one_ (i := 6) (N := none) #[true, true, true, true, true, true, true, false] rfl rfl (one_of HT_.out (by kernel_rfl)) (by decide) (fun K hK => ?_)
       have hs139 : w138.cell? ⟨gb600, 0, none⟩ = some (.bool false) := (blk_cell BK600.out 0).trans rfl
       have hfs139 := blk_frozen BK600.out 0
       have hns139_0 := NB598_600.out
       have hns139_1 := NB599_600.out
       have hns139_3 := NB601_600.out
       have hns139_4 := NB602_600.out
       have hns139_5 := NB629_600.out
       have hms139_0 := NB600_598.out
       have hms139_1 := NB600_599.out
       have hms139_3 := NB600_601.out
       have hms139_4 := NB600_602.out
       have hms139_5 := NB600_629.out
       have hs140 : w138.cell? ⟨gb600, 1, none⟩ = some (.slice none 0 0) := (blk_cell BK600.out 1).trans rfl
       have hfs140 := blk_frozen BK600.out 1
       have hns140_0 := NB598_600.out
       have hns140_1 := NB599_600.out
       have hns140_3 := NB601_600.out
       have hns140_4 := NB602_600.out
       have hns140_5 := NB629_600.out
       have hms140_0 := NB600_598.out
       have hms140_1 := NB600_599.out
       have hms140_3 := NB600_601.out
       have hms140_4 := NB600_602.out
       have hms140_5 := NB600_629.out
       refine skip_ (w1 := ?_) (by rfl) rfl ?_ ?_
       rotate_left
       ·go_simp
        rfl
       refine hK.out _ _ ⟨((cell_far (p := ⟨gb600, _, none⟩) NB629_600.out _).trans (((cell_far (p := ⟨gb600, _, none⟩) NB629_600.out _).trans (hHeld.1)))), ((cell_far (p := ⟨gb600, _, none⟩) NB629_600.out _).trans (((cell_far (p := ⟨gb600, _, none⟩) NB629_600.out _).trans (hHeld.2.1)))), ((cell_far (p := ⟨gb600, _, none⟩) NB598_600.out _).trans (((cell_far (p := ⟨gb600, _, none⟩) NB598_600.out _).trans (hHeld.2.2.1)))), ((cell_far (p := ⟨gb600, _, none⟩) NB598_600.out _).trans (((cell_far (p := ⟨gb600, _, none⟩) NB598_600.out _).trans (hHeld.2.2.2.1)))), ((cell_far (p := ⟨gb600, _, none⟩) NB599_600.out _).trans (((cell_far (p := ⟨gb600, _, none⟩) NB599_600.out _).trans (hHeld.2.2.2.2.1)))), ((cell_far (p := ⟨gb600, _, none⟩) NB599_600.out _).trans (((cell_far (p := ⟨gb600, _, none⟩) NB599_600.out _).trans (hHeld.2.2.2.2.2))))⟩ (fun hHeld => ?_)
       clear hK K
       refine one_ (i := 7) (N := none) #[true, true, true, true, true, true, true, true] rfl rfl (one_of HT_.out (by kernel_rfl)) (by decide) (fun K hK => ?_)
       have hs141 : w138.cell? ⟨gb601, 0, none⟩ = some (.bool false) := (blk_cell BK601.out 0).trans rfl
       have hfs141 := blk_frozen BK601.out 0
       have hns141_0 := NB598_601.out
       have hns141_1 := NB599_601.out
       have hns141_2 := NB600_601.out
       have hns141_4 := NB602_601.out
       have hns141_5 := NB629_601.out
       have hms141_0 := NB601_598.out
       have hms141_1 := NB601_599.out
       have hms141_2 := NB601_600.out
       have hms141_4 := NB601_602.out
       have hms141_5 := NB601_629.out
       have hs143 : w138.cell? ⟨gb601, 1, none⟩ = some (.slice none 0 0) := (blk_cell BK601.out 1).trans rfl
       have hfs143 := blk_frozen BK601.out 1
       have hns143_0 := NB598_601.out
       have hns143_1 := NB599_601.out
       have hns143_2 := NB600_601.out
       have hns143_4 := NB602_601.out
       have hns143_5 := NB629_601.out
       have hms143_0 := NB601_598.out
       have hms143_1 := NB601_599.out
       have hms143_2 := NB601_600.out
       have hms143_4 := NB601_602.out
       have hms143_5 := NB601_629.out
       refine skip_ (w1 := ?_) (by rfl) rfl ?_ ?_
       rotate_left
       ·go_simp
        rfl
       refine hK.out _ _ ⟨((cell_far (p := ⟨gb601, _, none⟩) NB629_601.out _).trans (((cell_far (p := ⟨gb601, _, none⟩) NB629_601.out _).trans (hHeld.1)))), ((cell_far (p := ⟨gb601, _, none⟩) NB629_601.out _).trans (((cell_far (p := ⟨gb601, _, none⟩) NB629_601.out _).trans (hHeld.2.1)))), ((cell_far (p := ⟨gb601, _, none⟩) NB598_601.out _).trans (((cell_far (p := ⟨gb601, _, none⟩) NB598_601.out _).trans (hHeld.2.2.1)))), ((cell_far (p := ⟨gb601, _, none⟩) NB598_601.out _).trans (((cell_far (p := ⟨gb601, _, none⟩) NB598_601.out _).trans (hHeld.2.2.2.1)))), ((cell_far (p := ⟨gb601, _, none⟩) NB599_601.out _).trans (((cell_far (p := ⟨gb601, _, none⟩) NB599_601.out _).trans (hHeld.2.2.2.2.1)))), ((cell_far (p := ⟨gb601, _, none⟩) NB599_601.out _).trans (((cell_far (p := ⟨gb601, _, none⟩) NB599_601.out _).trans (hHeld.2.2.2.2.2))))⟩ (fun hHeld => ?_)
       clear hK K
       refine done_ (done_of HT_.out (by kernel_rfl)) ?_
       try go_wp2
       refine bodyPost_ret (results_cc rfl _ _ gb600 gb601 32 32 #[.bool t625, .slice Ao86 t626.length co86] #[.bool t650, .slice Ao142 t651.length co142] (0, 0) (0, 0) _ _ rfl (by (with_reducible repeat (first | refine blk_drewN ?_ _ | refine blk_drew ?_ | refine blk_alloc ?_ _)); refine blk_far ?_ NB600_601.out _; (with_reducible repeat (first | refine blk_drewN ?_ _ | refine blk_drew ?_ | refine blk_alloc ?_ _)); refine blk_far ?_ NB600_601.out _; (with_reducible repeat (first | refine blk_drewN ?_ _ | refine blk_drew ?_ | refine blk_alloc ?_ _)); refine blk_put (cs := #[.bool t625, .slice none 0 0]) ?_ 1 _ rfl; (with_reducible repeat (first | refine blk_drewN ?_ _ | refine blk_drew ?_ | refine blk_alloc ?_ _)); refine blk_put (cs := #[.bool false, .slice none 0 0]) ?_ 0 _ rfl; (with_reducible repeat (first | refine blk_drewN ?_ _ | refine blk_drew ?_ | refine blk_alloc ?_ _)); exact BK600.out) Tryd.underlying32 rfl (by kernel_rfl) rfl (by (with_reducible repeat (first | refine blk_drewN ?_ _ | refine blk_drew ?_ | refine blk_alloc ?_ _)); refine blk_put (cs := #[.bool t650, .slice none 0 0]) ?_ 1 _ rfl; (with_reducible repeat (first | refine blk_drewN ?_ _ | refine blk_drew ?_ | refine blk_alloc ?_ _)); refine blk_put (cs := #[.bool false, .slice none 0 0]) ?_ 0 _ rfl; (with_reducible repeat (first | refine blk_drewN ?_ _ | refine blk_drew ?_ | refine blk_alloc ?_ _)); refine blk_far ?_ NB601_600.out _; (with_reducible repeat (first | refine blk_drewN ?_ _ | refine blk_drew ?_ | refine blk_alloc ?_ _)); refine blk_far ?_ NB601_600.out _; (with_reducible repeat (first | refine blk_drewN ?_ _ | refine blk_drew ?_ | refine blk_alloc ?_ _)); exact BK601.out) Tryd.underlying32 rfl (by kernel_rfl)) rfl ?_
       exact ⟨_, _, by first | rfl | (simp [errW_none, errW_some] <;> rfl) | (simp [*, errW_none, errW_some] <;> rfl), kv (Kd.V_mono (Kd.V_far (p := ⟨gb601, 1, none⟩) (Kd.V_far (p := ⟨gb601, 0, none⟩) (Kd.V_far (p := ⟨gb600, 1, none⟩) (Kd.V_far (p := ⟨gb600, 0, none⟩) (Kd.V_mono (Kd.V_mono HO_630001.out (fun k_ hk => (⟨hk, hk.2.2.2.1⟩ : _ ∧ k_ ≠ gb600))) (fun k_ hk => (⟨hk, hk.1.2.2.2.2.1⟩ : _ ∧ k_ ≠ gb601))) (fun _ hk => hk.1.2) (.bool t625)) (fun _ hk => hk.1.2) (.slice Ao86 t626.length co86)) (fun _ hk => hk.2) (.bool t650)) (fun _ hk => hk.2) (.slice Ao142 t651.length co142)) (fun _ hk => hk.1.1.1)), kv (Kd.V_mono (Kd.V_far (p := ⟨gb601, 1, none⟩) (Kd.V_far (p := ⟨gb601, 0, none⟩) (Kd.V_far (p := ⟨gb600, 1, none⟩) (Kd.V_far (p := ⟨gb600, 0, none⟩) (Kd.V_mono (Kd.V_mono HO653.out (fun k_ hk => (⟨hk, hk.2.2.2.1⟩ : _ ∧ k_ ≠ gb600))) (fun k_ hk => (⟨hk, hk.1.2.2.2.2.1⟩ : _ ∧ k_ ≠ gb601))) (fun _ hk => hk.1.2) (.bool t625)) (fun _ hk => hk.1.2) (.slice Ao86 t626.length co86)) (fun _ hk => hk.2) (.bool t650)) (fun _ hk => hk.2) (.slice Ao142 t651.length co142)) (fun _ hk => hk.1.1.1)), bel⟩

end Go.Proofs.YtdnjlmoggnbknaaDoor.PInt
