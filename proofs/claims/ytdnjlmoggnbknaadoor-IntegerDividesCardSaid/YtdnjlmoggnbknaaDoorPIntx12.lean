-- Written by a program of this session's (xprint.py) over the kit's print.
import Derived.Test.YtdnjlmoggnbknaaDoorPIntx0
import Derived.Test.YtdnjlmoggnbknaaDoorPIntx1
import Derived.Test.YtdnjlmoggnbknaaDoorPIntx8
import Derived.Test.YtdnjlmoggnbknaaDoorPIntx9
import Derived.Test.YtdnjlmoggnbknaaDoorPIntx10
import Derived.Test.YtdnjlmoggnbknaaDoorPIntx11
import Derived.Test.YtdnjlmoggnbknaaDoorPIntD
import Derived.Test.YtdnjlmoggnbknaaDoorAuto
namespace Go.Proofs.YtdnjlmoggnbknaaDoor.PInt
open Go.RowKit Go.Proofs.YtdnjlmoggnbknaaDoor.Ext Go.Proofs.YtdnjlmoggnbknaaDoorW.PrintWords Go.Proofs.YtdnjlmoggnbknaaDoorW.PrintLast Go.Proofs.YtdnjlmoggnbknaaDoorW.PrintMore
attribute [local go_sem high] gtr_print leq_print
attribute [local go_sem] max2_int min2_int max_two min_two max_three min_three max_four min_four   -- for this text's walks alone
set_option linter.unusedVariables false
set_option linter.unusedSimpArgs false

/-! ### cellarerref02_Neg: function 33 -/
set_option maxHeartbeats 8000000 in
set_option maxRecDepth 100000 in
theorem cellarerref02_Neg.calls (k : Nat) (a0_0 : Bool) (P0_1_ : Nat → Prop) (A0_1 : Option Addr) (c0_1 : Nat) (l0_1 : List Int) (r1 : Bool) (r2 : List Int) (w : World) (hG : GOK w) (hs0_1 : Kd.V (Kd.int .i64) 3 w w.heap.size (fun k_ => P0_1_ k_) (.slice A0_1 l0_1.length c0_1) l0_1) (h : cellarerref02_Neg.f k a0_0 l0_1 = some (r1, r2)) :
  Calls Tryd.prog 33 #[.agg #[.bool a0_0, .slice A0_1 l0_1.length c0_1]] w fun e w' => ∃ v1_ : Value, e = .returned (.agg #[.bool r1, v1_]) ∧ Kd.V (Kd.int .i64) 3 w' w.heap.size (fun k_ => (P0_1_ k_ ∨ w.heap.size ≤ k_)) v1_ r2 ∧ Below w.heap.size w w' := by
 have hu32 := Tryd.underlying32
 have HO0_1 := Aside0.mk (show Kd.V (Kd.int .i64) 3 w w.heap.size (fun k_ => (P0_1_ k_ ∨ w.heap.size ≤ k_)) (.slice A0_1 l0_1.length c0_1) l0_1 from Kd.V_mono hs0_1 (fun k_ hk => .inl hk))
 replace hG := Aside0.mk hG
 have HB := Aside0.mk (Below.refl w.heap.size w)
 have H : ((cellarerref02_make0.f k (!a0_0) l0_1).bind fun bt475 => (some (bt475.1, bt475.2))) = some (r1, r2) := h
 clear h
 obtain ⟨⟨t475, t476⟩, A2, H⟩ := bind_ H
 try dsimp only at H
 simp only [Option.some.injEq, Prod.mk.injEq] at H
 obtain ⟨rfl, rfl⟩ := H
 go_enter Tryd.func33, Tryd.ntmps33
 go_wp2_with (first | ((with_reducible refine gate_dst (N := 1) rfl ?_); refine box_event ?hg (N := 1) ?hd (cs := #[.bool a0_0, .slice A0_1 l0_1.length c0_1]) (t := 32) ?hr ?_; (case hd => rfl); (case hg => rfl); (case hr => first | (go_simp; done) | (go_simp; rfl)); intro gb473 hg w3 hbox hb; have BK473 := Aside0.mk (hbox); have GW473 := Aside0.mk ((by rw [hg]; exact (below_size bel) : w.heap.size ≤ gb473)); have GE473 := Aside0.mk ((by rw [hg]; exact (below_size bel) : w.heap.size ≤ gb473)); replace HO0_1 := Aside0.mk (Kd.V_below (Kd.V_elderB (kv HO0_1.out) gb473 (Nat.le_of_eq hg.symm)) hb); replace HB := Aside0.mk (below_step bel hb); clear hb hbox hg) | ((with_reducible refine gate_dst (N := 2) rfl ?_); refine box_event ?hg (N := 2) ?hd (cs := #[.bool false, .slice none 0 0]) (t := 32) ?hr ?_; (case hd => rfl); (case hg => rfl); (case hr => first | (go_simp; done) | (go_simp; rfl)); intro gb474 hg w4 hbox hb; have BK474 := Aside0.mk (hbox); have GW474 := Aside0.mk ((by rw [hg]; exact (below_size bel) : w.heap.size ≤ gb474)); have GE474 := Aside0.mk ((by rw [hg]; exact (below_size bel) : w.heap.size ≤ gb474)); have NB473_474 := Aside0.mk ((by rw [hg]; exact Nat.ne_of_lt (blk_lt (bk BK473.out)) : gb473 ≠ gb474)); have NB474_473 := Aside0.mk ((by rw [hg]; exact Nat.ne_of_gt (blk_lt (bk BK473.out)) : gb474 ≠ gb473)); replace HO0_1 := Aside0.mk (Kd.V_below (Kd.V_elderB (kv HO0_1.out) gb474 (Nat.le_of_eq hg.symm)) hb); replace BK473 := Aside0.mk (blk_below (bk BK473.out) hb); replace HB := Aside0.mk (below_step bel hb); clear hb hbox hg; have hnb5 := NB473_474.out; have hnc5 := NB474_473.out; have hcz6_0 : w4.cell? ⟨gb473, 0, none⟩ = some (.bool a0_0) := (blk_cell BK473.out 0).trans rfl; have hcz6_1 : w4.cell? ⟨gb473, 1, none⟩ = some (.slice A0_1 l0_1.length c0_1) := (blk_cell BK473.out 1).trans rfl; have hfz6_0 := blk_frozen BK473.out 0; have hfz6_1 := blk_frozen BK473.out 1) | ((with_reducible refine gate_callee (f := 41) rfl ?_); refine goesL_ (some 8) rfl rfl Tryd.func41 (by kernel_rfl) rfl #[.bool (!a0_0), .slice A0_1 l0_1.length c0_1] rfl ag ?_; (with_reducible refine (cellarerref02_make0.calls k (!a0_0) (fun k_ => (((P0_1_ k_ ∨ w.heap.size ≤ k_) ∧ k_ ≠ gb473) ∧ k_ ≠ gb474)) _ _ l0_1 t475 t476 _ ?side1 ?side2 A2.out).mono ?_); (case side1 => exact GOK.below hG.out bel); (case side2 => exact HO0_1.out); rintro e w7 ⟨v477, rfl, ho0, hb⟩; refine ⟨_, rfl, ?_⟩; have HO478 := Aside0.mk (Kd.V_lower (Kd.V_mono (ok' := fun k_ => (P0_1_ k_ ∨ w.heap.size ≤ k_) ∧ k_ ≠ gb473 ∧ k_ ≠ gb474) ho0 (fun k_ hk_ => ⟨Or.elim hk_ (fun hs_ => hs_.1.1) (fun hn_ => (.inr (Nat.le_trans (below_size bel) hn_))), Or.elim hk_ (fun hs_ => hs_.1.2) (fun hn_ => (Kd.freshB (bk BK473.out) k_ hn_)), Or.elim hk_ (fun hs_ => hs_.2) (fun hn_ => (Kd.freshB (bk BK474.out) k_ hn_))⟩)) (below_size bel)); replace HO0_1 := Aside0.mk (Kd.V_below (kv HO0_1.out) hb); replace BK473 := Aside0.mk (blk_below (bk BK473.out) hb); replace BK474 := Aside0.mk (blk_below (bk BK474.out) hb); replace HB := Aside0.mk (below_step bel hb); clear hb ho0; have hcz8_0 : w7.cell? ⟨gb474, 0, none⟩ = some (.bool false) := (blk_cell BK474.out 0).trans rfl; have hcz8_1 : w7.cell? ⟨gb474, 1, none⟩ = some (.slice none 0 0) := (blk_cell BK474.out 1).trans rfl; have hfz8_0 := blk_frozen BK474.out 0; have hfz8_1 := blk_frozen BK474.out 1; obtain ⟨Ao9, co9, eo9⟩ := Kd.V_slice HO478.out; subst eo9))
 refine bodyPost_ret (results_cell_row rfl _ _ gb474 32 #[.bool t475, .slice Ao9 t476.length co9] (0, 0) _ rfl (by (with_reducible repeat (first | refine blk_drewN ?_ _ | refine blk_drew ?_ | refine blk_alloc ?_ _)); refine blk_put (cs := #[.bool t475, .slice none 0 0]) ?_ 1 _ rfl; (with_reducible repeat (first | refine blk_drewN ?_ _ | refine blk_drew ?_ | refine blk_alloc ?_ _)); refine blk_put (cs := #[.bool false, .slice none 0 0]) ?_ 0 _ rfl; (with_reducible repeat (first | refine blk_drewN ?_ _ | refine blk_drew ?_ | refine blk_alloc ?_ _)); exact BK474.out) Tryd.underlying32 rfl (by kernel_rfl)) rfl ?_
 exact ⟨_, by first | rfl | (simp [errW_none, errW_some] <;> rfl) | (simp [*, errW_none, errW_some] <;> rfl), kv (Kd.V_mono (Kd.V_far (p := ⟨gb474, 1, none⟩) (Kd.V_far (p := ⟨gb474, 0, none⟩) (Kd.V_mono HO478.out (fun k_ hk => (⟨hk, hk.2.2⟩ : _ ∧ k_ ≠ gb474))) (fun _ hk => hk.2) (.bool t475)) (fun _ hk => hk.2) (.slice Ao9 t476.length co9)) (fun _ hk => hk.1.1)), bel⟩

/-! ### cellarerref02_Sub: function 25 -/
set_option maxHeartbeats 8000000 in
set_option maxRecDepth 100000 in
theorem cellarerref02_Sub.calls (k : Nat) (a0_0 : Bool) (A0_1 : Option Addr) (c0_1 : Nat) (l0_1 : List Int) (a1_0 : Bool) (P1_1_ : Nat → Prop) (A1_1 : Option Addr) (c1_1 : Nat) (l1_1 : List Int) (r1 : Bool) (r2 : List Int) (w : World) (hG : GOK w) (hr0_1 : Kd.C (Kd.int .i64) w A0_1 l0_1.length l0_1) (hc0_1 : l0_1.length ≤ c0_1) (hs1_1 : Kd.V (Kd.int .i64) 3 w w.heap.size (fun k_ => P1_1_ k_) (.slice A1_1 l1_1.length c1_1) l1_1) (h : cellarerref02_Sub.f k a0_0 l0_1 a1_0 l1_1 = some (r1, r2)) :
  Calls Tryd.prog 25 #[.agg #[.bool a0_0, .slice A0_1 l0_1.length c0_1], .agg #[.bool a1_0, .slice A1_1 l1_1.length c1_1]] w fun e w' => ∃ v1_ : Value, e = .returned (.agg #[.bool r1, v1_]) ∧ Kd.V (Kd.int .i64) 3 w' w.heap.size (fun k_ => (P1_1_ k_ ∨ w.heap.size ≤ k_)) v1_ r2 ∧ Below w.heap.size w w' := by
 have hu32 := Tryd.underlying32
 have HR0_1 := Aside0.mk hr0_1
 have HC0_1 := Aside0.mk hc0_1
 clear hr0_1 hc0_1
 have HO1_1 := Aside0.mk (show Kd.V (Kd.int .i64) 3 w w.heap.size (fun k_ => (P1_1_ k_ ∨ w.heap.size ≤ k_)) (.slice A1_1 l1_1.length c1_1) l1_1 from Kd.V_mono hs1_1 (fun k_ hk => .inl hk))
 replace hG := Aside0.mk hG
 have HB := Aside0.mk (Below.refl w.heap.size w)
 have H : ((cellarerref02_Neg.f k a1_0 l1_1).bind fun bt482 => ((cellarerref02_Add.f k a0_0 l0_1 bt482.1 bt482.2).bind fun bt486 => (some (bt486.1, bt486.2)))) = some (r1, r2) := h
 clear h
 obtain ⟨⟨t482, t483⟩, A3, H⟩ := bind_ H
 try dsimp only at H
 obtain ⟨⟨t486, t487⟩, A4, H⟩ := bind_ H
 try dsimp only at H
 simp only [Option.some.injEq, Prod.mk.injEq] at H
 obtain ⟨rfl, rfl⟩ := H
 go_enter Tryd.func25, Tryd.ntmps25
 try go_wp2_with (first | ((with_reducible refine gate_dst (N := 2) rfl ?_); refine box_event ?hg (N := 2) ?hd (cs := #[.bool a0_0, .slice A0_1 l0_1.length c0_1]) (t := 32) ?hr ?_; (case hd => rfl); (case hg => rfl); (case hr => first | (go_simp; done) | (go_simp; rfl)); intro gb479 hg w5 hbox hb; have BK479 := Aside0.mk (hbox); have GW479 := Aside0.mk ((by rw [hg]; exact (below_size bel) : w.heap.size ≤ gb479)); have GE479 := Aside0.mk ((by rw [hg]; exact (below_size bel) : w.heap.size ≤ gb479)); replace HO1_1 := Aside0.mk (Kd.V_below (Kd.V_elderB (kv HO1_1.out) gb479 (Nat.le_of_eq hg.symm)) hb); replace HB := Aside0.mk (below_step bel hb); clear hb hbox hg) | ((with_reducible refine gate_dst (N := 3) rfl ?_); refine box_event ?hg (N := 3) ?hd (cs := #[.bool a1_0, .slice A1_1 l1_1.length c1_1]) (t := 32) ?hr ?_; (case hd => rfl); (case hg => rfl); (case hr => first | (go_simp; done) | (go_simp; rfl)); intro gb480 hg w6 hbox hb; have BK480 := Aside0.mk (hbox); have GW480 := Aside0.mk ((by rw [hg]; exact (below_size bel) : w.heap.size ≤ gb480)); have GE480 := Aside0.mk ((by rw [hg]; exact (below_size bel) : w.heap.size ≤ gb480)); have NB479_480 := Aside0.mk ((by rw [hg]; exact Nat.ne_of_lt (blk_lt (bk BK479.out)) : gb479 ≠ gb480)); have NB480_479 := Aside0.mk ((by rw [hg]; exact Nat.ne_of_gt (blk_lt (bk BK479.out)) : gb480 ≠ gb479)); replace HO1_1 := Aside0.mk (Kd.V_below (Kd.V_elderB (kv HO1_1.out) gb480 (Nat.le_of_eq hg.symm)) hb); replace BK479 := Aside0.mk (blk_below (bk BK479.out) hb); replace HB := Aside0.mk (below_step bel hb); clear hb hbox hg) | ((with_reducible refine gate_dst (N := 4) rfl ?_); refine box_event ?hg (N := 4) ?hd (cs := #[.bool false, .slice none 0 0]) (t := 32) ?hr ?_; (case hd => rfl); (case hg => rfl); (case hr => first | (go_simp; done) | (go_simp; rfl)); intro gb481 hg w7 hbox hb; have BK481 := Aside0.mk (hbox); have GW481 := Aside0.mk ((by rw [hg]; exact (below_size bel) : w.heap.size ≤ gb481)); have GE481 := Aside0.mk ((by rw [hg]; exact (below_size bel) : w.heap.size ≤ gb481)); have NB479_481 := Aside0.mk ((by rw [hg]; exact Nat.ne_of_lt (blk_lt (bk BK479.out)) : gb479 ≠ gb481)); have NB481_479 := Aside0.mk ((by rw [hg]; exact Nat.ne_of_gt (blk_lt (bk BK479.out)) : gb481 ≠ gb479)); have NB480_481 := Aside0.mk ((by rw [hg]; exact Nat.ne_of_lt (blk_lt (bk BK480.out)) : gb480 ≠ gb481)); have NB481_480 := Aside0.mk ((by rw [hg]; exact Nat.ne_of_gt (blk_lt (bk BK480.out)) : gb481 ≠ gb480)); replace HO1_1 := Aside0.mk (Kd.V_below (Kd.V_elderB (kv HO1_1.out) gb481 (Nat.le_of_eq hg.symm)) hb); replace BK479 := Aside0.mk (blk_below (bk BK479.out) hb); replace BK480 := Aside0.mk (blk_below (bk BK480.out) hb); replace HB := Aside0.mk (below_step bel hb); clear hb hbox hg))
 replace HO1_1 := Aside0.mk (Kd.V_drew HO1_1.out)
 replace BK479 := Aside0.mk (blk_drew BK479.out)
 replace BK480 := Aside0.mk (blk_drew BK480.out)
 replace BK481 := Aside0.mk (blk_drew BK481.out)
 replace HB := Aside0.mk (below_drew1 HB.out)
 refine start_ (n := 5) (S := fun w' => w'.cell? ⟨gb479, 0, none⟩ = some (.bool a0_0) ∧ w'.cell? ⟨gb479, 1, none⟩ = some (.slice A0_1 l0_1.length c0_1) ∧ w'.cell? ⟨gb480, 0, none⟩ = some (.bool a1_0) ∧ w'.cell? ⟨gb480, 1, none⟩ = some (.slice A1_1 l1_1.length c1_1)) (ds := []) #[false, false, false, false, false] (by kernel_rfl) rfl rfl ⟨(blk_cell BK479.out 0).trans rfl, (blk_cell BK479.out 1).trans rfl, (blk_cell BK480.out 0).trans rfl, (blk_cell BK480.out 1).trans rfl⟩ (fun hHeld => ?_)
 generalize w7.drew = w8 at HO1_1 BK479 BK480 BK481 HB hHeld ⊢
 refine take_ (i := 0) (N := some 5) #[true, false, false, false, false] rfl rfl (by kernel_rfl) (fun _ _ _ h => h) (Or.inl ⟨by rfl, yt4⟩) hHeld nm ?_
 refine take_ (i := 1) (N := some 6) #[true, true, false, false, false] rfl rfl (by kernel_rfl) (fun _ _ _ h => h) (Or.inl ⟨by rfl, yt4⟩) hHeld nm ?_
 refine one_ (i := 2) (N := some 7) #[true, true, true, false, false] rfl rfl (by kernel_rfl) (by decide) (fun K hK => ?_)
 refine goes_ Tryd.func33 (by kernel_rfl) rfl #[.agg #[.bool a1_0, .slice A1_1 l1_1.length c1_1]] (by rfl) rfl rfl ag ?_
 with_reducible refine (cellarerref02_Neg.calls k a1_0 (fun k_ => ((((P1_1_ k_ ∨ w.heap.size ≤ k_) ∧ k_ ≠ gb479) ∧ k_ ≠ gb480) ∧ k_ ≠ gb481)) _ _ l1_1 t482 t483 _ ?side1 ?side2 A3.out).mono ?_
 (case side1 => exact GOK.below hG.out bel)
 (case side2 => exact HO1_1.out)
 rintro e w9 ⟨v484, rfl, ho0, hb⟩
 refine ⟨_, rfl, ?_⟩
 have HO485 := Aside0.mk (Kd.V_lower (Kd.V_mono (ok' := fun k_ => (P1_1_ k_ ∨ w.heap.size ≤ k_) ∧ k_ ≠ gb479 ∧ k_ ≠ gb480 ∧ k_ ≠ gb481) ho0 (fun k_ hk_ => ⟨Or.elim hk_ (fun hs_ => hs_.1.1.1) (fun hn_ => (.inr (Nat.le_trans (below_size bel) hn_))), Or.elim hk_ (fun hs_ => hs_.1.1.2) (fun hn_ => (Kd.freshB (bk BK479.out) k_ hn_)), Or.elim hk_ (fun hs_ => hs_.1.2) (fun hn_ => (Kd.freshB (bk BK480.out) k_ hn_)), Or.elim hk_ (fun hs_ => hs_.2) (fun hn_ => (Kd.freshB (bk BK481.out) k_ hn_))⟩)) (below_size bel))
 replace HO1_1 := Aside0.mk (Kd.V_below (kv HO1_1.out) hb)
 replace BK479 := Aside0.mk (blk_below (bk BK479.out) hb)
 replace BK480 := Aside0.mk (blk_below (bk BK480.out) hb)
 replace BK481 := Aside0.mk (blk_below (bk BK481.out) hb)
 replace HB := Aside0.mk (below_step bel hb)
 clear hb ho0
 obtain ⟨Ao10, co10, eo10⟩ := Kd.V_slice HO485.out
 (first | subst eo10 | (injection eo10 with f1_ f2_ f3_; have f4_ := f1_.symm; have f5_ := f3_.symm; clear f1_ f2_ f3_; subst f4_; subst f5_))
 refine hK.out _ _ ⟨(blk_cell BK479.out 0).trans rfl, (blk_cell BK479.out 1).trans rfl, (blk_cell BK480.out 0).trans rfl, (blk_cell BK480.out 1).trans rfl⟩ (fun hHeld => ?_)
 clear hK K
 refine norm_ (a' := ?_) ?_ ?_
 rotate_left
 ·show Act.put _ (some 7) _ = _
  simp only [Act.put, List.setIfInBounds_toArray, List.set_cons_zero, List.set_cons_succ, i64_w, i32_w]
  rfl
 refine one_ (i := 3) (N := some 8) #[true, true, true, true, false] rfl rfl (by kernel_rfl) (by decide) (fun K hK => ?_)
 refine goes_ Tryd.func24 (by kernel_rfl) rfl #[.agg #[.bool a0_0, .slice A0_1 l0_1.length c0_1], .agg #[.bool t482, .slice Ao10 t483.length co10]] (by rfl) rfl rfl ag ?_
 with_reducible refine (cellarerref02_Add.calls k a0_0 _ _ l0_1 t482 _ _ t483 t486 t487 _ ?side1 ?side2 ?side3 ?side4 ?side5 A4.out).mono ?_
 (case side1 => exact GOK.below hG.out bel)
 (case side2 => exact kc ((Kd.C_below HR0_1.out HB.out)))
 (case side3 => exact HC0_1.out)
 (case side4 => exact kc ((Kd.V_reads' HO485.out).2.2))
 (case side5 => exact (Kd.V_reads' HO485.out).2.1)
 rintro e w11 ⟨v488, rfl, ho0, hb⟩
 refine ⟨_, rfl, ?_⟩
 have HO489 := Aside0.mk (Kd.V_lower (Kd.V_mono (ok' := fun k_ => (P1_1_ k_ ∨ w.heap.size ≤ k_) ∧ k_ ≠ gb479 ∧ k_ ≠ gb480 ∧ k_ ≠ gb481) ho0 (fun k_ hk_ => ⟨(.inr (Nat.le_trans (below_size bel) hk_)), (Kd.freshB (bk BK479.out) k_ hk_), (Kd.freshB (bk BK480.out) k_ hk_), (Kd.freshB (bk BK481.out) k_ hk_)⟩)) (below_size bel))
 replace HO1_1 := Aside0.mk (Kd.V_below (kv HO1_1.out) hb)
 replace HO485 := Aside0.mk (Kd.V_below (kv HO485.out) hb)
 replace BK479 := Aside0.mk (blk_below (bk BK479.out) hb)
 replace BK480 := Aside0.mk (blk_below (bk BK480.out) hb)
 replace BK481 := Aside0.mk (blk_below (bk BK481.out) hb)
 replace HB := Aside0.mk (below_step bel hb)
 clear hb ho0
 obtain ⟨Ao13, co13, eo13⟩ := Kd.V_slice HO489.out
 (first | subst eo13 | (injection eo13 with f1_ f2_ f3_; have f4_ := f1_.symm; have f5_ := f3_.symm; clear f1_ f2_ f3_; subst f4_; subst f5_))
 refine hK.out _ _ ⟨(blk_cell BK479.out 0).trans rfl, (blk_cell BK479.out 1).trans rfl, (blk_cell BK480.out 0).trans rfl, (blk_cell BK480.out 1).trans rfl⟩ (fun hHeld => ?_)
 clear hK K
 refine norm_ (a' := ?_) ?_ ?_
 rotate_left
 ·show Act.put _ (some 8) _ = _
  simp only [Act.put, List.setIfInBounds_toArray, List.set_cons_zero, List.set_cons_succ, i64_w, i32_w]
  rfl
 refine one_ (i := 4) (N := none) #[true, true, true, true, true] rfl rfl (by kernel_rfl) (by decide) (fun K hK => ?_)
 have hs12 : w11.cell? ⟨gb481, 0, none⟩ = some (.bool false) := (blk_cell BK481.out 0).trans rfl
 have hfs12 := blk_frozen BK481.out 0
 have hns12_0 := NB479_481.out
 have hns12_1 := NB480_481.out
 have hms12_0 := NB481_479.out
 have hms12_1 := NB481_480.out
 have hs14 : w11.cell? ⟨gb481, 1, none⟩ = some (.slice none 0 0) := (blk_cell BK481.out 1).trans rfl
 have hfs14 := blk_frozen BK481.out 1
 have hns14_0 := NB479_481.out
 have hns14_1 := NB480_481.out
 have hms14_0 := NB481_479.out
 have hms14_1 := NB481_480.out
 refine skip_ (w1 := ?_) (by rfl) rfl ?_ ?_
 rotate_left
 ·go_simp
  rfl
 refine hK.out _ _ ⟨((cell_far (p := ⟨gb481, _, none⟩) NB479_481.out _).trans (((cell_far (p := ⟨gb481, _, none⟩) NB479_481.out _).trans (hHeld.1)))), ((cell_far (p := ⟨gb481, _, none⟩) NB479_481.out _).trans (((cell_far (p := ⟨gb481, _, none⟩) NB479_481.out _).trans (hHeld.2.1)))), ((cell_far (p := ⟨gb481, _, none⟩) NB480_481.out _).trans (((cell_far (p := ⟨gb481, _, none⟩) NB480_481.out _).trans (hHeld.2.2.1)))), ((cell_far (p := ⟨gb481, _, none⟩) NB480_481.out _).trans (((cell_far (p := ⟨gb481, _, none⟩) NB480_481.out _).trans (hHeld.2.2.2))))⟩ (fun hHeld => ?_)
 clear hK K
 refine done_ (by kernel_rfl) ?_
 try go_wp2
 refine bodyPost_ret (results_cell_row rfl _ _ gb481 32 #[.bool t486, .slice Ao13 t487.length co13] (0, 0) _ rfl (by (with_reducible repeat (first | refine blk_drewN ?_ _ | refine blk_drew ?_ | refine blk_alloc ?_ _)); refine blk_put (cs := #[.bool t486, .slice none 0 0]) ?_ 1 _ rfl; (with_reducible repeat (first | refine blk_drewN ?_ _ | refine blk_drew ?_ | refine blk_alloc ?_ _)); refine blk_put (cs := #[.bool false, .slice none 0 0]) ?_ 0 _ rfl; (with_reducible repeat (first | refine blk_drewN ?_ _ | refine blk_drew ?_ | refine blk_alloc ?_ _)); exact BK481.out) Tryd.underlying32 rfl (by kernel_rfl)) rfl ?_
 exact ⟨_, by first | rfl | (simp [errW_none, errW_some] <;> rfl) | (simp [*, errW_none, errW_some] <;> rfl), kv (Kd.V_mono (Kd.V_far (p := ⟨gb481, 1, none⟩) (Kd.V_far (p := ⟨gb481, 0, none⟩) (Kd.V_mono HO489.out (fun k_ hk => (⟨hk, hk.2.2.2⟩ : _ ∧ k_ ≠ gb481))) (fun _ hk => hk.2) (.bool t486)) (fun _ hk => hk.2) (.slice Ao13 t487.length co13)) (fun _ hk => hk.1.1)), bel⟩

end Go.Proofs.YtdnjlmoggnbknaaDoor.PInt
