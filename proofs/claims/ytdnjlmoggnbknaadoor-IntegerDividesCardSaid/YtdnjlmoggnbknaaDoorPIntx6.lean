-- Written by a program of this session's (xprint.py) over the kit's print.
import Derived.Test.YtdnjlmoggnbknaaDoorPIntx0
import Derived.Test.YtdnjlmoggnbknaaDoorPIntx2
import Derived.Test.YtdnjlmoggnbknaaDoorPIntx3
import Derived.Test.YtdnjlmoggnbknaaDoorPIntx5
import Derived.Test.YtdnjlmoggnbknaaDoorPIntD
import Derived.Test.YtdnjlmoggnbknaaDoorAuto
namespace Go.Proofs.YtdnjlmoggnbknaaDoor.PInt
open Go.RowKit Go.Proofs.YtdnjlmoggnbknaaDoor.Ext Go.Proofs.YtdnjlmoggnbknaaDoorW.PrintWords Go.Proofs.YtdnjlmoggnbknaaDoorW.PrintLast Go.Proofs.YtdnjlmoggnbknaaDoorW.PrintMore
attribute [local go_sem high] gtr_print leq_print
attribute [local go_sem] max2_int min2_int max_two min_two max_three min_three max_four min_four   -- for this text's walks alone
set_option linter.unusedVariables false
set_option linter.unusedSimpArgs false

/-! ### integer_add: function 39 -/
set_option maxHeartbeats 8000000 in
set_option maxRecDepth 100000 in
theorem integer_add.calls (k : Nat) (a0_0 : Bool) (P0_1_ : Nat → Prop) (A0_1 : Option Addr) (c0_1 : Nat) (l0_1 : List Int) (a1_0 : Bool) (P1_1_ : Nat → Prop) (A1_1 : Option Addr) (c1_1 : Nat) (l1_1 : List Int) (r1 : Bool) (r2 : List Int) (w : World) (hG : GOK w) (hs0_1 : Kd.V (Kd.int .u64) 57 w w.heap.size (fun k_ => P0_1_ k_) (.slice A0_1 l0_1.length c0_1) l0_1) (hs1_1 : Kd.V (Kd.int .u64) 57 w w.heap.size (fun k_ => P1_1_ k_) (.slice A1_1 l1_1.length c1_1) l1_1) (h : integer_add.f k a0_0 l0_1 a1_0 l1_1 = some (r1, r2)) :
  Calls Tryd.prog 39 #[.agg #[.bool a0_0, .slice A0_1 l0_1.length c0_1], .agg #[.bool a1_0, .slice A1_1 l1_1.length c1_1]] w fun e w' => ∃ v1_ : Value, e = .returned (.agg #[.bool r1, v1_]) ∧ Kd.V (Kd.int .u64) 57 w' w.heap.size (fun k_ => ((P0_1_ k_ ∨ P1_1_ k_) ∨ w.heap.size ≤ k_)) v1_ r2 ∧ Below w.heap.size w w' := by
 have hu51 := Tryd.underlying51
 have HO0_1 := Aside0.mk (show Kd.V (Kd.int .u64) 57 w w.heap.size (fun k_ => ((P0_1_ k_ ∨ P1_1_ k_) ∨ w.heap.size ≤ k_)) (.slice A0_1 l0_1.length c0_1) l0_1 from Kd.V_mono hs0_1 (fun k_ hk => .inl (.inl hk)))
 have HO1_1 := Aside0.mk (show Kd.V (Kd.int .u64) 57 w w.heap.size (fun k_ => ((P0_1_ k_ ∨ P1_1_ k_) ∨ w.heap.size ≤ k_)) (.slice A1_1 l1_1.length c1_1) l1_1 from Kd.V_mono hs1_1 (fun k_ hk => .inl (.inr hk)))
 replace hG := Aside0.mk hG
 have HB := Aside0.mk (Below.refl w.heap.size w)
 have H : (if (a0_0 == a1_0) = true then ((integer_plus.f k l0_1 l1_1).bind fun t247 => ((integer_signed.f a0_0 t247).bind fun bt250 => (some (bt250.1, bt250.2)))) else ((integer_compare.f k l0_1 l1_1).bind fun t254 => (if t254 ≥ 0 then ((integer_minus.f k l0_1 l1_1).bind fun t255 => ((integer_signed.f a0_0 t255).bind fun bt258 => (some (bt258.1, bt258.2)))) else ((integer_minus.f k l1_1 l0_1).bind fun t262 => ((integer_signed.f a1_0 t262).bind fun bt265 => (some (bt265.1, bt265.2))))))) = some (r1, r2) := h
 clear h
 by_cases c3 : (a0_0 == a1_0) = true
 ·rw [if_pos c3] at H
  have c3b0 : (a0_0 == a1_0) = true := c3
  (try (have c3b1 : decide (a0_0 = a1_0) = true := by simpa using c3))
  (try (have c3b2 : (a0_0 == a1_0) = true := by simpa using c3))
  clear c3
  obtain ⟨t247, A4, H⟩ := bind_ H
  try dsimp only at H
  obtain ⟨⟨t250, t251⟩, A5, H⟩ := bind_ H
  try dsimp only at H
  simp only [Option.some.injEq, Prod.mk.injEq] at H
  obtain ⟨rfl, rfl⟩ := H
  go_enter Tryd.func39, Tryd.ntmps39
  try go_wp2_with (first | ((with_reducible refine gate_dst (N := 2) rfl ?_); refine box_event ?hg (N := 2) ?hd (cs := #[.bool a0_0, .slice A0_1 l0_1.length c0_1]) (t := 51) ?hr ?_; (case hd => rfl); (case hg => rfl); (case hr => first | (go_simp; done) | (go_simp; rfl)); intro gb244 hg w6 hbox hb; have BK244 := Aside0.mk (hbox); have GW244 := Aside0.mk ((by rw [hg]; exact (below_size bel) : w.heap.size ≤ gb244)); have GE244 := Aside0.mk ((by rw [hg]; exact (below_size bel) : w.heap.size ≤ gb244)); replace HO0_1 := Aside0.mk (Kd.V_below (Kd.V_elderB (kv HO0_1.out) gb244 (Nat.le_of_eq hg.symm)) hb); replace HO1_1 := Aside0.mk (Kd.V_below (Kd.V_elderB (kv HO1_1.out) gb244 (Nat.le_of_eq hg.symm)) hb); replace HB := Aside0.mk (below_step bel hb); clear hb hbox hg) | ((with_reducible refine gate_dst (N := 3) rfl ?_); refine box_event ?hg (N := 3) ?hd (cs := #[.bool a1_0, .slice A1_1 l1_1.length c1_1]) (t := 51) ?hr ?_; (case hd => rfl); (case hg => rfl); (case hr => first | (go_simp; done) | (go_simp; rfl)); intro gb245 hg w7 hbox hb; have BK245 := Aside0.mk (hbox); have GW245 := Aside0.mk ((by rw [hg]; exact (below_size bel) : w.heap.size ≤ gb245)); have GE245 := Aside0.mk ((by rw [hg]; exact (below_size bel) : w.heap.size ≤ gb245)); have NB244_245 := Aside0.mk ((by rw [hg]; exact Nat.ne_of_lt (blk_lt (bk BK244.out)) : gb244 ≠ gb245)); have NB245_244 := Aside0.mk ((by rw [hg]; exact Nat.ne_of_gt (blk_lt (bk BK244.out)) : gb245 ≠ gb244)); replace HO0_1 := Aside0.mk (Kd.V_below (Kd.V_elderB (kv HO0_1.out) gb245 (Nat.le_of_eq hg.symm)) hb); replace HO1_1 := Aside0.mk (Kd.V_below (Kd.V_elderB (kv HO1_1.out) gb245 (Nat.le_of_eq hg.symm)) hb); replace BK244 := Aside0.mk (blk_below (bk BK244.out) hb); replace HB := Aside0.mk (below_step bel hb); clear hb hbox hg) | ((with_reducible refine gate_dst (N := 4) rfl ?_); refine box_event ?hg (N := 4) ?hd (cs := #[.bool false, .slice none 0 0]) (t := 51) ?hr ?_; (case hd => rfl); (case hg => rfl); (case hr => first | (go_simp; done) | (go_simp; rfl)); intro gb246 hg w8 hbox hb; have BK246 := Aside0.mk (hbox); have GW246 := Aside0.mk ((by rw [hg]; exact (below_size bel) : w.heap.size ≤ gb246)); have GE246 := Aside0.mk ((by rw [hg]; exact (below_size bel) : w.heap.size ≤ gb246)); have NB244_246 := Aside0.mk ((by rw [hg]; exact Nat.ne_of_lt (blk_lt (bk BK244.out)) : gb244 ≠ gb246)); have NB246_244 := Aside0.mk ((by rw [hg]; exact Nat.ne_of_gt (blk_lt (bk BK244.out)) : gb246 ≠ gb244)); have NB245_246 := Aside0.mk ((by rw [hg]; exact Nat.ne_of_lt (blk_lt (bk BK245.out)) : gb245 ≠ gb246)); have NB246_245 := Aside0.mk ((by rw [hg]; exact Nat.ne_of_gt (blk_lt (bk BK245.out)) : gb246 ≠ gb245)); replace HO0_1 := Aside0.mk (Kd.V_below (Kd.V_elderB (kv HO0_1.out) gb246 (Nat.le_of_eq hg.symm)) hb); replace HO1_1 := Aside0.mk (Kd.V_below (Kd.V_elderB (kv HO1_1.out) gb246 (Nat.le_of_eq hg.symm)) hb); replace BK244 := Aside0.mk (blk_below (bk BK244.out) hb); replace BK245 := Aside0.mk (blk_below (bk BK245.out) hb); replace HB := Aside0.mk (below_step bel hb); clear hb hbox hg; have hnb9 := NB244_245.out; have hnc9 := NB245_244.out; have hnb10 := NB244_246.out; have hnc10 := NB246_244.out; have hcz11_0 : w8.cell? ⟨gb244, 0, none⟩ = some (.bool a0_0) := (blk_cell BK244.out 0).trans rfl; have hcz11_1 : w8.cell? ⟨gb244, 1, none⟩ = some (.slice A0_1 l0_1.length c0_1) := (blk_cell BK244.out 1).trans rfl; have hfz11_0 := blk_frozen BK244.out 0; have hfz11_1 := blk_frozen BK244.out 1; have hnb12 := NB245_246.out; have hnc12 := NB246_245.out; have hcz13_0 : w8.cell? ⟨gb245, 0, none⟩ = some (.bool a1_0) := (blk_cell BK245.out 0).trans rfl; have hcz13_1 : w8.cell? ⟨gb245, 1, none⟩ = some (.slice A1_1 l1_1.length c1_1) := (blk_cell BK245.out 1).trans rfl; have hfz13_0 := blk_frozen BK245.out 0; have hfz13_1 := blk_frozen BK245.out 1))
  replace HO0_1 := Aside0.mk (Kd.V_drew HO0_1.out)
  replace HO1_1 := Aside0.mk (Kd.V_drew HO1_1.out)
  replace BK244 := Aside0.mk (blk_drew BK244.out)
  replace BK245 := Aside0.mk (blk_drew BK245.out)
  replace BK246 := Aside0.mk (blk_drew BK246.out)
  replace HB := Aside0.mk (below_drew1 HB.out)
  refine start_ (n := 9) (S := fun w' => w'.cell? ⟨gb244, 0, none⟩ = some (.bool a0_0) ∧ w'.cell? ⟨gb244, 1, none⟩ = some (.slice A0_1 l0_1.length c0_1) ∧ w'.cell? ⟨gb245, 0, none⟩ = some (.bool a1_0) ∧ w'.cell? ⟨gb245, 1, none⟩ = some (.slice A1_1 l1_1.length c1_1)) (ds := []) #[false, false, false, false, false, false, false, false, false] (by kernel_rfl) rfl rfl ⟨(blk_cell BK244.out 0).trans rfl, (blk_cell BK244.out 1).trans rfl, (blk_cell BK245.out 0).trans rfl, (blk_cell BK245.out 1).trans rfl⟩ (fun hHeld => ?_); refine with_tabW integer_add.tab2 integer_add.bits2 (fun HT_ HW_ => ?_)
  generalize w8.drew = w14 at HO0_1 HO1_1 BK244 BK245 BK246 HB hHeld ⊢
  refine pure_ (i := 0) (N := some 10) #[true, false, false, false, false, false, false, false, false] rfl rfl (any_of HT_.out (by kernel_rfl)) (fun _ _ _ h => h) (Or.inl ⟨by rfl, yv⟩) nm ?_
  refine pure_ (i := 2) (N := some 12) #[true, false, true, false, false, false, false, false, false] rfl rfl (any_of HT_.out (by kernel_rfl)) (fun _ _ _ h => h) (Or.inl ⟨by rfl, yv⟩) nm ?_
  refine pure_ (i := 4) (N := some 14) #[true, false, true, false, true, false, false, false, false] rfl rfl (any_of HT_.out (by kernel_rfl)) (fun _ _ _ h => h) (Or.inl ⟨by rfl, yv⟩) nm ?_
  refine take_ (i := 1) (N := some 11) #[true, true, true, false, true, false, false, false, false] rfl rfl (take_ofW HT_.out HW_.out (by kernel_rfl)) (fun _ _ _ h => h) (Or.inl ⟨by rfl, yt4⟩) hHeld nm ?_
  refine take_ (i := 3) (N := some 13) #[true, true, true, true, true, false, false, false, false] rfl rfl (take_ofW HT_.out HW_.out (by kernel_rfl)) (fun _ _ _ h => h) (Or.inl ⟨by rfl, yt4⟩) hHeld nm ?_
  refine take_ (i := 5) (N := some 15) #[true, true, true, true, true, true, false, false, false] rfl rfl (take_ofW HT_.out HW_.out (by kernel_rfl)) (fun _ _ _ h => h) (Or.inl ⟨by rfl, yt4⟩) hHeld nm ?_
  refine one_ (i := 6) (N := some 16) #[true, true, true, true, true, true, true, false, false] rfl rfl (one_of HT_.out (by kernel_rfl)) (by decide) (fun K hK => ?_)
  refine goes_ Tryd.func58 (by kernel_rfl) rfl #[.slice A0_1 l0_1.length c0_1, .slice A1_1 l1_1.length c1_1] (by rfl) rfl rfl ag ?_
  with_reducible refine (integer_plus.calls k (fun k_ => (((((P0_1_ k_ ∨ P1_1_ k_) ∨ w.heap.size ≤ k_) ∧ k_ ≠ gb244) ∧ k_ ≠ gb245) ∧ k_ ≠ gb246)) _ _ l0_1 (fun k_ => (((((P0_1_ k_ ∨ P1_1_ k_) ∨ w.heap.size ≤ k_) ∧ k_ ≠ gb244) ∧ k_ ≠ gb245) ∧ k_ ≠ gb246)) _ _ l1_1 t247 _ ?side1 ?side2 ?side3 A4.out).mono ?_
  (case side1 => exact GOK.below hG.out bel)
  (case side2 => exact HO0_1.out)
  (case side3 => exact HO1_1.out)
  rintro e w15 ⟨v248, rfl, ho0, hb⟩
  refine ⟨_, rfl, ?_⟩
  have HO249 := Aside0.mk (Kd.V_lower (Kd.V_mono (ok' := fun k_ => ((P0_1_ k_ ∨ P1_1_ k_) ∨ w.heap.size ≤ k_) ∧ k_ ≠ gb244 ∧ k_ ≠ gb245 ∧ k_ ≠ gb246) ho0 (fun k_ hk_ => ⟨Or.elim hk_ (fun hs_ => Or.elim hs_ (fun hs_ => hs_.1.1.1) (fun hs_ => hs_.1.1.1)) (fun hn_ => (.inr (Nat.le_trans (below_size bel) hn_))), Or.elim hk_ (fun hs_ => Or.elim hs_ (fun hs_ => hs_.1.1.2) (fun hs_ => hs_.1.1.2)) (fun hn_ => (Kd.freshB (bk BK244.out) k_ hn_)), Or.elim hk_ (fun hs_ => Or.elim hs_ (fun hs_ => hs_.1.2) (fun hs_ => hs_.1.2)) (fun hn_ => (Kd.freshB (bk BK245.out) k_ hn_)), Or.elim hk_ (fun hs_ => Or.elim hs_ (fun hs_ => hs_.2) (fun hs_ => hs_.2)) (fun hn_ => (Kd.freshB (bk BK246.out) k_ hn_))⟩)) (below_size bel))
  replace HO0_1 := Aside0.mk (Kd.V_below (kv HO0_1.out) hb)
  replace HO1_1 := Aside0.mk (Kd.V_below (kv HO1_1.out) hb)
  replace BK244 := Aside0.mk (blk_below (bk BK244.out) hb)
  replace BK245 := Aside0.mk (blk_below (bk BK245.out) hb)
  replace BK246 := Aside0.mk (blk_below (bk BK246.out) hb)
  replace HB := Aside0.mk (below_step bel hb)
  clear hb ho0
  obtain ⟨Ao16, co16, eo16⟩ := Kd.V_slice HO249.out
  (first | subst eo16 | (injection eo16 with f1_ f2_ f3_; have f4_ := f1_.symm; have f5_ := f3_.symm; clear f1_ f2_ f3_; subst f4_; subst f5_))
  refine hK.out _ _ ⟨(blk_cell BK244.out 0).trans rfl, (blk_cell BK244.out 1).trans rfl, (blk_cell BK245.out 0).trans rfl, (blk_cell BK245.out 1).trans rfl⟩ (fun hHeld => ?_)
  clear hK K
  refine norm_ (a' := ?_) ?_ ?_
  rotate_left
  ·show Act.put _ (some 16) _ = _
   simp only [Act.put, List.setIfInBounds_toArray, List.set_cons_zero, List.set_cons_succ, i64_w, i32_w]
   rfl
  refine one_ (i := 7) (N := some 17) #[true, true, true, true, true, true, true, true, false] rfl rfl (one_of HT_.out (by kernel_rfl)) (by decide) (fun K hK => ?_)
  refine goes_ Tryd.func38 (by kernel_rfl) rfl #[.bool a0_0, .slice Ao16 t247.length co16] (by rfl) rfl rfl ag ?_
  with_reducible refine (integer_signed.calls a0_0 (fun k_ => (((P0_1_ k_ ∨ P1_1_ k_) ∨ w.heap.size ≤ k_) ∧ (k_ ≠ gb244 ∧ (k_ ≠ gb245 ∧ k_ ≠ gb246)))) _ _ t247 t250 t251 _ ?side1 ?side2 A5.out).mono ?_
  (case side1 => exact GOK.below hG.out bel)
  (case side2 => exact HO249.out)
  rintro e w17 ⟨v252, rfl, ho0, hb⟩
  refine ⟨_, rfl, ?_⟩
  have HO253 := Aside0.mk (Kd.V_lower (Kd.V_mono (ok' := fun k_ => ((P0_1_ k_ ∨ P1_1_ k_) ∨ w.heap.size ≤ k_) ∧ k_ ≠ gb244 ∧ k_ ≠ gb245 ∧ k_ ≠ gb246) ho0 (fun k_ hk_ => ⟨Or.elim hk_ (fun hs_ => hs_.1) (fun hn_ => (.inr (Nat.le_trans (below_size bel) hn_))), Or.elim hk_ (fun hs_ => hs_.2.1) (fun hn_ => (Kd.freshB (bk BK244.out) k_ hn_)), Or.elim hk_ (fun hs_ => hs_.2.2.1) (fun hn_ => (Kd.freshB (bk BK245.out) k_ hn_)), Or.elim hk_ (fun hs_ => hs_.2.2.2) (fun hn_ => (Kd.freshB (bk BK246.out) k_ hn_))⟩)) (below_size bel))
  replace HO0_1 := Aside0.mk (Kd.V_below (kv HO0_1.out) hb)
  replace HO1_1 := Aside0.mk (Kd.V_below (kv HO1_1.out) hb)
  replace HO249 := Aside0.mk (Kd.V_below (kv HO249.out) hb)
  replace BK244 := Aside0.mk (blk_below (bk BK244.out) hb)
  replace BK245 := Aside0.mk (blk_below (bk BK245.out) hb)
  replace BK246 := Aside0.mk (blk_below (bk BK246.out) hb)
  replace HB := Aside0.mk (below_step bel hb)
  clear hb ho0
  obtain ⟨Ao19, co19, eo19⟩ := Kd.V_slice HO253.out
  (first | subst eo19 | (injection eo19 with f1_ f2_ f3_; have f4_ := f1_.symm; have f5_ := f3_.symm; clear f1_ f2_ f3_; subst f4_; subst f5_))
  refine hK.out _ _ ⟨(blk_cell BK244.out 0).trans rfl, (blk_cell BK244.out 1).trans rfl, (blk_cell BK245.out 0).trans rfl, (blk_cell BK245.out 1).trans rfl⟩ (fun hHeld => ?_)
  clear hK K
  refine norm_ (a' := ?_) ?_ ?_
  rotate_left
  ·show Act.put _ (some 17) _ = _
   simp only [Act.put, List.setIfInBounds_toArray, List.set_cons_zero, List.set_cons_succ, i64_w, i32_w]
   rfl
  refine one_ (i := 8) (N := none) #[true, true, true, true, true, true, true, true, true] rfl rfl (one_of HT_.out (by kernel_rfl)) (by decide) (fun K hK => ?_)
  have hs18 : w17.cell? ⟨gb246, 0, none⟩ = some (.bool false) := (blk_cell BK246.out 0).trans rfl
  have hfs18 := blk_frozen BK246.out 0
  have hns18_0 := NB244_246.out
  have hns18_1 := NB245_246.out
  have hms18_0 := NB246_244.out
  have hms18_1 := NB246_245.out
  have hs20 : w17.cell? ⟨gb246, 1, none⟩ = some (.slice none 0 0) := (blk_cell BK246.out 1).trans rfl
  have hfs20 := blk_frozen BK246.out 1
  have hns20_0 := NB244_246.out
  have hns20_1 := NB245_246.out
  have hms20_0 := NB246_244.out
  have hms20_1 := NB246_245.out
  refine skip_ (w1 := ?_) (by rfl) rfl ?_ ?_
  rotate_left
  ·go_simp
   rfl
  refine hK.out _ _ ⟨((cell_far (p := ⟨gb246, _, none⟩) NB244_246.out _).trans (((cell_far (p := ⟨gb246, _, none⟩) NB244_246.out _).trans (hHeld.1)))), ((cell_far (p := ⟨gb246, _, none⟩) NB244_246.out _).trans (((cell_far (p := ⟨gb246, _, none⟩) NB244_246.out _).trans (hHeld.2.1)))), ((cell_far (p := ⟨gb246, _, none⟩) NB245_246.out _).trans (((cell_far (p := ⟨gb246, _, none⟩) NB245_246.out _).trans (hHeld.2.2.1)))), ((cell_far (p := ⟨gb246, _, none⟩) NB245_246.out _).trans (((cell_far (p := ⟨gb246, _, none⟩) NB245_246.out _).trans (hHeld.2.2.2))))⟩ (fun hHeld => ?_)
  clear hK K
  refine done_ (done_of HT_.out (by kernel_rfl)) ?_
  try go_wp2
  refine bodyPost_ret (results_cell_row rfl _ _ gb246 51 #[.bool t250, .slice Ao19 t251.length co19] (0, 0) _ rfl (by (with_reducible repeat (first | refine blk_drewN ?_ _ | refine blk_drew ?_ | refine blk_alloc ?_ _)); refine blk_put (cs := #[.bool t250, .slice none 0 0]) ?_ 1 _ rfl; (with_reducible repeat (first | refine blk_drewN ?_ _ | refine blk_drew ?_ | refine blk_alloc ?_ _)); refine blk_put (cs := #[.bool false, .slice none 0 0]) ?_ 0 _ rfl; (with_reducible repeat (first | refine blk_drewN ?_ _ | refine blk_drew ?_ | refine blk_alloc ?_ _)); exact BK246.out) Tryd.underlying51 rfl (by kernel_rfl)) rfl ?_
  exact ⟨_, by first | rfl | (simp [errW_none, errW_some] <;> rfl) | (simp [*, errW_none, errW_some] <;> rfl), kv (Kd.V_mono (Kd.V_far (p := ⟨gb246, 1, none⟩) (Kd.V_far (p := ⟨gb246, 0, none⟩) (Kd.V_mono HO253.out (fun k_ hk => (⟨hk, hk.2.2.2⟩ : _ ∧ k_ ≠ gb246))) (fun _ hk => hk.2) (.bool t250)) (fun _ hk => hk.2) (.slice Ao19 t251.length co19)) (fun _ hk => hk.1.1)), bel⟩
 ·rw [if_neg c3] at H
  have c3b0 : (a0_0 == a1_0) = false := by simpa using c3
  (try (have c3b1 : decide (a0_0 = a1_0) = false := by simpa using c3))
  (try (have c3b2 : (a0_0 == a1_0) = false := by simpa using c3))
  (try (have c3b3 : ¬ (a0_0 = a1_0) := by simpa using c3))
  clear c3
  obtain ⟨t254, A21, H⟩ := bind_ H
  try dsimp only at H
  by_cases c22 : t254 ≥ 0
  ·rw [if_pos c22] at H
   have c22b0 : decide (0 ≤ t254) = true := decide_eq_true c22
   clear c22
   obtain ⟨t255, A23, H⟩ := bind_ H
   try dsimp only at H
   obtain ⟨⟨t258, t259⟩, A24, H⟩ := bind_ H
   try dsimp only at H
   simp only [Option.some.injEq, Prod.mk.injEq] at H
   obtain ⟨rfl, rfl⟩ := H
   go_enter Tryd.func39, Tryd.ntmps39
   try go_wp2_with (first | ((with_reducible refine gate_dst (N := 2) rfl ?_); refine box_event ?hg (N := 2) ?hd (cs := #[.bool a0_0, .slice A0_1 l0_1.length c0_1]) (t := 51) ?hr ?_; (case hd => rfl); (case hg => rfl); (case hr => first | (go_simp; done) | (go_simp; rfl)); intro gb244 hg w25 hbox hb; have BK244 := Aside0.mk (hbox); have GW244 := Aside0.mk ((by rw [hg]; exact (below_size bel) : w.heap.size ≤ gb244)); have GE244 := Aside0.mk ((by rw [hg]; exact (below_size bel) : w.heap.size ≤ gb244)); replace HO0_1 := Aside0.mk (Kd.V_below (Kd.V_elderB (kv HO0_1.out) gb244 (Nat.le_of_eq hg.symm)) hb); replace HO1_1 := Aside0.mk (Kd.V_below (Kd.V_elderB (kv HO1_1.out) gb244 (Nat.le_of_eq hg.symm)) hb); replace HB := Aside0.mk (below_step bel hb); clear hb hbox hg) | ((with_reducible refine gate_dst (N := 3) rfl ?_); refine box_event ?hg (N := 3) ?hd (cs := #[.bool a1_0, .slice A1_1 l1_1.length c1_1]) (t := 51) ?hr ?_; (case hd => rfl); (case hg => rfl); (case hr => first | (go_simp; done) | (go_simp; rfl)); intro gb245 hg w26 hbox hb; have BK245 := Aside0.mk (hbox); have GW245 := Aside0.mk ((by rw [hg]; exact (below_size bel) : w.heap.size ≤ gb245)); have GE245 := Aside0.mk ((by rw [hg]; exact (below_size bel) : w.heap.size ≤ gb245)); have NB244_245 := Aside0.mk ((by rw [hg]; exact Nat.ne_of_lt (blk_lt (bk BK244.out)) : gb244 ≠ gb245)); have NB245_244 := Aside0.mk ((by rw [hg]; exact Nat.ne_of_gt (blk_lt (bk BK244.out)) : gb245 ≠ gb244)); replace HO0_1 := Aside0.mk (Kd.V_below (Kd.V_elderB (kv HO0_1.out) gb245 (Nat.le_of_eq hg.symm)) hb); replace HO1_1 := Aside0.mk (Kd.V_below (Kd.V_elderB (kv HO1_1.out) gb245 (Nat.le_of_eq hg.symm)) hb); replace BK244 := Aside0.mk (blk_below (bk BK244.out) hb); replace HB := Aside0.mk (below_step bel hb); clear hb hbox hg) | ((with_reducible refine gate_dst (N := 4) rfl ?_); refine box_event ?hg (N := 4) ?hd (cs := #[.bool false, .slice none 0 0]) (t := 51) ?hr ?_; (case hd => rfl); (case hg => rfl); (case hr => first | (go_simp; done) | (go_simp; rfl)); intro gb246 hg w27 hbox hb; have BK246 := Aside0.mk (hbox); have GW246 := Aside0.mk ((by rw [hg]; exact (below_size bel) : w.heap.size ≤ gb246)); have GE246 := Aside0.mk ((by rw [hg]; exact (below_size bel) : w.heap.size ≤ gb246)); have NB244_246 := Aside0.mk ((by rw [hg]; exact Nat.ne_of_lt (blk_lt (bk BK244.out)) : gb244 ≠ gb246)); have NB246_244 := Aside0.mk ((by rw [hg]; exact Nat.ne_of_gt (blk_lt (bk BK244.out)) : gb246 ≠ gb244)); have NB245_246 := Aside0.mk ((by rw [hg]; exact Nat.ne_of_lt (blk_lt (bk BK245.out)) : gb245 ≠ gb246)); have NB246_245 := Aside0.mk ((by rw [hg]; exact Nat.ne_of_gt (blk_lt (bk BK245.out)) : gb246 ≠ gb245)); replace HO0_1 := Aside0.mk (Kd.V_below (Kd.V_elderB (kv HO0_1.out) gb246 (Nat.le_of_eq hg.symm)) hb); replace HO1_1 := Aside0.mk (Kd.V_below (Kd.V_elderB (kv HO1_1.out) gb246 (Nat.le_of_eq hg.symm)) hb); replace BK244 := Aside0.mk (blk_below (bk BK244.out) hb); replace BK245 := Aside0.mk (blk_below (bk BK245.out) hb); replace HB := Aside0.mk (below_step bel hb); clear hb hbox hg; have hnb28 := NB244_245.out; have hnc28 := NB245_244.out; have hnb29 := NB244_246.out; have hnc29 := NB246_244.out; have hcz30_0 : w27.cell? ⟨gb244, 0, none⟩ = some (.bool a0_0) := (blk_cell BK244.out 0).trans rfl; have hcz30_1 : w27.cell? ⟨gb244, 1, none⟩ = some (.slice A0_1 l0_1.length c0_1) := (blk_cell BK244.out 1).trans rfl; have hfz30_0 := blk_frozen BK244.out 0; have hfz30_1 := blk_frozen BK244.out 1; have hnb31 := NB245_246.out; have hnc31 := NB246_245.out; have hcz32_0 : w27.cell? ⟨gb245, 0, none⟩ = some (.bool a1_0) := (blk_cell BK245.out 0).trans rfl; have hcz32_1 : w27.cell? ⟨gb245, 1, none⟩ = some (.slice A1_1 l1_1.length c1_1) := (blk_cell BK245.out 1).trans rfl; have hfz32_0 := blk_frozen BK245.out 0; have hfz32_1 := blk_frozen BK245.out 1) | ((with_reducible refine gate_callee (f := 55) rfl ?_); refine goesL_ (some 22) rfl rfl Tryd.func55 (by kernel_rfl) rfl #[.slice A0_1 l0_1.length c0_1, .slice A1_1 l1_1.length c1_1] rfl ag ?_; (with_reducible refine (integer_compare.calls k _ _ l0_1 _ _ l1_1 t254 _ gk ?side2 ?side3 ?side4 ?side5 A21.out).mono ?_); (case side2 => exact kc ((Kd.V_reads' HO0_1.out).2.2)); (case side3 => exact (Kd.V_reads' HO0_1.out).2.1); (case side4 => exact kc ((Kd.V_reads' HO1_1.out).2.2)); (case side5 => exact (Kd.V_reads' HO1_1.out).2.1); rintro e w' ⟨rfl, ⟨nd, rfl⟩⟩; refine ⟨_, rfl, ?_⟩; (try (rw [drewN_self w27]; generalize hq_ : World.drewN w27 _ = w27; have n0_ : Aside0 (Kd.V (Kd.int .u64) 57 w27 w.heap.size (fun k_ => ((P0_1_ k_ ∨ P1_1_ k_) ∨ w.heap.size ≤ k_) ∧ k_ ≠ gb244 ∧ k_ ≠ gb245 ∧ k_ ≠ gb246) (.slice A0_1 l0_1.length c0_1) l0_1) := ⟨by rw [← hq_]; exact (kv (Kd.V_mono HO0_1.out (fun _ hk => ⟨hk.1.1.1, ⟨hk.1.1.2, ⟨hk.1.2, hk.2⟩⟩⟩)))⟩; have n1_ : Aside0 (Kd.V (Kd.int .u64) 57 w27 w.heap.size (fun k_ => ((P0_1_ k_ ∨ P1_1_ k_) ∨ w.heap.size ≤ k_) ∧ k_ ≠ gb244 ∧ k_ ≠ gb245 ∧ k_ ≠ gb246) (.slice A1_1 l1_1.length c1_1) l1_1) := ⟨by rw [← hq_]; exact (kv (Kd.V_mono HO1_1.out (fun _ hk => ⟨hk.1.1.1, ⟨hk.1.1.2, ⟨hk.1.2, hk.2⟩⟩⟩)))⟩; have n2_ : Aside0 (w27.heap[gb244]? = some (.cells #[.bool a0_0, .slice A0_1 l0_1.length c0_1] 51 (0, 0))) := ⟨by rw [← hq_]; exact (bk BK244.out)⟩; have n3_ : Aside0 (w27.heap[gb245]? = some (.cells #[.bool a1_0, .slice A1_1 l1_1.length c1_1] 51 (0, 0))) := ⟨by rw [← hq_]; exact (bk BK245.out)⟩; have n4_ : Aside0 (w27.heap[gb246]? = some (.cells #[.bool false, .slice none 0 0] 51 (0, 0))) := ⟨by rw [← hq_]; exact (bk BK246.out)⟩; have n5_ : Aside0 (Below w.heap.size w w27) := ⟨by rw [← hq_]; exact bel⟩; clear HO0_1 HO1_1 BK244 BK245 BK246 HB hq_; have HO0_1 := n0_; have HO1_1 := n1_; have BK244 := n2_; have BK245 := n3_; have BK246 := n4_; have HB := n5_; clear n0_ n1_ n2_ n3_ n4_ n5_))))
   replace HO0_1 := Aside0.mk (Kd.V_drew HO0_1.out)
   replace HO1_1 := Aside0.mk (Kd.V_drew HO1_1.out)
   replace BK244 := Aside0.mk (blk_drew BK244.out)
   replace BK245 := Aside0.mk (blk_drew BK245.out)
   replace BK246 := Aside0.mk (blk_drew BK246.out)
   replace HB := Aside0.mk (below_drew1 HB.out)
   refine start_ (n := 9) (S := fun w' => w'.cell? ⟨gb244, 0, none⟩ = some (.bool a0_0) ∧ w'.cell? ⟨gb244, 1, none⟩ = some (.slice A0_1 l0_1.length c0_1) ∧ w'.cell? ⟨gb245, 0, none⟩ = some (.bool a1_0) ∧ w'.cell? ⟨gb245, 1, none⟩ = some (.slice A1_1 l1_1.length c1_1)) (ds := []) #[false, false, false, false, false, false, false, false, false] (by kernel_rfl) rfl rfl ⟨(blk_cell BK244.out 0).trans rfl, (blk_cell BK244.out 1).trans rfl, (blk_cell BK245.out 0).trans rfl, (blk_cell BK245.out 1).trans rfl⟩ (fun hHeld => ?_); refine with_tabW integer_add.tab4 integer_add.bits4 (fun HT_ HW_ => ?_)
   generalize w27.drew = w33 at HO0_1 HO1_1 BK244 BK245 BK246 HB hHeld ⊢
   refine pure_ (i := 0) (N := some 24) #[true, false, false, false, false, false, false, false, false] rfl rfl (any_of HT_.out (by kernel_rfl)) (fun _ _ _ h => h) (Or.inl ⟨by rfl, yv⟩) nm ?_
   refine pure_ (i := 2) (N := some 26) #[true, false, true, false, false, false, false, false, false] rfl rfl (any_of HT_.out (by kernel_rfl)) (fun _ _ _ h => h) (Or.inl ⟨by rfl, yv⟩) nm ?_
   refine pure_ (i := 4) (N := some 28) #[true, false, true, false, true, false, false, false, false] rfl rfl (any_of HT_.out (by kernel_rfl)) (fun _ _ _ h => h) (Or.inl ⟨by rfl, yv⟩) nm ?_
   refine take_ (i := 1) (N := some 25) #[true, true, true, false, true, false, false, false, false] rfl rfl (take_ofW HT_.out HW_.out (by kernel_rfl)) (fun _ _ _ h => h) (Or.inl ⟨by rfl, yt4⟩) hHeld nm ?_
   refine take_ (i := 3) (N := some 27) #[true, true, true, true, true, false, false, false, false] rfl rfl (take_ofW HT_.out HW_.out (by kernel_rfl)) (fun _ _ _ h => h) (Or.inl ⟨by rfl, yt4⟩) hHeld nm ?_
   refine take_ (i := 5) (N := some 29) #[true, true, true, true, true, true, false, false, false] rfl rfl (take_ofW HT_.out HW_.out (by kernel_rfl)) (fun _ _ _ h => h) (Or.inl ⟨by rfl, yt4⟩) hHeld nm ?_
   refine one_ (i := 6) (N := some 30) #[true, true, true, true, true, true, true, false, false] rfl rfl (one_of HT_.out (by kernel_rfl)) (by decide) (fun K hK => ?_)
   refine goes_ Tryd.func57 (by kernel_rfl) rfl #[.slice A0_1 l0_1.length c0_1, .slice A1_1 l1_1.length c1_1] (by rfl) rfl rfl ag ?_
   with_reducible refine (integer_minus.calls k _ _ l0_1 _ _ l1_1 t255 _ ?side1 ?side2 ?side3 ?side4 ?side5 A23.out).mono ?_
   (case side1 => exact GOK.below hG.out bel)
   (case side2 => exact kc ((Kd.V_reads' HO0_1.out).2.2))
   (case side3 => exact (Kd.V_reads' HO0_1.out).2.1)
   (case side4 => exact kc ((Kd.V_reads' HO1_1.out).2.2))
   (case side5 => exact (Kd.V_reads' HO1_1.out).2.1)
   rintro e w34 ⟨v256, rfl, ho0, hb⟩
   refine ⟨_, rfl, ?_⟩
   have HO257 := Aside0.mk (Kd.V_lower (Kd.V_mono (ok' := fun k_ => ((P0_1_ k_ ∨ P1_1_ k_) ∨ w.heap.size ≤ k_) ∧ k_ ≠ gb244 ∧ k_ ≠ gb245 ∧ k_ ≠ gb246) ho0 (fun k_ hk_ => ⟨(.inr (Nat.le_trans (below_size bel) hk_)), (Kd.freshB (bk BK244.out) k_ hk_), (Kd.freshB (bk BK245.out) k_ hk_), (Kd.freshB (bk BK246.out) k_ hk_)⟩)) (below_size bel))
   replace HO0_1 := Aside0.mk (Kd.V_below (kv HO0_1.out) hb)
   replace HO1_1 := Aside0.mk (Kd.V_below (kv HO1_1.out) hb)
   replace BK244 := Aside0.mk (blk_below (bk BK244.out) hb)
   replace BK245 := Aside0.mk (blk_below (bk BK245.out) hb)
   replace BK246 := Aside0.mk (blk_below (bk BK246.out) hb)
   replace HB := Aside0.mk (below_step bel hb)
   clear hb ho0
   obtain ⟨Ao35, co35, eo35⟩ := Kd.V_slice HO257.out
   (first | subst eo35 | (injection eo35 with f1_ f2_ f3_; have f4_ := f1_.symm; have f5_ := f3_.symm; clear f1_ f2_ f3_; subst f4_; subst f5_))
   refine hK.out _ _ ⟨(blk_cell BK244.out 0).trans rfl, (blk_cell BK244.out 1).trans rfl, (blk_cell BK245.out 0).trans rfl, (blk_cell BK245.out 1).trans rfl⟩ (fun hHeld => ?_)
   clear hK K
   refine norm_ (a' := ?_) ?_ ?_
   rotate_left
   ·show Act.put _ (some 30) _ = _
    simp only [Act.put, List.setIfInBounds_toArray, List.set_cons_zero, List.set_cons_succ, i64_w, i32_w]
    rfl
   refine one_ (i := 7) (N := some 31) #[true, true, true, true, true, true, true, true, false] rfl rfl (one_of HT_.out (by kernel_rfl)) (by decide) (fun K hK => ?_)
   refine goes_ Tryd.func38 (by kernel_rfl) rfl #[.bool a0_0, .slice Ao35 t255.length co35] (by rfl) rfl rfl ag ?_
   with_reducible refine (integer_signed.calls a0_0 (fun k_ => (((P0_1_ k_ ∨ P1_1_ k_) ∨ w.heap.size ≤ k_) ∧ (k_ ≠ gb244 ∧ (k_ ≠ gb245 ∧ k_ ≠ gb246)))) _ _ t255 t258 t259 _ ?side1 ?side2 A24.out).mono ?_
   (case side1 => exact GOK.below hG.out bel)
   (case side2 => exact HO257.out)
   rintro e w36 ⟨v260, rfl, ho0, hb⟩
   refine ⟨_, rfl, ?_⟩
   have HO261 := Aside0.mk (Kd.V_lower (Kd.V_mono (ok' := fun k_ => ((P0_1_ k_ ∨ P1_1_ k_) ∨ w.heap.size ≤ k_) ∧ k_ ≠ gb244 ∧ k_ ≠ gb245 ∧ k_ ≠ gb246) ho0 (fun k_ hk_ => ⟨Or.elim hk_ (fun hs_ => hs_.1) (fun hn_ => (.inr (Nat.le_trans (below_size bel) hn_))), Or.elim hk_ (fun hs_ => hs_.2.1) (fun hn_ => (Kd.freshB (bk BK244.out) k_ hn_)), Or.elim hk_ (fun hs_ => hs_.2.2.1) (fun hn_ => (Kd.freshB (bk BK245.out) k_ hn_)), Or.elim hk_ (fun hs_ => hs_.2.2.2) (fun hn_ => (Kd.freshB (bk BK246.out) k_ hn_))⟩)) (below_size bel))
   replace HO0_1 := Aside0.mk (Kd.V_below (kv HO0_1.out) hb)
   replace HO1_1 := Aside0.mk (Kd.V_below (kv HO1_1.out) hb)
   replace HO257 := Aside0.mk (Kd.V_below (kv HO257.out) hb)
   replace BK244 := Aside0.mk (blk_below (bk BK244.out) hb)
   replace BK245 := Aside0.mk (blk_below (bk BK245.out) hb)
   replace BK246 := Aside0.mk (blk_below (bk BK246.out) hb)
   replace HB := Aside0.mk (below_step bel hb)
   clear hb ho0
   obtain ⟨Ao38, co38, eo38⟩ := Kd.V_slice HO261.out
   (first | subst eo38 | (injection eo38 with f1_ f2_ f3_; have f4_ := f1_.symm; have f5_ := f3_.symm; clear f1_ f2_ f3_; subst f4_; subst f5_))
   refine hK.out _ _ ⟨(blk_cell BK244.out 0).trans rfl, (blk_cell BK244.out 1).trans rfl, (blk_cell BK245.out 0).trans rfl, (blk_cell BK245.out 1).trans rfl⟩ (fun hHeld => ?_)
   clear hK K
   refine norm_ (a' := ?_) ?_ ?_
   rotate_left
   ·show Act.put _ (some 31) _ = _
    simp only [Act.put, List.setIfInBounds_toArray, List.set_cons_zero, List.set_cons_succ, i64_w, i32_w]
    rfl
   refine one_ (i := 8) (N := none) #[true, true, true, true, true, true, true, true, true] rfl rfl (one_of HT_.out (by kernel_rfl)) (by decide) (fun K hK => ?_)
   have hs37 : w36.cell? ⟨gb246, 0, none⟩ = some (.bool false) := (blk_cell BK246.out 0).trans rfl
   have hfs37 := blk_frozen BK246.out 0
   have hns37_0 := NB244_246.out
   have hns37_1 := NB245_246.out
   have hms37_0 := NB246_244.out
   have hms37_1 := NB246_245.out
   have hs39 : w36.cell? ⟨gb246, 1, none⟩ = some (.slice none 0 0) := (blk_cell BK246.out 1).trans rfl
   have hfs39 := blk_frozen BK246.out 1
   have hns39_0 := NB244_246.out
   have hns39_1 := NB245_246.out
   have hms39_0 := NB246_244.out
   have hms39_1 := NB246_245.out
   refine skip_ (w1 := ?_) (by rfl) rfl ?_ ?_
   rotate_left
   ·go_simp
    rfl
   refine hK.out _ _ ⟨((cell_far (p := ⟨gb246, _, none⟩) NB244_246.out _).trans (((cell_far (p := ⟨gb246, _, none⟩) NB244_246.out _).trans (hHeld.1)))), ((cell_far (p := ⟨gb246, _, none⟩) NB244_246.out _).trans (((cell_far (p := ⟨gb246, _, none⟩) NB244_246.out _).trans (hHeld.2.1)))), ((cell_far (p := ⟨gb246, _, none⟩) NB245_246.out _).trans (((cell_far (p := ⟨gb246, _, none⟩) NB245_246.out _).trans (hHeld.2.2.1)))), ((cell_far (p := ⟨gb246, _, none⟩) NB245_246.out _).trans (((cell_far (p := ⟨gb246, _, none⟩) NB245_246.out _).trans (hHeld.2.2.2))))⟩ (fun hHeld => ?_)
   clear hK K
   refine done_ (done_of HT_.out (by kernel_rfl)) ?_
   try go_wp2
   refine bodyPost_ret (results_cell_row rfl _ _ gb246 51 #[.bool t258, .slice Ao38 t259.length co38] (0, 0) _ rfl (by (with_reducible repeat (first | refine blk_drewN ?_ _ | refine blk_drew ?_ | refine blk_alloc ?_ _)); refine blk_put (cs := #[.bool t258, .slice none 0 0]) ?_ 1 _ rfl; (with_reducible repeat (first | refine blk_drewN ?_ _ | refine blk_drew ?_ | refine blk_alloc ?_ _)); refine blk_put (cs := #[.bool false, .slice none 0 0]) ?_ 0 _ rfl; (with_reducible repeat (first | refine blk_drewN ?_ _ | refine blk_drew ?_ | refine blk_alloc ?_ _)); exact BK246.out) Tryd.underlying51 rfl (by kernel_rfl)) rfl ?_
   exact ⟨_, by first | rfl | (simp [errW_none, errW_some] <;> rfl) | (simp [*, errW_none, errW_some] <;> rfl), kv (Kd.V_mono (Kd.V_far (p := ⟨gb246, 1, none⟩) (Kd.V_far (p := ⟨gb246, 0, none⟩) (Kd.V_mono HO261.out (fun k_ hk => (⟨hk, hk.2.2.2⟩ : _ ∧ k_ ≠ gb246))) (fun _ hk => hk.2) (.bool t258)) (fun _ hk => hk.2) (.slice Ao38 t259.length co38)) (fun _ hk => hk.1.1)), bel⟩
  ·rw [if_neg c22] at H
   have c22b0 : decide (0 ≤ t254) = false := decide_eq_false c22
   clear c22
   obtain ⟨t262, A40, H⟩ := bind_ H
   try dsimp only at H
   obtain ⟨⟨t265, t266⟩, A41, H⟩ := bind_ H
   try dsimp only at H
   simp only [Option.some.injEq, Prod.mk.injEq] at H
   obtain ⟨rfl, rfl⟩ := H
   go_enter Tryd.func39, Tryd.ntmps39
   try go_wp2_with (first | ((with_reducible refine gate_dst (N := 2) rfl ?_); refine box_event ?hg (N := 2) ?hd (cs := #[.bool a0_0, .slice A0_1 l0_1.length c0_1]) (t := 51) ?hr ?_; (case hd => rfl); (case hg => rfl); (case hr => first | (go_simp; done) | (go_simp; rfl)); intro gb244 hg w42 hbox hb; have BK244 := Aside0.mk (hbox); have GW244 := Aside0.mk ((by rw [hg]; exact (below_size bel) : w.heap.size ≤ gb244)); have GE244 := Aside0.mk ((by rw [hg]; exact (below_size bel) : w.heap.size ≤ gb244)); replace HO0_1 := Aside0.mk (Kd.V_below (Kd.V_elderB (kv HO0_1.out) gb244 (Nat.le_of_eq hg.symm)) hb); replace HO1_1 := Aside0.mk (Kd.V_below (Kd.V_elderB (kv HO1_1.out) gb244 (Nat.le_of_eq hg.symm)) hb); replace HB := Aside0.mk (below_step bel hb); clear hb hbox hg) | ((with_reducible refine gate_dst (N := 3) rfl ?_); refine box_event ?hg (N := 3) ?hd (cs := #[.bool a1_0, .slice A1_1 l1_1.length c1_1]) (t := 51) ?hr ?_; (case hd => rfl); (case hg => rfl); (case hr => first | (go_simp; done) | (go_simp; rfl)); intro gb245 hg w43 hbox hb; have BK245 := Aside0.mk (hbox); have GW245 := Aside0.mk ((by rw [hg]; exact (below_size bel) : w.heap.size ≤ gb245)); have GE245 := Aside0.mk ((by rw [hg]; exact (below_size bel) : w.heap.size ≤ gb245)); have NB244_245 := Aside0.mk ((by rw [hg]; exact Nat.ne_of_lt (blk_lt (bk BK244.out)) : gb244 ≠ gb245)); have NB245_244 := Aside0.mk ((by rw [hg]; exact Nat.ne_of_gt (blk_lt (bk BK244.out)) : gb245 ≠ gb244)); replace HO0_1 := Aside0.mk (Kd.V_below (Kd.V_elderB (kv HO0_1.out) gb245 (Nat.le_of_eq hg.symm)) hb); replace HO1_1 := Aside0.mk (Kd.V_below (Kd.V_elderB (kv HO1_1.out) gb245 (Nat.le_of_eq hg.symm)) hb); replace BK244 := Aside0.mk (blk_below (bk BK244.out) hb); replace HB := Aside0.mk (below_step bel hb); clear hb hbox hg) | ((with_reducible refine gate_dst (N := 4) rfl ?_); refine box_event ?hg (N := 4) ?hd (cs := #[.bool false, .slice none 0 0]) (t := 51) ?hr ?_; (case hd => rfl); (case hg => rfl); (case hr => first | (go_simp; done) | (go_simp; rfl)); intro gb246 hg w44 hbox hb; have BK246 := Aside0.mk (hbox); have GW246 := Aside0.mk ((by rw [hg]; exact (below_size bel) : w.heap.size ≤ gb246)); have GE246 := Aside0.mk ((by rw [hg]; exact (below_size bel) : w.heap.size ≤ gb246)); have NB244_246 := Aside0.mk ((by rw [hg]; exact Nat.ne_of_lt (blk_lt (bk BK244.out)) : gb244 ≠ gb246)); have NB246_244 := Aside0.mk ((by rw [hg]; exact Nat.ne_of_gt (blk_lt (bk BK244.out)) : gb246 ≠ gb244)); have NB245_246 := Aside0.mk ((by rw [hg]; exact Nat.ne_of_lt (blk_lt (bk BK245.out)) : gb245 ≠ gb246)); have NB246_245 := Aside0.mk ((by rw [hg]; exact Nat.ne_of_gt (blk_lt (bk BK245.out)) : gb246 ≠ gb245)); replace HO0_1 := Aside0.mk (Kd.V_below (Kd.V_elderB (kv HO0_1.out) gb246 (Nat.le_of_eq hg.symm)) hb); replace HO1_1 := Aside0.mk (Kd.V_below (Kd.V_elderB (kv HO1_1.out) gb246 (Nat.le_of_eq hg.symm)) hb); replace BK244 := Aside0.mk (blk_below (bk BK244.out) hb); replace BK245 := Aside0.mk (blk_below (bk BK245.out) hb); replace HB := Aside0.mk (below_step bel hb); clear hb hbox hg; have hnb45 := NB244_245.out; have hnc45 := NB245_244.out; have hnb46 := NB244_246.out; have hnc46 := NB246_244.out; have hcz47_0 : w44.cell? ⟨gb244, 0, none⟩ = some (.bool a0_0) := (blk_cell BK244.out 0).trans rfl; have hcz47_1 : w44.cell? ⟨gb244, 1, none⟩ = some (.slice A0_1 l0_1.length c0_1) := (blk_cell BK244.out 1).trans rfl; have hfz47_0 := blk_frozen BK244.out 0; have hfz47_1 := blk_frozen BK244.out 1; have hnb48 := NB245_246.out; have hnc48 := NB246_245.out; have hcz49_0 : w44.cell? ⟨gb245, 0, none⟩ = some (.bool a1_0) := (blk_cell BK245.out 0).trans rfl; have hcz49_1 : w44.cell? ⟨gb245, 1, none⟩ = some (.slice A1_1 l1_1.length c1_1) := (blk_cell BK245.out 1).trans rfl; have hfz49_0 := blk_frozen BK245.out 0; have hfz49_1 := blk_frozen BK245.out 1) | ((with_reducible refine gate_callee (f := 55) rfl ?_); refine goesL_ (some 22) rfl rfl Tryd.func55 (by kernel_rfl) rfl #[.slice A0_1 l0_1.length c0_1, .slice A1_1 l1_1.length c1_1] rfl ag ?_; (with_reducible refine (integer_compare.calls k _ _ l0_1 _ _ l1_1 t254 _ gk ?side2 ?side3 ?side4 ?side5 A21.out).mono ?_); (case side2 => exact kc ((Kd.V_reads' HO0_1.out).2.2)); (case side3 => exact (Kd.V_reads' HO0_1.out).2.1); (case side4 => exact kc ((Kd.V_reads' HO1_1.out).2.2)); (case side5 => exact (Kd.V_reads' HO1_1.out).2.1); rintro e w' ⟨rfl, ⟨nd, rfl⟩⟩; refine ⟨_, rfl, ?_⟩; (try (rw [drewN_self w44]; generalize hq_ : World.drewN w44 _ = w44; have n0_ : Aside0 (Kd.V (Kd.int .u64) 57 w44 w.heap.size (fun k_ => ((P0_1_ k_ ∨ P1_1_ k_) ∨ w.heap.size ≤ k_) ∧ k_ ≠ gb244 ∧ k_ ≠ gb245 ∧ k_ ≠ gb246) (.slice A0_1 l0_1.length c0_1) l0_1) := ⟨by rw [← hq_]; exact (kv (Kd.V_mono HO0_1.out (fun _ hk => ⟨hk.1.1.1, ⟨hk.1.1.2, ⟨hk.1.2, hk.2⟩⟩⟩)))⟩; have n1_ : Aside0 (Kd.V (Kd.int .u64) 57 w44 w.heap.size (fun k_ => ((P0_1_ k_ ∨ P1_1_ k_) ∨ w.heap.size ≤ k_) ∧ k_ ≠ gb244 ∧ k_ ≠ gb245 ∧ k_ ≠ gb246) (.slice A1_1 l1_1.length c1_1) l1_1) := ⟨by rw [← hq_]; exact (kv (Kd.V_mono HO1_1.out (fun _ hk => ⟨hk.1.1.1, ⟨hk.1.1.2, ⟨hk.1.2, hk.2⟩⟩⟩)))⟩; have n2_ : Aside0 (w44.heap[gb244]? = some (.cells #[.bool a0_0, .slice A0_1 l0_1.length c0_1] 51 (0, 0))) := ⟨by rw [← hq_]; exact (bk BK244.out)⟩; have n3_ : Aside0 (w44.heap[gb245]? = some (.cells #[.bool a1_0, .slice A1_1 l1_1.length c1_1] 51 (0, 0))) := ⟨by rw [← hq_]; exact (bk BK245.out)⟩; have n4_ : Aside0 (w44.heap[gb246]? = some (.cells #[.bool false, .slice none 0 0] 51 (0, 0))) := ⟨by rw [← hq_]; exact (bk BK246.out)⟩; have n5_ : Aside0 (Below w.heap.size w w44) := ⟨by rw [← hq_]; exact bel⟩; clear HO0_1 HO1_1 BK244 BK245 BK246 HB hq_; have HO0_1 := n0_; have HO1_1 := n1_; have BK244 := n2_; have BK245 := n3_; have BK246 := n4_; have HB := n5_; clear n0_ n1_ n2_ n3_ n4_ n5_))))
   replace HO0_1 := Aside0.mk (Kd.V_drew HO0_1.out)
   replace HO1_1 := Aside0.mk (Kd.V_drew HO1_1.out)
   replace BK244 := Aside0.mk (blk_drew BK244.out)
   replace BK245 := Aside0.mk (blk_drew BK245.out)
   replace BK246 := Aside0.mk (blk_drew BK246.out)
   replace HB := Aside0.mk (below_drew1 HB.out)
   refine start_ (n := 9) (S := fun w' => w'.cell? ⟨gb245, 0, none⟩ = some (.bool a1_0) ∧ w'.cell? ⟨gb245, 1, none⟩ = some (.slice A1_1 l1_1.length c1_1) ∧ w'.cell? ⟨gb244, 0, none⟩ = some (.bool a0_0) ∧ w'.cell? ⟨gb244, 1, none⟩ = some (.slice A0_1 l0_1.length c0_1)) (ds := []) #[false, false, false, false, false, false, false, false, false] (by kernel_rfl) rfl rfl ⟨(blk_cell BK245.out 0).trans rfl, (blk_cell BK245.out 1).trans rfl, (blk_cell BK244.out 0).trans rfl, (blk_cell BK244.out 1).trans rfl⟩ (fun hHeld => ?_); refine with_tabW integer_add.tab5 integer_add.bits5 (fun HT_ HW_ => ?_)
   generalize w44.drew = w50 at HO0_1 HO1_1 BK244 BK245 BK246 HB hHeld ⊢
   refine pure_ (i := 0) (N := some 32) #[true, false, false, false, false, false, false, false, false] rfl rfl (any_of HT_.out (by kernel_rfl)) (fun _ _ _ h => h) (Or.inl ⟨by rfl, yv⟩) nm ?_
   refine pure_ (i := 2) (N := some 34) #[true, false, true, false, false, false, false, false, false] rfl rfl (any_of HT_.out (by kernel_rfl)) (fun _ _ _ h => h) (Or.inl ⟨by rfl, yv⟩) nm ?_
   refine pure_ (i := 4) (N := some 36) #[true, false, true, false, true, false, false, false, false] rfl rfl (any_of HT_.out (by kernel_rfl)) (fun _ _ _ h => h) (Or.inl ⟨by rfl, yv⟩) nm ?_
   refine take_ (i := 1) (N := some 33) #[true, true, true, false, true, false, false, false, false] rfl rfl (take_ofW HT_.out HW_.out (by kernel_rfl)) (fun _ _ _ h => h) (Or.inl ⟨by rfl, yt4⟩) hHeld nm ?_
   refine take_ (i := 3) (N := some 35) #[true, true, true, true, true, false, false, false, false] rfl rfl (take_ofW HT_.out HW_.out (by kernel_rfl)) (fun _ _ _ h => h) (Or.inl ⟨by rfl, yt4⟩) hHeld nm ?_
   refine take_ (i := 5) (N := some 37) #[true, true, true, true, true, true, false, false, false] rfl rfl (take_ofW HT_.out HW_.out (by kernel_rfl)) (fun _ _ _ h => h) (Or.inl ⟨by rfl, yt4⟩) hHeld nm ?_
   refine one_ (i := 6) (N := some 38) #[true, true, true, true, true, true, true, false, false] rfl rfl (one_of HT_.out (by kernel_rfl)) (by decide) (fun K hK => ?_)
   refine goes_ Tryd.func57 (by kernel_rfl) rfl #[.slice A1_1 l1_1.length c1_1, .slice A0_1 l0_1.length c0_1] (by rfl) rfl rfl ag ?_
   with_reducible refine (integer_minus.calls k _ _ l1_1 _ _ l0_1 t262 _ ?side1 ?side2 ?side3 ?side4 ?side5 A40.out).mono ?_
   (case side1 => exact GOK.below hG.out bel)
   (case side2 => exact kc ((Kd.V_reads' HO1_1.out).2.2))
   (case side3 => exact (Kd.V_reads' HO1_1.out).2.1)
   (case side4 => exact kc ((Kd.V_reads' HO0_1.out).2.2))
   (case side5 => exact (Kd.V_reads' HO0_1.out).2.1)
   rintro e w51 ⟨v263, rfl, ho0, hb⟩
   refine ⟨_, rfl, ?_⟩
   have HO264 := Aside0.mk (Kd.V_lower (Kd.V_mono (ok' := fun k_ => ((P0_1_ k_ ∨ P1_1_ k_) ∨ w.heap.size ≤ k_) ∧ k_ ≠ gb244 ∧ k_ ≠ gb245 ∧ k_ ≠ gb246) ho0 (fun k_ hk_ => ⟨(.inr (Nat.le_trans (below_size bel) hk_)), (Kd.freshB (bk BK244.out) k_ hk_), (Kd.freshB (bk BK245.out) k_ hk_), (Kd.freshB (bk BK246.out) k_ hk_)⟩)) (below_size bel))
   replace HO0_1 := Aside0.mk (Kd.V_below (kv HO0_1.out) hb)
   replace HO1_1 := Aside0.mk (Kd.V_below (kv HO1_1.out) hb)
   replace BK244 := Aside0.mk (blk_below (bk BK244.out) hb)
   replace BK245 := Aside0.mk (blk_below (bk BK245.out) hb)
   replace BK246 := Aside0.mk (blk_below (bk BK246.out) hb)
   replace HB := Aside0.mk (below_step bel hb)
   clear hb ho0
   obtain ⟨Ao52, co52, eo52⟩ := Kd.V_slice HO264.out
   (first | subst eo52 | (injection eo52 with f1_ f2_ f3_; have f4_ := f1_.symm; have f5_ := f3_.symm; clear f1_ f2_ f3_; subst f4_; subst f5_))
   refine hK.out _ _ ⟨(blk_cell BK245.out 0).trans rfl, (blk_cell BK245.out 1).trans rfl, (blk_cell BK244.out 0).trans rfl, (blk_cell BK244.out 1).trans rfl⟩ (fun hHeld => ?_)
   clear hK K
   refine norm_ (a' := ?_) ?_ ?_
   rotate_left
   ·show Act.put _ (some 38) _ = _
    simp only [Act.put, List.setIfInBounds_toArray, List.set_cons_zero, List.set_cons_succ, i64_w, i32_w]
    rfl
   refine one_ (i := 7) (N := some 39) #[true, true, true, true, true, true, true, true, false] rfl rfl (one_of HT_.out (by kernel_rfl)) (by decide) (fun K hK => ?_)
   refine goes_ Tryd.func38 (by kernel_rfl) rfl #[.bool a1_0, .slice Ao52 t262.length co52] (by rfl) rfl rfl ag ?_
   with_reducible refine (integer_signed.calls a1_0 (fun k_ => (((P0_1_ k_ ∨ P1_1_ k_) ∨ w.heap.size ≤ k_) ∧ (k_ ≠ gb244 ∧ (k_ ≠ gb245 ∧ k_ ≠ gb246)))) _ _ t262 t265 t266 _ ?side1 ?side2 A41.out).mono ?_
   (case side1 => exact GOK.below hG.out bel)
   (case side2 => exact HO264.out)
   rintro e w53 ⟨v267, rfl, ho0, hb⟩
   refine ⟨_, rfl, ?_⟩
   have HO268 := Aside0.mk (Kd.V_lower (Kd.V_mono (ok' := fun k_ => ((P0_1_ k_ ∨ P1_1_ k_) ∨ w.heap.size ≤ k_) ∧ k_ ≠ gb244 ∧ k_ ≠ gb245 ∧ k_ ≠ gb246) ho0 (fun k_ hk_ => ⟨Or.elim hk_ (fun hs_ => hs_.1) (fun hn_ => (.inr (Nat.le_trans (below_size bel) hn_))), Or.elim hk_ (fun hs_ => hs_.2.1) (fun hn_ => (Kd.freshB (bk BK244.out) k_ hn_)), Or.elim hk_ (fun hs_ => hs_.2.2.1) (fun hn_ => (Kd.freshB (bk BK245.out) k_ hn_)), Or.elim hk_ (fun hs_ => hs_.2.2.2) (fun hn_ => (Kd.freshB (bk BK246.out) k_ hn_))⟩)) (below_size bel))
   replace HO0_1 := Aside0.mk (Kd.V_below (kv HO0_1.out) hb)
   replace HO1_1 := Aside0.mk (Kd.V_below (kv HO1_1.out) hb)
   replace HO264 := Aside0.mk (Kd.V_below (kv HO264.out) hb)
   replace BK244 := Aside0.mk (blk_below (bk BK244.out) hb)
   replace BK245 := Aside0.mk (blk_below (bk BK245.out) hb)
   replace BK246 := Aside0.mk (blk_below (bk BK246.out) hb)
   replace HB := Aside0.mk (below_step bel hb)
   clear hb ho0
   obtain ⟨Ao55, co55, eo55⟩ := Kd.V_slice HO268.out
   (first | subst eo55 | (injection eo55 with f1_ f2_ f3_; have f4_ := f1_.symm; have f5_ := f3_.symm; clear f1_ f2_ f3_; subst f4_; subst f5_))
   refine hK.out _ _ ⟨(blk_cell BK245.out 0).trans rfl, (blk_cell BK245.out 1).trans rfl, (blk_cell BK244.out 0).trans rfl, (blk_cell BK244.out 1).trans rfl⟩ (fun hHeld => ?_)
   clear hK K
   refine norm_ (a' := ?_) ?_ ?_
   rotate_left
   ·show Act.put _ (some 39) _ = _
    simp only [Act.put, List.setIfInBounds_toArray, List.set_cons_zero, List.set_cons_succ, i64_w, i32_w]
    rfl
   refine one_ (i := 8) (N := none) #[true, true, true, true, true, true, true, true, true] rfl rfl (one_of HT_.out (by kernel_rfl)) (by decide) (fun K hK => ?_)
   have hs54 : w53.cell? ⟨gb246, 0, none⟩ = some (.bool false) := (blk_cell BK246.out 0).trans rfl
   have hfs54 := blk_frozen BK246.out 0
   have hns54_0 := NB244_246.out
   have hns54_1 := NB245_246.out
   have hms54_0 := NB246_244.out
   have hms54_1 := NB246_245.out
   have hs56 : w53.cell? ⟨gb246, 1, none⟩ = some (.slice none 0 0) := (blk_cell BK246.out 1).trans rfl
   have hfs56 := blk_frozen BK246.out 1
   have hns56_0 := NB244_246.out
   have hns56_1 := NB245_246.out
   have hms56_0 := NB246_244.out
   have hms56_1 := NB246_245.out
   refine skip_ (w1 := ?_) (by rfl) rfl ?_ ?_
   rotate_left
   ·go_simp
    rfl
   refine hK.out _ _ ⟨((cell_far (p := ⟨gb246, _, none⟩) NB245_246.out _).trans (((cell_far (p := ⟨gb246, _, none⟩) NB245_246.out _).trans (hHeld.1)))), ((cell_far (p := ⟨gb246, _, none⟩) NB245_246.out _).trans (((cell_far (p := ⟨gb246, _, none⟩) NB245_246.out _).trans (hHeld.2.1)))), ((cell_far (p := ⟨gb246, _, none⟩) NB244_246.out _).trans (((cell_far (p := ⟨gb246, _, none⟩) NB244_246.out _).trans (hHeld.2.2.1)))), ((cell_far (p := ⟨gb246, _, none⟩) NB244_246.out _).trans (((cell_far (p := ⟨gb246, _, none⟩) NB244_246.out _).trans (hHeld.2.2.2))))⟩ (fun hHeld => ?_)
   clear hK K
   refine done_ (done_of HT_.out (by kernel_rfl)) ?_
   try go_wp2
   refine bodyPost_ret (results_cell_row rfl _ _ gb246 51 #[.bool t265, .slice Ao55 t266.length co55] (0, 0) _ rfl (by (with_reducible repeat (first | refine blk_drewN ?_ _ | refine blk_drew ?_ | refine blk_alloc ?_ _)); refine blk_put (cs := #[.bool t265, .slice none 0 0]) ?_ 1 _ rfl; (with_reducible repeat (first | refine blk_drewN ?_ _ | refine blk_drew ?_ | refine blk_alloc ?_ _)); refine blk_put (cs := #[.bool false, .slice none 0 0]) ?_ 0 _ rfl; (with_reducible repeat (first | refine blk_drewN ?_ _ | refine blk_drew ?_ | refine blk_alloc ?_ _)); exact BK246.out) Tryd.underlying51 rfl (by kernel_rfl)) rfl ?_
   exact ⟨_, by first | rfl | (simp [errW_none, errW_some] <;> rfl) | (simp [*, errW_none, errW_some] <;> rfl), kv (Kd.V_mono (Kd.V_far (p := ⟨gb246, 1, none⟩) (Kd.V_far (p := ⟨gb246, 0, none⟩) (Kd.V_mono HO268.out (fun k_ hk => (⟨hk, hk.2.2.2⟩ : _ ∧ k_ ≠ gb246))) (fun _ hk => hk.2) (.bool t265)) (fun _ hk => hk.2) (.slice Ao55 t266.length co55)) (fun _ hk => hk.1.1)), bel⟩

/-! ### integer_number_text: function 40 -/
-- PROOF
theorem integer_number_text.calls (a0 : Bool) (A0 : Option Addr) (c0 : Nat) (l0 : List Int) (r1 : ByteArray) (r2 : Int) (w : World) (hG : GOK w) (hr0 : Kd.C (Kd.int .u64) w A0 l0.length l0) (hc0 : l0.length ≤ c0) (h : integer_number_text.f a0 l0 = some (r1, r2)) :
  Calls Tryd.prog 40 #[.agg #[.bool a0, .slice A0 l0.length c0]] w fun e w' => e = .returned (.tuple #[.string r1, .int .i64 r2]) ∧ Below w.heap.size w w' := by
 unfold integer_number_text.f at h
 by_cases hc : (l0.all fun x => decide (0 ≤ x ∧ x < 1000000000)) = true ∧ l0.length ≤ 1000000
 ·rw [if_pos hc] at h
  obtain ⟨hall, hl⟩ := hc
  have hok : ∀ x ∈ l0, 0 ≤ x ∧ x < 1000000000 := fun x hx => of_decide_eq_true (List.all_eq_true.1 hall x hx)
  by_cases h0 : l0 = []
  ·rw [if_pos h0] at h
   injection h with h
   injection h with h1 h2
   subst h0 h1 h2
   exact text_nil a0 A0 c0 w
  ·rw [if_neg h0] at h
   refine (text_walk a0 A0 c0 l0 w hG hr0 hc0 hok hl (List.length_pos_iff.2 h0)).mono ?_
   rintro e w' ⟨rfl, hb⟩
   refine ⟨?_, hb⟩
   unfold textOut
   by_cases h4 : 400 < (textL l0).length
   ·rw [if_pos h4] at h ⊢
    injection h with h
    injection h with h1 h2
    subst h1 h2
    rfl
   ·rw [if_neg h4] at h ⊢
    cases a0 with
    | true =>
     rw [if_pos rfl] at h ⊢
     injection h with h
     injection h with h1 h2
     subst h1 h2
     rfl
    | false =>
     rw [if_neg (by decide)] at h ⊢
     injection h with h
     injection h with h1 h2
     subst h1 h2
     rfl
 ·rw [if_neg hc] at h
  cases h


end Go.Proofs.YtdnjlmoggnbknaaDoor.PInt
