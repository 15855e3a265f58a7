-- Written by a program of this session's (xprint.py) over the kit's print.
import Derived.Test.YtdnjlmoggnbknaaDoorPIntx0
import Derived.Test.YtdnjlmoggnbknaaDoorPIntx1
import Derived.Test.YtdnjlmoggnbknaaDoorPIntx4
import Derived.Test.YtdnjlmoggnbknaaDoorPIntx5
import Derived.Test.YtdnjlmoggnbknaaDoorPIntx6
import Derived.Test.YtdnjlmoggnbknaaDoorPIntD
import Derived.Test.YtdnjlmoggnbknaaDoorAuto
namespace Go.Proofs.YtdnjlmoggnbknaaDoor.PInt
open Go.RowKit Go.Proofs.YtdnjlmoggnbknaaDoor.Ext Go.Proofs.YtdnjlmoggnbknaaDoorW.PrintWords Go.Proofs.YtdnjlmoggnbknaaDoorW.PrintLast Go.Proofs.YtdnjlmoggnbknaaDoorW.PrintMore
attribute [local go_sem high] gtr_print leq_print
attribute [local go_sem] max2_int min2_int max_two min_two max_three min_three max_four min_four   -- for this text's walks alone
set_option linter.unusedVariables false
set_option linter.unusedSimpArgs false

/-! ### integer_DivMod: function 13 -/
set_option maxHeartbeats 8000000 in
set_option maxRecDepth 100000 in
theorem integer_DivMod.calls (k : Nat) (a0 : ByteArray) (a1 : ByteArray) (r1 : ByteArray) (r2 : ByteArray) (r3 : Int) (w : World) (hG : GOK w) (h : integer_DivMod.f k a0 a1 = some (r1, r2, r3)) :
  Calls Tryd.prog 13 #[.string a0, .string a1] w fun e w' => e = .returned (.tuple #[.string r1, .string r2, .int .i64 r3]) ∧ Below w.heap.size w w' := by
 have hu51 := Tryd.underlying51
 replace hG := Aside0.mk hG
 have HB := Aside0.mk (Below.refl w.heap.size w)
 have H : ((integer_both.f k a0 a1).bind fun t269 => (if t269 = true then (if a1.toList = ([48] : List UInt8) then (some ((⟨#[]⟩ : ByteArray), (⟨#[]⟩ : ByteArray), 24)) else ((integer_read.f k a0).bind fun bt270 => ((integer_read.f k a1).bind fun bt274 => ((integer_divide.f k bt270.2 bt274.2).bind fun bt280 => ((integer_signed.f (bt270.1 != bt274.1) bt280.1).bind fun bt286 => ((integer_signed.f bt270.1 bt280.2).bind fun bt290 => (if (bt280.2.length : Int) > 0 then (integer_DivMod.j0 k (bt270.1 != bt274.1) bt274.1 bt274.2 bt286.1 bt286.2 bt290.1 bt290.2) else (integer_DivMod.j0 k false bt274.1 bt274.2 bt286.1 bt286.2 bt290.1 bt290.2)))))))) else (some ((⟨#[]⟩ : ByteArray), (⟨#[]⟩ : ByteArray), 3)))) = some (r1, r2, r3) := h
 clear h
 obtain ⟨t269, A3, H⟩ := bind_ H
 try dsimp only at H
 by_cases c4 : t269 = true
 ·subst c4
  rw [if_pos rfl] at H
  by_cases c5 : a1.toList = ([48] : List UInt8)
  ·rw [if_pos c5] at H
   have c5b0 : (a1.toList == ([48] : List UInt8)) = true := beq_iff_eq.mpr c5
   have c5b1 : (a1.toList != ([48] : List UInt8)) = false := bne_eq_false_iff_eq.mpr c5
   clear c5
   simp only [Option.some.injEq, Prod.mk.injEq] at H
   obtain ⟨rfl, rfl, rfl⟩ := H
   go_enter Tryd.func13, Tryd.ntmps13
   go_wp2_with (first | ((with_reducible refine gate_callee (f := 35) rfl ?_); refine goesL_ (some 19) rfl rfl Tryd.func35 (by kernel_rfl) rfl #[.string a0, .string a1] rfl ag ?_; (with_reducible refine (integer_both.calls k a0 a1 true _ gk A3.out).mono ?_); rintro e w' ⟨rfl, ⟨nd, rfl⟩⟩; refine ⟨_, rfl, ?_⟩))
   go_ret3
   exact ⟨er, bel⟩
  ·rw [if_neg c5] at H
   have c5b0 : (a1.toList == ([48] : List UInt8)) = false := beq_eq_false_iff_ne.mpr c5
   have c5b1 : (a1.toList != ([48] : List UInt8)) = true := bne_iff_ne.mpr c5
   obtain ⟨⟨t270, t271⟩, A6, H⟩ := bind_ H
   try dsimp only at H
   obtain ⟨⟨t274, t275⟩, A7, H⟩ := bind_ H
   try dsimp only at H
   obtain ⟨⟨t280, t283⟩, A8, H⟩ := bind_ H
   try dsimp only at H
   obtain ⟨⟨t286, t287⟩, A9, H⟩ := bind_ H
   try dsimp only at H
   obtain ⟨⟨t290, t291⟩, A10, H⟩ := bind_ H
   try dsimp only at H
   have HC11 := Aside0.mk H
   clear H
   go_enter Tryd.func13, Tryd.ntmps13
   try go_wp2_with (first | ((with_reducible refine gate_callee (f := 35) rfl ?_); refine goesL_ (some 19) rfl rfl Tryd.func35 (by kernel_rfl) rfl #[.string a0, .string a1] rfl ag ?_; (with_reducible refine (integer_both.calls k a0 a1 true _ gk A3.out).mono ?_); rintro e w' ⟨rfl, ⟨nd, rfl⟩⟩; refine ⟨_, rfl, ?_⟩) | ((with_reducible refine gate_callee (f := 36) rfl ?_); refine goesL_ (some 24) rfl rfl Tryd.func36 (by kernel_rfl) rfl #[.string a0] rfl ag ?_; (with_reducible refine (integer_read.calls k a0 t270 t271 _ gk A6.out).mono ?_); rintro e w12 ⟨v272, rfl, ho0, hb⟩; refine ⟨_, rfl, ?_⟩; have HO273 := Aside0.mk (Kd.V_lower (Kd.V_mono (ok' := fun k_ => True) ho0 (fun k_ hk_ => trivial)) (below_size bel)); replace HB := Aside0.mk (below_step bel hb); clear hb ho0) | ((with_reducible refine gate_callee (f := 36) rfl ?_); refine goesL_ (some 26) rfl rfl Tryd.func36 (by kernel_rfl) rfl #[.string a1] rfl ag ?_; (with_reducible refine (integer_read.calls k a1 t274 t275 _ gk A7.out).mono ?_); rintro e w13 ⟨v276, rfl, ho0, hb⟩; refine ⟨_, rfl, ?_⟩; have HO277 := Aside0.mk (Kd.V_lower (Kd.V_mono (ok' := fun k_ => True) ho0 (fun k_ hk_ => trivial)) (below_size bel)); replace HO273 := Aside0.mk (Kd.V_below (kv HO273.out) hb); replace HB := Aside0.mk (below_step bel hb); clear hb ho0) | ((with_reducible refine gate_dst (N := 7) rfl ?_); refine box_event ?hg (N := 7) ?hd (cs := #[.bool false, .slice none 0 0]) (t := 51) ?hr ?_; (case hd => rfl); (case hg => rfl); (case hr => first | (go_simp; done) | (go_simp; rfl)); intro gb278 hg w14 hbox hb; have BK278 := Aside0.mk (hbox); have GW278 := Aside0.mk ((by rw [hg]; exact (below_size bel) : w.heap.size ≤ gb278)); have GE278 := Aside0.mk ((by rw [hg]; exact (below_size bel) : w.heap.size ≤ gb278)); replace HO273 := Aside0.mk (Kd.V_below (Kd.V_elderB (kv HO273.out) gb278 (Nat.le_of_eq hg.symm)) hb); replace HO277 := Aside0.mk (Kd.V_below (Kd.V_elderB (kv HO277.out) gb278 (Nat.le_of_eq hg.symm)) hb); replace HB := Aside0.mk (below_step bel hb); clear hb hbox hg) | ((with_reducible refine gate_dst (N := 8) rfl ?_); refine box_event ?hg (N := 8) ?hd (cs := #[.bool false, .slice none 0 0]) (t := 51) ?hr ?_; (case hd => rfl); (case hg => rfl); (case hr => first | (go_simp; done) | (go_simp; rfl)); intro gb279 hg w15 hbox hb; have BK279 := Aside0.mk (hbox); have GW279 := Aside0.mk ((by rw [hg]; exact (below_size bel) : w.heap.size ≤ gb279)); have GE279 := Aside0.mk ((by rw [hg]; exact (below_size bel) : w.heap.size ≤ gb279)); have NB278_279 := Aside0.mk ((by rw [hg]; exact Nat.ne_of_lt (blk_lt (bk BK278.out)) : gb278 ≠ gb279)); have NB279_278 := Aside0.mk ((by rw [hg]; exact Nat.ne_of_gt (blk_lt (bk BK278.out)) : gb279 ≠ gb278)); replace HO273 := Aside0.mk (Kd.V_below (Kd.V_elderB (kv HO273.out) gb279 (Nat.le_of_eq hg.symm)) hb); replace HO277 := Aside0.mk (Kd.V_below (Kd.V_elderB (kv HO277.out) gb279 (Nat.le_of_eq hg.symm)) hb); replace BK278 := Aside0.mk (blk_below (bk BK278.out) hb); replace HB := Aside0.mk (below_step bel hb); clear hb hbox hg; have hnb16 := NB278_279.out; have hnc16 := NB279_278.out; have hcz17_0 : w15.cell? ⟨gb278, 0, none⟩ = some (.bool false) := (blk_cell BK278.out 0).trans rfl; have hcz17_1 : w15.cell? ⟨gb278, 1, none⟩ = some (.slice none 0 0) := (blk_cell BK278.out 1).trans rfl; have hfz17_0 := blk_frozen BK278.out 0; have hfz17_1 := blk_frozen BK278.out 1; obtain ⟨Ao18, co18, eo18⟩ := Kd.V_slice HO273.out; subst eo18) | ((with_reducible refine gate_store (t := 51) (p := 7) rfl ?_); refine store_event (t := 51) (p := 7) (v := ?vo_w19) (w1 := ((w15.setCell ⟨gb278, 0, none⟩ (.bool t270)).setCell ⟨gb278, 1, none⟩ (.slice Ao18 t271.length co18))) ?hg ?ho ?hn ?hr ?_; (case ho => rfl); (case hg => rfl); (case hn => rfl); (case hr => first | (go_simp; done) | (go_simp; rfl)); intro w19 hw; replace HO273 : Aside0 (Kd.V (Kd.int .u64) 57 w19 w.heap.size (fun k_ => k_ ≠ gb278 ∧ k_ ≠ gb279) (.slice Ao18 t271.length co18) t271) := ⟨(by rw [hw]; exact (kv (Kd.V_mono (Kd.V_far (p := ⟨gb278, 1, none⟩) (Kd.V_far (p := ⟨gb278, 0, none⟩) (Kd.V_mono HO273.out (fun k_ hk => (⟨hk, hk.1.2⟩ : _ ∧ k_ ≠ gb278))) (fun _ hk => hk.2) (.bool t270)) (fun _ hk => hk.2) (.slice Ao18 t271.length co18)) (fun _ hk => ⟨hk.1.1.2, hk.1.2⟩))))⟩; replace HO277 : Aside0 (Kd.V (Kd.int .u64) 57 w19 w.heap.size (fun k_ => k_ ≠ gb278 ∧ k_ ≠ gb279) v276 t275) := ⟨(by rw [hw]; exact (kv (Kd.V_mono (Kd.V_far (p := ⟨gb278, 1, none⟩) (Kd.V_far (p := ⟨gb278, 0, none⟩) (Kd.V_mono HO277.out (fun k_ hk => (⟨hk, hk.1.2⟩ : _ ∧ k_ ≠ gb278))) (fun _ hk => hk.2) (.bool t270)) (fun _ hk => hk.2) (.slice Ao18 t271.length co18)) (fun _ hk => ⟨hk.1.1.2, hk.1.2⟩))))⟩; replace BK278 : Aside0 (w19.heap[gb278]? = some (.cells #[.bool t270, .slice Ao18 t271.length co18] 51 (0, 0))) := ⟨(by rw [hw]; exact (by (with_reducible repeat (first | refine blk_drewN ?_ _ | refine blk_drew ?_ | refine blk_alloc ?_ _)); refine blk_put (cs := #[.bool t270, .slice none 0 0]) ?_ 1 _ rfl; (with_reducible repeat (first | refine blk_drewN ?_ _ | refine blk_drew ?_ | refine blk_alloc ?_ _)); refine blk_put (cs := #[.bool false, .slice none 0 0]) ?_ 0 _ rfl; (with_reducible repeat (first | refine blk_drewN ?_ _ | refine blk_drew ?_ | refine blk_alloc ?_ _)); exact BK278.out))⟩; replace BK279 : Aside0 (w19.heap[gb279]? = some (.cells #[.bool false, .slice none 0 0] 51 (0, 0))) := ⟨(by rw [hw]; exact (by (with_reducible repeat (first | refine blk_drewN ?_ _ | refine blk_drew ?_ | refine blk_alloc ?_ _)); refine blk_far ?_ NB279_278.out _; (with_reducible repeat (first | refine blk_drewN ?_ _ | refine blk_drew ?_ | refine blk_alloc ?_ _)); refine blk_far ?_ NB279_278.out _; (with_reducible repeat (first | refine blk_drewN ?_ _ | refine blk_drew ?_ | refine blk_alloc ?_ _)); exact BK279.out))⟩; replace HB : Aside0 (Below w.heap.size w w19) := ⟨(by rw [hw]; exact bel)⟩; clear hw; have hcz20_0 : w19.cell? ⟨gb279, 0, none⟩ = some (.bool false) := (blk_cell BK279.out 0).trans rfl; have hcz20_1 : w19.cell? ⟨gb279, 1, none⟩ = some (.slice none 0 0) := (blk_cell BK279.out 1).trans rfl; have hfz20_0 := blk_frozen BK279.out 0; have hfz20_1 := blk_frozen BK279.out 1; obtain ⟨Ao21, co21, eo21⟩ := Kd.V_slice HO277.out; subst eo21) | ((with_reducible refine gate_store (t := 51) (p := 8) rfl ?_); refine store_event (t := 51) (p := 8) (v := ?vo_w22) (w1 := ((w19.setCell ⟨gb279, 0, none⟩ (.bool t274)).setCell ⟨gb279, 1, none⟩ (.slice Ao21 t275.length co21))) ?hg ?ho ?hn ?hr ?_; (case ho => rfl); (case hg => rfl); (case hn => rfl); (case hr => first | (go_simp; done) | (go_simp; rfl)); intro w22 hw; replace HO273 : Aside0 (Kd.V (Kd.int .u64) 57 w22 w.heap.size (fun k_ => k_ ≠ gb278 ∧ k_ ≠ gb279) (.slice Ao18 t271.length co18) t271) := ⟨(by rw [hw]; exact (kv (Kd.V_mono (Kd.V_far (p := ⟨gb279, 1, none⟩) (Kd.V_far (p := ⟨gb279, 0, none⟩) (Kd.V_mono HO273.out (fun k_ hk => (⟨hk, hk.2⟩ : _ ∧ k_ ≠ gb279))) (fun _ hk => hk.2) (.bool t274)) (fun _ hk => hk.2) (.slice Ao21 t275.length co21)) (fun _ hk => ⟨hk.1.1, hk.1.2⟩))))⟩; replace HO277 : Aside0 (Kd.V (Kd.int .u64) 57 w22 w.heap.size (fun k_ => k_ ≠ gb278 ∧ k_ ≠ gb279) (.slice Ao21 t275.length co21) t275) := ⟨(by rw [hw]; exact (kv (Kd.V_mono (Kd.V_far (p := ⟨gb279, 1, none⟩) (Kd.V_far (p := ⟨gb279, 0, none⟩) (Kd.V_mono HO277.out (fun k_ hk => (⟨hk, hk.2⟩ : _ ∧ k_ ≠ gb279))) (fun _ hk => hk.2) (.bool t274)) (fun _ hk => hk.2) (.slice Ao21 t275.length co21)) (fun _ hk => ⟨hk.1.1, hk.1.2⟩))))⟩; replace BK278 : Aside0 (w22.heap[gb278]? = some (.cells #[.bool t270, .slice Ao18 t271.length co18] 51 (0, 0))) := ⟨(by rw [hw]; exact (by (with_reducible repeat (first | refine blk_drewN ?_ _ | refine blk_drew ?_ | refine blk_alloc ?_ _)); refine blk_far ?_ NB278_279.out _; (with_reducible repeat (first | refine blk_drewN ?_ _ | refine blk_drew ?_ | refine blk_alloc ?_ _)); refine blk_far ?_ NB278_279.out _; (with_reducible repeat (first | refine blk_drewN ?_ _ | refine blk_drew ?_ | refine blk_alloc ?_ _)); exact BK278.out))⟩; replace BK279 : Aside0 (w22.heap[gb279]? = some (.cells #[.bool t274, .slice Ao21 t275.length co21] 51 (0, 0))) := ⟨(by rw [hw]; exact (by (with_reducible repeat (first | refine blk_drewN ?_ _ | refine blk_drew ?_ | refine blk_alloc ?_ _)); refine blk_put (cs := #[.bool t274, .slice none 0 0]) ?_ 1 _ rfl; (with_reducible repeat (first | refine blk_drewN ?_ _ | refine blk_drew ?_ | refine blk_alloc ?_ _)); refine blk_put (cs := #[.bool false, .slice none 0 0]) ?_ 0 _ rfl; (with_reducible repeat (first | refine blk_drewN ?_ _ | refine blk_drew ?_ | refine blk_alloc ?_ _)); exact BK279.out))⟩; replace HB : Aside0 (Below w.heap.size w w22) := ⟨(by rw [hw]; exact bel)⟩; clear hw; have hcz23_0 : w22.cell? ⟨gb278, 0, none⟩ = some (.bool t270) := (blk_cell BK278.out 0).trans rfl; have hcz23_1 : w22.cell? ⟨gb278, 1, none⟩ = some (.slice Ao18 t271.length co18) := (blk_cell BK278.out 1).trans rfl; have hfz23_0 := blk_frozen BK278.out 0; have hfz23_1 := blk_frozen BK278.out 1; have hcz24_0 : w22.cell? ⟨gb279, 0, none⟩ = some (.bool t274) := (blk_cell BK279.out 0).trans rfl; have hcz24_1 : w22.cell? ⟨gb279, 1, none⟩ = some (.slice Ao21 t275.length co21) := (blk_cell BK279.out 1).trans rfl; have hfz24_0 := blk_frozen BK279.out 0; have hfz24_1 := blk_frozen BK279.out 1) | ((with_reducible refine gate_callee (f := 37) rfl ?_); refine goesL_ (some 32) rfl rfl Tryd.func37 (by kernel_rfl) rfl #[.slice Ao18 t271.length co18, .slice Ao21 t275.length co21] rfl ag ?_; (with_reducible refine (integer_divide.calls k (fun k_ => (k_ ≠ gb278 ∧ k_ ≠ gb279)) _ _ t271 _ _ t275 t280 t283 _ gk HO273.out ?side3 ?side4 A8.out).mono ?_); (case side3 => exact kc ((Kd.V_reads' HO277.out).2.2)); (case side4 => exact (Kd.V_reads' HO277.out).2.1); rintro e w25 ⟨v281, v284, rfl, ho0, ho1, hb⟩; refine ⟨_, rfl, ?_⟩; have HO282 := Aside0.mk (Kd.V_lower (Kd.V_mono (ok' := fun k_ => k_ ≠ gb278 ∧ k_ ≠ gb279) ho0 (fun k_ hk_ => ⟨Or.elim hk_ (fun hs_ => hs_.1) (fun hn_ => (Kd.freshB (bk BK278.out) k_ hn_)), Or.elim hk_ (fun hs_ => hs_.2) (fun hn_ => (Kd.freshB (bk BK279.out) k_ hn_))⟩)) (below_size bel)); have HO285 := Aside0.mk (Kd.V_lower (Kd.V_mono (ok' := fun k_ => k_ ≠ gb278 ∧ k_ ≠ gb279) ho1 (fun k_ hk_ => ⟨Or.elim hk_ (fun hs_ => hs_.1) (fun hn_ => (Kd.freshB (bk BK278.out) k_ hn_)), Or.elim hk_ (fun hs_ => hs_.2) (fun hn_ => (Kd.freshB (bk BK279.out) k_ hn_))⟩)) (below_size bel)); replace HO273 := Aside0.mk (Kd.V_below (kv HO273.out) hb); replace HO277 := Aside0.mk (Kd.V_below (kv HO277.out) hb); replace BK278 := Aside0.mk (blk_below (bk BK278.out) hb); replace BK279 := Aside0.mk (blk_below (bk BK279.out) hb); replace HB := Aside0.mk (below_step bel hb); clear hb ho0 ho1; obtain ⟨Ao26, co26, eo26⟩ := Kd.V_slice HO282.out; subst eo26; obtain ⟨Ao27, co27, eo27⟩ := Kd.V_slice HO285.out; subst eo27))
   replace HO273 := Aside0.mk (Kd.V_drew HO273.out)
   replace HO277 := Aside0.mk (Kd.V_drew HO277.out)
   replace HO282 := Aside0.mk (Kd.V_drew HO282.out)
   replace HO285 := Aside0.mk (Kd.V_drew HO285.out)
   replace BK278 := Aside0.mk (blk_drew BK278.out)
   replace BK279 := Aside0.mk (blk_drew BK279.out)
   replace HB := Aside0.mk (below_drew1 HB.out)
   refine start_ (n := 15) (S := fun w' => w'.cell? ⟨gb278, 0, none⟩ = some (.bool t270) ∧ w'.cell? ⟨gb278, 1, none⟩ = some (.slice Ao18 t271.length co18) ∧ w'.cell? ⟨gb279, 0, none⟩ = some (.bool t274) ∧ w'.cell? ⟨gb279, 1, none⟩ = some (.slice Ao21 t275.length co21)) (ds := []) #[false, false, false, false, false, false, false, false, false, false, false, false, false, false, false] (by kernel_rfl) rfl rfl ⟨(blk_cell BK278.out 0).trans rfl, (blk_cell BK278.out 1).trans rfl, (blk_cell BK279.out 0).trans rfl, (blk_cell BK279.out 1).trans rfl⟩ (fun hHeld => ?_); refine with_tabW integer_DivMod.tab7 integer_DivMod.bits7 (fun HT_ HW_ => ?_)
   generalize w25.drew = w28 at HO273 HO277 HO282 HO285 BK278 BK279 HB hHeld ⊢
   refine pure_ (i := 0) (N := some 35) #[true, false, false, false, false, false, false, false, false, false, false, false, false, false, false] rfl rfl (any_of HT_.out (by kernel_rfl)) (fun _ _ _ h => h) (Or.inl ⟨by rfl, yv⟩) nm ?_
   refine pure_ (i := 2) (N := some 37) #[true, false, true, false, false, false, false, false, false, false, false, false, false, false, false] rfl rfl (any_of HT_.out (by kernel_rfl)) (fun _ _ _ h => h) (Or.inl ⟨by rfl, yv⟩) nm ?_
   refine pure_ (i := 5) (N := some 40) #[true, false, true, false, false, true, false, false, false, false, false, false, false, false, false] rfl rfl (any_of HT_.out (by kernel_rfl)) (fun _ _ _ h => h) (Or.inl ⟨by rfl, yv⟩) nm ?_
   refine pure_ (i := 7) (N := some 42) #[true, false, true, false, false, true, false, true, false, false, false, false, false, false, false] rfl rfl (any_of HT_.out (by kernel_rfl)) (fun _ _ _ h => h) (Or.inl ⟨by rfl, yv⟩) nm ?_
   refine pure_ (i := 9) (N := some 44) #[true, false, true, false, false, true, false, true, false, true, false, false, false, false, false] rfl rfl (any_of HT_.out (by kernel_rfl)) (fun _ _ _ h => h) (Or.inl ⟨by rfl, yv⟩) nm ?_
   refine take_ (i := 1) (N := some 36) #[true, true, true, false, false, true, false, true, false, true, false, false, false, false, false] rfl rfl (take_ofW HT_.out HW_.out (by kernel_rfl)) (fun _ _ _ h => h) (Or.inl ⟨by rfl, yt4⟩) hHeld nm ?_
   refine take_ (i := 3) (N := some 38) #[true, true, true, true, false, true, false, true, false, true, false, false, false, false, false] rfl rfl (take_ofW HT_.out HW_.out (by kernel_rfl)) (fun _ _ _ h => h) (Or.inl ⟨by rfl, yt4⟩) hHeld nm ?_
   refine pure_ (i := 4) (N := some 39) #[true, true, true, true, true, true, false, true, false, true, false, false, false, false, false] rfl rfl (any_of HT_.out (by kernel_rfl)) (fun _ _ _ h => h) (Or.inl ⟨by rfl, yv⟩) nm ?_
   refine take_ (i := 8) (N := some 43) #[true, true, true, true, true, true, false, true, true, true, false, false, false, false, false] rfl rfl (take_ofW HT_.out HW_.out (by kernel_rfl)) (fun _ _ _ h => h) (Or.inl ⟨by rfl, yt4⟩) hHeld nm ?_
   refine join_ (σ := Value × Value × Nat × Nat) 2 #[true, true, true, true, true, true, true, true, true, true, true, true, true, false, false] (fun s_ => [(41, .agg #[.bool t286, s_.1]), (45, .agg #[.bool t290, s_.2.1]), (11, .pointer (some ⟨s_.2.2.1, 0, none⟩)), (12, .pointer (some ⟨s_.2.2.2, 0, none⟩))]) (fun s_ w' => (w'.cell? ⟨gb278, 0, none⟩ = some (.bool t270) ∧ w'.cell? ⟨gb278, 1, none⟩ = some (.slice Ao18 t271.length co18) ∧ w'.cell? ⟨gb279, 0, none⟩ = some (.bool t274) ∧ w'.cell? ⟨gb279, 1, none⟩ = some (.slice Ao21 t275.length co21)) ∧ (Kd.V (Kd.int .u64) 57 w' w.heap.size (fun k_ => k_ ≠ gb278 ∧ k_ ≠ gb279 ∧ k_ ≠ s_.2.2.1 ∧ k_ ≠ s_.2.2.2) (.slice Ao18 t271.length co18) t271) ∧ (Kd.V (Kd.int .u64) 57 w' w.heap.size (fun k_ => k_ ≠ gb278 ∧ k_ ≠ gb279 ∧ k_ ≠ s_.2.2.1 ∧ k_ ≠ s_.2.2.2) (.slice Ao21 t275.length co21) t275) ∧ (Kd.V (Kd.int .u64) 57 w' w.heap.size (fun k_ => k_ ≠ gb278 ∧ k_ ≠ gb279 ∧ k_ ≠ s_.2.2.1 ∧ k_ ≠ s_.2.2.2) (.slice Ao26 t280.length co26) t280) ∧ (Kd.V (Kd.int .u64) 57 w' w.heap.size (fun k_ => k_ ≠ gb278 ∧ k_ ≠ gb279 ∧ k_ ≠ s_.2.2.1 ∧ k_ ≠ s_.2.2.2) (.slice Ao27 t283.length co27) t283) ∧ (Kd.V (Kd.int .u64) 57 w' w.heap.size (fun k_ => k_ ≠ gb278 ∧ k_ ≠ gb279 ∧ k_ ≠ s_.2.2.1 ∧ k_ ≠ s_.2.2.2) s_.1 t287) ∧ (Kd.V (Kd.int .u64) 57 w' w.heap.size (fun k_ => k_ ≠ gb278 ∧ k_ ≠ gb279 ∧ k_ ≠ s_.2.2.1 ∧ k_ ≠ s_.2.2.2) s_.2.1 t291) ∧ (w'.heap[gb278]? = some (.cells #[.bool t270, .slice Ao18 t271.length co18] 51 (0, 0))) ∧ (w'.heap[gb279]? = some (.cells #[.bool t274, .slice Ao21 t275.length co21] 51 (0, 0))) ∧ (w'.heap[s_.2.2.1]? = some (.cells #[.bool false, .slice none 0 0] 51 (0, 0))) ∧ (w'.heap[s_.2.2.2]? = some (.cells #[.bool false, .slice none 0 0] 51 (0, 0))) ∧ (w.heap.size ≤ s_.2.2.1) ∧ (w.heap.size ≤ s_.2.2.1) ∧ (gb278 ≠ s_.2.2.1) ∧ (s_.2.2.1 ≠ gb278) ∧ (gb279 ≠ s_.2.2.1) ∧ (s_.2.2.1 ≠ gb279) ∧ (s_.2.2.2 ≠ s_.2.2.1) ∧ (s_.2.2.1 ≠ s_.2.2.2) ∧ (w.heap.size ≤ s_.2.2.2) ∧ (w.heap.size ≤ s_.2.2.2) ∧ (gb278 ≠ s_.2.2.2) ∧ (s_.2.2.2 ≠ gb278) ∧ (gb279 ≠ s_.2.2.2) ∧ (s_.2.2.2 ≠ gb279) ∧ (Below w.heap.size w w')) ?_ ?_
   rotate_left
   ·intro hJ6_10_11_12
    refine join_ (σ := Value × Value × Nat) 3 #[true, true, true, true, true, true, true, true, true, true, true, true, false, false, false] (fun s_ => [(41, .agg #[.bool t286, s_.1]), (45, .agg #[.bool t290, s_.2.1]), (11, .pointer (some ⟨s_.2.2, 0, none⟩))]) (fun s_ w' => (w'.cell? ⟨gb278, 0, none⟩ = some (.bool t270) ∧ w'.cell? ⟨gb278, 1, none⟩ = some (.slice Ao18 t271.length co18) ∧ w'.cell? ⟨gb279, 0, none⟩ = some (.bool t274) ∧ w'.cell? ⟨gb279, 1, none⟩ = some (.slice Ao21 t275.length co21)) ∧ (Kd.V (Kd.int .u64) 57 w' w.heap.size (fun k_ => k_ ≠ gb278 ∧ k_ ≠ gb279 ∧ k_ ≠ s_.2.2) (.slice Ao18 t271.length co18) t271) ∧ (Kd.V (Kd.int .u64) 57 w' w.heap.size (fun k_ => k_ ≠ gb278 ∧ k_ ≠ gb279 ∧ k_ ≠ s_.2.2) (.slice Ao21 t275.length co21) t275) ∧ (Kd.V (Kd.int .u64) 57 w' w.heap.size (fun k_ => k_ ≠ gb278 ∧ k_ ≠ gb279 ∧ k_ ≠ s_.2.2) (.slice Ao26 t280.length co26) t280) ∧ (Kd.V (Kd.int .u64) 57 w' w.heap.size (fun k_ => k_ ≠ gb278 ∧ k_ ≠ gb279 ∧ k_ ≠ s_.2.2) (.slice Ao27 t283.length co27) t283) ∧ (Kd.V (Kd.int .u64) 57 w' w.heap.size (fun k_ => k_ ≠ gb278 ∧ k_ ≠ gb279 ∧ k_ ≠ s_.2.2) s_.1 t287) ∧ (Kd.V (Kd.int .u64) 57 w' w.heap.size (fun k_ => k_ ≠ gb278 ∧ k_ ≠ gb279 ∧ k_ ≠ s_.2.2) s_.2.1 t291) ∧ (w'.heap[gb278]? = some (.cells #[.bool t270, .slice Ao18 t271.length co18] 51 (0, 0))) ∧ (w'.heap[gb279]? = some (.cells #[.bool t274, .slice Ao21 t275.length co21] 51 (0, 0))) ∧ (w'.heap[s_.2.2]? = some (.cells #[.bool false, .slice none 0 0] 51 (0, 0))) ∧ (w.heap.size ≤ s_.2.2) ∧ (w.heap.size ≤ s_.2.2) ∧ (gb278 ≠ s_.2.2) ∧ (s_.2.2 ≠ gb278) ∧ (gb279 ≠ s_.2.2) ∧ (s_.2.2 ≠ gb279) ∧ (Below w.heap.size w w')) ?_ ?_
    rotate_left
    ·intro hJ6_10_11
     refine join_ (σ := Value × Value × Nat) 3 #[true, true, true, true, true, true, true, true, true, true, true, false, true, false, false] (fun s_ => [(41, .agg #[.bool t286, s_.1]), (45, .agg #[.bool t290, s_.2.1]), (12, .pointer (some ⟨s_.2.2, 0, none⟩))]) (fun s_ w' => (w'.cell? ⟨gb278, 0, none⟩ = some (.bool t270) ∧ w'.cell? ⟨gb278, 1, none⟩ = some (.slice Ao18 t271.length co18) ∧ w'.cell? ⟨gb279, 0, none⟩ = some (.bool t274) ∧ w'.cell? ⟨gb279, 1, none⟩ = some (.slice Ao21 t275.length co21)) ∧ (Kd.V (Kd.int .u64) 57 w' w.heap.size (fun k_ => k_ ≠ gb278 ∧ k_ ≠ gb279 ∧ k_ ≠ s_.2.2) (.slice Ao18 t271.length co18) t271) ∧ (Kd.V (Kd.int .u64) 57 w' w.heap.size (fun k_ => k_ ≠ gb278 ∧ k_ ≠ gb279 ∧ k_ ≠ s_.2.2) (.slice Ao21 t275.length co21) t275) ∧ (Kd.V (Kd.int .u64) 57 w' w.heap.size (fun k_ => k_ ≠ gb278 ∧ k_ ≠ gb279 ∧ k_ ≠ s_.2.2) (.slice Ao26 t280.length co26) t280) ∧ (Kd.V (Kd.int .u64) 57 w' w.heap.size (fun k_ => k_ ≠ gb278 ∧ k_ ≠ gb279 ∧ k_ ≠ s_.2.2) (.slice Ao27 t283.length co27) t283) ∧ (Kd.V (Kd.int .u64) 57 w' w.heap.size (fun k_ => k_ ≠ gb278 ∧ k_ ≠ gb279 ∧ k_ ≠ s_.2.2) s_.1 t287) ∧ (Kd.V (Kd.int .u64) 57 w' w.heap.size (fun k_ => k_ ≠ gb278 ∧ k_ ≠ gb279 ∧ k_ ≠ s_.2.2) s_.2.1 t291) ∧ (w'.heap[gb278]? = some (.cells #[.bool t270, .slice Ao18 t271.length co18] 51 (0, 0))) ∧ (w'.heap[gb279]? = some (.cells #[.bool t274, .slice Ao21 t275.length co21] 51 (0, 0))) ∧ (w'.heap[s_.2.2]? = some (.cells #[.bool false, .slice none 0 0] 51 (0, 0))) ∧ (w.heap.size ≤ s_.2.2) ∧ (w.heap.size ≤ s_.2.2) ∧ (gb278 ≠ s_.2.2) ∧ (s_.2.2 ≠ gb278) ∧ (gb279 ≠ s_.2.2) ∧ (s_.2.2 ≠ gb279) ∧ (Below w.heap.size w w')) ?_ ?_
     rotate_left
     ·intro hJ6_10_12
      refine join_ (σ := Value × Nat × Nat) 3 #[true, true, true, true, true, true, true, true, true, true, false, true, true, false, false] (fun s_ => [(41, .agg #[.bool t286, s_.1]), (11, .pointer (some ⟨s_.2.1, 0, none⟩)), (12, .pointer (some ⟨s_.2.2, 0, none⟩))]) (fun s_ w' => (w'.cell? ⟨gb278, 0, none⟩ = some (.bool t270) ∧ w'.cell? ⟨gb278, 1, none⟩ = some (.slice Ao18 t271.length co18) ∧ w'.cell? ⟨gb279, 0, none⟩ = some (.bool t274) ∧ w'.cell? ⟨gb279, 1, none⟩ = some (.slice Ao21 t275.length co21)) ∧ (Kd.V (Kd.int .u64) 57 w' w.heap.size (fun k_ => k_ ≠ gb278 ∧ k_ ≠ gb279 ∧ k_ ≠ s_.2.1 ∧ k_ ≠ s_.2.2) (.slice Ao18 t271.length co18) t271) ∧ (Kd.V (Kd.int .u64) 57 w' w.heap.size (fun k_ => k_ ≠ gb278 ∧ k_ ≠ gb279 ∧ k_ ≠ s_.2.1 ∧ k_ ≠ s_.2.2) (.slice Ao21 t275.length co21) t275) ∧ (Kd.V (Kd.int .u64) 57 w' w.heap.size (fun k_ => k_ ≠ gb278 ∧ k_ ≠ gb279 ∧ k_ ≠ s_.2.1 ∧ k_ ≠ s_.2.2) (.slice Ao26 t280.length co26) t280) ∧ (Kd.V (Kd.int .u64) 57 w' w.heap.size (fun k_ => k_ ≠ gb278 ∧ k_ ≠ gb279 ∧ k_ ≠ s_.2.1 ∧ k_ ≠ s_.2.2) (.slice Ao27 t283.length co27) t283) ∧ (Kd.V (Kd.int .u64) 57 w' w.heap.size (fun k_ => k_ ≠ gb278 ∧ k_ ≠ gb279 ∧ k_ ≠ s_.2.1 ∧ k_ ≠ s_.2.2) s_.1 t287) ∧ (w'.heap[gb278]? = some (.cells #[.bool t270, .slice Ao18 t271.length co18] 51 (0, 0))) ∧ (w'.heap[gb279]? = some (.cells #[.bool t274, .slice Ao21 t275.length co21] 51 (0, 0))) ∧ (w'.heap[s_.2.1]? = some (.cells #[.bool false, .slice none 0 0] 51 (0, 0))) ∧ (w'.heap[s_.2.2]? = some (.cells #[.bool false, .slice none 0 0] 51 (0, 0))) ∧ (w.heap.size ≤ s_.2.1) ∧ (w.heap.size ≤ s_.2.1) ∧ (gb278 ≠ s_.2.1) ∧ (s_.2.1 ≠ gb278) ∧ (gb279 ≠ s_.2.1) ∧ (s_.2.1 ≠ gb279) ∧ (s_.2.2 ≠ s_.2.1) ∧ (s_.2.1 ≠ s_.2.2) ∧ (w.heap.size ≤ s_.2.2) ∧ (w.heap.size ≤ s_.2.2) ∧ (gb278 ≠ s_.2.2) ∧ (s_.2.2 ≠ gb278) ∧ (gb279 ≠ s_.2.2) ∧ (s_.2.2 ≠ gb279) ∧ (Below w.heap.size w w')) ?_ ?_
      rotate_left
      ·intro hJ6_11_12
       refine join_ (σ := Value × Value) 4 #[true, true, true, true, true, true, true, true, true, true, true, false, false, false, false] (fun s_ => [(41, .agg #[.bool t286, s_.1]), (45, .agg #[.bool t290, s_.2])]) (fun s_ w' => (w'.cell? ⟨gb278, 0, none⟩ = some (.bool t270) ∧ w'.cell? ⟨gb278, 1, none⟩ = some (.slice Ao18 t271.length co18) ∧ w'.cell? ⟨gb279, 0, none⟩ = some (.bool t274) ∧ w'.cell? ⟨gb279, 1, none⟩ = some (.slice Ao21 t275.length co21)) ∧ (Kd.V (Kd.int .u64) 57 w' w.heap.size (fun k_ => k_ ≠ gb278 ∧ k_ ≠ gb279) (.slice Ao18 t271.length co18) t271) ∧ (Kd.V (Kd.int .u64) 57 w' w.heap.size (fun k_ => k_ ≠ gb278 ∧ k_ ≠ gb279) (.slice Ao21 t275.length co21) t275) ∧ (Kd.V (Kd.int .u64) 57 w' w.heap.size (fun k_ => k_ ≠ gb278 ∧ k_ ≠ gb279) (.slice Ao26 t280.length co26) t280) ∧ (Kd.V (Kd.int .u64) 57 w' w.heap.size (fun k_ => k_ ≠ gb278 ∧ k_ ≠ gb279) (.slice Ao27 t283.length co27) t283) ∧ (Kd.V (Kd.int .u64) 57 w' w.heap.size (fun k_ => k_ ≠ gb278 ∧ k_ ≠ gb279) s_.1 t287) ∧ (Kd.V (Kd.int .u64) 57 w' w.heap.size (fun k_ => k_ ≠ gb278 ∧ k_ ≠ gb279) s_.2 t291) ∧ (w'.heap[gb278]? = some (.cells #[.bool t270, .slice Ao18 t271.length co18] 51 (0, 0))) ∧ (w'.heap[gb279]? = some (.cells #[.bool t274, .slice Ao21 t275.length co21] 51 (0, 0))) ∧ (Below w.heap.size w w')) ?_ ?_
       rotate_left
       ·intro hJ6_10
        refine join_ (σ := Value × Nat) 4 #[true, true, true, true, true, true, true, true, true, true, false, true, false, false, false] (fun s_ => [(41, .agg #[.bool t286, s_.1]), (11, .pointer (some ⟨s_.2, 0, none⟩))]) (fun s_ w' => (w'.cell? ⟨gb278, 0, none⟩ = some (.bool t270) ∧ w'.cell? ⟨gb278, 1, none⟩ = some (.slice Ao18 t271.length co18) ∧ w'.cell? ⟨gb279, 0, none⟩ = some (.bool t274) ∧ w'.cell? ⟨gb279, 1, none⟩ = some (.slice Ao21 t275.length co21)) ∧ (Kd.V (Kd.int .u64) 57 w' w.heap.size (fun k_ => k_ ≠ gb278 ∧ k_ ≠ gb279 ∧ k_ ≠ s_.2) (.slice Ao18 t271.length co18) t271) ∧ (Kd.V (Kd.int .u64) 57 w' w.heap.size (fun k_ => k_ ≠ gb278 ∧ k_ ≠ gb279 ∧ k_ ≠ s_.2) (.slice Ao21 t275.length co21) t275) ∧ (Kd.V (Kd.int .u64) 57 w' w.heap.size (fun k_ => k_ ≠ gb278 ∧ k_ ≠ gb279 ∧ k_ ≠ s_.2) (.slice Ao26 t280.length co26) t280) ∧ (Kd.V (Kd.int .u64) 57 w' w.heap.size (fun k_ => k_ ≠ gb278 ∧ k_ ≠ gb279 ∧ k_ ≠ s_.2) (.slice Ao27 t283.length co27) t283) ∧ (Kd.V (Kd.int .u64) 57 w' w.heap.size (fun k_ => k_ ≠ gb278 ∧ k_ ≠ gb279 ∧ k_ ≠ s_.2) s_.1 t287) ∧ (w'.heap[gb278]? = some (.cells #[.bool t270, .slice Ao18 t271.length co18] 51 (0, 0))) ∧ (w'.heap[gb279]? = some (.cells #[.bool t274, .slice Ao21 t275.length co21] 51 (0, 0))) ∧ (w'.heap[s_.2]? = some (.cells #[.bool false, .slice none 0 0] 51 (0, 0))) ∧ (w.heap.size ≤ s_.2) ∧ (w.heap.size ≤ s_.2) ∧ (gb278 ≠ s_.2) ∧ (s_.2 ≠ gb278) ∧ (gb279 ≠ s_.2) ∧ (s_.2 ≠ gb279) ∧ (Below w.heap.size w w')) ?_ ?_
        rotate_left
        ·intro hJ6_11
         refine join_ (σ := Value × Nat) 4 #[true, true, true, true, true, true, true, true, true, true, false, false, true, false, false] (fun s_ => [(41, .agg #[.bool t286, s_.1]), (12, .pointer (some ⟨s_.2, 0, none⟩))]) (fun s_ w' => (w'.cell? ⟨gb278, 0, none⟩ = some (.bool t270) ∧ w'.cell? ⟨gb278, 1, none⟩ = some (.slice Ao18 t271.length co18) ∧ w'.cell? ⟨gb279, 0, none⟩ = some (.bool t274) ∧ w'.cell? ⟨gb279, 1, none⟩ = some (.slice Ao21 t275.length co21)) ∧ (Kd.V (Kd.int .u64) 57 w' w.heap.size (fun k_ => k_ ≠ gb278 ∧ k_ ≠ gb279 ∧ k_ ≠ s_.2) (.slice Ao18 t271.length co18) t271) ∧ (Kd.V (Kd.int .u64) 57 w' w.heap.size (fun k_ => k_ ≠ gb278 ∧ k_ ≠ gb279 ∧ k_ ≠ s_.2) (.slice Ao21 t275.length co21) t275) ∧ (Kd.V (Kd.int .u64) 57 w' w.heap.size (fun k_ => k_ ≠ gb278 ∧ k_ ≠ gb279 ∧ k_ ≠ s_.2) (.slice Ao26 t280.length co26) t280) ∧ (Kd.V (Kd.int .u64) 57 w' w.heap.size (fun k_ => k_ ≠ gb278 ∧ k_ ≠ gb279 ∧ k_ ≠ s_.2) (.slice Ao27 t283.length co27) t283) ∧ (Kd.V (Kd.int .u64) 57 w' w.heap.size (fun k_ => k_ ≠ gb278 ∧ k_ ≠ gb279 ∧ k_ ≠ s_.2) s_.1 t287) ∧ (w'.heap[gb278]? = some (.cells #[.bool t270, .slice Ao18 t271.length co18] 51 (0, 0))) ∧ (w'.heap[gb279]? = some (.cells #[.bool t274, .slice Ao21 t275.length co21] 51 (0, 0))) ∧ (w'.heap[s_.2]? = some (.cells #[.bool false, .slice none 0 0] 51 (0, 0))) ∧ (w.heap.size ≤ s_.2) ∧ (w.heap.size ≤ s_.2) ∧ (gb278 ≠ s_.2) ∧ (s_.2 ≠ gb278) ∧ (gb279 ≠ s_.2) ∧ (s_.2 ≠ gb279) ∧ (Below w.heap.size w w')) ?_ ?_
         rotate_left
         ·intro hJ6_12
          refine join_ (σ := Nat × Nat) 4 #[true, true, true, true, true, true, false, true, true, true, false, true, true, false, false] (fun s_ => [(11, .pointer (some ⟨s_.1, 0, none⟩)), (12, .pointer (some ⟨s_.2, 0, none⟩))]) (fun s_ w' => (w'.cell? ⟨gb278, 0, none⟩ = some (.bool t270) ∧ w'.cell? ⟨gb278, 1, none⟩ = some (.slice Ao18 t271.length co18) ∧ w'.cell? ⟨gb279, 0, none⟩ = some (.bool t274) ∧ w'.cell? ⟨gb279, 1, none⟩ = some (.slice Ao21 t275.length co21)) ∧ (Kd.V (Kd.int .u64) 57 w' w.heap.size (fun k_ => k_ ≠ gb278 ∧ k_ ≠ gb279 ∧ k_ ≠ s_.1 ∧ k_ ≠ s_.2) (.slice Ao18 t271.length co18) t271) ∧ (Kd.V (Kd.int .u64) 57 w' w.heap.size (fun k_ => k_ ≠ gb278 ∧ k_ ≠ gb279 ∧ k_ ≠ s_.1 ∧ k_ ≠ s_.2) (.slice Ao21 t275.length co21) t275) ∧ (Kd.V (Kd.int .u64) 57 w' w.heap.size (fun k_ => k_ ≠ gb278 ∧ k_ ≠ gb279 ∧ k_ ≠ s_.1 ∧ k_ ≠ s_.2) (.slice Ao26 t280.length co26) t280) ∧ (Kd.V (Kd.int .u64) 57 w' w.heap.size (fun k_ => k_ ≠ gb278 ∧ k_ ≠ gb279 ∧ k_ ≠ s_.1 ∧ k_ ≠ s_.2) (.slice Ao27 t283.length co27) t283) ∧ (w'.heap[gb278]? = some (.cells #[.bool t270, .slice Ao18 t271.length co18] 51 (0, 0))) ∧ (w'.heap[gb279]? = some (.cells #[.bool t274, .slice Ao21 t275.length co21] 51 (0, 0))) ∧ (w'.heap[s_.1]? = some (.cells #[.bool false, .slice none 0 0] 51 (0, 0))) ∧ (w'.heap[s_.2]? = some (.cells #[.bool false, .slice none 0 0] 51 (0, 0))) ∧ (w.heap.size ≤ s_.1) ∧ (w.heap.size ≤ s_.1) ∧ (gb278 ≠ s_.1) ∧ (s_.1 ≠ gb278) ∧ (gb279 ≠ s_.1) ∧ (s_.1 ≠ gb279) ∧ (s_.2 ≠ s_.1) ∧ (s_.1 ≠ s_.2) ∧ (w.heap.size ≤ s_.2) ∧ (w.heap.size ≤ s_.2) ∧ (gb278 ≠ s_.2) ∧ (s_.2 ≠ gb278) ∧ (gb279 ≠ s_.2) ∧ (s_.2 ≠ gb279) ∧ (Below w.heap.size w w')) ?_ ?_
          rotate_left
          ·intro hJ11_12
           refine join_ (σ := Value) 5 #[true, true, true, true, true, true, true, true, true, true, false, false, false, false, false] (fun s_ => [(41, .agg #[.bool t286, s_])]) (fun s_ w' => (w'.cell? ⟨gb278, 0, none⟩ = some (.bool t270) ∧ w'.cell? ⟨gb278, 1, none⟩ = some (.slice Ao18 t271.length co18) ∧ w'.cell? ⟨gb279, 0, none⟩ = some (.bool t274) ∧ w'.cell? ⟨gb279, 1, none⟩ = some (.slice Ao21 t275.length co21)) ∧ (Kd.V (Kd.int .u64) 57 w' w.heap.size (fun k_ => k_ ≠ gb278 ∧ k_ ≠ gb279) (.slice Ao18 t271.length co18) t271) ∧ (Kd.V (Kd.int .u64) 57 w' w.heap.size (fun k_ => k_ ≠ gb278 ∧ k_ ≠ gb279) (.slice Ao21 t275.length co21) t275) ∧ (Kd.V (Kd.int .u64) 57 w' w.heap.size (fun k_ => k_ ≠ gb278 ∧ k_ ≠ gb279) (.slice Ao26 t280.length co26) t280) ∧ (Kd.V (Kd.int .u64) 57 w' w.heap.size (fun k_ => k_ ≠ gb278 ∧ k_ ≠ gb279) (.slice Ao27 t283.length co27) t283) ∧ (Kd.V (Kd.int .u64) 57 w' w.heap.size (fun k_ => k_ ≠ gb278 ∧ k_ ≠ gb279) s_ t287) ∧ (w'.heap[gb278]? = some (.cells #[.bool t270, .slice Ao18 t271.length co18] 51 (0, 0))) ∧ (w'.heap[gb279]? = some (.cells #[.bool t274, .slice Ao21 t275.length co21] 51 (0, 0))) ∧ (Below w.heap.size w w')) ?_ ?_
           rotate_left
           ·intro hJ6
            refine join_ (σ := Nat) 5 #[true, true, true, true, true, true, false, true, true, true, false, true, false, false, false] (fun s_ => [(11, .pointer (some ⟨s_, 0, none⟩))]) (fun s_ w' => (w'.cell? ⟨gb278, 0, none⟩ = some (.bool t270) ∧ w'.cell? ⟨gb278, 1, none⟩ = some (.slice Ao18 t271.length co18) ∧ w'.cell? ⟨gb279, 0, none⟩ = some (.bool t274) ∧ w'.cell? ⟨gb279, 1, none⟩ = some (.slice Ao21 t275.length co21)) ∧ (Kd.V (Kd.int .u64) 57 w' w.heap.size (fun k_ => k_ ≠ gb278 ∧ k_ ≠ gb279 ∧ k_ ≠ s_) (.slice Ao18 t271.length co18) t271) ∧ (Kd.V (Kd.int .u64) 57 w' w.heap.size (fun k_ => k_ ≠ gb278 ∧ k_ ≠ gb279 ∧ k_ ≠ s_) (.slice Ao21 t275.length co21) t275) ∧ (Kd.V (Kd.int .u64) 57 w' w.heap.size (fun k_ => k_ ≠ gb278 ∧ k_ ≠ gb279 ∧ k_ ≠ s_) (.slice Ao26 t280.length co26) t280) ∧ (Kd.V (Kd.int .u64) 57 w' w.heap.size (fun k_ => k_ ≠ gb278 ∧ k_ ≠ gb279 ∧ k_ ≠ s_) (.slice Ao27 t283.length co27) t283) ∧ (w'.heap[gb278]? = some (.cells #[.bool t270, .slice Ao18 t271.length co18] 51 (0, 0))) ∧ (w'.heap[gb279]? = some (.cells #[.bool t274, .slice Ao21 t275.length co21] 51 (0, 0))) ∧ (w'.heap[s_]? = some (.cells #[.bool false, .slice none 0 0] 51 (0, 0))) ∧ (w.heap.size ≤ s_) ∧ (w.heap.size ≤ s_) ∧ (gb278 ≠ s_) ∧ (s_ ≠ gb278) ∧ (gb279 ≠ s_) ∧ (s_ ≠ gb279) ∧ (Below w.heap.size w w')) ?_ ?_
            rotate_left
            ·intro hJ11
             refine join_ (σ := Nat) 5 #[true, true, true, true, true, true, false, true, true, true, false, false, true, false, false] (fun s_ => [(12, .pointer (some ⟨s_, 0, none⟩))]) (fun s_ w' => (w'.cell? ⟨gb278, 0, none⟩ = some (.bool t270) ∧ w'.cell? ⟨gb278, 1, none⟩ = some (.slice Ao18 t271.length co18) ∧ w'.cell? ⟨gb279, 0, none⟩ = some (.bool t274) ∧ w'.cell? ⟨gb279, 1, none⟩ = some (.slice Ao21 t275.length co21)) ∧ (Kd.V (Kd.int .u64) 57 w' w.heap.size (fun k_ => k_ ≠ gb278 ∧ k_ ≠ gb279 ∧ k_ ≠ s_) (.slice Ao18 t271.length co18) t271) ∧ (Kd.V (Kd.int .u64) 57 w' w.heap.size (fun k_ => k_ ≠ gb278 ∧ k_ ≠ gb279 ∧ k_ ≠ s_) (.slice Ao21 t275.length co21) t275) ∧ (Kd.V (Kd.int .u64) 57 w' w.heap.size (fun k_ => k_ ≠ gb278 ∧ k_ ≠ gb279 ∧ k_ ≠ s_) (.slice Ao26 t280.length co26) t280) ∧ (Kd.V (Kd.int .u64) 57 w' w.heap.size (fun k_ => k_ ≠ gb278 ∧ k_ ≠ gb279 ∧ k_ ≠ s_) (.slice Ao27 t283.length co27) t283) ∧ (w'.heap[gb278]? = some (.cells #[.bool t270, .slice Ao18 t271.length co18] 51 (0, 0))) ∧ (w'.heap[gb279]? = some (.cells #[.bool t274, .slice Ao21 t275.length co21] 51 (0, 0))) ∧ (w'.heap[s_]? = some (.cells #[.bool false, .slice none 0 0] 51 (0, 0))) ∧ (w.heap.size ≤ s_) ∧ (w.heap.size ≤ s_) ∧ (gb278 ≠ s_) ∧ (s_ ≠ gb278) ∧ (gb279 ≠ s_) ∧ (s_ ≠ gb279) ∧ (Below w.heap.size w w')) ?_ ?_
             rotate_left
             ·intro hJ12
              refine three_ (i := 6) (j := 11) (k := 12) (Ni := some 41) (Nj := some 11) (Nk := some 12) #[true, true, true, true, true, true, true, true, true, true, false, false, false, false, false] #[true, true, true, true, true, true, false, true, true, true, false, true, false, false, false] #[true, true, true, true, true, true, false, true, true, true, false, false, true, false, false] rfl rfl rfl rfl rfl rfl (three_of HT_.out (by kernel_rfl)) (by decide) (by decide) (by decide) (fun K hK => ?_) (fun K hK => ?_) (fun K hK => ?_)
              ·skip
               refine goes_ Tryd.func38 (by kernel_rfl) rfl #[.bool (t270 != t274), .slice Ao26 t280.length co26] (by rfl) rfl rfl ag ?_
               with_reducible refine (integer_signed.calls (t270 != t274) (fun k_ => (k_ ≠ gb278 ∧ k_ ≠ gb279)) _ _ t280 t286 t287 _ ?side1 ?side2 A9.out).mono ?_
               (case side1 => exact GOK.below hG.out bel)
               (case side2 => exact HO282.out)
               rintro e w29 ⟨v288, rfl, ho0, hb⟩
               refine ⟨_, rfl, ?_⟩
               have HO289 := Aside0.mk (Kd.V_lower (Kd.V_mono (ok' := fun k_ => k_ ≠ gb278 ∧ k_ ≠ gb279) ho0 (fun k_ hk_ => ⟨Or.elim hk_ (fun hs_ => hs_.1) (fun hn_ => (Kd.freshB (bk BK278.out) k_ hn_)), Or.elim hk_ (fun hs_ => hs_.2) (fun hn_ => (Kd.freshB (bk BK279.out) k_ hn_))⟩)) (below_size bel))
               replace HO273 := Aside0.mk (Kd.V_below (kv HO273.out) hb)
               replace HO277 := Aside0.mk (Kd.V_below (kv HO277.out) hb)
               replace HO282 := Aside0.mk (Kd.V_below (kv HO282.out) hb)
               replace HO285 := Aside0.mk (Kd.V_below (kv HO285.out) hb)
               replace BK278 := Aside0.mk (blk_below (bk BK278.out) hb)
               replace BK279 := Aside0.mk (blk_below (bk BK279.out) hb)
               replace HB := Aside0.mk (below_step bel hb)
               clear hb ho0
               refine hK.out _ _ ⟨(blk_cell BK278.out 0).trans rfl, (blk_cell BK278.out 1).trans rfl, (blk_cell BK279.out 0).trans rfl, (blk_cell BK279.out 1).trans rfl⟩ (fun hHeld => ?_)
               clear hK K
               refine norm_ nm ?_
               exact norm_ pa (hJ6 (v288) _ ⟨hHeld, (kv HO273.out), (kv HO277.out), (kv HO282.out), (kv HO285.out), (kv HO289.out), (bk BK278.out), (bk BK279.out), bel⟩)
              ·skip
               refine box_step ?hg (N := 11) ?hd (cs := #[.bool false, .slice none 0 0]) (t := 51) ?hr ?_; (case hd => rfl); (case hg => rfl); (case hr => first | (go_simp; done) | (go_simp; rfl))
               intro gb294 hg w29 hbox hb
               have BK294 := Aside0.mk (hbox)
               have GW294 := Aside0.mk ((by rw [hg]; exact (below_size bel) : w.heap.size ≤ gb294))
               have GE294 := Aside0.mk ((by rw [hg]; exact (below_size bel) : w.heap.size ≤ gb294))
               have NB278_294 := Aside0.mk ((by rw [hg]; exact Nat.ne_of_lt (blk_lt (bk BK278.out)) : gb278 ≠ gb294))
               have NB294_278 := Aside0.mk ((by rw [hg]; exact Nat.ne_of_gt (blk_lt (bk BK278.out)) : gb294 ≠ gb278))
               have NB279_294 := Aside0.mk ((by rw [hg]; exact Nat.ne_of_lt (blk_lt (bk BK279.out)) : gb279 ≠ gb294))
               have NB294_279 := Aside0.mk ((by rw [hg]; exact Nat.ne_of_gt (blk_lt (bk BK279.out)) : gb294 ≠ gb279))
               replace HO273 := Aside0.mk (Kd.V_below (Kd.V_elderB (kv HO273.out) gb294 (Nat.le_of_eq hg.symm)) hb)
               replace HO277 := Aside0.mk (Kd.V_below (Kd.V_elderB (kv HO277.out) gb294 (Nat.le_of_eq hg.symm)) hb)
               replace HO282 := Aside0.mk (Kd.V_below (Kd.V_elderB (kv HO282.out) gb294 (Nat.le_of_eq hg.symm)) hb)
               replace HO285 := Aside0.mk (Kd.V_below (Kd.V_elderB (kv HO285.out) gb294 (Nat.le_of_eq hg.symm)) hb)
               replace BK278 := Aside0.mk (blk_below (bk BK278.out) hb)
               replace BK279 := Aside0.mk (blk_below (bk BK279.out) hb)
               replace HB := Aside0.mk (below_step bel hb)
               clear hb hbox hg
               refine hK.out _ _ ⟨(blk_cell BK278.out 0).trans rfl, (blk_cell BK278.out 1).trans rfl, (blk_cell BK279.out 0).trans rfl, (blk_cell BK279.out 1).trans rfl⟩ (fun hHeld => ?_)
               clear hK K
               refine norm_ nm ?_
               exact norm_ pa (hJ11 (gb294) _ ⟨hHeld, (kv (Kd.V_mono HO273.out (fun _ hk => ⟨hk.1.1, ⟨hk.1.2, hk.2⟩⟩))), (kv (Kd.V_mono HO277.out (fun _ hk => ⟨hk.1.1, ⟨hk.1.2, hk.2⟩⟩))), (kv (Kd.V_mono HO282.out (fun _ hk => ⟨hk.1.1, ⟨hk.1.2, hk.2⟩⟩))), (kv (Kd.V_mono HO285.out (fun _ hk => ⟨hk.1.1, ⟨hk.1.2, hk.2⟩⟩))), (bk BK278.out), (bk BK279.out), (bk BK294.out), GW294.out, GE294.out, NB278_294.out, NB294_278.out, NB279_294.out, NB294_279.out, bel⟩)
              ·skip
               refine box_step ?hg (N := 12) ?hd (cs := #[.bool false, .slice none 0 0]) (t := 51) ?hr ?_; (case hd => rfl); (case hg => rfl); (case hr => first | (go_simp; done) | (go_simp; rfl))
               intro gb295 hg w29 hbox hb
               have BK295 := Aside0.mk (hbox)
               have GW295 := Aside0.mk ((by rw [hg]; exact (below_size bel) : w.heap.size ≤ gb295))
               have GE295 := Aside0.mk ((by rw [hg]; exact (below_size bel) : w.heap.size ≤ gb295))
               have NB278_295 := Aside0.mk ((by rw [hg]; exact Nat.ne_of_lt (blk_lt (bk BK278.out)) : gb278 ≠ gb295))
               have NB295_278 := Aside0.mk ((by rw [hg]; exact Nat.ne_of_gt (blk_lt (bk BK278.out)) : gb295 ≠ gb278))
               have NB279_295 := Aside0.mk ((by rw [hg]; exact Nat.ne_of_lt (blk_lt (bk BK279.out)) : gb279 ≠ gb295))
               have NB295_279 := Aside0.mk ((by rw [hg]; exact Nat.ne_of_gt (blk_lt (bk BK279.out)) : gb295 ≠ gb279))
               replace HO273 := Aside0.mk (Kd.V_below (Kd.V_elderB (kv HO273.out) gb295 (Nat.le_of_eq hg.symm)) hb)
               replace HO277 := Aside0.mk (Kd.V_below (Kd.V_elderB (kv HO277.out) gb295 (Nat.le_of_eq hg.symm)) hb)
               replace HO282 := Aside0.mk (Kd.V_below (Kd.V_elderB (kv HO282.out) gb295 (Nat.le_of_eq hg.symm)) hb)
               replace HO285 := Aside0.mk (Kd.V_below (Kd.V_elderB (kv HO285.out) gb295 (Nat.le_of_eq hg.symm)) hb)
               replace BK278 := Aside0.mk (blk_below (bk BK278.out) hb)
               replace BK279 := Aside0.mk (blk_below (bk BK279.out) hb)
               replace HB := Aside0.mk (below_step bel hb)
               clear hb hbox hg
               refine hK.out _ _ ⟨(blk_cell BK278.out 0).trans rfl, (blk_cell BK278.out 1).trans rfl, (blk_cell BK279.out 0).trans rfl, (blk_cell BK279.out 1).trans rfl⟩ (fun hHeld => ?_)
               clear hK K
               refine norm_ nm ?_
               exact norm_ pa (hJ12 (gb295) _ ⟨hHeld, (kv (Kd.V_mono HO273.out (fun _ hk => ⟨hk.1.1, ⟨hk.1.2, hk.2⟩⟩))), (kv (Kd.V_mono HO277.out (fun _ hk => ⟨hk.1.1, ⟨hk.1.2, hk.2⟩⟩))), (kv (Kd.V_mono HO282.out (fun _ hk => ⟨hk.1.1, ⟨hk.1.2, hk.2⟩⟩))), (kv (Kd.V_mono HO285.out (fun _ hk => ⟨hk.1.1, ⟨hk.1.2, hk.2⟩⟩))), (bk BK278.out), (bk BK279.out), (bk BK295.out), GW295.out, GE295.out, NB278_295.out, NB295_278.out, NB279_295.out, NB295_279.out, bel⟩)
             ·skip
              rintro gb295 w30 ⟨hS_, h0_, h1_, h2_, h3_, h4_, h5_, h6_, h7_, h8_, h9_, h10_, h11_, h12_, h13_⟩
              try dsimp only at h0_ h1_ h2_ h3_ h4_ h5_ h6_ h7_ h8_ h9_ h10_ h11_ h12_ h13_
              clear HO273 HO277 HO282 HO285 BK278 BK279 HB
              have HO273 := Aside0.mk h0_
              have HO277 := Aside0.mk h1_
              have HO282 := Aside0.mk h2_
              have HO285 := Aside0.mk h3_
              have BK278 := Aside0.mk h4_
              have BK279 := Aside0.mk h5_
              have BK295 := Aside0.mk h6_
              have GW295 := Aside0.mk h7_
              have GE295 := Aside0.mk h8_
              have NB278_295 := Aside0.mk h9_
              have NB295_278 := Aside0.mk h10_
              have NB279_295 := Aside0.mk h11_
              have NB295_279 := Aside0.mk h12_
              have HB := Aside0.mk h13_
              clear h0_ h1_ h2_ h3_ h4_ h5_ h6_ h7_ h8_ h9_ h10_ h11_ h12_ h13_
              have hHeld : w30.cell? ⟨gb278, 0, none⟩ = some (.bool t270) ∧ w30.cell? ⟨gb278, 1, none⟩ = some (.slice Ao18 t271.length co18) ∧ w30.cell? ⟨gb279, 0, none⟩ = some (.bool t274) ∧ w30.cell? ⟨gb279, 1, none⟩ = some (.slice Ao21 t275.length co21) := hS_
              refine norm_ np ?_
              refine two_ (i := 6) (j := 11) (Ni := some 41) (Nj := some 11) #[true, true, true, true, true, true, true, true, true, true, false, false, true, false, false] #[true, true, true, true, true, true, false, true, true, true, false, true, true, false, false] rfl rfl rfl rfl (two_of HT_.out (by kernel_rfl)) (by decide) (by decide) (fun K hK => ?_) (fun K hK => ?_)
              ·skip
               refine goes_ Tryd.func38 (by kernel_rfl) rfl #[.bool (t270 != t274), .slice Ao26 t280.length co26] (by rfl) rfl rfl ag ?_
               with_reducible refine (integer_signed.calls (t270 != t274) (fun k_ => (k_ ≠ gb278 ∧ (k_ ≠ gb279 ∧ k_ ≠ gb295))) _ _ t280 t286 t287 _ ?side1 ?side2 A9.out).mono ?_
               (case side1 => exact GOK.below hG.out bel)
               (case side2 => exact HO282.out)
               rintro e w31 ⟨v288, rfl, ho0, hb⟩
               refine ⟨_, rfl, ?_⟩
               have HO289 := Aside0.mk (Kd.V_lower (Kd.V_mono (ok' := fun k_ => k_ ≠ gb278 ∧ k_ ≠ gb279 ∧ k_ ≠ gb295) ho0 (fun k_ hk_ => ⟨Or.elim hk_ (fun hs_ => hs_.1) (fun hn_ => (Kd.freshB (bk BK278.out) k_ hn_)), Or.elim hk_ (fun hs_ => hs_.2.1) (fun hn_ => (Kd.freshB (bk BK279.out) k_ hn_)), Or.elim hk_ (fun hs_ => hs_.2.2) (fun hn_ => (Kd.freshB (bk BK295.out) k_ hn_))⟩)) (below_size bel))
               replace HO273 := Aside0.mk (Kd.V_below (kv HO273.out) hb)
               replace HO277 := Aside0.mk (Kd.V_below (kv HO277.out) hb)
               replace HO282 := Aside0.mk (Kd.V_below (kv HO282.out) hb)
               replace HO285 := Aside0.mk (Kd.V_below (kv HO285.out) hb)
               replace BK278 := Aside0.mk (blk_below (bk BK278.out) hb)
               replace BK279 := Aside0.mk (blk_below (bk BK279.out) hb)
               replace BK295 := Aside0.mk (blk_below (bk BK295.out) hb)
               replace HB := Aside0.mk (below_step bel hb)
               clear hb ho0
               refine hK.out _ _ ⟨(blk_cell BK278.out 0).trans rfl, (blk_cell BK278.out 1).trans rfl, (blk_cell BK279.out 0).trans rfl, (blk_cell BK279.out 1).trans rfl⟩ (fun hHeld => ?_)
               clear hK K
               refine norm_ nm ?_
               exact norm_ pa (hJ6_12 (v288, gb295) _ ⟨hHeld, (kv HO273.out), (kv HO277.out), (kv HO282.out), (kv HO285.out), (kv HO289.out), (bk BK278.out), (bk BK279.out), (bk BK295.out), GW295.out, GE295.out, NB278_295.out, NB295_278.out, NB279_295.out, NB295_279.out, bel⟩)
              ·skip
               refine box_step ?hg (N := 11) ?hd (cs := #[.bool false, .slice none 0 0]) (t := 51) ?hr ?_; (case hd => rfl); (case hg => rfl); (case hr => first | (go_simp; done) | (go_simp; rfl))
               intro gb294 hg w31 hbox hb
               have BK294 := Aside0.mk (hbox)
               have GW294 := Aside0.mk ((by rw [hg]; exact (below_size bel) : w.heap.size ≤ gb294))
               have GE294 := Aside0.mk ((by rw [hg]; exact (below_size bel) : w.heap.size ≤ gb294))
               have NB278_294 := Aside0.mk ((by rw [hg]; exact Nat.ne_of_lt (blk_lt (bk BK278.out)) : gb278 ≠ gb294))
               have NB294_278 := Aside0.mk ((by rw [hg]; exact Nat.ne_of_gt (blk_lt (bk BK278.out)) : gb294 ≠ gb278))
               have NB279_294 := Aside0.mk ((by rw [hg]; exact Nat.ne_of_lt (blk_lt (bk BK279.out)) : gb279 ≠ gb294))
               have NB294_279 := Aside0.mk ((by rw [hg]; exact Nat.ne_of_gt (blk_lt (bk BK279.out)) : gb294 ≠ gb279))
               have NB295_294 := Aside0.mk ((by rw [hg]; exact Nat.ne_of_lt (blk_lt (bk BK295.out)) : gb295 ≠ gb294))
               have NB294_295 := Aside0.mk ((by rw [hg]; exact Nat.ne_of_gt (blk_lt (bk BK295.out)) : gb294 ≠ gb295))
               replace HO273 := Aside0.mk (Kd.V_below (Kd.V_elderB (kv HO273.out) gb294 (Nat.le_of_eq hg.symm)) hb)
               replace HO277 := Aside0.mk (Kd.V_below (Kd.V_elderB (kv HO277.out) gb294 (Nat.le_of_eq hg.symm)) hb)
               replace HO282 := Aside0.mk (Kd.V_below (Kd.V_elderB (kv HO282.out) gb294 (Nat.le_of_eq hg.symm)) hb)
               replace HO285 := Aside0.mk (Kd.V_below (Kd.V_elderB (kv HO285.out) gb294 (Nat.le_of_eq hg.symm)) hb)
               replace BK278 := Aside0.mk (blk_below (bk BK278.out) hb)
               replace BK279 := Aside0.mk (blk_below (bk BK279.out) hb)
               replace BK295 := Aside0.mk (blk_below (bk BK295.out) hb)
               replace HB := Aside0.mk (below_step bel hb)
               clear hb hbox hg
               refine hK.out _ _ ⟨(blk_cell BK278.out 0).trans rfl, (blk_cell BK278.out 1).trans rfl, (blk_cell BK279.out 0).trans rfl, (blk_cell BK279.out 1).trans rfl⟩ (fun hHeld => ?_)
               clear hK K
               refine norm_ nm ?_
               exact norm_ pa (hJ11_12 (gb294, gb295) _ ⟨hHeld, (kv (Kd.V_mono HO273.out (fun _ hk => ⟨hk.1.1, ⟨hk.1.2.1, ⟨hk.2, hk.1.2.2⟩⟩⟩))), (kv (Kd.V_mono HO277.out (fun _ hk => ⟨hk.1.1, ⟨hk.1.2.1, ⟨hk.2, hk.1.2.2⟩⟩⟩))), (kv (Kd.V_mono HO282.out (fun _ hk => ⟨hk.1.1, ⟨hk.1.2.1, ⟨hk.2, hk.1.2.2⟩⟩⟩))), (kv (Kd.V_mono HO285.out (fun _ hk => ⟨hk.1.1, ⟨hk.1.2.1, ⟨hk.2, hk.1.2.2⟩⟩⟩))), (bk BK278.out), (bk BK279.out), (bk BK294.out), (bk BK295.out), GW294.out, GE294.out, NB278_294.out, NB294_278.out, NB279_294.out, NB294_279.out, NB295_294.out, NB294_295.out, GW295.out, GE295.out, NB278_295.out, NB295_278.out, NB279_295.out, NB295_279.out, bel⟩)
            ·skip
             rintro gb294 w30 ⟨hS_, h0_, h1_, h2_, h3_, h4_, h5_, h6_, h7_, h8_, h9_, h10_, h11_, h12_, h13_⟩
             try dsimp only at h0_ h1_ h2_ h3_ h4_ h5_ h6_ h7_ h8_ h9_ h10_ h11_ h12_ h13_
             clear HO273 HO277 HO282 HO285 BK278 BK279 HB
             have HO273 := Aside0.mk h0_
             have HO277 := Aside0.mk h1_
             have HO282 := Aside0.mk h2_
             have HO285 := Aside0.mk h3_
             have BK278 := Aside0.mk h4_
             have BK279 := Aside0.mk h5_
             have BK294 := Aside0.mk h6_
             have GW294 := Aside0.mk h7_
             have GE294 := Aside0.mk h8_
             have NB278_294 := Aside0.mk h9_
             have NB294_278 := Aside0.mk h10_
             have NB279_294 := Aside0.mk h11_
             have NB294_279 := Aside0.mk h12_
             have HB := Aside0.mk h13_
             clear h0_ h1_ h2_ h3_ h4_ h5_ h6_ h7_ h8_ h9_ h10_ h11_ h12_ h13_
             have hHeld : w30.cell? ⟨gb278, 0, none⟩ = some (.bool t270) ∧ w30.cell? ⟨gb278, 1, none⟩ = some (.slice Ao18 t271.length co18) ∧ w30.cell? ⟨gb279, 0, none⟩ = some (.bool t274) ∧ w30.cell? ⟨gb279, 1, none⟩ = some (.slice Ao21 t275.length co21) := hS_
             refine norm_ np ?_
             refine two_ (i := 6) (j := 12) (Ni := some 41) (Nj := some 12) #[true, true, true, true, true, true, true, true, true, true, false, true, false, false, false] #[true, true, true, true, true, true, false, true, true, true, false, true, true, false, false] rfl rfl rfl rfl (two_of HT_.out (by kernel_rfl)) (by decide) (by decide) (fun K hK => ?_) (fun K hK => ?_)
             ·skip
              refine goes_ Tryd.func38 (by kernel_rfl) rfl #[.bool (t270 != t274), .slice Ao26 t280.length co26] (by rfl) rfl rfl ag ?_
              with_reducible refine (integer_signed.calls (t270 != t274) (fun k_ => (k_ ≠ gb278 ∧ (k_ ≠ gb279 ∧ k_ ≠ gb294))) _ _ t280 t286 t287 _ ?side1 ?side2 A9.out).mono ?_
              (case side1 => exact GOK.below hG.out bel)
              (case side2 => exact HO282.out)
              rintro e w31 ⟨v288, rfl, ho0, hb⟩
              refine ⟨_, rfl, ?_⟩
              have HO289 := Aside0.mk (Kd.V_lower (Kd.V_mono (ok' := fun k_ => k_ ≠ gb278 ∧ k_ ≠ gb279 ∧ k_ ≠ gb294) ho0 (fun k_ hk_ => ⟨Or.elim hk_ (fun hs_ => hs_.1) (fun hn_ => (Kd.freshB (bk BK278.out) k_ hn_)), Or.elim hk_ (fun hs_ => hs_.2.1) (fun hn_ => (Kd.freshB (bk BK279.out) k_ hn_)), Or.elim hk_ (fun hs_ => hs_.2.2) (fun hn_ => (Kd.freshB (bk BK294.out) k_ hn_))⟩)) (below_size bel))
              replace HO273 := Aside0.mk (Kd.V_below (kv HO273.out) hb)
              replace HO277 := Aside0.mk (Kd.V_below (kv HO277.out) hb)
              replace HO282 := Aside0.mk (Kd.V_below (kv HO282.out) hb)
              replace HO285 := Aside0.mk (Kd.V_below (kv HO285.out) hb)
              replace BK278 := Aside0.mk (blk_below (bk BK278.out) hb)
              replace BK279 := Aside0.mk (blk_below (bk BK279.out) hb)
              replace BK294 := Aside0.mk (blk_below (bk BK294.out) hb)
              replace HB := Aside0.mk (below_step bel hb)
              clear hb ho0
              refine hK.out _ _ ⟨(blk_cell BK278.out 0).trans rfl, (blk_cell BK278.out 1).trans rfl, (blk_cell BK279.out 0).trans rfl, (blk_cell BK279.out 1).trans rfl⟩ (fun hHeld => ?_)
              clear hK K
              refine norm_ nm ?_
              exact norm_ pa (hJ6_11 (v288, gb294) _ ⟨hHeld, (kv HO273.out), (kv HO277.out), (kv HO282.out), (kv HO285.out), (kv HO289.out), (bk BK278.out), (bk BK279.out), (bk BK294.out), GW294.out, GE294.out, NB278_294.out, NB294_278.out, NB279_294.out, NB294_279.out, bel⟩)
             ·skip
              refine box_step ?hg (N := 12) ?hd (cs := #[.bool false, .slice none 0 0]) (t := 51) ?hr ?_; (case hd => rfl); (case hg => rfl); (case hr => first | (go_simp; done) | (go_simp; rfl))
              intro gb295 hg w31 hbox hb
              have BK295 := Aside0.mk (hbox)
              have GW295 := Aside0.mk ((by rw [hg]; exact (below_size bel) : w.heap.size ≤ gb295))
              have GE295 := Aside0.mk ((by rw [hg]; exact (below_size bel) : w.heap.size ≤ gb295))
              have NB278_295 := Aside0.mk ((by rw [hg]; exact Nat.ne_of_lt (blk_lt (bk BK278.out)) : gb278 ≠ gb295))
              have NB295_278 := Aside0.mk ((by rw [hg]; exact Nat.ne_of_gt (blk_lt (bk BK278.out)) : gb295 ≠ gb278))
              have NB279_295 := Aside0.mk ((by rw [hg]; exact Nat.ne_of_lt (blk_lt (bk BK279.out)) : gb279 ≠ gb295))
              have NB295_279 := Aside0.mk ((by rw [hg]; exact Nat.ne_of_gt (blk_lt (bk BK279.out)) : gb295 ≠ gb279))
              have NB294_295 := Aside0.mk ((by rw [hg]; exact Nat.ne_of_lt (blk_lt (bk BK294.out)) : gb294 ≠ gb295))
              have NB295_294 := Aside0.mk ((by rw [hg]; exact Nat.ne_of_gt (blk_lt (bk BK294.out)) : gb295 ≠ gb294))
              replace HO273 := Aside0.mk (Kd.V_below (Kd.V_elderB (kv HO273.out) gb295 (Nat.le_of_eq hg.symm)) hb)
              replace HO277 := Aside0.mk (Kd.V_below (Kd.V_elderB (kv HO277.out) gb295 (Nat.le_of_eq hg.symm)) hb)
              replace HO282 := Aside0.mk (Kd.V_below (Kd.V_elderB (kv HO282.out) gb295 (Nat.le_of_eq hg.symm)) hb)
              replace HO285 := Aside0.mk (Kd.V_below (Kd.V_elderB (kv HO285.out) gb295 (Nat.le_of_eq hg.symm)) hb)
              replace BK278 := Aside0.mk (blk_below (bk BK278.out) hb)
              replace BK279 := Aside0.mk (blk_below (bk BK279.out) hb)
              replace BK294 := Aside0.mk (blk_below (bk BK294.out) hb)
              replace HB := Aside0.mk (below_step bel hb)
              clear hb hbox hg
              refine hK.out _ _ ⟨(blk_cell BK278.out 0).trans rfl, (blk_cell BK278.out 1).trans rfl, (blk_cell BK279.out 0).trans rfl, (blk_cell BK279.out 1).trans rfl⟩ (fun hHeld => ?_)
              clear hK K
              refine norm_ nm ?_
              exact norm_ pa (hJ11_12 (gb294, gb295) _ ⟨hHeld, (kv (Kd.V_mono HO273.out (fun _ hk => ⟨hk.1.1, ⟨hk.1.2.1, ⟨hk.1.2.2, hk.2⟩⟩⟩))), (kv (Kd.V_mono HO277.out (fun _ hk => ⟨hk.1.1, ⟨hk.1.2.1, ⟨hk.1.2.2, hk.2⟩⟩⟩))), (kv (Kd.V_mono HO282.out (fun _ hk => ⟨hk.1.1, ⟨hk.1.2.1, ⟨hk.1.2.2, hk.2⟩⟩⟩))), (kv (Kd.V_mono HO285.out (fun _ hk => ⟨hk.1.1, ⟨hk.1.2.1, ⟨hk.1.2.2, hk.2⟩⟩⟩))), (bk BK278.out), (bk BK279.out), (bk BK294.out), (bk BK295.out), GW294.out, GE294.out, NB278_294.out, NB294_278.out, NB279_294.out, NB294_279.out, NB295_294.out, NB294_295.out, GW295.out, GE295.out, NB278_295.out, NB295_278.out, NB279_295.out, NB295_279.out, bel⟩)
           ·skip
            rintro v288 w30 ⟨hS_, h0_, h1_, h2_, h3_, h4_, h5_, h6_, h7_⟩
            try dsimp only at h0_ h1_ h2_ h3_ h4_ h5_ h6_ h7_
            clear HO273 HO277 HO282 HO285 BK278 BK279 HB
            have HO273 := Aside0.mk h0_
            have HO277 := Aside0.mk h1_
            have HO282 := Aside0.mk h2_
            have HO285 := Aside0.mk h3_
            have HO289 := Aside0.mk h4_
            have BK278 := Aside0.mk h5_
            have BK279 := Aside0.mk h6_
            have HB := Aside0.mk h7_
            clear h0_ h1_ h2_ h3_ h4_ h5_ h6_ h7_
            have hHeld : w30.cell? ⟨gb278, 0, none⟩ = some (.bool t270) ∧ w30.cell? ⟨gb278, 1, none⟩ = some (.slice Ao18 t271.length co18) ∧ w30.cell? ⟨gb279, 0, none⟩ = some (.bool t274) ∧ w30.cell? ⟨gb279, 1, none⟩ = some (.slice Ao21 t275.length co21) := hS_
            refine norm_ np ?_
            refine three_ (i := 10) (j := 11) (k := 12) (Ni := some 45) (Nj := some 11) (Nk := some 12) #[true, true, true, true, true, true, true, true, true, true, true, false, false, false, false] #[true, true, true, true, true, true, true, true, true, true, false, true, false, false, false] #[true, true, true, true, true, true, true, true, true, true, false, false, true, false, false] rfl rfl rfl rfl rfl rfl (three_of HT_.out (by kernel_rfl)) (by decide) (by decide) (by decide) (fun K hK => ?_) (fun K hK => ?_) (fun K hK => ?_)
            ·skip
             refine goes_ Tryd.func38 (by kernel_rfl) rfl #[.bool t270, .slice Ao27 t283.length co27] (by rfl) rfl rfl ag ?_
             with_reducible refine (integer_signed.calls t270 (fun k_ => (k_ ≠ gb278 ∧ k_ ≠ gb279)) _ _ t283 t290 t291 _ ?side1 ?side2 A10.out).mono ?_
             (case side1 => exact GOK.below hG.out bel)
             (case side2 => exact HO285.out)
             rintro e w31 ⟨v292, rfl, ho0, hb⟩
             refine ⟨_, rfl, ?_⟩
             have HO293 := Aside0.mk (Kd.V_lower (Kd.V_mono (ok' := fun k_ => k_ ≠ gb278 ∧ k_ ≠ gb279) ho0 (fun k_ hk_ => ⟨Or.elim hk_ (fun hs_ => hs_.1) (fun hn_ => (Kd.freshB (bk BK278.out) k_ hn_)), Or.elim hk_ (fun hs_ => hs_.2) (fun hn_ => (Kd.freshB (bk BK279.out) k_ hn_))⟩)) (below_size bel))
             replace HO273 := Aside0.mk (Kd.V_below (kv HO273.out) hb)
             replace HO277 := Aside0.mk (Kd.V_below (kv HO277.out) hb)
             replace HO282 := Aside0.mk (Kd.V_below (kv HO282.out) hb)
             replace HO285 := Aside0.mk (Kd.V_below (kv HO285.out) hb)
             replace HO289 := Aside0.mk (Kd.V_below (kv HO289.out) hb)
             replace BK278 := Aside0.mk (blk_below (bk BK278.out) hb)
             replace BK279 := Aside0.mk (blk_below (bk BK279.out) hb)
             replace HB := Aside0.mk (below_step bel hb)
             clear hb ho0
             refine hK.out _ _ ⟨(blk_cell BK278.out 0).trans rfl, (blk_cell BK278.out 1).trans rfl, (blk_cell BK279.out 0).trans rfl, (blk_cell BK279.out 1).trans rfl⟩ (fun hHeld => ?_)
             clear hK K
             refine norm_ nm ?_
             exact norm_ pa (hJ6_10 (v288, v292) _ ⟨hHeld, (kv HO273.out), (kv HO277.out), (kv HO282.out), (kv HO285.out), (kv HO289.out), (kv HO293.out), (bk BK278.out), (bk BK279.out), bel⟩)
            ·skip
             refine box_step ?hg (N := 11) ?hd (cs := #[.bool false, .slice none 0 0]) (t := 51) ?hr ?_; (case hd => rfl); (case hg => rfl); (case hr => first | (go_simp; done) | (go_simp; rfl))
             intro gb294 hg w31 hbox hb
             have BK294 := Aside0.mk (hbox)
             have GW294 := Aside0.mk ((by rw [hg]; exact (below_size bel) : w.heap.size ≤ gb294))
             have GE294 := Aside0.mk ((by rw [hg]; exact (below_size bel) : w.heap.size ≤ gb294))
             have NB278_294 := Aside0.mk ((by rw [hg]; exact Nat.ne_of_lt (blk_lt (bk BK278.out)) : gb278 ≠ gb294))
             have NB294_278 := Aside0.mk ((by rw [hg]; exact Nat.ne_of_gt (blk_lt (bk BK278.out)) : gb294 ≠ gb278))
             have NB279_294 := Aside0.mk ((by rw [hg]; exact Nat.ne_of_lt (blk_lt (bk BK279.out)) : gb279 ≠ gb294))
             have NB294_279 := Aside0.mk ((by rw [hg]; exact Nat.ne_of_gt (blk_lt (bk BK279.out)) : gb294 ≠ gb279))
             replace HO273 := Aside0.mk (Kd.V_below (Kd.V_elderB (kv HO273.out) gb294 (Nat.le_of_eq hg.symm)) hb)
             replace HO277 := Aside0.mk (Kd.V_below (Kd.V_elderB (kv HO277.out) gb294 (Nat.le_of_eq hg.symm)) hb)
             replace HO282 := Aside0.mk (Kd.V_below (Kd.V_elderB (kv HO282.out) gb294 (Nat.le_of_eq hg.symm)) hb)
             replace HO285 := Aside0.mk (Kd.V_below (Kd.V_elderB (kv HO285.out) gb294 (Nat.le_of_eq hg.symm)) hb)
             replace HO289 := Aside0.mk (Kd.V_below (Kd.V_elderB (kv HO289.out) gb294 (Nat.le_of_eq hg.symm)) hb)
             replace BK278 := Aside0.mk (blk_below (bk BK278.out) hb)
             replace BK279 := Aside0.mk (blk_below (bk BK279.out) hb)
             replace HB := Aside0.mk (below_step bel hb)
             clear hb hbox hg
             refine hK.out _ _ ⟨(blk_cell BK278.out 0).trans rfl, (blk_cell BK278.out 1).trans rfl, (blk_cell BK279.out 0).trans rfl, (blk_cell BK279.out 1).trans rfl⟩ (fun hHeld => ?_)
             clear hK K
             refine norm_ nm ?_
             exact norm_ pa (hJ6_11 (v288, gb294) _ ⟨hHeld, (kv (Kd.V_mono HO273.out (fun _ hk => ⟨hk.1.1, ⟨hk.1.2, hk.2⟩⟩))), (kv (Kd.V_mono HO277.out (fun _ hk => ⟨hk.1.1, ⟨hk.1.2, hk.2⟩⟩))), (kv (Kd.V_mono HO282.out (fun _ hk => ⟨hk.1.1, ⟨hk.1.2, hk.2⟩⟩))), (kv (Kd.V_mono HO285.out (fun _ hk => ⟨hk.1.1, ⟨hk.1.2, hk.2⟩⟩))), (kv (Kd.V_mono HO289.out (fun _ hk => ⟨hk.1.1, ⟨hk.1.2, hk.2⟩⟩))), (bk BK278.out), (bk BK279.out), (bk BK294.out), GW294.out, GE294.out, NB278_294.out, NB294_278.out, NB279_294.out, NB294_279.out, bel⟩)
            ·skip
             refine box_step ?hg (N := 12) ?hd (cs := #[.bool false, .slice none 0 0]) (t := 51) ?hr ?_; (case hd => rfl); (case hg => rfl); (case hr => first | (go_simp; done) | (go_simp; rfl))
             intro gb295 hg w31 hbox hb
             have BK295 := Aside0.mk (hbox)
             have GW295 := Aside0.mk ((by rw [hg]; exact (below_size bel) : w.heap.size ≤ gb295))
             have GE295 := Aside0.mk ((by rw [hg]; exact (below_size bel) : w.heap.size ≤ gb295))
             have NB278_295 := Aside0.mk ((by rw [hg]; exact Nat.ne_of_lt (blk_lt (bk BK278.out)) : gb278 ≠ gb295))
             have NB295_278 := Aside0.mk ((by rw [hg]; exact Nat.ne_of_gt (blk_lt (bk BK278.out)) : gb295 ≠ gb278))
             have NB279_295 := Aside0.mk ((by rw [hg]; exact Nat.ne_of_lt (blk_lt (bk BK279.out)) : gb279 ≠ gb295))
             have NB295_279 := Aside0.mk ((by rw [hg]; exact Nat.ne_of_gt (blk_lt (bk BK279.out)) : gb295 ≠ gb279))
             replace HO273 := Aside0.mk (Kd.V_below (Kd.V_elderB (kv HO273.out) gb295 (Nat.le_of_eq hg.symm)) hb)
             replace HO277 := Aside0.mk (Kd.V_below (Kd.V_elderB (kv HO277.out) gb295 (Nat.le_of_eq hg.symm)) hb)
             replace HO282 := Aside0.mk (Kd.V_below (Kd.V_elderB (kv HO282.out) gb295 (Nat.le_of_eq hg.symm)) hb)
             replace HO285 := Aside0.mk (Kd.V_below (Kd.V_elderB (kv HO285.out) gb295 (Nat.le_of_eq hg.symm)) hb)
             replace HO289 := Aside0.mk (Kd.V_below (Kd.V_elderB (kv HO289.out) gb295 (Nat.le_of_eq hg.symm)) hb)
             replace BK278 := Aside0.mk (blk_below (bk BK278.out) hb)
             replace BK279 := Aside0.mk (blk_below (bk BK279.out) hb)
             replace HB := Aside0.mk (below_step bel hb)
             clear hb hbox hg
             refine hK.out _ _ ⟨(blk_cell BK278.out 0).trans rfl, (blk_cell BK278.out 1).trans rfl, (blk_cell BK279.out 0).trans rfl, (blk_cell BK279.out 1).trans rfl⟩ (fun hHeld => ?_)
             clear hK K
             refine norm_ nm ?_
             exact norm_ pa (hJ6_12 (v288, gb295) _ ⟨hHeld, (kv (Kd.V_mono HO273.out (fun _ hk => ⟨hk.1.1, ⟨hk.1.2, hk.2⟩⟩))), (kv (Kd.V_mono HO277.out (fun _ hk => ⟨hk.1.1, ⟨hk.1.2, hk.2⟩⟩))), (kv (Kd.V_mono HO282.out (fun _ hk => ⟨hk.1.1, ⟨hk.1.2, hk.2⟩⟩))), (kv (Kd.V_mono HO285.out (fun _ hk => ⟨hk.1.1, ⟨hk.1.2, hk.2⟩⟩))), (kv (Kd.V_mono HO289.out (fun _ hk => ⟨hk.1.1, ⟨hk.1.2, hk.2⟩⟩))), (bk BK278.out), (bk BK279.out), (bk BK295.out), GW295.out, GE295.out, NB278_295.out, NB295_278.out, NB279_295.out, NB295_279.out, bel⟩)
          ·skip
           rintro ⟨gb294, gb295⟩ w31 ⟨hS_, h0_, h1_, h2_, h3_, h4_, h5_, h6_, h7_, h8_, h9_, h10_, h11_, h12_, h13_, h14_, h15_, h16_, h17_, h18_, h19_, h20_, h21_, h22_⟩
           try dsimp only at h0_ h1_ h2_ h3_ h4_ h5_ h6_ h7_ h8_ h9_ h10_ h11_ h12_ h13_ h14_ h15_ h16_ h17_ h18_ h19_ h20_ h21_ h22_
           clear HO273 HO277 HO282 HO285 BK278 BK279 HB
           have HO273 := Aside0.mk h0_
           have HO277 := Aside0.mk h1_
           have HO282 := Aside0.mk h2_
           have HO285 := Aside0.mk h3_
           have BK278 := Aside0.mk h4_
           have BK279 := Aside0.mk h5_
           have BK294 := Aside0.mk h6_
           have BK295 := Aside0.mk h7_
           have GW294 := Aside0.mk h8_
           have GE294 := Aside0.mk h9_
           have NB278_294 := Aside0.mk h10_
           have NB294_278 := Aside0.mk h11_
           have NB279_294 := Aside0.mk h12_
           have NB294_279 := Aside0.mk h13_
           have NB295_294 := Aside0.mk h14_
           have NB294_295 := Aside0.mk h15_
           have GW295 := Aside0.mk h16_
           have GE295 := Aside0.mk h17_
           have NB278_295 := Aside0.mk h18_
           have NB295_278 := Aside0.mk h19_
           have NB279_295 := Aside0.mk h20_
           have NB295_279 := Aside0.mk h21_
           have HB := Aside0.mk h22_
           clear h0_ h1_ h2_ h3_ h4_ h5_ h6_ h7_ h8_ h9_ h10_ h11_ h12_ h13_ h14_ h15_ h16_ h17_ h18_ h19_ h20_ h21_ h22_
           have hHeld : w31.cell? ⟨gb278, 0, none⟩ = some (.bool t270) ∧ w31.cell? ⟨gb278, 1, none⟩ = some (.slice Ao18 t271.length co18) ∧ w31.cell? ⟨gb279, 0, none⟩ = some (.bool t274) ∧ w31.cell? ⟨gb279, 1, none⟩ = some (.slice Ao21 t275.length co21) := hS_
           refine norm_ np ?_
           refine one_ (i := 6) (N := some 41) #[true, true, true, true, true, true, true, true, true, true, false, true, true, false, false] rfl rfl (one_of HT_.out (by kernel_rfl)) (by decide) (fun K hK => ?_)
           refine goes_ Tryd.func38 (by kernel_rfl) rfl #[.bool (t270 != t274), .slice Ao26 t280.length co26] (by rfl) rfl rfl ag ?_
           with_reducible refine (integer_signed.calls (t270 != t274) (fun k_ => (k_ ≠ gb278 ∧ (k_ ≠ gb279 ∧ (k_ ≠ gb294 ∧ k_ ≠ gb295)))) _ _ t280 t286 t287 _ ?side1 ?side2 A9.out).mono ?_
           (case side1 => exact GOK.below hG.out bel)
           (case side2 => exact HO282.out)
           rintro e w32 ⟨v288, rfl, ho0, hb⟩
           refine ⟨_, rfl, ?_⟩
           have HO289 := Aside0.mk (Kd.V_lower (Kd.V_mono (ok' := fun k_ => k_ ≠ gb278 ∧ k_ ≠ gb279 ∧ k_ ≠ gb294 ∧ k_ ≠ gb295) ho0 (fun k_ hk_ => ⟨Or.elim hk_ (fun hs_ => hs_.1) (fun hn_ => (Kd.freshB (bk BK278.out) k_ hn_)), Or.elim hk_ (fun hs_ => hs_.2.1) (fun hn_ => (Kd.freshB (bk BK279.out) k_ hn_)), Or.elim hk_ (fun hs_ => hs_.2.2.1) (fun hn_ => (Kd.freshB (bk BK294.out) k_ hn_)), Or.elim hk_ (fun hs_ => hs_.2.2.2) (fun hn_ => (Kd.freshB (bk BK295.out) k_ hn_))⟩)) (below_size bel))
           replace HO273 := Aside0.mk (Kd.V_below (kv HO273.out) hb)
           replace HO277 := Aside0.mk (Kd.V_below (kv HO277.out) hb)
           replace HO282 := Aside0.mk (Kd.V_below (kv HO282.out) hb)
           replace HO285 := Aside0.mk (Kd.V_below (kv HO285.out) hb)
           replace BK278 := Aside0.mk (blk_below (bk BK278.out) hb)
           replace BK279 := Aside0.mk (blk_below (bk BK279.out) hb)
           replace BK294 := Aside0.mk (blk_below (bk BK294.out) hb)
           replace BK295 := Aside0.mk (blk_below (bk BK295.out) hb)
           replace HB := Aside0.mk (below_step bel hb)
           clear hb ho0
           refine hK.out _ _ ⟨(blk_cell BK278.out 0).trans rfl, (blk_cell BK278.out 1).trans rfl, (blk_cell BK279.out 0).trans rfl, (blk_cell BK279.out 1).trans rfl⟩ (fun hHeld => ?_)
           clear hK K
           refine norm_ nm ?_
           exact norm_ pa (hJ6_11_12 (v288, gb294, gb295) _ ⟨hHeld, (kv HO273.out), (kv HO277.out), (kv HO282.out), (kv HO285.out), (kv HO289.out), (bk BK278.out), (bk BK279.out), (bk BK294.out), (bk BK295.out), GW294.out, GE294.out, NB278_294.out, NB294_278.out, NB279_294.out, NB294_279.out, NB295_294.out, NB294_295.out, GW295.out, GE295.out, NB278_295.out, NB295_278.out, NB279_295.out, NB295_279.out, bel⟩)
         ·skip
          rintro ⟨v288, gb295⟩ w31 ⟨hS_, h0_, h1_, h2_, h3_, h4_, h5_, h6_, h7_, h8_, h9_, h10_, h11_, h12_, h13_, h14_⟩
          try dsimp only at h0_ h1_ h2_ h3_ h4_ h5_ h6_ h7_ h8_ h9_ h10_ h11_ h12_ h13_ h14_
          clear HO273 HO277 HO282 HO285 BK278 BK279 HB
          have HO273 := Aside0.mk h0_
          have HO277 := Aside0.mk h1_
          have HO282 := Aside0.mk h2_
          have HO285 := Aside0.mk h3_
          have HO289 := Aside0.mk h4_
          have BK278 := Aside0.mk h5_
          have BK279 := Aside0.mk h6_
          have BK295 := Aside0.mk h7_
          have GW295 := Aside0.mk h8_
          have GE295 := Aside0.mk h9_
          have NB278_295 := Aside0.mk h10_
          have NB295_278 := Aside0.mk h11_
          have NB279_295 := Aside0.mk h12_
          have NB295_279 := Aside0.mk h13_
          have HB := Aside0.mk h14_
          clear h0_ h1_ h2_ h3_ h4_ h5_ h6_ h7_ h8_ h9_ h10_ h11_ h12_ h13_ h14_
          have hHeld : w31.cell? ⟨gb278, 0, none⟩ = some (.bool t270) ∧ w31.cell? ⟨gb278, 1, none⟩ = some (.slice Ao18 t271.length co18) ∧ w31.cell? ⟨gb279, 0, none⟩ = some (.bool t274) ∧ w31.cell? ⟨gb279, 1, none⟩ = some (.slice Ao21 t275.length co21) := hS_
          refine norm_ np ?_
          refine two_ (i := 10) (j := 11) (Ni := some 45) (Nj := some 11) #[true, true, true, true, true, true, true, true, true, true, true, false, true, false, false] #[true, true, true, true, true, true, true, true, true, true, false, true, true, false, false] rfl rfl rfl rfl (two_of HT_.out (by kernel_rfl)) (by decide) (by decide) (fun K hK => ?_) (fun K hK => ?_)
          ·skip
           refine goes_ Tryd.func38 (by kernel_rfl) rfl #[.bool t270, .slice Ao27 t283.length co27] (by rfl) rfl rfl ag ?_
           with_reducible refine (integer_signed.calls t270 (fun k_ => (k_ ≠ gb278 ∧ (k_ ≠ gb279 ∧ k_ ≠ gb295))) _ _ t283 t290 t291 _ ?side1 ?side2 A10.out).mono ?_
           (case side1 => exact GOK.below hG.out bel)
           (case side2 => exact HO285.out)
           rintro e w32 ⟨v292, rfl, ho0, hb⟩
           refine ⟨_, rfl, ?_⟩
           have HO293 := Aside0.mk (Kd.V_lower (Kd.V_mono (ok' := fun k_ => k_ ≠ gb278 ∧ k_ ≠ gb279 ∧ k_ ≠ gb295) ho0 (fun k_ hk_ => ⟨Or.elim hk_ (fun hs_ => hs_.1) (fun hn_ => (Kd.freshB (bk BK278.out) k_ hn_)), Or.elim hk_ (fun hs_ => hs_.2.1) (fun hn_ => (Kd.freshB (bk BK279.out) k_ hn_)), Or.elim hk_ (fun hs_ => hs_.2.2) (fun hn_ => (Kd.freshB (bk BK295.out) k_ hn_))⟩)) (below_size bel))
           replace HO273 := Aside0.mk (Kd.V_below (kv HO273.out) hb)
           replace HO277 := Aside0.mk (Kd.V_below (kv HO277.out) hb)
           replace HO282 := Aside0.mk (Kd.V_below (kv HO282.out) hb)
           replace HO285 := Aside0.mk (Kd.V_below (kv HO285.out) hb)
           replace HO289 := Aside0.mk (Kd.V_below (kv HO289.out) hb)
           replace BK278 := Aside0.mk (blk_below (bk BK278.out) hb)
           replace BK279 := Aside0.mk (blk_below (bk BK279.out) hb)
           replace BK295 := Aside0.mk (blk_below (bk BK295.out) hb)
           replace HB := Aside0.mk (below_step bel hb)
           clear hb ho0
           refine hK.out _ _ ⟨(blk_cell BK278.out 0).trans rfl, (blk_cell BK278.out 1).trans rfl, (blk_cell BK279.out 0).trans rfl, (blk_cell BK279.out 1).trans rfl⟩ (fun hHeld => ?_)
           clear hK K
           refine norm_ nm ?_
           exact norm_ pa (hJ6_10_12 (v288, v292, gb295) _ ⟨hHeld, (kv HO273.out), (kv HO277.out), (kv HO282.out), (kv HO285.out), (kv HO289.out), (kv HO293.out), (bk BK278.out), (bk BK279.out), (bk BK295.out), GW295.out, GE295.out, NB278_295.out, NB295_278.out, NB279_295.out, NB295_279.out, bel⟩)
          ·skip
           refine box_step ?hg (N := 11) ?hd (cs := #[.bool false, .slice none 0 0]) (t := 51) ?hr ?_; (case hd => rfl); (case hg => rfl); (case hr => first | (go_simp; done) | (go_simp; rfl))
           intro gb294 hg w32 hbox hb
           have BK294 := Aside0.mk (hbox)
           have GW294 := Aside0.mk ((by rw [hg]; exact (below_size bel) : w.heap.size ≤ gb294))
           have GE294 := Aside0.mk ((by rw [hg]; exact (below_size bel) : w.heap.size ≤ gb294))
           have NB278_294 := Aside0.mk ((by rw [hg]; exact Nat.ne_of_lt (blk_lt (bk BK278.out)) : gb278 ≠ gb294))
           have NB294_278 := Aside0.mk ((by rw [hg]; exact Nat.ne_of_gt (blk_lt (bk BK278.out)) : gb294 ≠ gb278))
           have NB279_294 := Aside0.mk ((by rw [hg]; exact Nat.ne_of_lt (blk_lt (bk BK279.out)) : gb279 ≠ gb294))
           have NB294_279 := Aside0.mk ((by rw [hg]; exact Nat.ne_of_gt (blk_lt (bk BK279.out)) : gb294 ≠ gb279))
           have NB295_294 := Aside0.mk ((by rw [hg]; exact Nat.ne_of_lt (blk_lt (bk BK295.out)) : gb295 ≠ gb294))
           have NB294_295 := Aside0.mk ((by rw [hg]; exact Nat.ne_of_gt (blk_lt (bk BK295.out)) : gb294 ≠ gb295))
           replace HO273 := Aside0.mk (Kd.V_below (Kd.V_elderB (kv HO273.out) gb294 (Nat.le_of_eq hg.symm)) hb)
           replace HO277 := Aside0.mk (Kd.V_below (Kd.V_elderB (kv HO277.out) gb294 (Nat.le_of_eq hg.symm)) hb)
           replace HO282 := Aside0.mk (Kd.V_below (Kd.V_elderB (kv HO282.out) gb294 (Nat.le_of_eq hg.symm)) hb)
           replace HO285 := Aside0.mk (Kd.V_below (Kd.V_elderB (kv HO285.out) gb294 (Nat.le_of_eq hg.symm)) hb)
           replace HO289 := Aside0.mk (Kd.V_below (Kd.V_elderB (kv HO289.out) gb294 (Nat.le_of_eq hg.symm)) hb)
           replace BK278 := Aside0.mk (blk_below (bk BK278.out) hb)
           replace BK279 := Aside0.mk (blk_below (bk BK279.out) hb)
           replace BK295 := Aside0.mk (blk_below (bk BK295.out) hb)
           replace HB := Aside0.mk (below_step bel hb)
           clear hb hbox hg
           refine hK.out _ _ ⟨(blk_cell BK278.out 0).trans rfl, (blk_cell BK278.out 1).trans rfl, (blk_cell BK279.out 0).trans rfl, (blk_cell BK279.out 1).trans rfl⟩ (fun hHeld => ?_)
           clear hK K
           refine norm_ nm ?_
           exact norm_ pa (hJ6_11_12 (v288, gb294, gb295) _ ⟨hHeld, (kv (Kd.V_mono HO273.out (fun _ hk => ⟨hk.1.1, ⟨hk.1.2.1, ⟨hk.2, hk.1.2.2⟩⟩⟩))), (kv (Kd.V_mono HO277.out (fun _ hk => ⟨hk.1.1, ⟨hk.1.2.1, ⟨hk.2, hk.1.2.2⟩⟩⟩))), (kv (Kd.V_mono HO282.out (fun _ hk => ⟨hk.1.1, ⟨hk.1.2.1, ⟨hk.2, hk.1.2.2⟩⟩⟩))), (kv (Kd.V_mono HO285.out (fun _ hk => ⟨hk.1.1, ⟨hk.1.2.1, ⟨hk.2, hk.1.2.2⟩⟩⟩))), (kv (Kd.V_mono HO289.out (fun _ hk => ⟨hk.1.1, ⟨hk.1.2.1, ⟨hk.2, hk.1.2.2⟩⟩⟩))), (bk BK278.out), (bk BK279.out), (bk BK294.out), (bk BK295.out), GW294.out, GE294.out, NB278_294.out, NB294_278.out, NB279_294.out, NB294_279.out, NB295_294.out, NB294_295.out, GW295.out, GE295.out, NB278_295.out, NB295_278.out, NB279_295.out, NB295_279.out, bel⟩)
        ·skip
         rintro ⟨v288, gb294⟩ w31 ⟨hS_, h0_, h1_, h2_, h3_, h4_, h5_, h6_, h7_, h8_, h9_, h10_, h11_, h12_, h13_, h14_⟩
         try dsimp only at h0_ h1_ h2_ h3_ h4_ h5_ h6_ h7_ h8_ h9_ h10_ h11_ h12_ h13_ h14_
         clear HO273 HO277 HO282 HO285 BK278 BK279 HB
         have HO273 := Aside0.mk h0_
         have HO277 := Aside0.mk h1_
         have HO282 := Aside0.mk h2_
         have HO285 := Aside0.mk h3_
         have HO289 := Aside0.mk h4_
         have BK278 := Aside0.mk h5_
         have BK279 := Aside0.mk h6_
         have BK294 := Aside0.mk h7_
         have GW294 := Aside0.mk h8_
         have GE294 := Aside0.mk h9_
         have NB278_294 := Aside0.mk h10_
         have NB294_278 := Aside0.mk h11_
         have NB279_294 := Aside0.mk h12_
         have NB294_279 := Aside0.mk h13_
         have HB := Aside0.mk h14_
         clear h0_ h1_ h2_ h3_ h4_ h5_ h6_ h7_ h8_ h9_ h10_ h11_ h12_ h13_ h14_
         have hHeld : w31.cell? ⟨gb278, 0, none⟩ = some (.bool t270) ∧ w31.cell? ⟨gb278, 1, none⟩ = some (.slice Ao18 t271.length co18) ∧ w31.cell? ⟨gb279, 0, none⟩ = some (.bool t274) ∧ w31.cell? ⟨gb279, 1, none⟩ = some (.slice Ao21 t275.length co21) := hS_
         refine norm_ np ?_
         refine two_ (i := 10) (j := 12) (Ni := some 45) (Nj := some 12) #[true, true, true, true, true, true, true, true, true, true, true, true, false, false, false] #[true, true, true, true, true, true, true, true, true, true, false, true, true, false, false] rfl rfl rfl rfl (two_of HT_.out (by kernel_rfl)) (by decide) (by decide) (fun K hK => ?_) (fun K hK => ?_)
         ·skip
          refine goes_ Tryd.func38 (by kernel_rfl) rfl #[.bool t270, .slice Ao27 t283.length co27] (by rfl) rfl rfl ag ?_
          with_reducible refine (integer_signed.calls t270 (fun k_ => (k_ ≠ gb278 ∧ (k_ ≠ gb279 ∧ k_ ≠ gb294))) _ _ t283 t290 t291 _ ?side1 ?side2 A10.out).mono ?_
          (case side1 => exact GOK.below hG.out bel)
          (case side2 => exact HO285.out)
          rintro e w32 ⟨v292, rfl, ho0, hb⟩
          refine ⟨_, rfl, ?_⟩
          have HO293 := Aside0.mk (Kd.V_lower (Kd.V_mono (ok' := fun k_ => k_ ≠ gb278 ∧ k_ ≠ gb279 ∧ k_ ≠ gb294) ho0 (fun k_ hk_ => ⟨Or.elim hk_ (fun hs_ => hs_.1) (fun hn_ => (Kd.freshB (bk BK278.out) k_ hn_)), Or.elim hk_ (fun hs_ => hs_.2.1) (fun hn_ => (Kd.freshB (bk BK279.out) k_ hn_)), Or.elim hk_ (fun hs_ => hs_.2.2) (fun hn_ => (Kd.freshB (bk BK294.out) k_ hn_))⟩)) (below_size bel))
          replace HO273 := Aside0.mk (Kd.V_below (kv HO273.out) hb)
          replace HO277 := Aside0.mk (Kd.V_below (kv HO277.out) hb)
          replace HO282 := Aside0.mk (Kd.V_below (kv HO282.out) hb)
          replace HO285 := Aside0.mk (Kd.V_below (kv HO285.out) hb)
          replace HO289 := Aside0.mk (Kd.V_below (kv HO289.out) hb)
          replace BK278 := Aside0.mk (blk_below (bk BK278.out) hb)
          replace BK279 := Aside0.mk (blk_below (bk BK279.out) hb)
          replace BK294 := Aside0.mk (blk_below (bk BK294.out) hb)
          replace HB := Aside0.mk (below_step bel hb)
          clear hb ho0
          refine hK.out _ _ ⟨(blk_cell BK278.out 0).trans rfl, (blk_cell BK278.out 1).trans rfl, (blk_cell BK279.out 0).trans rfl, (blk_cell BK279.out 1).trans rfl⟩ (fun hHeld => ?_)
          clear hK K
          refine norm_ nm ?_
          exact norm_ pa (hJ6_10_11 (v288, v292, gb294) _ ⟨hHeld, (kv HO273.out), (kv HO277.out), (kv HO282.out), (kv HO285.out), (kv HO289.out), (kv HO293.out), (bk BK278.out), (bk BK279.out), (bk BK294.out), GW294.out, GE294.out, NB278_294.out, NB294_278.out, NB279_294.out, NB294_279.out, bel⟩)
         ·skip
          refine box_step ?hg (N := 12) ?hd (cs := #[.bool false, .slice none 0 0]) (t := 51) ?hr ?_; (case hd => rfl); (case hg => rfl); (case hr => first | (go_simp; done) | (go_simp; rfl))
          intro gb295 hg w32 hbox hb
          have BK295 := Aside0.mk (hbox)
          have GW295 := Aside0.mk ((by rw [hg]; exact (below_size bel) : w.heap.size ≤ gb295))
          have GE295 := Aside0.mk ((by rw [hg]; exact (below_size bel) : w.heap.size ≤ gb295))
          have NB278_295 := Aside0.mk ((by rw [hg]; exact Nat.ne_of_lt (blk_lt (bk BK278.out)) : gb278 ≠ gb295))
          have NB295_278 := Aside0.mk ((by rw [hg]; exact Nat.ne_of_gt (blk_lt (bk BK278.out)) : gb295 ≠ gb278))
          have NB279_295 := Aside0.mk ((by rw [hg]; exact Nat.ne_of_lt (blk_lt (bk BK279.out)) : gb279 ≠ gb295))
          have NB295_279 := Aside0.mk ((by rw [hg]; exact Nat.ne_of_gt (blk_lt (bk BK279.out)) : gb295 ≠ gb279))
          have NB294_295 := Aside0.mk ((by rw [hg]; exact Nat.ne_of_lt (blk_lt (bk BK294.out)) : gb294 ≠ gb295))
          have NB295_294 := Aside0.mk ((by rw [hg]; exact Nat.ne_of_gt (blk_lt (bk BK294.out)) : gb295 ≠ gb294))
          replace HO273 := Aside0.mk (Kd.V_below (Kd.V_elderB (kv HO273.out) gb295 (Nat.le_of_eq hg.symm)) hb)
          replace HO277 := Aside0.mk (Kd.V_below (Kd.V_elderB (kv HO277.out) gb295 (Nat.le_of_eq hg.symm)) hb)
          replace HO282 := Aside0.mk (Kd.V_below (Kd.V_elderB (kv HO282.out) gb295 (Nat.le_of_eq hg.symm)) hb)
          replace HO285 := Aside0.mk (Kd.V_below (Kd.V_elderB (kv HO285.out) gb295 (Nat.le_of_eq hg.symm)) hb)
          replace HO289 := Aside0.mk (Kd.V_below (Kd.V_elderB (kv HO289.out) gb295 (Nat.le_of_eq hg.symm)) hb)
          replace BK278 := Aside0.mk (blk_below (bk BK278.out) hb)
          replace BK279 := Aside0.mk (blk_below (bk BK279.out) hb)
          replace BK294 := Aside0.mk (blk_below (bk BK294.out) hb)
          replace HB := Aside0.mk (below_step bel hb)
          clear hb hbox hg
          refine hK.out _ _ ⟨(blk_cell BK278.out 0).trans rfl, (blk_cell BK278.out 1).trans rfl, (blk_cell BK279.out 0).trans rfl, (blk_cell BK279.out 1).trans rfl⟩ (fun hHeld => ?_)
          clear hK K
          refine norm_ nm ?_
          exact norm_ pa (hJ6_11_12 (v288, gb294, gb295) _ ⟨hHeld, (kv (Kd.V_mono HO273.out (fun _ hk => ⟨hk.1.1, ⟨hk.1.2.1, ⟨hk.1.2.2, hk.2⟩⟩⟩))), (kv (Kd.V_mono HO277.out (fun _ hk => ⟨hk.1.1, ⟨hk.1.2.1, ⟨hk.1.2.2, hk.2⟩⟩⟩))), (kv (Kd.V_mono HO282.out (fun _ hk => ⟨hk.1.1, ⟨hk.1.2.1, ⟨hk.1.2.2, hk.2⟩⟩⟩))), (kv (Kd.V_mono HO285.out (fun _ hk => ⟨hk.1.1, ⟨hk.1.2.1, ⟨hk.1.2.2, hk.2⟩⟩⟩))), (kv (Kd.V_mono HO289.out (fun _ hk => ⟨hk.1.1, ⟨hk.1.2.1, ⟨hk.1.2.2, hk.2⟩⟩⟩))), (bk BK278.out), (bk BK279.out), (bk BK294.out), (bk BK295.out), GW294.out, GE294.out, NB278_294.out, NB294_278.out, NB279_294.out, NB294_279.out, NB295_294.out, NB294_295.out, GW295.out, GE295.out, NB278_295.out, NB295_278.out, NB279_295.out, NB295_279.out, bel⟩)
       ·skip
        rintro ⟨v288, v292⟩ w31 ⟨hS_, h0_, h1_, h2_, h3_, h4_, h5_, h6_, h7_, h8_⟩
        try dsimp only at h0_ h1_ h2_ h3_ h4_ h5_ h6_ h7_ h8_
        clear HO273 HO277 HO282 HO285 BK278 BK279 HB
        have HO273 := Aside0.mk h0_
        have HO277 := Aside0.mk h1_
        have HO282 := Aside0.mk h2_
        have HO285 := Aside0.mk h3_
        have HO289 := Aside0.mk h4_
        have HO293 := Aside0.mk h5_
        have BK278 := Aside0.mk h6_
        have BK279 := Aside0.mk h7_
        have HB := Aside0.mk h8_
        clear h0_ h1_ h2_ h3_ h4_ h5_ h6_ h7_ h8_
        have hHeld : w31.cell? ⟨gb278, 0, none⟩ = some (.bool t270) ∧ w31.cell? ⟨gb278, 1, none⟩ = some (.slice Ao18 t271.length co18) ∧ w31.cell? ⟨gb279, 0, none⟩ = some (.bool t274) ∧ w31.cell? ⟨gb279, 1, none⟩ = some (.slice Ao21 t275.length co21) := hS_
        refine norm_ np ?_
        refine two_ (i := 11) (j := 12) (Ni := some 11) (Nj := some 12) #[true, true, true, true, true, true, true, true, true, true, true, true, false, false, false] #[true, true, true, true, true, true, true, true, true, true, true, false, true, false, false] rfl rfl rfl rfl (two_of HT_.out (by kernel_rfl)) (by decide) (by decide) (fun K hK => ?_) (fun K hK => ?_)
        ·skip
         refine box_step ?hg (N := 11) ?hd (cs := #[.bool false, .slice none 0 0]) (t := 51) ?hr ?_; (case hd => rfl); (case hg => rfl); (case hr => first | (go_simp; done) | (go_simp; rfl))
         intro gb294 hg w32 hbox hb
         have BK294 := Aside0.mk (hbox)
         have GW294 := Aside0.mk ((by rw [hg]; exact (below_size bel) : w.heap.size ≤ gb294))
         have GE294 := Aside0.mk ((by rw [hg]; exact (below_size bel) : w.heap.size ≤ gb294))
         have NB278_294 := Aside0.mk ((by rw [hg]; exact Nat.ne_of_lt (blk_lt (bk BK278.out)) : gb278 ≠ gb294))
         have NB294_278 := Aside0.mk ((by rw [hg]; exact Nat.ne_of_gt (blk_lt (bk BK278.out)) : gb294 ≠ gb278))
         have NB279_294 := Aside0.mk ((by rw [hg]; exact Nat.ne_of_lt (blk_lt (bk BK279.out)) : gb279 ≠ gb294))
         have NB294_279 := Aside0.mk ((by rw [hg]; exact Nat.ne_of_gt (blk_lt (bk BK279.out)) : gb294 ≠ gb279))
         replace HO273 := Aside0.mk (Kd.V_below (Kd.V_elderB (kv HO273.out) gb294 (Nat.le_of_eq hg.symm)) hb)
         replace HO277 := Aside0.mk (Kd.V_below (Kd.V_elderB (kv HO277.out) gb294 (Nat.le_of_eq hg.symm)) hb)
         replace HO282 := Aside0.mk (Kd.V_below (Kd.V_elderB (kv HO282.out) gb294 (Nat.le_of_eq hg.symm)) hb)
         replace HO285 := Aside0.mk (Kd.V_below (Kd.V_elderB (kv HO285.out) gb294 (Nat.le_of_eq hg.symm)) hb)
         replace HO289 := Aside0.mk (Kd.V_below (Kd.V_elderB (kv HO289.out) gb294 (Nat.le_of_eq hg.symm)) hb)
         replace HO293 := Aside0.mk (Kd.V_below (Kd.V_elderB (kv HO293.out) gb294 (Nat.le_of_eq hg.symm)) hb)
         replace BK278 := Aside0.mk (blk_below (bk BK278.out) hb)
         replace BK279 := Aside0.mk (blk_below (bk BK279.out) hb)
         replace HB := Aside0.mk (below_step bel hb)
         clear hb hbox hg
         refine hK.out _ _ ⟨(blk_cell BK278.out 0).trans rfl, (blk_cell BK278.out 1).trans rfl, (blk_cell BK279.out 0).trans rfl, (blk_cell BK279.out 1).trans rfl⟩ (fun hHeld => ?_)
         clear hK K
         refine norm_ nm ?_
         exact norm_ pa (hJ6_10_11 (v288, v292, gb294) _ ⟨hHeld, (kv (Kd.V_mono HO273.out (fun _ hk => ⟨hk.1.1, ⟨hk.1.2, hk.2⟩⟩))), (kv (Kd.V_mono HO277.out (fun _ hk => ⟨hk.1.1, ⟨hk.1.2, hk.2⟩⟩))), (kv (Kd.V_mono HO282.out (fun _ hk => ⟨hk.1.1, ⟨hk.1.2, hk.2⟩⟩))), (kv (Kd.V_mono HO285.out (fun _ hk => ⟨hk.1.1, ⟨hk.1.2, hk.2⟩⟩))), (kv (Kd.V_mono HO289.out (fun _ hk => ⟨hk.1.1, ⟨hk.1.2, hk.2⟩⟩))), (kv (Kd.V_mono HO293.out (fun _ hk => ⟨hk.1.1, ⟨hk.1.2, hk.2⟩⟩))), (bk BK278.out), (bk BK279.out), (bk BK294.out), GW294.out, GE294.out, NB278_294.out, NB294_278.out, NB279_294.out, NB294_279.out, bel⟩)
        ·skip
         refine box_step ?hg (N := 12) ?hd (cs := #[.bool false, .slice none 0 0]) (t := 51) ?hr ?_; (case hd => rfl); (case hg => rfl); (case hr => first | (go_simp; done) | (go_simp; rfl))
         intro gb295 hg w32 hbox hb
         have BK295 := Aside0.mk (hbox)
         have GW295 := Aside0.mk ((by rw [hg]; exact (below_size bel) : w.heap.size ≤ gb295))
         have GE295 := Aside0.mk ((by rw [hg]; exact (below_size bel) : w.heap.size ≤ gb295))
         have NB278_295 := Aside0.mk ((by rw [hg]; exact Nat.ne_of_lt (blk_lt (bk BK278.out)) : gb278 ≠ gb295))
         have NB295_278 := Aside0.mk ((by rw [hg]; exact Nat.ne_of_gt (blk_lt (bk BK278.out)) : gb295 ≠ gb278))
         have NB279_295 := Aside0.mk ((by rw [hg]; exact Nat.ne_of_lt (blk_lt (bk BK279.out)) : gb279 ≠ gb295))
         have NB295_279 := Aside0.mk ((by rw [hg]; exact Nat.ne_of_gt (blk_lt (bk BK279.out)) : gb295 ≠ gb279))
         replace HO273 := Aside0.mk (Kd.V_below (Kd.V_elderB (kv HO273.out) gb295 (Nat.le_of_eq hg.symm)) hb)
         replace HO277 := Aside0.mk (Kd.V_below (Kd.V_elderB (kv HO277.out) gb295 (Nat.le_of_eq hg.symm)) hb)
         replace HO282 := Aside0.mk (Kd.V_below (Kd.V_elderB (kv HO282.out) gb295 (Nat.le_of_eq hg.symm)) hb)
         replace HO285 := Aside0.mk (Kd.V_below (Kd.V_elderB (kv HO285.out) gb295 (Nat.le_of_eq hg.symm)) hb)
         replace HO289 := Aside0.mk (Kd.V_below (Kd.V_elderB (kv HO289.out) gb295 (Nat.le_of_eq hg.symm)) hb)
         replace HO293 := Aside0.mk (Kd.V_below (Kd.V_elderB (kv HO293.out) gb295 (Nat.le_of_eq hg.symm)) hb)
         replace BK278 := Aside0.mk (blk_below (bk BK278.out) hb)
         replace BK279 := Aside0.mk (blk_below (bk BK279.out) hb)
         replace HB := Aside0.mk (below_step bel hb)
         clear hb hbox hg
         refine hK.out _ _ ⟨(blk_cell BK278.out 0).trans rfl, (blk_cell BK278.out 1).trans rfl, (blk_cell BK279.out 0).trans rfl, (blk_cell BK279.out 1).trans rfl⟩ (fun hHeld => ?_)
         clear hK K
         refine norm_ nm ?_
         exact norm_ pa (hJ6_10_12 (v288, v292, gb295) _ ⟨hHeld, (kv (Kd.V_mono HO273.out (fun _ hk => ⟨hk.1.1, ⟨hk.1.2, hk.2⟩⟩))), (kv (Kd.V_mono HO277.out (fun _ hk => ⟨hk.1.1, ⟨hk.1.2, hk.2⟩⟩))), (kv (Kd.V_mono HO282.out (fun _ hk => ⟨hk.1.1, ⟨hk.1.2, hk.2⟩⟩))), (kv (Kd.V_mono HO285.out (fun _ hk => ⟨hk.1.1, ⟨hk.1.2, hk.2⟩⟩))), (kv (Kd.V_mono HO289.out (fun _ hk => ⟨hk.1.1, ⟨hk.1.2, hk.2⟩⟩))), (kv (Kd.V_mono HO293.out (fun _ hk => ⟨hk.1.1, ⟨hk.1.2, hk.2⟩⟩))), (bk BK278.out), (bk BK279.out), (bk BK295.out), GW295.out, GE295.out, NB278_295.out, NB295_278.out, NB279_295.out, NB295_279.out, bel⟩)
      ·skip
       rintro ⟨v288, gb294, gb295⟩ w32 ⟨hS_, h0_, h1_, h2_, h3_, h4_, h5_, h6_, h7_, h8_, h9_, h10_, h11_, h12_, h13_, h14_, h15_, h16_, h17_, h18_, h19_, h20_, h21_, h22_, h23_⟩
       try dsimp only at h0_ h1_ h2_ h3_ h4_ h5_ h6_ h7_ h8_ h9_ h10_ h11_ h12_ h13_ h14_ h15_ h16_ h17_ h18_ h19_ h20_ h21_ h22_ h23_
       clear HO273 HO277 HO282 HO285 BK278 BK279 HB
       have HO273 := Aside0.mk h0_
       have HO277 := Aside0.mk h1_
       have HO282 := Aside0.mk h2_
       have HO285 := Aside0.mk h3_
       have HO289 := Aside0.mk h4_
       have BK278 := Aside0.mk h5_
       have BK279 := Aside0.mk h6_
       have BK294 := Aside0.mk h7_
       have BK295 := Aside0.mk h8_
       have GW294 := Aside0.mk h9_
       have GE294 := Aside0.mk h10_
       have NB278_294 := Aside0.mk h11_
       have NB294_278 := Aside0.mk h12_
       have NB279_294 := Aside0.mk h13_
       have NB294_279 := Aside0.mk h14_
       have NB295_294 := Aside0.mk h15_
       have NB294_295 := Aside0.mk h16_
       have GW295 := Aside0.mk h17_
       have GE295 := Aside0.mk h18_
       have NB278_295 := Aside0.mk h19_
       have NB295_278 := Aside0.mk h20_
       have NB279_295 := Aside0.mk h21_
       have NB295_279 := Aside0.mk h22_
       have HB := Aside0.mk h23_
       clear h0_ h1_ h2_ h3_ h4_ h5_ h6_ h7_ h8_ h9_ h10_ h11_ h12_ h13_ h14_ h15_ h16_ h17_ h18_ h19_ h20_ h21_ h22_ h23_
       have hHeld : w32.cell? ⟨gb278, 0, none⟩ = some (.bool t270) ∧ w32.cell? ⟨gb278, 1, none⟩ = some (.slice Ao18 t271.length co18) ∧ w32.cell? ⟨gb279, 0, none⟩ = some (.bool t274) ∧ w32.cell? ⟨gb279, 1, none⟩ = some (.slice Ao21 t275.length co21) := hS_
       refine norm_ np ?_
       refine one_ (i := 10) (N := some 45) #[true, true, true, true, true, true, true, true, true, true, true, true, true, false, false] rfl rfl (one_of HT_.out (by kernel_rfl)) (by decide) (fun K hK => ?_)
       refine goes_ Tryd.func38 (by kernel_rfl) rfl #[.bool t270, .slice Ao27 t283.length co27] (by rfl) rfl rfl ag ?_
       with_reducible refine (integer_signed.calls t270 (fun k_ => (k_ ≠ gb278 ∧ (k_ ≠ gb279 ∧ (k_ ≠ gb294 ∧ k_ ≠ gb295)))) _ _ t283 t290 t291 _ ?side1 ?side2 A10.out).mono ?_
       (case side1 => exact GOK.below hG.out bel)
       (case side2 => exact HO285.out)
       rintro e w33 ⟨v292, rfl, ho0, hb⟩
       refine ⟨_, rfl, ?_⟩
       have HO293 := Aside0.mk (Kd.V_lower (Kd.V_mono (ok' := fun k_ => k_ ≠ gb278 ∧ k_ ≠ gb279 ∧ k_ ≠ gb294 ∧ k_ ≠ gb295) ho0 (fun k_ hk_ => ⟨Or.elim hk_ (fun hs_ => hs_.1) (fun hn_ => (Kd.freshB (bk BK278.out) k_ hn_)), Or.elim hk_ (fun hs_ => hs_.2.1) (fun hn_ => (Kd.freshB (bk BK279.out) k_ hn_)), Or.elim hk_ (fun hs_ => hs_.2.2.1) (fun hn_ => (Kd.freshB (bk BK294.out) k_ hn_)), Or.elim hk_ (fun hs_ => hs_.2.2.2) (fun hn_ => (Kd.freshB (bk BK295.out) k_ hn_))⟩)) (below_size bel))
       replace HO273 := Aside0.mk (Kd.V_below (kv HO273.out) hb)
       replace HO277 := Aside0.mk (Kd.V_below (kv HO277.out) hb)
       replace HO282 := Aside0.mk (Kd.V_below (kv HO282.out) hb)
       replace HO285 := Aside0.mk (Kd.V_below (kv HO285.out) hb)
       replace HO289 := Aside0.mk (Kd.V_below (kv HO289.out) hb)
       replace BK278 := Aside0.mk (blk_below (bk BK278.out) hb)
       replace BK279 := Aside0.mk (blk_below (bk BK279.out) hb)
       replace BK294 := Aside0.mk (blk_below (bk BK294.out) hb)
       replace BK295 := Aside0.mk (blk_below (bk BK295.out) hb)
       replace HB := Aside0.mk (below_step bel hb)
       clear hb ho0
       refine hK.out _ _ ⟨(blk_cell BK278.out 0).trans rfl, (blk_cell BK278.out 1).trans rfl, (blk_cell BK279.out 0).trans rfl, (blk_cell BK279.out 1).trans rfl⟩ (fun hHeld => ?_)
       clear hK K
       refine norm_ nm ?_
       exact norm_ pa (hJ6_10_11_12 (v288, v292, gb294, gb295) _ ⟨hHeld, (kv HO273.out), (kv HO277.out), (kv HO282.out), (kv HO285.out), (kv HO289.out), (kv HO293.out), (bk BK278.out), (bk BK279.out), (bk BK294.out), (bk BK295.out), GW294.out, GE294.out, NB278_294.out, NB294_278.out, NB279_294.out, NB294_279.out, NB295_294.out, NB294_295.out, GW295.out, GE295.out, NB278_295.out, NB295_278.out, NB279_295.out, NB295_279.out, bel⟩)
     ·skip
      rintro ⟨v288, v292, gb295⟩ w32 ⟨hS_, h0_, h1_, h2_, h3_, h4_, h5_, h6_, h7_, h8_, h9_, h10_, h11_, h12_, h13_, h14_, h15_⟩
      try dsimp only at h0_ h1_ h2_ h3_ h4_ h5_ h6_ h7_ h8_ h9_ h10_ h11_ h12_ h13_ h14_ h15_
      clear HO273 HO277 HO282 HO285 BK278 BK279 HB
      have HO273 := Aside0.mk h0_
      have HO277 := Aside0.mk h1_
      have HO282 := Aside0.mk h2_
      have HO285 := Aside0.mk h3_
      have HO289 := Aside0.mk h4_
      have HO293 := Aside0.mk h5_
      have BK278 := Aside0.mk h6_
      have BK279 := Aside0.mk h7_
      have BK295 := Aside0.mk h8_
      have GW295 := Aside0.mk h9_
      have GE295 := Aside0.mk h10_
      have NB278_295 := Aside0.mk h11_
      have NB295_278 := Aside0.mk h12_
      have NB279_295 := Aside0.mk h13_
      have NB295_279 := Aside0.mk h14_
      have HB := Aside0.mk h15_
      clear h0_ h1_ h2_ h3_ h4_ h5_ h6_ h7_ h8_ h9_ h10_ h11_ h12_ h13_ h14_ h15_
      have hHeld : w32.cell? ⟨gb278, 0, none⟩ = some (.bool t270) ∧ w32.cell? ⟨gb278, 1, none⟩ = some (.slice Ao18 t271.length co18) ∧ w32.cell? ⟨gb279, 0, none⟩ = some (.bool t274) ∧ w32.cell? ⟨gb279, 1, none⟩ = some (.slice Ao21 t275.length co21) := hS_
      refine norm_ np ?_
      refine one_ (i := 11) (N := some 11) #[true, true, true, true, true, true, true, true, true, true, true, true, true, false, false] rfl rfl (one_of HT_.out (by kernel_rfl)) (by decide) (fun K hK => ?_)
      refine box_step ?hg (N := 11) ?hd (cs := #[.bool false, .slice none 0 0]) (t := 51) ?hr ?_; (case hd => rfl); (case hg => rfl); (case hr => first | (go_simp; done) | (go_simp; rfl))
      intro gb294 hg w33 hbox hb
      have BK294 := Aside0.mk (hbox)
      have GW294 := Aside0.mk ((by rw [hg]; exact (below_size bel) : w.heap.size ≤ gb294))
      have GE294 := Aside0.mk ((by rw [hg]; exact (below_size bel) : w.heap.size ≤ gb294))
      have NB278_294 := Aside0.mk ((by rw [hg]; exact Nat.ne_of_lt (blk_lt (bk BK278.out)) : gb278 ≠ gb294))
      have NB294_278 := Aside0.mk ((by rw [hg]; exact Nat.ne_of_gt (blk_lt (bk BK278.out)) : gb294 ≠ gb278))
      have NB279_294 := Aside0.mk ((by rw [hg]; exact Nat.ne_of_lt (blk_lt (bk BK279.out)) : gb279 ≠ gb294))
      have NB294_279 := Aside0.mk ((by rw [hg]; exact Nat.ne_of_gt (blk_lt (bk BK279.out)) : gb294 ≠ gb279))
      have NB295_294 := Aside0.mk ((by rw [hg]; exact Nat.ne_of_lt (blk_lt (bk BK295.out)) : gb295 ≠ gb294))
      have NB294_295 := Aside0.mk ((by rw [hg]; exact Nat.ne_of_gt (blk_lt (bk BK295.out)) : gb294 ≠ gb295))
      replace HO273 := Aside0.mk (Kd.V_below (Kd.V_elderB (kv HO273.out) gb294 (Nat.le_of_eq hg.symm)) hb)
      replace HO277 := Aside0.mk (Kd.V_below (Kd.V_elderB (kv HO277.out) gb294 (Nat.le_of_eq hg.symm)) hb)
      replace HO282 := Aside0.mk (Kd.V_below (Kd.V_elderB (kv HO282.out) gb294 (Nat.le_of_eq hg.symm)) hb)
      replace HO285 := Aside0.mk (Kd.V_below (Kd.V_elderB (kv HO285.out) gb294 (Nat.le_of_eq hg.symm)) hb)
      replace HO289 := Aside0.mk (Kd.V_below (Kd.V_elderB (kv HO289.out) gb294 (Nat.le_of_eq hg.symm)) hb)
      replace HO293 := Aside0.mk (Kd.V_below (Kd.V_elderB (kv HO293.out) gb294 (Nat.le_of_eq hg.symm)) hb)
      replace BK278 := Aside0.mk (blk_below (bk BK278.out) hb)
      replace BK279 := Aside0.mk (blk_below (bk BK279.out) hb)
      replace BK295 := Aside0.mk (blk_below (bk BK295.out) hb)
      replace HB := Aside0.mk (below_step bel hb)
      clear hb hbox hg
      refine hK.out _ _ ⟨(blk_cell BK278.out 0).trans rfl, (blk_cell BK278.out 1).trans rfl, (blk_cell BK279.out 0).trans rfl, (blk_cell BK279.out 1).trans rfl⟩ (fun hHeld => ?_)
      clear hK K
      refine norm_ nm ?_
      exact norm_ pa (hJ6_10_11_12 (v288, v292, gb294, gb295) _ ⟨hHeld, (kv (Kd.V_mono HO273.out (fun _ hk => ⟨hk.1.1, ⟨hk.1.2.1, ⟨hk.2, hk.1.2.2⟩⟩⟩))), (kv (Kd.V_mono HO277.out (fun _ hk => ⟨hk.1.1, ⟨hk.1.2.1, ⟨hk.2, hk.1.2.2⟩⟩⟩))), (kv (Kd.V_mono HO282.out (fun _ hk => ⟨hk.1.1, ⟨hk.1.2.1, ⟨hk.2, hk.1.2.2⟩⟩⟩))), (kv (Kd.V_mono HO285.out (fun _ hk => ⟨hk.1.1, ⟨hk.1.2.1, ⟨hk.2, hk.1.2.2⟩⟩⟩))), (kv (Kd.V_mono HO289.out (fun _ hk => ⟨hk.1.1, ⟨hk.1.2.1, ⟨hk.2, hk.1.2.2⟩⟩⟩))), (kv (Kd.V_mono HO293.out (fun _ hk => ⟨hk.1.1, ⟨hk.1.2.1, ⟨hk.2, hk.1.2.2⟩⟩⟩))), (bk BK278.out), (bk BK279.out), (bk BK294.out), (bk BK295.out), GW294.out, GE294.out, NB278_294.out, NB294_278.out, NB279_294.out, NB294_279.out, NB295_294.out, NB294_295.out, GW295.out, GE295.out, NB278_295.out, NB295_278.out, NB279_295.out, NB295_279.out, bel⟩)
    ·skip
     rintro ⟨v288, v292, gb294⟩ w32 ⟨hS_, h0_, h1_, h2_, h3_, h4_, h5_, h6_, h7_, h8_, h9_, h10_, h11_, h12_, h13_, h14_, h15_⟩
     try dsimp only at h0_ h1_ h2_ h3_ h4_ h5_ h6_ h7_ h8_ h9_ h10_ h11_ h12_ h13_ h14_ h15_
     clear HO273 HO277 HO282 HO285 BK278 BK279 HB
     have HO273 := Aside0.mk h0_
     have HO277 := Aside0.mk h1_
     have HO282 := Aside0.mk h2_
     have HO285 := Aside0.mk h3_
     have HO289 := Aside0.mk h4_
     have HO293 := Aside0.mk h5_
     have BK278 := Aside0.mk h6_
     have BK279 := Aside0.mk h7_
     have BK294 := Aside0.mk h8_
     have GW294 := Aside0.mk h9_
     have GE294 := Aside0.mk h10_
     have NB278_294 := Aside0.mk h11_
     have NB294_278 := Aside0.mk h12_
     have NB279_294 := Aside0.mk h13_
     have NB294_279 := Aside0.mk h14_
     have HB := Aside0.mk h15_
     clear h0_ h1_ h2_ h3_ h4_ h5_ h6_ h7_ h8_ h9_ h10_ h11_ h12_ h13_ h14_ h15_
     have hHeld : w32.cell? ⟨gb278, 0, none⟩ = some (.bool t270) ∧ w32.cell? ⟨gb278, 1, none⟩ = some (.slice Ao18 t271.length co18) ∧ w32.cell? ⟨gb279, 0, none⟩ = some (.bool t274) ∧ w32.cell? ⟨gb279, 1, none⟩ = some (.slice Ao21 t275.length co21) := hS_
     refine norm_ np ?_
     refine one_ (i := 12) (N := some 12) #[true, true, true, true, true, true, true, true, true, true, true, true, true, false, false] rfl rfl (one_of HT_.out (by kernel_rfl)) (by decide) (fun K hK => ?_)
     refine box_step ?hg (N := 12) ?hd (cs := #[.bool false, .slice none 0 0]) (t := 51) ?hr ?_; (case hd => rfl); (case hg => rfl); (case hr => first | (go_simp; done) | (go_simp; rfl))
     intro gb295 hg w33 hbox hb
     have BK295 := Aside0.mk (hbox)
     have GW295 := Aside0.mk ((by rw [hg]; exact (below_size bel) : w.heap.size ≤ gb295))
     have GE295 := Aside0.mk ((by rw [hg]; exact (below_size bel) : w.heap.size ≤ gb295))
     have NB278_295 := Aside0.mk ((by rw [hg]; exact Nat.ne_of_lt (blk_lt (bk BK278.out)) : gb278 ≠ gb295))
     have NB295_278 := Aside0.mk ((by rw [hg]; exact Nat.ne_of_gt (blk_lt (bk BK278.out)) : gb295 ≠ gb278))
     have NB279_295 := Aside0.mk ((by rw [hg]; exact Nat.ne_of_lt (blk_lt (bk BK279.out)) : gb279 ≠ gb295))
     have NB295_279 := Aside0.mk ((by rw [hg]; exact Nat.ne_of_gt (blk_lt (bk BK279.out)) : gb295 ≠ gb279))
     have NB294_295 := Aside0.mk ((by rw [hg]; exact Nat.ne_of_lt (blk_lt (bk BK294.out)) : gb294 ≠ gb295))
     have NB295_294 := Aside0.mk ((by rw [hg]; exact Nat.ne_of_gt (blk_lt (bk BK294.out)) : gb295 ≠ gb294))
     replace HO273 := Aside0.mk (Kd.V_below (Kd.V_elderB (kv HO273.out) gb295 (Nat.le_of_eq hg.symm)) hb)
     replace HO277 := Aside0.mk (Kd.V_below (Kd.V_elderB (kv HO277.out) gb295 (Nat.le_of_eq hg.symm)) hb)
     replace HO282 := Aside0.mk (Kd.V_below (Kd.V_elderB (kv HO282.out) gb295 (Nat.le_of_eq hg.symm)) hb)
     replace HO285 := Aside0.mk (Kd.V_below (Kd.V_elderB (kv HO285.out) gb295 (Nat.le_of_eq hg.symm)) hb)
     replace HO289 := Aside0.mk (Kd.V_below (Kd.V_elderB (kv HO289.out) gb295 (Nat.le_of_eq hg.symm)) hb)
     replace HO293 := Aside0.mk (Kd.V_below (Kd.V_elderB (kv HO293.out) gb295 (Nat.le_of_eq hg.symm)) hb)
     replace BK278 := Aside0.mk (blk_below (bk BK278.out) hb)
     replace BK279 := Aside0.mk (blk_below (bk BK279.out) hb)
     replace BK294 := Aside0.mk (blk_below (bk BK294.out) hb)
     replace HB := Aside0.mk (below_step bel hb)
     clear hb hbox hg
     refine hK.out _ _ ⟨(blk_cell BK278.out 0).trans rfl, (blk_cell BK278.out 1).trans rfl, (blk_cell BK279.out 0).trans rfl, (blk_cell BK279.out 1).trans rfl⟩ (fun hHeld => ?_)
     clear hK K
     refine norm_ nm ?_
     exact norm_ pa (hJ6_10_11_12 (v288, v292, gb294, gb295) _ ⟨hHeld, (kv (Kd.V_mono HO273.out (fun _ hk => ⟨hk.1.1, ⟨hk.1.2.1, ⟨hk.1.2.2, hk.2⟩⟩⟩))), (kv (Kd.V_mono HO277.out (fun _ hk => ⟨hk.1.1, ⟨hk.1.2.1, ⟨hk.1.2.2, hk.2⟩⟩⟩))), (kv (Kd.V_mono HO282.out (fun _ hk => ⟨hk.1.1, ⟨hk.1.2.1, ⟨hk.1.2.2, hk.2⟩⟩⟩))), (kv (Kd.V_mono HO285.out (fun _ hk => ⟨hk.1.1, ⟨hk.1.2.1, ⟨hk.1.2.2, hk.2⟩⟩⟩))), (kv (Kd.V_mono HO289.out (fun _ hk => ⟨hk.1.1, ⟨hk.1.2.1, ⟨hk.1.2.2, hk.2⟩⟩⟩))), (kv (Kd.V_mono HO293.out (fun _ hk => ⟨hk.1.1, ⟨hk.1.2.1, ⟨hk.1.2.2, hk.2⟩⟩⟩))), (bk BK278.out), (bk BK279.out), (bk BK294.out), (bk BK295.out), GW294.out, GE294.out, NB278_294.out, NB294_278.out, NB279_294.out, NB294_279.out, NB295_294.out, NB294_295.out, GW295.out, GE295.out, NB278_295.out, NB295_278.out, NB279_295.out, NB295_279.out, bel⟩)
   rintro ⟨v288, v292, gb294, gb295⟩ w33 ⟨hS_, h0_, h1_, h2_, h3_, h4_, h5_, h6_, h7_, h8_, h9_, h10_, h11_, h12_, h13_, h14_, h15_, h16_, h17_, h18_, h19_, h20_, h21_, h22_, h23_, h24_⟩
   try dsimp only at h0_ h1_ h2_ h3_ h4_ h5_ h6_ h7_ h8_ h9_ h10_ h11_ h12_ h13_ h14_ h15_ h16_ h17_ h18_ h19_ h20_ h21_ h22_ h23_ h24_
   clear HO273 HO277 HO282 HO285 BK278 BK279 HB
   have HO273 := Aside0.mk h0_
   have HO277 := Aside0.mk h1_
   have HO282 := Aside0.mk h2_
   have HO285 := Aside0.mk h3_
   have HO289 := Aside0.mk h4_
   have HO293 := Aside0.mk h5_
   have BK278 := Aside0.mk h6_
   have BK279 := Aside0.mk h7_
   have BK294 := Aside0.mk h8_
   have BK295 := Aside0.mk h9_
   have GW294 := Aside0.mk h10_
   have GE294 := Aside0.mk h11_
   have NB278_294 := Aside0.mk h12_
   have NB294_278 := Aside0.mk h13_
   have NB279_294 := Aside0.mk h14_
   have NB294_279 := Aside0.mk h15_
   have NB295_294 := Aside0.mk h16_
   have NB294_295 := Aside0.mk h17_
   have GW295 := Aside0.mk h18_
   have GE295 := Aside0.mk h19_
   have NB278_295 := Aside0.mk h20_
   have NB295_278 := Aside0.mk h21_
   have NB279_295 := Aside0.mk h22_
   have NB295_279 := Aside0.mk h23_
   have HB := Aside0.mk h24_
   clear h0_ h1_ h2_ h3_ h4_ h5_ h6_ h7_ h8_ h9_ h10_ h11_ h12_ h13_ h14_ h15_ h16_ h17_ h18_ h19_ h20_ h21_ h22_ h23_ h24_
   have hHeld : w33.cell? ⟨gb278, 0, none⟩ = some (.bool t270) ∧ w33.cell? ⟨gb278, 1, none⟩ = some (.slice Ao18 t271.length co18) ∧ w33.cell? ⟨gb279, 0, none⟩ = some (.bool t274) ∧ w33.cell? ⟨gb279, 1, none⟩ = some (.slice Ao21 t275.length co21) := hS_
   obtain ⟨Ao35, co35, eo35⟩ := Kd.V_slice HO289.out
   (first | subst eo35 | (injection eo35 with f1_ f2_ f3_; have f4_ := f1_.symm; have f5_ := f3_.symm; clear f1_ f2_ f3_; subst f4_; subst f5_))
   obtain ⟨Ao38, co38, eo38⟩ := Kd.V_slice HO293.out
   (first | subst eo38 | (injection eo38 with f1_ f2_ f3_; have f4_ := f1_.symm; have f5_ := f3_.symm; clear f1_ f2_ f3_; subst f4_; subst f5_))
   refine norm_ np ?_
   refine one_ (i := 13) (N := none) #[true, true, true, true, true, true, true, true, true, true, true, true, true, true, false] rfl rfl (one_of HT_.out (by kernel_rfl)) (by decide) (fun K hK => ?_)
   have hs34 : w33.cell? ⟨gb294, 0, none⟩ = some (.bool false) := (blk_cell BK294.out 0).trans rfl
   have hfs34 := blk_frozen BK294.out 0
   have hns34_0 := NB278_294.out
   have hns34_1 := NB279_294.out
   have hns34_3 := NB295_294.out
   have hms34_0 := NB294_278.out
   have hms34_1 := NB294_279.out
   have hms34_3 := NB294_295.out
   have hs36 : w33.cell? ⟨gb294, 1, none⟩ = some (.slice none 0 0) := (blk_cell BK294.out 1).trans rfl
   have hfs36 := blk_frozen BK294.out 1
   have hns36_0 := NB278_294.out
   have hns36_1 := NB279_294.out
   have hns36_3 := NB295_294.out
   have hms36_0 := NB294_278.out
   have hms36_1 := NB294_279.out
   have hms36_3 := NB294_295.out
   refine skip_ (w1 := ?_) (by rfl) rfl ?_ ?_
   rotate_left
   ·go_simp
    rfl
   refine hK.out _ _ ⟨((cell_far (p := ⟨gb294, _, none⟩) NB278_294.out _).trans (((cell_far (p := ⟨gb294, _, none⟩) NB278_294.out _).trans (hHeld.1)))), ((cell_far (p := ⟨gb294, _, none⟩) NB278_294.out _).trans (((cell_far (p := ⟨gb294, _, none⟩) NB278_294.out _).trans (hHeld.2.1)))), ((cell_far (p := ⟨gb294, _, none⟩) NB279_294.out _).trans (((cell_far (p := ⟨gb294, _, none⟩) NB279_294.out _).trans (hHeld.2.2.1)))), ((cell_far (p := ⟨gb294, _, none⟩) NB279_294.out _).trans (((cell_far (p := ⟨gb294, _, none⟩) NB279_294.out _).trans (hHeld.2.2.2))))⟩ (fun hHeld => ?_)
   clear hK K
   refine one_ (i := 14) (N := none) #[true, true, true, true, true, true, true, true, true, true, true, true, true, true, true] rfl rfl (one_of HT_.out (by kernel_rfl)) (by decide) (fun K hK => ?_)
   have hs37 : w33.cell? ⟨gb295, 0, none⟩ = some (.bool false) := (blk_cell BK295.out 0).trans rfl
   have hfs37 := blk_frozen BK295.out 0
   have hns37_0 := NB278_295.out
   have hns37_1 := NB279_295.out
   have hns37_2 := NB294_295.out
   have hms37_0 := NB295_278.out
   have hms37_1 := NB295_279.out
   have hms37_2 := NB295_294.out
   have hs39 : w33.cell? ⟨gb295, 1, none⟩ = some (.slice none 0 0) := (blk_cell BK295.out 1).trans rfl
   have hfs39 := blk_frozen BK295.out 1
   have hns39_0 := NB278_295.out
   have hns39_1 := NB279_295.out
   have hns39_2 := NB294_295.out
   have hms39_0 := NB295_278.out
   have hms39_1 := NB295_279.out
   have hms39_2 := NB295_294.out
   refine skip_ (w1 := ?_) (by rfl) rfl ?_ ?_
   rotate_left
   ·go_simp
    rfl
   refine hK.out _ _ ⟨((cell_far (p := ⟨gb295, _, none⟩) NB278_295.out _).trans (((cell_far (p := ⟨gb295, _, none⟩) NB278_295.out _).trans (hHeld.1)))), ((cell_far (p := ⟨gb295, _, none⟩) NB278_295.out _).trans (((cell_far (p := ⟨gb295, _, none⟩) NB278_295.out _).trans (hHeld.2.1)))), ((cell_far (p := ⟨gb295, _, none⟩) NB279_295.out _).trans (((cell_far (p := ⟨gb295, _, none⟩) NB279_295.out _).trans (hHeld.2.2.1)))), ((cell_far (p := ⟨gb295, _, none⟩) NB279_295.out _).trans (((cell_far (p := ⟨gb295, _, none⟩) NB279_295.out _).trans (hHeld.2.2.2))))⟩ (fun hHeld => ?_)
   clear hK K
   refine done_ (done_of HT_.out (by kernel_rfl)) ?_
   go_upto_region 8 with (fail)
   go_cut [55] (fun v55 wc => ∃ (kq : Nat) (x55_10 : Bool), v55 = .bool x55_10 ∧ Aside0 (integer_DivMod.j0 kq x55_10 t274 t275 t286 t287 t290 t291 = some (r1, r2, r3)) ∧ Aside0 (kq ≤ k) ∧ Aside0 (Kd.V (Kd.int .u64) 57 wc w.heap.size (fun k_ => k_ ≠ gb278 ∧ k_ ≠ gb279 ∧ k_ ≠ gb294 ∧ k_ ≠ gb295) (.slice Ao18 t271.length co18) t271) ∧ Aside0 (Kd.V (Kd.int .u64) 57 wc w.heap.size (fun k_ => k_ ≠ gb278 ∧ k_ ≠ gb279 ∧ k_ ≠ gb294 ∧ k_ ≠ gb295) (.slice Ao21 t275.length co21) t275) ∧ Aside0 (Kd.V (Kd.int .u64) 57 wc w.heap.size (fun k_ => k_ ≠ gb278 ∧ k_ ≠ gb279 ∧ k_ ≠ gb294 ∧ k_ ≠ gb295) (.slice Ao35 t287.length co35) t287) ∧ Aside0 (Kd.V (Kd.int .u64) 57 wc w.heap.size (fun k_ => k_ ≠ gb278 ∧ k_ ≠ gb279 ∧ k_ ≠ gb294 ∧ k_ ≠ gb295) (.slice Ao38 t291.length co38) t291) ∧ Aside0 (wc.heap[gb278]? = some (.cells #[.bool t270, (.slice Ao18 t271.length co18)] 51 (0, 0))) ∧ Aside0 (wc.heap[gb279]? = some (.cells #[.bool t274, (.slice Ao21 t275.length co21)] 51 (0, 0))) ∧ Aside0 (wc.heap[gb294]? = some (.cells #[.bool t286, (.slice Ao35 t287.length co35)] 51 (0, 0))) ∧ Aside0 (wc.heap[gb295]? = some (.cells #[.bool t290, (.slice Ao38 t291.length co38)] 51 (0, 0))) ∧ Aside0 (Below w.heap.size w wc))
   case first =>
    have H := HC11.out
    clear HC11
    by_cases c40 : (t283.length : Int) > 0
    ·rw [if_pos c40] at H
     have c40b0 : decide (0 < (t283.length : Int)) = true := decide_eq_true c40
     have c40b1 : decide (0 < t283.length) = true := decide_eq_true (by omega)
     clear c40
     (first | rw [c40b0] | rw [c40b1] | (simp only [i64_w, i32_w]; rw [c40b0]) | skip)
     have H' := Aside0.mk H
     clear H
     have hnb41 := NB278_279.out
     have hnc41 := NB279_278.out
     have hnb42 := NB278_294.out
     have hnc42 := NB294_278.out
     have hnb43 := NB278_295.out
     have hnc43 := NB295_278.out
     have hcz44_0 : w33.cell? ⟨gb278, 0, none⟩ = some (.bool t270) := (blk_cell BK278.out 0).trans rfl
     have hcz44_1 : w33.cell? ⟨gb278, 1, none⟩ = some (.slice Ao18 t271.length co18) := (blk_cell BK278.out 1).trans rfl
     have hfz44_0 := blk_frozen BK278.out 0
     have hfz44_1 := blk_frozen BK278.out 1
     have hnb45 := NB279_294.out
     have hnc45 := NB294_279.out
     have hnb46 := NB279_295.out
     have hnc46 := NB295_279.out
     have hcz47_0 : w33.cell? ⟨gb279, 0, none⟩ = some (.bool t274) := (blk_cell BK279.out 0).trans rfl
     have hcz47_1 : w33.cell? ⟨gb279, 1, none⟩ = some (.slice Ao21 t275.length co21) := (blk_cell BK279.out 1).trans rfl
     have hfz47_0 := blk_frozen BK279.out 0
     have hfz47_1 := blk_frozen BK279.out 1
     go_wp2
     go_meet
     case rel => exact ⟨_, ((t270 != t274)), (by first | rfl | (simp; done) | (simp [*]; done)), H', ⟨by first | omega | exact Nat.le_refl _⟩, ⟨kv (Kd.V_mono (Kd.V_far (p := ⟨gb295, 1, none⟩) (Kd.V_far (p := ⟨gb295, 0, none⟩) (Kd.V_far (p := ⟨gb294, 1, none⟩) (Kd.V_far (p := ⟨gb294, 0, none⟩) (Kd.V_mono (Kd.V_mono HO273.out (fun k_ hk => (⟨hk, hk.2.2.1⟩ : _ ∧ k_ ≠ gb294))) (fun k_ hk => (⟨hk, hk.1.2.2.2⟩ : _ ∧ k_ ≠ gb295))) (fun _ hk => hk.1.2) (.bool t286)) (fun _ hk => hk.1.2) (.slice Ao35 t287.length co35)) (fun _ hk => hk.2) (.bool t290)) (fun _ hk => hk.2) (.slice Ao38 t291.length co38)) (fun _ hk => ⟨hk.1.1.1, ⟨hk.1.1.2.1, ⟨hk.1.1.2.2.1, hk.1.1.2.2.2⟩⟩⟩))⟩, ⟨kv (Kd.V_mono (Kd.V_far (p := ⟨gb295, 1, none⟩) (Kd.V_far (p := ⟨gb295, 0, none⟩) (Kd.V_far (p := ⟨gb294, 1, none⟩) (Kd.V_far (p := ⟨gb294, 0, none⟩) (Kd.V_mono (Kd.V_mono HO277.out (fun k_ hk => (⟨hk, hk.2.2.1⟩ : _ ∧ k_ ≠ gb294))) (fun k_ hk => (⟨hk, hk.1.2.2.2⟩ : _ ∧ k_ ≠ gb295))) (fun _ hk => hk.1.2) (.bool t286)) (fun _ hk => hk.1.2) (.slice Ao35 t287.length co35)) (fun _ hk => hk.2) (.bool t290)) (fun _ hk => hk.2) (.slice Ao38 t291.length co38)) (fun _ hk => ⟨hk.1.1.1, ⟨hk.1.1.2.1, ⟨hk.1.1.2.2.1, hk.1.1.2.2.2⟩⟩⟩))⟩, ⟨kv (Kd.V_mono (Kd.V_far (p := ⟨gb295, 1, none⟩) (Kd.V_far (p := ⟨gb295, 0, none⟩) (Kd.V_far (p := ⟨gb294, 1, none⟩) (Kd.V_far (p := ⟨gb294, 0, none⟩) (Kd.V_mono (Kd.V_mono HO289.out (fun k_ hk => (⟨hk, hk.2.2.1⟩ : _ ∧ k_ ≠ gb294))) (fun k_ hk => (⟨hk, hk.1.2.2.2⟩ : _ ∧ k_ ≠ gb295))) (fun _ hk => hk.1.2) (.bool t286)) (fun _ hk => hk.1.2) (.slice Ao35 t287.length co35)) (fun _ hk => hk.2) (.bool t290)) (fun _ hk => hk.2) (.slice Ao38 t291.length co38)) (fun _ hk => ⟨hk.1.1.1, ⟨hk.1.1.2.1, ⟨hk.1.1.2.2.1, hk.1.1.2.2.2⟩⟩⟩))⟩, ⟨kv (Kd.V_mono (Kd.V_far (p := ⟨gb295, 1, none⟩) (Kd.V_far (p := ⟨gb295, 0, none⟩) (Kd.V_far (p := ⟨gb294, 1, none⟩) (Kd.V_far (p := ⟨gb294, 0, none⟩) (Kd.V_mono (Kd.V_mono HO293.out (fun k_ hk => (⟨hk, hk.2.2.1⟩ : _ ∧ k_ ≠ gb294))) (fun k_ hk => (⟨hk, hk.1.2.2.2⟩ : _ ∧ k_ ≠ gb295))) (fun _ hk => hk.1.2) (.bool t286)) (fun _ hk => hk.1.2) (.slice Ao35 t287.length co35)) (fun _ hk => hk.2) (.bool t290)) (fun _ hk => hk.2) (.slice Ao38 t291.length co38)) (fun _ hk => ⟨hk.1.1.1, ⟨hk.1.1.2.1, ⟨hk.1.1.2.2.1, hk.1.1.2.2.2⟩⟩⟩))⟩, ⟨by (with_reducible repeat (first | refine blk_drewN ?_ _ | refine blk_drew ?_ | refine blk_alloc ?_ _)); refine blk_far ?_ NB278_295.out _; (with_reducible repeat (first | refine blk_drewN ?_ _ | refine blk_drew ?_ | refine blk_alloc ?_ _)); refine blk_far ?_ NB278_295.out _; (with_reducible repeat (first | refine blk_drewN ?_ _ | refine blk_drew ?_ | refine blk_alloc ?_ _)); refine blk_far ?_ NB278_294.out _; (with_reducible repeat (first | refine blk_drewN ?_ _ | refine blk_drew ?_ | refine blk_alloc ?_ _)); refine blk_far ?_ NB278_294.out _; (with_reducible repeat (first | refine blk_drewN ?_ _ | refine blk_drew ?_ | refine blk_alloc ?_ _)); exact BK278.out⟩, ⟨by (with_reducible repeat (first | refine blk_drewN ?_ _ | refine blk_drew ?_ | refine blk_alloc ?_ _)); refine blk_far ?_ NB279_295.out _; (with_reducible repeat (first | refine blk_drewN ?_ _ | refine blk_drew ?_ | refine blk_alloc ?_ _)); refine blk_far ?_ NB279_295.out _; (with_reducible repeat (first | refine blk_drewN ?_ _ | refine blk_drew ?_ | refine blk_alloc ?_ _)); refine blk_far ?_ NB279_294.out _; (with_reducible repeat (first | refine blk_drewN ?_ _ | refine blk_drew ?_ | refine blk_alloc ?_ _)); refine blk_far ?_ NB279_294.out _; (with_reducible repeat (first | refine blk_drewN ?_ _ | refine blk_drew ?_ | refine blk_alloc ?_ _)); exact BK279.out⟩, ⟨by (with_reducible repeat (first | refine blk_drewN ?_ _ | refine blk_drew ?_ | refine blk_alloc ?_ _)); refine blk_far ?_ NB294_295.out _; (with_reducible repeat (first | refine blk_drewN ?_ _ | refine blk_drew ?_ | refine blk_alloc ?_ _)); refine blk_far ?_ NB294_295.out _; (with_reducible repeat (first | refine blk_drewN ?_ _ | refine blk_drew ?_ | refine blk_alloc ?_ _)); refine blk_put (cs := #[.bool t286, .slice none 0 0]) ?_ 1 _ rfl; (with_reducible repeat (first | refine blk_drewN ?_ _ | refine blk_drew ?_ | refine blk_alloc ?_ _)); refine blk_put (cs := #[.bool false, .slice none 0 0]) ?_ 0 _ rfl; (with_reducible repeat (first | refine blk_drewN ?_ _ | refine blk_drew ?_ | refine blk_alloc ?_ _)); exact BK294.out⟩, ⟨by (with_reducible repeat (first | refine blk_drewN ?_ _ | refine blk_drew ?_ | refine blk_alloc ?_ _)); refine blk_put (cs := #[.bool t290, .slice none 0 0]) ?_ 1 _ rfl; (with_reducible repeat (first | refine blk_drewN ?_ _ | refine blk_drew ?_ | refine blk_alloc ?_ _)); refine blk_put (cs := #[.bool false, .slice none 0 0]) ?_ 0 _ rfl; (with_reducible repeat (first | refine blk_drewN ?_ _ | refine blk_drew ?_ | refine blk_alloc ?_ _)); refine blk_far ?_ NB295_294.out _; (with_reducible repeat (first | refine blk_drewN ?_ _ | refine blk_drew ?_ | refine blk_alloc ?_ _)); refine blk_far ?_ NB295_294.out _; (with_reducible repeat (first | refine blk_drewN ?_ _ | refine blk_drew ?_ | refine blk_alloc ?_ _)); exact BK295.out⟩, ⟨bel⟩⟩
    ·rw [if_neg c40] at H
     have c40b0 : decide (0 < (t283.length : Int)) = false := decide_eq_false c40
     have c40b1 : decide (0 < t283.length) = false := decide_eq_false (by omega)
     clear c40
     (first | rw [c40b0] | rw [c40b1] | (simp only [i64_w, i32_w]; rw [c40b0]) | skip)
     have H' := Aside0.mk H
     clear H
     go_wp2
     go_meet
     case rel => exact ⟨_, (false), (by first | rfl | (simp; done) | (simp [*]; done)), H', ⟨by first | omega | exact Nat.le_refl _⟩, ⟨kv (Kd.V_mono (Kd.V_far (p := ⟨gb295, 1, none⟩) (Kd.V_far (p := ⟨gb295, 0, none⟩) (Kd.V_far (p := ⟨gb294, 1, none⟩) (Kd.V_far (p := ⟨gb294, 0, none⟩) (Kd.V_mono (Kd.V_mono HO273.out (fun k_ hk => (⟨hk, hk.2.2.1⟩ : _ ∧ k_ ≠ gb294))) (fun k_ hk => (⟨hk, hk.1.2.2.2⟩ : _ ∧ k_ ≠ gb295))) (fun _ hk => hk.1.2) (.bool t286)) (fun _ hk => hk.1.2) (.slice Ao35 t287.length co35)) (fun _ hk => hk.2) (.bool t290)) (fun _ hk => hk.2) (.slice Ao38 t291.length co38)) (fun _ hk => ⟨hk.1.1.1, ⟨hk.1.1.2.1, ⟨hk.1.1.2.2.1, hk.1.1.2.2.2⟩⟩⟩))⟩, ⟨kv (Kd.V_mono (Kd.V_far (p := ⟨gb295, 1, none⟩) (Kd.V_far (p := ⟨gb295, 0, none⟩) (Kd.V_far (p := ⟨gb294, 1, none⟩) (Kd.V_far (p := ⟨gb294, 0, none⟩) (Kd.V_mono (Kd.V_mono HO277.out (fun k_ hk => (⟨hk, hk.2.2.1⟩ : _ ∧ k_ ≠ gb294))) (fun k_ hk => (⟨hk, hk.1.2.2.2⟩ : _ ∧ k_ ≠ gb295))) (fun _ hk => hk.1.2) (.bool t286)) (fun _ hk => hk.1.2) (.slice Ao35 t287.length co35)) (fun _ hk => hk.2) (.bool t290)) (fun _ hk => hk.2) (.slice Ao38 t291.length co38)) (fun _ hk => ⟨hk.1.1.1, ⟨hk.1.1.2.1, ⟨hk.1.1.2.2.1, hk.1.1.2.2.2⟩⟩⟩))⟩, ⟨kv (Kd.V_mono (Kd.V_far (p := ⟨gb295, 1, none⟩) (Kd.V_far (p := ⟨gb295, 0, none⟩) (Kd.V_far (p := ⟨gb294, 1, none⟩) (Kd.V_far (p := ⟨gb294, 0, none⟩) (Kd.V_mono (Kd.V_mono HO289.out (fun k_ hk => (⟨hk, hk.2.2.1⟩ : _ ∧ k_ ≠ gb294))) (fun k_ hk => (⟨hk, hk.1.2.2.2⟩ : _ ∧ k_ ≠ gb295))) (fun _ hk => hk.1.2) (.bool t286)) (fun _ hk => hk.1.2) (.slice Ao35 t287.length co35)) (fun _ hk => hk.2) (.bool t290)) (fun _ hk => hk.2) (.slice Ao38 t291.length co38)) (fun _ hk => ⟨hk.1.1.1, ⟨hk.1.1.2.1, ⟨hk.1.1.2.2.1, hk.1.1.2.2.2⟩⟩⟩))⟩, ⟨kv (Kd.V_mono (Kd.V_far (p := ⟨gb295, 1, none⟩) (Kd.V_far (p := ⟨gb295, 0, none⟩) (Kd.V_far (p := ⟨gb294, 1, none⟩) (Kd.V_far (p := ⟨gb294, 0, none⟩) (Kd.V_mono (Kd.V_mono HO293.out (fun k_ hk => (⟨hk, hk.2.2.1⟩ : _ ∧ k_ ≠ gb294))) (fun k_ hk => (⟨hk, hk.1.2.2.2⟩ : _ ∧ k_ ≠ gb295))) (fun _ hk => hk.1.2) (.bool t286)) (fun _ hk => hk.1.2) (.slice Ao35 t287.length co35)) (fun _ hk => hk.2) (.bool t290)) (fun _ hk => hk.2) (.slice Ao38 t291.length co38)) (fun _ hk => ⟨hk.1.1.1, ⟨hk.1.1.2.1, ⟨hk.1.1.2.2.1, hk.1.1.2.2.2⟩⟩⟩))⟩, ⟨by (with_reducible repeat (first | refine blk_drewN ?_ _ | refine blk_drew ?_ | refine blk_alloc ?_ _)); refine blk_far ?_ NB278_295.out _; (with_reducible repeat (first | refine blk_drewN ?_ _ | refine blk_drew ?_ | refine blk_alloc ?_ _)); refine blk_far ?_ NB278_295.out _; (with_reducible repeat (first | refine blk_drewN ?_ _ | refine blk_drew ?_ | refine blk_alloc ?_ _)); refine blk_far ?_ NB278_294.out _; (with_reducible repeat (first | refine blk_drewN ?_ _ | refine blk_drew ?_ | refine blk_alloc ?_ _)); refine blk_far ?_ NB278_294.out _; (with_reducible repeat (first | refine blk_drewN ?_ _ | refine blk_drew ?_ | refine blk_alloc ?_ _)); exact BK278.out⟩, ⟨by (with_reducible repeat (first | refine blk_drewN ?_ _ | refine blk_drew ?_ | refine blk_alloc ?_ _)); refine blk_far ?_ NB279_295.out _; (with_reducible repeat (first | refine blk_drewN ?_ _ | refine blk_drew ?_ | refine blk_alloc ?_ _)); refine blk_far ?_ NB279_295.out _; (with_reducible repeat (first | refine blk_drewN ?_ _ | refine blk_drew ?_ | refine blk_alloc ?_ _)); refine blk_far ?_ NB279_294.out _; (with_reducible repeat (first | refine blk_drewN ?_ _ | refine blk_drew ?_ | refine blk_alloc ?_ _)); refine blk_far ?_ NB279_294.out _; (with_reducible repeat (first | refine blk_drewN ?_ _ | refine blk_drew ?_ | refine blk_alloc ?_ _)); exact BK279.out⟩, ⟨by (with_reducible repeat (first | refine blk_drewN ?_ _ | refine blk_drew ?_ | refine blk_alloc ?_ _)); refine blk_far ?_ NB294_295.out _; (with_reducible repeat (first | refine blk_drewN ?_ _ | refine blk_drew ?_ | refine blk_alloc ?_ _)); refine blk_far ?_ NB294_295.out _; (with_reducible repeat (first | refine blk_drewN ?_ _ | refine blk_drew ?_ | refine blk_alloc ?_ _)); refine blk_put (cs := #[.bool t286, .slice none 0 0]) ?_ 1 _ rfl; (with_reducible repeat (first | refine blk_drewN ?_ _ | refine blk_drew ?_ | refine blk_alloc ?_ _)); refine blk_put (cs := #[.bool false, .slice none 0 0]) ?_ 0 _ rfl; (with_reducible repeat (first | refine blk_drewN ?_ _ | refine blk_drew ?_ | refine blk_alloc ?_ _)); exact BK294.out⟩, ⟨by (with_reducible repeat (first | refine blk_drewN ?_ _ | refine blk_drew ?_ | refine blk_alloc ?_ _)); refine blk_put (cs := #[.bool t290, .slice none 0 0]) ?_ 1 _ rfl; (with_reducible repeat (first | refine blk_drewN ?_ _ | refine blk_drew ?_ | refine blk_alloc ?_ _)); refine blk_put (cs := #[.bool false, .slice none 0 0]) ?_ 0 _ rfl; (with_reducible repeat (first | refine blk_drewN ?_ _ | refine blk_drew ?_ | refine blk_alloc ?_ _)); refine blk_far ?_ NB295_294.out _; (with_reducible repeat (first | refine blk_drewN ?_ _ | refine blk_drew ?_ | refine blk_alloc ?_ _)); refine blk_far ?_ NB295_294.out _; (with_reducible repeat (first | refine blk_drewN ?_ _ | refine blk_drew ?_ | refine blk_alloc ?_ _)); exact BK295.out⟩, ⟨bel⟩⟩
   case rest =>
    clear HC11
    (try clear p2); (try clear c3); (try clear c4); (try clear c38); (try clear c40); (try clear c40b0); (try clear c40b1); (try clear c41); (try clear c42); (try clear c43); (try clear c45); (try clear c46); (try clear hcz44_0); (try clear hcz44_1); (try clear hcz47_0); (try clear hcz47_1); (try clear hfz44_0); (try clear hfz44_1); (try clear hfz47_0); (try clear hfz47_1)
    obtain ⟨kq, x55_10, rfl, HA, HJ10, HO_279001, HO_280001, HO_295001, HO_296001, BK278, BK279, BK294, BK295, HB⟩ := hcut
    cases kq with
    | zero => exact absurd HA.out (by simp [integer_DivMod.j0])
    | succ kj10 =>
     have H := HA.out
     clear HA
     simp only [integer_DivMod.j0] at H
     by_cases c48 : x55_10 = true
     ·subst c48
      rw [if_pos rfl] at H
      obtain ⟨y296, hy296⟩ : ∃ y_ : List Int, y_ = (([1] : List Int)) := ⟨_, rfl⟩
      replace H : ((integer_add.f kj10 t286 t287 true y296).bind fun bt299 => ((integer_add.f kj10 t290 t291 t274 t275).bind fun bt303 => ((integer_number_text.f bt299.1 bt299.2).bind fun bt307 => ((integer_number_text.f bt303.1 bt303.2).bind fun bt309 => (some (bt307.1, bt309.1, 0)))))) = some (r1, r2, r3) := by first | (rw [hy296]; with_reducible exact H) | (have H2_ := (Option.bind_some _ _).symm.trans H; rw [hy296]; with_reducible exact H2_) | (have H2_ := (Option.bind_some _ _).symm.trans H; with_reducible exact H2_) | with_reducible exact H | (rw [hy296]; exact H) | exact H
      have Ny296 := Aside0.mk hy296
      clear hy296
      obtain ⟨⟨t299, t300⟩, A49, H⟩ := bind_ H
      try dsimp only at H
      obtain ⟨⟨t303, t304⟩, A50, H⟩ := bind_ H
      try dsimp only at H
      obtain ⟨⟨t307, t308⟩, A51, H⟩ := bind_ H
      try dsimp only at H
      obtain ⟨⟨t309, t310⟩, A52, H⟩ := bind_ H
      try dsimp only at H
      simp only [Option.some.injEq, Prod.mk.injEq] at H
      obtain ⟨rfl, rfl, rfl⟩ := H
      have hnb53 := NB294_278.out
      have hnc53 := NB278_294.out
      have hnb54 := NB294_279.out
      have hnc54 := NB279_294.out
      have hnb55 := NB294_295.out
      have hnc55 := NB295_294.out
      have hcz56_0 : wc.cell? ⟨gb294, 0, none⟩ = some (.bool t286) := (blk_cell BK294.out 0).trans rfl
      have hcz56_1 : wc.cell? ⟨gb294, 1, none⟩ = some (.slice Ao35 t287.length co35) := (blk_cell BK294.out 1).trans rfl
      have hfz56_0 := blk_frozen BK294.out 0
      have hfz56_1 := blk_frozen BK294.out 1
      go_wp2_with (first | ((with_reducible refine gate_dst (N := 57) rfl ?_); refine Kd.R_lit (Kd.int .u64) _ 57 ?hg (N := 57) ?hd (xs := ([1] : List Int)) (inner := [.int .u64 1]) (ok := fun _ => True) (okp := fun _ => True) ?hr ?hp (fun _ hk => hk) trivial (Below.refl _ _) (Nat.le_refl _) (by simp) ?_; (case hd => rfl); (case hg => rfl); (case hr => first | (go_simp; done) | (go_simp; rfl)); (case hp => exact (Reps.one (show Kd.M (Kd.int .u64) _ _ _ 1 [.int .u64 1] from rfl) (Reps.none _ _))); intro v297 w57 ho58 hb hg_ hnew_; clear hg_ hnew_; (first | rw [← Ny296.out] at ho58 | (simp only [Int.reduceToNat] at ho58; rw [← Ny296.out] at ho58)); have HO298 := Aside0.mk (Kd.R_lower ho58 (below_size bel)); replace HO_279001 := Aside0.mk (Kd.V_elder' (kv HO_279001.out) (Kd.R_base ho58) hb); replace HO_280001 := Aside0.mk (Kd.V_elder' (kv HO_280001.out) (Kd.R_base ho58) hb); replace HO_295001 := Aside0.mk (Kd.V_elder' (kv HO_295001.out) (Kd.R_base ho58) hb); replace HO_296001 := Aside0.mk (Kd.V_elder' (kv HO_296001.out) (Kd.R_base ho58) hb); replace BK278 := Aside0.mk (blk_below (bk BK278.out) hb); replace BK279 := Aside0.mk (blk_below (bk BK279.out) hb); replace BK294 := Aside0.mk (blk_below (bk BK294.out) hb); replace BK295 := Aside0.mk (blk_below (bk BK295.out) hb); replace HB := Aside0.mk (below_step bel hb); clear hb ho58; obtain ⟨Ao59, co59, eo59⟩ := Kd.R_slice HO298.out; subst eo59) | ((with_reducible refine gate_callee (f := 39) rfl ?_); refine goesL_ (some 59) rfl rfl Tryd.func39 (by kernel_rfl) rfl #[.agg #[.bool t286, .slice Ao35 t287.length co35], .agg #[.bool true, .slice Ao59 y296.length co59]] rfl ag ?_; (with_reducible refine (integer_add.calls kj10 t286 (fun k_ => ((k_ ≠ gb278 ∧ (k_ ≠ gb279 ∧ (k_ ≠ gb294 ∧ k_ ≠ gb295))) ∧ some k_ ≠ (.slice Ao59 y296.length co59 : Value).ownBlock)) _ _ t287 true (fun k_ => some k_ = (.slice Ao59 y296.length co59 : Value).ownBlock) _ _ y296 t299 t300 _ ?side1 ?side2 ?side3 A49.out).mono ?_); (case side1 => exact GOK.below hG.out bel); (case side2 => exact HO_295001.out); (case side3 => exact Kd.R_V (Kd.R_tight rfl (Kd.R_types (Kd.R_types (Kd.R_types (Kd.R_types HO298.out BK278.out (by decide)) BK279.out (by decide)) BK294.out (by decide)) BK295.out (by decide)))); rintro e w60 ⟨v301, rfl, ho0, hb⟩; refine ⟨_, rfl, ?_⟩; have HO302 := Aside0.mk (Kd.V_lower (Kd.V_mono (ok' := fun k_ => k_ ≠ gb278 ∧ k_ ≠ gb279 ∧ k_ ≠ gb294 ∧ k_ ≠ gb295) ho0 (fun k_ hk_ => ⟨Or.elim hk_ (fun hs_ => Or.elim hs_ (fun hs_ => hs_.1.1) (fun hs_ => ((Kd.R_types (Kd.R_types (Kd.R_types (Kd.R_types HO298.out BK278.out (by decide)) BK279.out (by decide)) BK294.out (by decide)) BK295.out (by decide)).1 k_ hs_.symm).1.1.1.2)) (fun hn_ => (Kd.freshB (bk BK278.out) k_ hn_)), Or.elim hk_ (fun hs_ => Or.elim hs_ (fun hs_ => hs_.1.2.1) (fun hs_ => ((Kd.R_types (Kd.R_types (Kd.R_types (Kd.R_types HO298.out BK278.out (by decide)) BK279.out (by decide)) BK294.out (by decide)) BK295.out (by decide)).1 k_ hs_.symm).1.1.2)) (fun hn_ => (Kd.freshB (bk BK279.out) k_ hn_)), Or.elim hk_ (fun hs_ => Or.elim hs_ (fun hs_ => hs_.1.2.2.1) (fun hs_ => ((Kd.R_types (Kd.R_types (Kd.R_types (Kd.R_types HO298.out BK278.out (by decide)) BK279.out (by decide)) BK294.out (by decide)) BK295.out (by decide)).1 k_ hs_.symm).1.2)) (fun hn_ => (Kd.freshB (bk BK294.out) k_ hn_)), Or.elim hk_ (fun hs_ => Or.elim hs_ (fun hs_ => hs_.1.2.2.2) (fun hs_ => ((Kd.R_types (Kd.R_types (Kd.R_types (Kd.R_types HO298.out BK278.out (by decide)) BK279.out (by decide)) BK294.out (by decide)) BK295.out (by decide)).1 k_ hs_.symm).2)) (fun hn_ => (Kd.freshB (bk BK295.out) k_ hn_))⟩)) (below_size bel)); replace HO_279001 := Aside0.mk (Kd.V_below (kv HO_279001.out) hb); replace HO_280001 := Aside0.mk (Kd.V_below (kv HO_280001.out) hb); replace HO_295001 := Aside0.mk (Kd.V_below (kv HO_295001.out) hb); replace HO_296001 := Aside0.mk (Kd.V_below (kv HO_296001.out) hb); replace HO298 := Aside0.mk (Kd.R_below (kr HO298.out) hb); replace BK278 := Aside0.mk (blk_below (bk BK278.out) hb); replace BK279 := Aside0.mk (blk_below (bk BK279.out) hb); replace BK294 := Aside0.mk (blk_below (bk BK294.out) hb); replace BK295 := Aside0.mk (blk_below (bk BK295.out) hb); replace HB := Aside0.mk (below_step bel hb); clear hb ho0; have hcz61_0 : w60.cell? ⟨gb294, 0, none⟩ = some (.bool t286) := (blk_cell BK294.out 0).trans rfl; have hcz61_1 : w60.cell? ⟨gb294, 1, none⟩ = some (.slice Ao35 t287.length co35) := (blk_cell BK294.out 1).trans rfl; have hfz61_0 := blk_frozen BK294.out 0; have hfz61_1 := blk_frozen BK294.out 1; obtain ⟨Ao62, co62, eo62⟩ := Kd.V_slice HO302.out; subst eo62) | ((with_reducible refine gate_store (t := 51) (p := 11) rfl ?_); refine store_event (t := 51) (p := 11) (v := ?vo_w63) (w1 := ((w60.setCell ⟨gb294, 0, none⟩ (.bool t299)).setCell ⟨gb294, 1, none⟩ (.slice Ao62 t300.length co62))) ?hg ?ho ?hn ?hr ?_; (case ho => rfl); (case hg => rfl); (case hn => rfl); (case hr => first | (go_simp; done) | (go_simp; rfl)); intro w63 hw; replace HO_279001 : Aside0 (Kd.V (Kd.int .u64) 57 w63 w.heap.size (fun k_ => some k_ ≠ (.slice Ao59 y296.length co59 : Value).ownBlock ∧ k_ ≠ gb278 ∧ k_ ≠ gb279 ∧ k_ ≠ gb294 ∧ k_ ≠ gb295) (.slice Ao18 t271.length co18) t271) := ⟨(by rw [hw]; exact (kv (Kd.V_mono (Kd.V_far (p := ⟨gb294, 1, none⟩) (Kd.V_far (p := ⟨gb294, 0, none⟩) (Kd.V_mono HO_279001.out (fun k_ hk => (⟨hk, hk.1.2.2.1⟩ : _ ∧ k_ ≠ gb294))) (fun _ hk => hk.2) (.bool t299)) (fun _ hk => hk.2) (.slice Ao62 t300.length co62)) (fun _ hk => ⟨hk.1.2, ⟨hk.1.1.1, ⟨hk.1.1.2.1, ⟨hk.1.1.2.2.1, hk.1.1.2.2.2⟩⟩⟩⟩))))⟩; replace HO_280001 : Aside0 (Kd.V (Kd.int .u64) 57 w63 w.heap.size (fun k_ => some k_ ≠ (.slice Ao59 y296.length co59 : Value).ownBlock ∧ k_ ≠ gb278 ∧ k_ ≠ gb279 ∧ k_ ≠ gb294 ∧ k_ ≠ gb295) (.slice Ao21 t275.length co21) t275) := ⟨(by rw [hw]; exact (kv (Kd.V_mono (Kd.V_far (p := ⟨gb294, 1, none⟩) (Kd.V_far (p := ⟨gb294, 0, none⟩) (Kd.V_mono HO_280001.out (fun k_ hk => (⟨hk, hk.1.2.2.1⟩ : _ ∧ k_ ≠ gb294))) (fun _ hk => hk.2) (.bool t299)) (fun _ hk => hk.2) (.slice Ao62 t300.length co62)) (fun _ hk => ⟨hk.1.2, ⟨hk.1.1.1, ⟨hk.1.1.2.1, ⟨hk.1.1.2.2.1, hk.1.1.2.2.2⟩⟩⟩⟩))))⟩; replace HO_295001 : Aside0 (Kd.V (Kd.int .u64) 57 w63 w.heap.size (fun k_ => some k_ ≠ (.slice Ao59 y296.length co59 : Value).ownBlock ∧ k_ ≠ gb278 ∧ k_ ≠ gb279 ∧ k_ ≠ gb294 ∧ k_ ≠ gb295) (.slice Ao35 t287.length co35) t287) := ⟨(by rw [hw]; exact (kv (Kd.V_mono (Kd.V_far (p := ⟨gb294, 1, none⟩) (Kd.V_far (p := ⟨gb294, 0, none⟩) (Kd.V_mono HO_295001.out (fun k_ hk => (⟨hk, hk.1.2.2.1⟩ : _ ∧ k_ ≠ gb294))) (fun _ hk => hk.2) (.bool t299)) (fun _ hk => hk.2) (.slice Ao62 t300.length co62)) (fun _ hk => ⟨hk.1.2, ⟨hk.1.1.1, ⟨hk.1.1.2.1, ⟨hk.1.1.2.2.1, hk.1.1.2.2.2⟩⟩⟩⟩))))⟩; replace HO_296001 : Aside0 (Kd.V (Kd.int .u64) 57 w63 w.heap.size (fun k_ => some k_ ≠ (.slice Ao59 y296.length co59 : Value).ownBlock ∧ k_ ≠ gb278 ∧ k_ ≠ gb279 ∧ k_ ≠ gb294 ∧ k_ ≠ gb295) (.slice Ao38 t291.length co38) t291) := ⟨(by rw [hw]; exact (kv (Kd.V_mono (Kd.V_far (p := ⟨gb294, 1, none⟩) (Kd.V_far (p := ⟨gb294, 0, none⟩) (Kd.V_mono HO_296001.out (fun k_ hk => (⟨hk, hk.1.2.2.1⟩ : _ ∧ k_ ≠ gb294))) (fun _ hk => hk.2) (.bool t299)) (fun _ hk => hk.2) (.slice Ao62 t300.length co62)) (fun _ hk => ⟨hk.1.2, ⟨hk.1.1.1, ⟨hk.1.1.2.1, ⟨hk.1.1.2.2.1, hk.1.1.2.2.2⟩⟩⟩⟩))))⟩; replace HO298 : Aside0 (Kd.R (Kd.int .u64) 57 w63 w.heap.size (fun _ => True) (.slice Ao59 y296.length co59) y296) := ⟨(by rw [hw]; exact (kr (Kd.R_mono (Kd.R_far (p := ⟨gb294, 1, none⟩) (Kd.R_far (p := ⟨gb294, 0, none⟩) (Kd.R_types HO298.out BK294.out (by decide)) (fun _ hk => hk.2) (.bool t299)) (fun _ hk => hk.2) (.slice Ao62 t300.length co62)) (fun _ hk => trivial))))⟩; replace HO302 : Aside0 (Kd.V (Kd.int .u64) 57 w63 w.heap.size (fun k_ => k_ ≠ gb278 ∧ k_ ≠ gb279 ∧ k_ ≠ gb294 ∧ k_ ≠ gb295) (.slice Ao62 t300.length co62) t300) := ⟨(by rw [hw]; exact (kv (Kd.V_mono (Kd.V_far (p := ⟨gb294, 1, none⟩) (Kd.V_far (p := ⟨gb294, 0, none⟩) (Kd.V_mono HO302.out (fun k_ hk => (⟨hk, hk.2.2.1⟩ : _ ∧ k_ ≠ gb294))) (fun _ hk => hk.2) (.bool t299)) (fun _ hk => hk.2) (.slice Ao62 t300.length co62)) (fun _ hk => ⟨hk.1.1, ⟨hk.1.2.1, ⟨hk.1.2.2.1, hk.1.2.2.2⟩⟩⟩))))⟩; replace BK278 : Aside0 (w63.heap[gb278]? = some (.cells #[.bool t270, .slice Ao18 t271.length co18] 51 (0, 0))) := ⟨(by rw [hw]; exact (by (with_reducible repeat (first | refine blk_drewN ?_ _ | refine blk_drew ?_ | refine blk_alloc ?_ _)); refine blk_far ?_ NB278_294.out _; (with_reducible repeat (first | refine blk_drewN ?_ _ | refine blk_drew ?_ | refine blk_alloc ?_ _)); refine blk_far ?_ NB278_294.out _; (with_reducible repeat (first | refine blk_drewN ?_ _ | refine blk_drew ?_ | refine blk_alloc ?_ _)); exact BK278.out))⟩; replace BK279 : Aside0 (w63.heap[gb279]? = some (.cells #[.bool t274, .slice Ao21 t275.length co21] 51 (0, 0))) := ⟨(by rw [hw]; exact (by (with_reducible repeat (first | refine blk_drewN ?_ _ | refine blk_drew ?_ | refine blk_alloc ?_ _)); refine blk_far ?_ NB279_294.out _; (with_reducible repeat (first | refine blk_drewN ?_ _ | refine blk_drew ?_ | refine blk_alloc ?_ _)); refine blk_far ?_ NB279_294.out _; (with_reducible repeat (first | refine blk_drewN ?_ _ | refine blk_drew ?_ | refine blk_alloc ?_ _)); exact BK279.out))⟩; replace BK294 : Aside0 (w63.heap[gb294]? = some (.cells #[.bool t299, .slice Ao62 t300.length co62] 51 (0, 0))) := ⟨(by rw [hw]; exact (by (with_reducible repeat (first | refine blk_drewN ?_ _ | refine blk_drew ?_ | refine blk_alloc ?_ _)); refine blk_put (cs := #[.bool t299, .slice Ao35 t287.length co35]) ?_ 1 _ rfl; (with_reducible repeat (first | refine blk_drewN ?_ _ | refine blk_drew ?_ | refine blk_alloc ?_ _)); refine blk_put (cs := #[.bool t286, .slice Ao35 t287.length co35]) ?_ 0 _ rfl; (with_reducible repeat (first | refine blk_drewN ?_ _ | refine blk_drew ?_ | refine blk_alloc ?_ _)); exact BK294.out))⟩; replace BK295 : Aside0 (w63.heap[gb295]? = some (.cells #[.bool t290, .slice Ao38 t291.length co38] 51 (0, 0))) := ⟨(by rw [hw]; exact (by (with_reducible repeat (first | refine blk_drewN ?_ _ | refine blk_drew ?_ | refine blk_alloc ?_ _)); refine blk_far ?_ NB295_294.out _; (with_reducible repeat (first | refine blk_drewN ?_ _ | refine blk_drew ?_ | refine blk_alloc ?_ _)); refine blk_far ?_ NB295_294.out _; (with_reducible repeat (first | refine blk_drewN ?_ _ | refine blk_drew ?_ | refine blk_alloc ?_ _)); exact BK295.out))⟩; replace HB : Aside0 (Below w.heap.size w w63) := ⟨(by rw [hw]; exact bel)⟩; clear hw; have hnb64 := NB295_278.out; have hnc64 := NB278_295.out; have hnb65 := NB295_279.out; have hnc65 := NB279_295.out; have hcz66_0 : w63.cell? ⟨gb295, 0, none⟩ = some (.bool t290) := (blk_cell BK295.out 0).trans rfl; have hcz66_1 : w63.cell? ⟨gb295, 1, none⟩ = some (.slice Ao38 t291.length co38) := (blk_cell BK295.out 1).trans rfl; have hfz66_0 := blk_frozen BK295.out 0; have hfz66_1 := blk_frozen BK295.out 1; have hnb67 := NB279_278.out; have hnc67 := NB278_279.out; have hcz68_0 : w63.cell? ⟨gb279, 0, none⟩ = some (.bool t274) := (blk_cell BK279.out 0).trans rfl; have hcz68_1 : w63.cell? ⟨gb279, 1, none⟩ = some (.slice Ao21 t275.length co21) := (blk_cell BK279.out 1).trans rfl; have hfz68_0 := blk_frozen BK279.out 0; have hfz68_1 := blk_frozen BK279.out 1) | ((with_reducible refine gate_callee (f := 39) rfl ?_); refine goesL_ (some 62) rfl rfl Tryd.func39 (by kernel_rfl) rfl #[.agg #[.bool t290, .slice Ao38 t291.length co38], .agg #[.bool t274, .slice Ao21 t275.length co21]] rfl ag ?_; (with_reducible refine (integer_add.calls kj10 t290 (fun k_ => (some k_ ≠ (.slice Ao59 y296.length co59 : Value).ownBlock ∧ (k_ ≠ gb278 ∧ (k_ ≠ gb279 ∧ (k_ ≠ gb294 ∧ k_ ≠ gb295))))) _ _ t291 t274 (fun k_ => (some k_ ≠ (.slice Ao59 y296.length co59 : Value).ownBlock ∧ (k_ ≠ gb278 ∧ (k_ ≠ gb279 ∧ (k_ ≠ gb294 ∧ k_ ≠ gb295))))) _ _ t275 t303 t304 _ ?side1 ?side2 ?side3 A50.out).mono ?_); (case side1 => exact GOK.below hG.out bel); (case side2 => exact HO_296001.out); (case side3 => exact HO_280001.out); rintro e w69 ⟨v305, rfl, ho0, hb⟩; refine ⟨_, rfl, ?_⟩; have HO306 := Aside0.mk (Kd.V_lower (Kd.V_mono (ok' := fun k_ => some k_ ≠ (.slice Ao59 y296.length co59 : Value).ownBlock ∧ k_ ≠ gb278 ∧ k_ ≠ gb279 ∧ k_ ≠ gb294 ∧ k_ ≠ gb295) ho0 (fun k_ hk_ => ⟨Or.elim hk_ (fun hs_ => Or.elim hs_ (fun hs_ => hs_.1) (fun hs_ => hs_.1)) (fun hn_ => (Kd.fresh' (Kd.R_lt (kr HO298.out)) k_ hn_)), Or.elim hk_ (fun hs_ => Or.elim hs_ (fun hs_ => hs_.2.1) (fun hs_ => hs_.2.1)) (fun hn_ => (Kd.freshB (bk BK278.out) k_ hn_)), Or.elim hk_ (fun hs_ => Or.elim hs_ (fun hs_ => hs_.2.2.1) (fun hs_ => hs_.2.2.1)) (fun hn_ => (Kd.freshB (bk BK279.out) k_ hn_)), Or.elim hk_ (fun hs_ => Or.elim hs_ (fun hs_ => hs_.2.2.2.1) (fun hs_ => hs_.2.2.2.1)) (fun hn_ => (Kd.freshB (bk BK294.out) k_ hn_)), Or.elim hk_ (fun hs_ => Or.elim hs_ (fun hs_ => hs_.2.2.2.2) (fun hs_ => hs_.2.2.2.2)) (fun hn_ => (Kd.freshB (bk BK295.out) k_ hn_))⟩)) (below_size bel)); replace HO_279001 := Aside0.mk (Kd.V_below (kv HO_279001.out) hb); replace HO_280001 := Aside0.mk (Kd.V_below (kv HO_280001.out) hb); replace HO_295001 := Aside0.mk (Kd.V_below (kv HO_295001.out) hb); replace HO_296001 := Aside0.mk (Kd.V_below (kv HO_296001.out) hb); replace HO298 := Aside0.mk (Kd.R_below (kr HO298.out) hb); replace HO302 := Aside0.mk (Kd.V_below (kv HO302.out) hb); replace BK278 := Aside0.mk (blk_below (bk BK278.out) hb); replace BK279 := Aside0.mk (blk_below (bk BK279.out) hb); replace BK294 := Aside0.mk (blk_below (bk BK294.out) hb); replace BK295 := Aside0.mk (blk_below (bk BK295.out) hb); replace HB := Aside0.mk (below_step bel hb); clear hb ho0; have hcz70_0 : w69.cell? ⟨gb295, 0, none⟩ = some (.bool t290) := (blk_cell BK295.out 0).trans rfl; have hcz70_1 : w69.cell? ⟨gb295, 1, none⟩ = some (.slice Ao38 t291.length co38) := (blk_cell BK295.out 1).trans rfl; have hfz70_0 := blk_frozen BK295.out 0; have hfz70_1 := blk_frozen BK295.out 1; obtain ⟨Ao71, co71, eo71⟩ := Kd.V_slice HO306.out; subst eo71; have hcz72_0 : w69.cell? ⟨gb294, 0, none⟩ = some (.bool t299) := (blk_cell BK294.out 0).trans rfl; have hcz72_1 : w69.cell? ⟨gb294, 1, none⟩ = some (.slice Ao62 t300.length co62) := (blk_cell BK294.out 1).trans rfl; have hfz72_0 := blk_frozen BK294.out 0; have hfz72_1 := blk_frozen BK294.out 1) | ((with_reducible refine gate_callee (f := 40) rfl ?_); refine goesL_ (some 65) rfl rfl Tryd.func40 (by kernel_rfl) rfl #[.agg #[.bool t299, .slice Ao62 t300.length co62]] rfl ag ?_; (with_reducible refine (integer_number_text.calls t299 _ _ t300 t307 t308 _ gk ?side2 ?side3 A51.out).mono ?_); (case side2 => refine (Kd.V_reads' (e := 57) (base := w.heap.size) (ok := fun k_ => (k_ ≠ gb278 ∧ (k_ ≠ gb279 ∧ (k_ ≠ gb294 ∧ k_ ≠ gb295)))) (n := t300.length) (c := co62) ?_).2.2; exact (kv ((Kd.V_mono (Kd.V_far (p := ⟨gb295, 1, none⟩) (Kd.V_far (p := ⟨gb295, 0, none⟩) (Kd.V_mono HO302.out (fun k_ hk => (⟨hk, hk.2.2.2⟩ : _ ∧ k_ ≠ gb295))) (fun _ hk => hk.2) (.bool t303)) (fun _ hk => hk.2) (.slice Ao71 t304.length co71)) (fun _ h_ => h_.1))))); (case side3 => exact (Kd.V_reads' HO302.out).2.1); rintro e w73 ⟨rfl, hb⟩; refine ⟨_, rfl, ?_⟩; replace HO_279001 := Aside0.mk (Kd.V_below (kv ((Kd.V_mono (Kd.V_far (p := ⟨gb295, 1, none⟩) (Kd.V_far (p := ⟨gb295, 0, none⟩) (Kd.V_mono HO_279001.out (fun k_ hk => (⟨hk, hk.2.2.2.2⟩ : _ ∧ k_ ≠ gb295))) (fun _ hk => hk.2) (.bool t303)) (fun _ hk => hk.2) (.slice Ao71 t304.length co71)) (fun _ h_ => h_.1)))) hb); replace HO_280001 := Aside0.mk (Kd.V_below (kv ((Kd.V_mono (Kd.V_far (p := ⟨gb295, 1, none⟩) (Kd.V_far (p := ⟨gb295, 0, none⟩) (Kd.V_mono HO_280001.out (fun k_ hk => (⟨hk, hk.2.2.2.2⟩ : _ ∧ k_ ≠ gb295))) (fun _ hk => hk.2) (.bool t303)) (fun _ hk => hk.2) (.slice Ao71 t304.length co71)) (fun _ h_ => h_.1)))) hb); replace HO_295001 := Aside0.mk (Kd.V_below (kv ((Kd.V_mono (Kd.V_far (p := ⟨gb295, 1, none⟩) (Kd.V_far (p := ⟨gb295, 0, none⟩) (Kd.V_mono HO_295001.out (fun k_ hk => (⟨hk, hk.2.2.2.2⟩ : _ ∧ k_ ≠ gb295))) (fun _ hk => hk.2) (.bool t303)) (fun _ hk => hk.2) (.slice Ao71 t304.length co71)) (fun _ h_ => h_.1)))) hb); replace HO_296001 := Aside0.mk (Kd.V_below (kv ((Kd.V_mono (Kd.V_far (p := ⟨gb295, 1, none⟩) (Kd.V_far (p := ⟨gb295, 0, none⟩) (Kd.V_mono HO_296001.out (fun k_ hk => (⟨hk, hk.2.2.2.2⟩ : _ ∧ k_ ≠ gb295))) (fun _ hk => hk.2) (.bool t303)) (fun _ hk => hk.2) (.slice Ao71 t304.length co71)) (fun _ h_ => h_.1)))) hb); replace HO298 := Aside0.mk (Kd.R_below (kr ((Kd.R_mono (Kd.R_far (p := ⟨gb295, 1, none⟩) (Kd.R_far (p := ⟨gb295, 0, none⟩) (Kd.R_types HO298.out BK295.out (by decide)) (fun _ hk => hk.2) (.bool t303)) (fun _ hk => hk.2) (.slice Ao71 t304.length co71)) (fun _ h_ => h_.1)))) hb); replace HO302 := Aside0.mk (Kd.V_below (kv ((Kd.V_mono (Kd.V_far (p := ⟨gb295, 1, none⟩) (Kd.V_far (p := ⟨gb295, 0, none⟩) (Kd.V_mono HO302.out (fun k_ hk => (⟨hk, hk.2.2.2⟩ : _ ∧ k_ ≠ gb295))) (fun _ hk => hk.2) (.bool t303)) (fun _ hk => hk.2) (.slice Ao71 t304.length co71)) (fun _ h_ => h_.1)))) hb); replace HO306 := Aside0.mk (Kd.V_below (kv ((Kd.V_mono (Kd.V_far (p := ⟨gb295, 1, none⟩) (Kd.V_far (p := ⟨gb295, 0, none⟩) (Kd.V_mono HO306.out (fun k_ hk => (⟨hk, hk.2.2.2.2⟩ : _ ∧ k_ ≠ gb295))) (fun _ hk => hk.2) (.bool t303)) (fun _ hk => hk.2) (.slice Ao71 t304.length co71)) (fun _ h_ => h_.1)))) hb); replace BK278 := Aside0.mk (blk_below (g := gb278) (o := .cells #[.bool t270, .slice Ao18 t271.length co18] 51 (0, 0)) (by (with_reducible repeat (first | refine blk_drewN ?_ _ | refine blk_drew ?_ | refine blk_alloc ?_ _)); refine blk_far ?_ NB278_295.out _; (with_reducible repeat (first | refine blk_drewN ?_ _ | refine blk_drew ?_ | refine blk_alloc ?_ _)); refine blk_far ?_ NB278_295.out _; (with_reducible repeat (first | refine blk_drewN ?_ _ | refine blk_drew ?_ | refine blk_alloc ?_ _)); exact BK278.out) hb); replace BK279 := Aside0.mk (blk_below (g := gb279) (o := .cells #[.bool t274, .slice Ao21 t275.length co21] 51 (0, 0)) (by (with_reducible repeat (first | refine blk_drewN ?_ _ | refine blk_drew ?_ | refine blk_alloc ?_ _)); refine blk_far ?_ NB279_295.out _; (with_reducible repeat (first | refine blk_drewN ?_ _ | refine blk_drew ?_ | refine blk_alloc ?_ _)); refine blk_far ?_ NB279_295.out _; (with_reducible repeat (first | refine blk_drewN ?_ _ | refine blk_drew ?_ | refine blk_alloc ?_ _)); exact BK279.out) hb); replace BK294 := Aside0.mk (blk_below (g := gb294) (o := .cells #[.bool t299, .slice Ao62 t300.length co62] 51 (0, 0)) (by (with_reducible repeat (first | refine blk_drewN ?_ _ | refine blk_drew ?_ | refine blk_alloc ?_ _)); refine blk_far ?_ NB294_295.out _; (with_reducible repeat (first | refine blk_drewN ?_ _ | refine blk_drew ?_ | refine blk_alloc ?_ _)); refine blk_far ?_ NB294_295.out _; (with_reducible repeat (first | refine blk_drewN ?_ _ | refine blk_drew ?_ | refine blk_alloc ?_ _)); exact BK294.out) hb); replace BK295 := Aside0.mk (blk_below (g := gb295) (o := .cells #[.bool t303, .slice Ao71 t304.length co71] 51 (0, 0)) (by (with_reducible repeat (first | refine blk_drewN ?_ _ | refine blk_drew ?_ | refine blk_alloc ?_ _)); refine blk_put (cs := #[.bool t303, .slice Ao38 t291.length co38]) ?_ 1 _ rfl; (with_reducible repeat (first | refine blk_drewN ?_ _ | refine blk_drew ?_ | refine blk_alloc ?_ _)); refine blk_put (cs := #[.bool t290, .slice Ao38 t291.length co38]) ?_ 0 _ rfl; (with_reducible repeat (first | refine blk_drewN ?_ _ | refine blk_drew ?_ | refine blk_alloc ?_ _)); exact BK295.out) hb); replace HB := Aside0.mk (below_step bel hb); clear hb; have hcz74_0 : w73.cell? ⟨gb295, 0, none⟩ = some (.bool t303) := (blk_cell BK295.out 0).trans rfl; have hcz74_1 : w73.cell? ⟨gb295, 1, none⟩ = some (.slice Ao71 t304.length co71) := (blk_cell BK295.out 1).trans rfl; have hfz74_0 := blk_frozen BK295.out 0; have hfz74_1 := blk_frozen BK295.out 1) | ((with_reducible refine gate_callee (f := 40) rfl ?_); refine goesL_ (some 70) rfl rfl Tryd.func40 (by kernel_rfl) rfl #[.agg #[.bool t303, .slice Ao71 t304.length co71]] rfl ag ?_; (with_reducible refine (integer_number_text.calls t303 _ _ t304 t309 t310 _ gk ?side2 ?side3 A52.out).mono ?_); (case side2 => exact kc ((Kd.V_reads' HO306.out).2.2)); (case side3 => exact (Kd.V_reads' HO306.out).2.1); rintro e w75 ⟨rfl, hb⟩; refine ⟨_, rfl, ?_⟩; replace HO_279001 := Aside0.mk (Kd.V_below (kv HO_279001.out) hb); replace HO_280001 := Aside0.mk (Kd.V_below (kv HO_280001.out) hb); replace HO_295001 := Aside0.mk (Kd.V_below (kv HO_295001.out) hb); replace HO_296001 := Aside0.mk (Kd.V_below (kv HO_296001.out) hb); replace HO298 := Aside0.mk (Kd.R_below (kr HO298.out) hb); replace HO302 := Aside0.mk (Kd.V_below (kv HO302.out) hb); replace HO306 := Aside0.mk (Kd.V_below (kv HO306.out) hb); replace BK278 := Aside0.mk (blk_below (bk BK278.out) hb); replace BK279 := Aside0.mk (blk_below (bk BK279.out) hb); replace BK294 := Aside0.mk (blk_below (bk BK294.out) hb); replace BK295 := Aside0.mk (blk_below (bk BK295.out) hb); replace HB := Aside0.mk (below_step bel hb); clear hb))
      go_ret3
      exact ⟨er, bel⟩
     ·replace c48 := Bool.eq_false_iff.mpr c48
      subst c48
      rw [if_neg Bool.false_ne_true] at H
      obtain ⟨⟨t311, t312⟩, A76, H⟩ := bind_ H
      try dsimp only at H
      obtain ⟨⟨t313, t314⟩, A77, H⟩ := bind_ H
      try dsimp only at H
      simp only [Option.some.injEq, Prod.mk.injEq] at H
      obtain ⟨rfl, rfl, rfl⟩ := H
      have hnb78 := NB294_278.out
      have hnc78 := NB278_294.out
      have hnb79 := NB294_279.out
      have hnc79 := NB279_294.out
      have hnb80 := NB294_295.out
      have hnc80 := NB295_294.out
      have hcz81_0 : wc.cell? ⟨gb294, 0, none⟩ = some (.bool t286) := (blk_cell BK294.out 0).trans rfl
      have hcz81_1 : wc.cell? ⟨gb294, 1, none⟩ = some (.slice Ao35 t287.length co35) := (blk_cell BK294.out 1).trans rfl
      have hfz81_0 := blk_frozen BK294.out 0
      have hfz81_1 := blk_frozen BK294.out 1
      go_wp2_with (first | ((with_reducible refine gate_callee (f := 40) rfl ?_); refine goesL_ (some 65) rfl rfl Tryd.func40 (by kernel_rfl) rfl #[.agg #[.bool t286, .slice Ao35 t287.length co35]] rfl ag ?_; (with_reducible refine (integer_number_text.calls t286 _ _ t287 t311 t312 _ gk ?side2 ?side3 A76.out).mono ?_); (case side2 => exact kc ((Kd.V_reads' HO_295001.out).2.2)); (case side3 => exact (Kd.V_reads' HO_295001.out).2.1); rintro e w82 ⟨rfl, hb⟩; refine ⟨_, rfl, ?_⟩; replace HO_279001 := Aside0.mk (Kd.V_below (kv HO_279001.out) hb); replace HO_280001 := Aside0.mk (Kd.V_below (kv HO_280001.out) hb); replace HO_295001 := Aside0.mk (Kd.V_below (kv HO_295001.out) hb); replace HO_296001 := Aside0.mk (Kd.V_below (kv HO_296001.out) hb); replace BK278 := Aside0.mk (blk_below (bk BK278.out) hb); replace BK279 := Aside0.mk (blk_below (bk BK279.out) hb); replace BK294 := Aside0.mk (blk_below (bk BK294.out) hb); replace BK295 := Aside0.mk (blk_below (bk BK295.out) hb); replace HB := Aside0.mk (below_step bel hb); clear hb; have hnb83 := NB295_278.out; have hnc83 := NB278_295.out; have hnb84 := NB295_279.out; have hnc84 := NB279_295.out; have hcz85_0 : w82.cell? ⟨gb295, 0, none⟩ = some (.bool t290) := (blk_cell BK295.out 0).trans rfl; have hcz85_1 : w82.cell? ⟨gb295, 1, none⟩ = some (.slice Ao38 t291.length co38) := (blk_cell BK295.out 1).trans rfl; have hfz85_0 := blk_frozen BK295.out 0; have hfz85_1 := blk_frozen BK295.out 1) | ((with_reducible refine gate_callee (f := 40) rfl ?_); refine goesL_ (some 70) rfl rfl Tryd.func40 (by kernel_rfl) rfl #[.agg #[.bool t290, .slice Ao38 t291.length co38]] rfl ag ?_; (with_reducible refine (integer_number_text.calls t290 _ _ t291 t313 t314 _ gk ?side2 ?side3 A77.out).mono ?_); (case side2 => exact kc ((Kd.V_reads' HO_296001.out).2.2)); (case side3 => exact (Kd.V_reads' HO_296001.out).2.1); rintro e w86 ⟨rfl, hb⟩; refine ⟨_, rfl, ?_⟩; replace HO_279001 := Aside0.mk (Kd.V_below (kv HO_279001.out) hb); replace HO_280001 := Aside0.mk (Kd.V_below (kv HO_280001.out) hb); replace HO_295001 := Aside0.mk (Kd.V_below (kv HO_295001.out) hb); replace HO_296001 := Aside0.mk (Kd.V_below (kv HO_296001.out) hb); replace BK278 := Aside0.mk (blk_below (bk BK278.out) hb); replace BK279 := Aside0.mk (blk_below (bk BK279.out) hb); replace BK294 := Aside0.mk (blk_below (bk BK294.out) hb); replace BK295 := Aside0.mk (blk_below (bk BK295.out) hb); replace HB := Aside0.mk (below_step bel hb); clear hb))
      go_ret3
      exact ⟨er, bel⟩
 ·replace c4 := Bool.eq_false_iff.mpr c4
  subst c4
  rw [if_neg Bool.false_ne_true] at H
  simp only [Option.some.injEq, Prod.mk.injEq] at H
  obtain ⟨rfl, rfl, rfl⟩ := H
  go_enter Tryd.func13, Tryd.ntmps13
  go_wp2_with (first | ((with_reducible refine gate_callee (f := 35) rfl ?_); refine goesL_ (some 19) rfl rfl Tryd.func35 (by kernel_rfl) rfl #[.string a0, .string a1] rfl ag ?_; (with_reducible refine (integer_both.calls k a0 a1 false _ gk A3.out).mono ?_); rintro e w' ⟨rfl, ⟨nd, rfl⟩⟩; refine ⟨_, rfl, ?_⟩))
  go_ret3
  exact ⟨er, bel⟩

end Go.Proofs.YtdnjlmoggnbknaaDoor.PInt
