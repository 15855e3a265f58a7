-- Written by a program of this session's (xprint.py) over the kit's print.
import Derived.Test.YtdnjlmoggnbknaaDoorPIntx16
import Derived.Test.YtdnjlmoggnbknaaDoorPIntx0
import Derived.Test.YtdnjlmoggnbknaaDoorPIntx7
import Derived.Test.YtdnjlmoggnbknaaDoorPIntx8
import Derived.Test.YtdnjlmoggnbknaaDoorPIntx9
import Derived.Test.YtdnjlmoggnbknaaDoorPIntx10
import Derived.Test.YtdnjlmoggnbknaaDoorPIntx15
import Derived.Test.YtdnjlmoggnbknaaDoorPIntD
import Derived.Test.YtdnjlmoggnbknaaDoorAuto
namespace Go.Proofs.YtdnjlmoggnbknaaDoor.PInt
open Go.RowKit Go.Proofs.YtdnjlmoggnbknaaDoor.Ext Go.Proofs.YtdnjlmoggnbknaaDoorW.PrintWords Go.Proofs.YtdnjlmoggnbknaaDoorW.PrintLast Go.Proofs.YtdnjlmoggnbknaaDoorW.PrintMore
attribute [local go_sem high] gtr_print leq_print
attribute [local go_sem] max2_int min2_int max_two min_two max_three min_three max_four min_four   -- for this text's walks alone
set_option linter.unusedVariables false
set_option linter.unusedSimpArgs false

/-! ### cellarerlaw02_IntegerDivides: function 3 -/
set_option maxRecDepth 100000 in
theorem cellarerlaw02_IntegerDivides.close0 {P_ : Prop} (h_ : P_ := by (go_wp2_with (first | ((with_reducible refine gate_callee (f := 16) rfl ?_); refine goesL_ (some 55) rfl rfl Tryd.func16 (by kernel_rfl) rfl #[.string a0] rfl ag ?_; (with_reducible refine (cellarerref02_Of.calls kj9 a0 t680 t681 _ gk A22.out).mono ?_); rintro e w9001_ ⟨v682, rfl, ho0, hb⟩; refine ⟨_, rfl, ?_⟩; have HO9001_ := Aside0.mk (Kd.V_lower (Kd.V_mono (ok' := fun k_ => True) ho0 (fun k_ hk_ => trivial)) (below_size bel)); replace HB := Aside0.mk (below_step bel hb); clear hb ho0) | ((with_reducible refine gate_callee (f := 16) rfl ?_); refine goesL_ (some 57) rfl rfl Tryd.func16 (by kernel_rfl) rfl #[.string a1] rfl ag ?_; (with_reducible refine (cellarerref02_Of.calls kj9 a1 t684 t685 _ gk A23.out).mono ?_); rintro e w9002_ ⟨v686, rfl, ho0, hb⟩; refine ⟨_, rfl, ?_⟩; have HO9002_ := Aside0.mk (Kd.V_lower (Kd.V_mono (ok' := fun k_ => True) ho0 (fun k_ hk_ => trivial)) (below_size bel)); replace HO9001_ := Aside0.mk (Kd.V_below (kv HO9001_.out) hb); replace HB := Aside0.mk (below_step bel hb); clear hb ho0) | ((with_reducible refine gate_dst (N := 10) rfl ?_); refine box_event ?hg (N := 10) ?hd (cs := #[.bool false, .slice none 0 0]) (t := 32) ?hr ?_; (case hd => rfl); (case hg => rfl); (case hr => first | (go_simp; done) | (go_simp; rfl)); intro gb9001_ hg w9003_ hbox hb; have BK9001_ := Aside0.mk (hbox); have GW9001_ := Aside0.mk ((by rw [hg]; exact (below_size bel) : w.heap.size ≤ gb9001_)); have GE9001_ := Aside0.mk ((by rw [hg]; exact (below_size bel) : w.heap.size ≤ gb9001_)); replace HO9001_ := Aside0.mk (Kd.V_below (Kd.V_elderB (kv HO9001_.out) gb9001_ (Nat.le_of_eq hg.symm)) hb); replace HO9002_ := Aside0.mk (Kd.V_below (Kd.V_elderB (kv HO9002_.out) gb9001_ (Nat.le_of_eq hg.symm)) hb); replace HB := Aside0.mk (below_step bel hb); clear hb hbox hg) | ((with_reducible refine gate_dst (N := 11) rfl ?_); refine box_event ?hg (N := 11) ?hd (cs := #[.bool false, .slice none 0 0]) (t := 32) ?hr ?_; (case hd => rfl); (case hg => rfl); (case hr => first | (go_simp; done) | (go_simp; rfl)); intro gb9002_ hg w9004_ hbox hb; have BK9002_ := Aside0.mk (hbox); have GW9002_ := Aside0.mk ((by rw [hg]; exact (below_size bel) : w.heap.size ≤ gb9002_)); have GE9002_ := Aside0.mk ((by rw [hg]; exact (below_size bel) : w.heap.size ≤ gb9002_)); have NB9001_ := Aside0.mk ((by rw [hg]; exact Nat.ne_of_lt (blk_lt (bk BK9001_.out)) : gb9001_ ≠ gb9002_)); have NB9002_ := Aside0.mk ((by rw [hg]; exact Nat.ne_of_gt (blk_lt (bk BK9001_.out)) : gb9002_ ≠ gb9001_)); replace HO9001_ := Aside0.mk (Kd.V_below (Kd.V_elderB (kv HO9001_.out) gb9002_ (Nat.le_of_eq hg.symm)) hb); replace HO9002_ := Aside0.mk (Kd.V_below (Kd.V_elderB (kv HO9002_.out) gb9002_ (Nat.le_of_eq hg.symm)) hb); replace BK9001_ := Aside0.mk (blk_below (bk BK9001_.out) hb); replace HB := Aside0.mk (below_step bel hb); clear hb hbox hg; have hnb9001_ := NB9001_.out; have hnc9001_ := NB9002_.out; have hcz9001_ : w9004_.cell? ⟨gb9001_, 0, none⟩ = some (.bool false) := (blk_cell BK9001_.out 0).trans rfl; have hcz9002_ : w9004_.cell? ⟨gb9001_, 1, none⟩ = some (.slice none 0 0) := (blk_cell BK9001_.out 1).trans rfl; have hfz9001_ := blk_frozen BK9001_.out 0; have hfz9002_ := blk_frozen BK9001_.out 1; obtain ⟨Ao9001_, co9001_, eo9001_⟩ := Kd.V_slice HO9001_.out; subst eo9001_) | ((with_reducible refine gate_store (t := 32) (p := 10) rfl ?_); refine store_event (t := 32) (p := 10) (v := ?vo_w9005_) (w1 := ((w9004_.setCell ⟨gb9001_, 0, none⟩ (.bool t680)).setCell ⟨gb9001_, 1, none⟩ (.slice Ao9001_ t681.length co9001_))) ?hg ?ho ?hn ?hr ?_; (case ho => rfl); (case hg => rfl); (case hn => rfl); (case hr => first | (go_simp; done) | (go_simp; rfl)); intro w9005_ hw; replace HO9001_ : Aside0 (Kd.V (Kd.int .i64) 3 w9005_ w.heap.size (fun k_ => k_ ≠ gb9001_ ∧ k_ ≠ gb9002_) (.slice Ao9001_ t681.length co9001_) t681) := ⟨(by rw [hw]; exact (kv (Kd.V_mono (Kd.V_far (p := ⟨gb9001_, 1, none⟩) (Kd.V_far (p := ⟨gb9001_, 0, none⟩) (Kd.V_mono HO9001_.out (fun k_ hk => (⟨hk, hk.1.2⟩ : _ ∧ k_ ≠ gb9001_))) (fun _ hk => hk.2) (.bool t680)) (fun _ hk => hk.2) (.slice Ao9001_ t681.length co9001_)) (fun _ hk => ⟨hk.1.1.2, hk.1.2⟩))))⟩; replace HO9002_ : Aside0 (Kd.V (Kd.int .i64) 3 w9005_ w.heap.size (fun k_ => k_ ≠ gb9001_ ∧ k_ ≠ gb9002_) v686 t685) := ⟨(by rw [hw]; exact (kv (Kd.V_mono (Kd.V_far (p := ⟨gb9001_, 1, none⟩) (Kd.V_far (p := ⟨gb9001_, 0, none⟩) (Kd.V_mono HO9002_.out (fun k_ hk => (⟨hk, hk.1.2⟩ : _ ∧ k_ ≠ gb9001_))) (fun _ hk => hk.2) (.bool t680)) (fun _ hk => hk.2) (.slice Ao9001_ t681.length co9001_)) (fun _ hk => ⟨hk.1.1.2, hk.1.2⟩))))⟩; replace BK9001_ : Aside0 (w9005_.heap[gb9001_]? = some (.cells #[.bool t680, .slice Ao9001_ t681.length co9001_] 32 (0, 0))) := ⟨(by rw [hw]; exact (by (with_reducible repeat (first | refine blk_drewN ?_ _ | refine blk_drew ?_ | refine blk_alloc ?_ _)); refine blk_put (cs := #[.bool t680, .slice none 0 0]) ?_ 1 _ rfl; (with_reducible repeat (first | refine blk_drewN ?_ _ | refine blk_drew ?_ | refine blk_alloc ?_ _)); refine blk_put (cs := #[.bool false, .slice none 0 0]) ?_ 0 _ rfl; (with_reducible repeat (first | refine blk_drewN ?_ _ | refine blk_drew ?_ | refine blk_alloc ?_ _)); exact BK9001_.out))⟩; replace BK9002_ : Aside0 (w9005_.heap[gb9002_]? = some (.cells #[.bool false, .slice none 0 0] 32 (0, 0))) := ⟨(by rw [hw]; exact (by (with_reducible repeat (first | refine blk_drewN ?_ _ | refine blk_drew ?_ | refine blk_alloc ?_ _)); refine blk_far ?_ NB9002_.out _; (with_reducible repeat (first | refine blk_drewN ?_ _ | refine blk_drew ?_ | refine blk_alloc ?_ _)); refine blk_far ?_ NB9002_.out _; (with_reducible repeat (first | refine blk_drewN ?_ _ | refine blk_drew ?_ | refine blk_alloc ?_ _)); exact BK9002_.out))⟩; replace HB : Aside0 (Below w.heap.size w w9005_) := ⟨(by rw [hw]; exact bel)⟩; clear hw; have hcz9003_ : w9005_.cell? ⟨gb9002_, 0, none⟩ = some (.bool false) := (blk_cell BK9002_.out 0).trans rfl; have hcz9004_ : w9005_.cell? ⟨gb9002_, 1, none⟩ = some (.slice none 0 0) := (blk_cell BK9002_.out 1).trans rfl; have hfz9003_ := blk_frozen BK9002_.out 0; have hfz9004_ := blk_frozen BK9002_.out 1; obtain ⟨Ao9002_, co9002_, eo9002_⟩ := Kd.V_slice HO9002_.out; subst eo9002_) | ((with_reducible refine gate_store (t := 32) (p := 11) rfl ?_); refine store_event (t := 32) (p := 11) (v := ?vo_w9006_) (w1 := ((w9005_.setCell ⟨gb9002_, 0, none⟩ (.bool t684)).setCell ⟨gb9002_, 1, none⟩ (.slice Ao9002_ t685.length co9002_))) ?hg ?ho ?hn ?hr ?_; (case ho => rfl); (case hg => rfl); (case hn => rfl); (case hr => first | (go_simp; done) | (go_simp; rfl)); intro w9006_ hw; replace HO9001_ : Aside0 (Kd.V (Kd.int .i64) 3 w9006_ w.heap.size (fun k_ => k_ ≠ gb9001_ ∧ k_ ≠ gb9002_) (.slice Ao9001_ t681.length co9001_) t681) := ⟨(by rw [hw]; exact (kv (Kd.V_mono (Kd.V_far (p := ⟨gb9002_, 1, none⟩) (Kd.V_far (p := ⟨gb9002_, 0, none⟩) (Kd.V_mono HO9001_.out (fun k_ hk => (⟨hk, hk.2⟩ : _ ∧ k_ ≠ gb9002_))) (fun _ hk => hk.2) (.bool t684)) (fun _ hk => hk.2) (.slice Ao9002_ t685.length co9002_)) (fun _ hk => ⟨hk.1.1, hk.1.2⟩))))⟩; replace HO9002_ : Aside0 (Kd.V (Kd.int .i64) 3 w9006_ w.heap.size (fun k_ => k_ ≠ gb9001_ ∧ k_ ≠ gb9002_) (.slice Ao9002_ t685.length co9002_) t685) := ⟨(by rw [hw]; exact (kv (Kd.V_mono (Kd.V_far (p := ⟨gb9002_, 1, none⟩) (Kd.V_far (p := ⟨gb9002_, 0, none⟩) (Kd.V_mono HO9002_.out (fun k_ hk => (⟨hk, hk.2⟩ : _ ∧ k_ ≠ gb9002_))) (fun _ hk => hk.2) (.bool t684)) (fun _ hk => hk.2) (.slice Ao9002_ t685.length co9002_)) (fun _ hk => ⟨hk.1.1, hk.1.2⟩))))⟩; replace BK9001_ : Aside0 (w9006_.heap[gb9001_]? = some (.cells #[.bool t680, .slice Ao9001_ t681.length co9001_] 32 (0, 0))) := ⟨(by rw [hw]; exact (by (with_reducible repeat (first | refine blk_drewN ?_ _ | refine blk_drew ?_ | refine blk_alloc ?_ _)); refine blk_far ?_ NB9001_.out _; (with_reducible repeat (first | refine blk_drewN ?_ _ | refine blk_drew ?_ | refine blk_alloc ?_ _)); refine blk_far ?_ NB9001_.out _; (with_reducible repeat (first | refine blk_drewN ?_ _ | refine blk_drew ?_ | refine blk_alloc ?_ _)); exact BK9001_.out))⟩; replace BK9002_ : Aside0 (w9006_.heap[gb9002_]? = some (.cells #[.bool t684, .slice Ao9002_ t685.length co9002_] 32 (0, 0))) := ⟨(by rw [hw]; exact (by (with_reducible repeat (first | refine blk_drewN ?_ _ | refine blk_drew ?_ | refine blk_alloc ?_ _)); refine blk_put (cs := #[.bool t684, .slice none 0 0]) ?_ 1 _ rfl; (with_reducible repeat (first | refine blk_drewN ?_ _ | refine blk_drew ?_ | refine blk_alloc ?_ _)); refine blk_put (cs := #[.bool false, .slice none 0 0]) ?_ 0 _ rfl; (with_reducible repeat (first | refine blk_drewN ?_ _ | refine blk_drew ?_ | refine blk_alloc ?_ _)); exact BK9002_.out))⟩; replace HB : Aside0 (Below w.heap.size w w9006_) := ⟨(by rw [hw]; exact bel)⟩; clear hw; have hcz9005_ : w9006_.cell? ⟨gb9001_, 0, none⟩ = some (.bool t680) := (blk_cell BK9001_.out 0).trans rfl; have hcz9006_ : w9006_.cell? ⟨gb9001_, 1, none⟩ = some (.slice Ao9001_ t681.length co9001_) := (blk_cell BK9001_.out 1).trans rfl; have hfz9005_ := blk_frozen BK9001_.out 0; have hfz9006_ := blk_frozen BK9001_.out 1; have hcz9007_ : w9006_.cell? ⟨gb9002_, 0, none⟩ = some (.bool t684) := (blk_cell BK9002_.out 0).trans rfl; have hcz9008_ : w9006_.cell? ⟨gb9002_, 1, none⟩ = some (.slice Ao9002_ t685.length co9002_) := (blk_cell BK9002_.out 1).trans rfl; have hfz9007_ := blk_frozen BK9002_.out 0; have hfz9008_ := blk_frozen BK9002_.out 1) | ((with_reducible refine gate_callee (f := 18) rfl ?_); refine goesL_ (some 62) rfl rfl Tryd.func18 (by kernel_rfl) rfl #[.agg #[.bool t680, .slice Ao9001_ t681.length co9001_], .agg #[.bool t684, .slice Ao9002_ t685.length co9002_]] rfl ag ?_; (with_reducible refine (cellarerref02_Gcd.calls kj9 t680 (fun k_ => (k_ ≠ gb9001_ ∧ k_ ≠ gb9002_)) _ _ t681 t684 (fun k_ => (k_ ≠ gb9001_ ∧ k_ ≠ gb9002_)) _ _ t685 t690 t691 _ gk HO9001_.out HO9002_.out A24.out).mono ?_); rintro e w9007_ ⟨v692, rfl, ho0, hb⟩; refine ⟨_, rfl, ?_⟩; have HO9003_ := Aside0.mk (Kd.V_lower (Kd.V_mono (ok' := fun k_ => k_ ≠ gb9001_ ∧ k_ ≠ gb9002_) ho0 (fun k_ hk_ => ⟨Or.elim hk_ (fun hs_ => Or.elim hs_ (fun hs_ => hs_.1) (fun hs_ => hs_.1)) (fun hn_ => (Kd.freshB (bk BK9001_.out) k_ hn_)), Or.elim hk_ (fun hs_ => Or.elim hs_ (fun hs_ => hs_.2) (fun hs_ => hs_.2)) (fun hn_ => (Kd.freshB (bk BK9002_.out) k_ hn_))⟩)) (below_size bel)); replace HO9001_ := Aside0.mk (Kd.V_below (kv HO9001_.out) hb); replace HO9002_ := Aside0.mk (Kd.V_below (kv HO9002_.out) hb); replace BK9001_ := Aside0.mk (blk_below (bk BK9001_.out) hb); replace BK9002_ := Aside0.mk (blk_below (bk BK9002_.out) hb); replace HB := Aside0.mk (below_step bel hb); clear hb ho0; obtain ⟨Ao9003_, co9003_, eo9003_⟩ := Kd.V_slice HO9003_.out; subst eo9003_) | ((with_reducible refine gate_callee (f := 17) rfl ?_); refine goesL_ (some 63) rfl rfl Tryd.func17 (by kernel_rfl) rfl #[.string t676, .int .i64 t677, .agg #[.bool t690, .slice Ao9003_ t691.length co9003_]] rfl ag ?_; (with_reducible refine (cellarerlaw02_agree.calls kj9 t676 t677 t690 _ _ t691 _ _ gk ?side2 ?side3 A25.out).mono ?_); (case side2 => exact kc ((Kd.V_reads' HO9003_.out).2.2)); (case side3 => exact (Kd.V_reads' HO9003_.out).2.1); rintro e w9008_ ⟨rfl, hb⟩; refine ⟨_, rfl, ?_⟩; replace HO9001_ := Aside0.mk (Kd.V_below (kv HO9001_.out) hb); replace HO9002_ := Aside0.mk (Kd.V_below (kv HO9002_.out) hb); replace HO9003_ := Aside0.mk (Kd.V_below (kv HO9003_.out) hb); replace BK9001_ := Aside0.mk (blk_below (bk BK9001_.out) hb); replace BK9002_ := Aside0.mk (blk_below (bk BK9002_.out) hb); replace HB := Aside0.mk (below_step bel hb); clear hb; have hcz9009_ : w9008_.cell? ⟨gb9001_, 0, none⟩ = some (.bool t680) := (blk_cell BK9001_.out 0).trans rfl; have hcz9010_ : w9008_.cell? ⟨gb9001_, 1, none⟩ = some (.slice Ao9001_ t681.length co9001_) := (blk_cell BK9001_.out 1).trans rfl; have hfz9009_ := blk_frozen BK9001_.out 0; have hfz9010_ := blk_frozen BK9001_.out 1; have hcz9011_ : w9008_.cell? ⟨gb9002_, 0, none⟩ = some (.bool t684) := (blk_cell BK9002_.out 0).trans rfl; have hcz9012_ : w9008_.cell? ⟨gb9002_, 1, none⟩ = some (.slice Ao9002_ t685.length co9002_) := (blk_cell BK9002_.out 1).trans rfl; have hfz9011_ := blk_frozen BK9002_.out 0; have hfz9012_ := blk_frozen BK9002_.out 1) | ((with_reducible refine gate_callee (f := 19) rfl ?_); refine goesL_ (some 78) rfl rfl Tryd.func19 (by kernel_rfl) rfl #[.agg #[.bool t680, .slice Ao9001_ t681.length co9001_], .agg #[.bool t684, .slice Ao9002_ t685.length co9002_]] rfl ag ?_; (with_reducible refine (cellarerref02_DivMod.calls kj9 t680 _ _ t681 t684 _ _ t685 t695 t696 t699 t700 _ gk ?side2 ?side3 ?side4 ?side5 A62.out).mono ?_); (case side2 => exact kc ((Kd.V_reads' HO9001_.out).2.2)); (case side3 => exact (Kd.V_reads' HO9001_.out).2.1); (case side4 => exact kc ((Kd.V_reads' HO9002_.out).2.2)); (case side5 => exact (Kd.V_reads' HO9002_.out).2.1); rintro e w9009_ ⟨v697, v701, rfl, ho0, ho1, hb⟩; refine ⟨_, rfl, ?_⟩; have HO9004_ := Aside0.mk (Kd.V_lower (Kd.V_mono (ok' := fun k_ => k_ ≠ gb9001_ ∧ k_ ≠ gb9002_) ho0 (fun k_ hk_ => ⟨(Kd.freshB (bk BK9001_.out) k_ hk_), (Kd.freshB (bk BK9002_.out) k_ hk_)⟩)) (below_size bel)); have HO9005_ := Aside0.mk (Kd.V_lower (Kd.V_mono (ok' := fun k_ => k_ ≠ gb9001_ ∧ k_ ≠ gb9002_) ho1 (fun k_ hk_ => ⟨(Kd.freshB (bk BK9001_.out) k_ hk_), (Kd.freshB (bk BK9002_.out) k_ hk_)⟩)) (below_size bel)); replace HO9001_ := Aside0.mk (Kd.V_below (kv HO9001_.out) hb); replace HO9002_ := Aside0.mk (Kd.V_below (kv HO9002_.out) hb); replace HO9003_ := Aside0.mk (Kd.V_below (kv HO9003_.out) hb); replace BK9001_ := Aside0.mk (blk_below (bk BK9001_.out) hb); replace BK9002_ := Aside0.mk (blk_below (bk BK9002_.out) hb); replace HB := Aside0.mk (below_step bel hb); clear hb ho0 ho1) | ((with_reducible refine gate_dst (N := 12) rfl ?_); refine box_event ?hg (N := 12) ?hd (cs := #[.bool false, .slice none 0 0]) (t := 32) ?hr ?_; (case hd => rfl); (case hg => rfl); (case hr => first | (go_simp; done) | (go_simp; rfl)); intro gb9003_ hg w9010_ hbox hb; have BK9003_ := Aside0.mk (hbox); have GW9003_ := Aside0.mk ((by rw [hg]; exact (below_size bel) : w.heap.size ≤ gb9003_)); have GE9003_ := Aside0.mk ((by rw [hg]; exact (below_size bel) : w.heap.size ≤ gb9003_)); have NB9003_ := Aside0.mk ((by rw [hg]; exact Nat.ne_of_lt (blk_lt (bk BK9001_.out)) : gb9001_ ≠ gb9003_)); have NB9004_ := Aside0.mk ((by rw [hg]; exact Nat.ne_of_gt (blk_lt (bk BK9001_.out)) : gb9003_ ≠ gb9001_)); have NB9005_ := Aside0.mk ((by rw [hg]; exact Nat.ne_of_lt (blk_lt (bk BK9002_.out)) : gb9002_ ≠ gb9003_)); have NB9006_ := Aside0.mk ((by rw [hg]; exact Nat.ne_of_gt (blk_lt (bk BK9002_.out)) : gb9003_ ≠ gb9002_)); replace HO9001_ := Aside0.mk (Kd.V_below (Kd.V_elderB (kv HO9001_.out) gb9003_ (Nat.le_of_eq hg.symm)) hb); replace HO9002_ := Aside0.mk (Kd.V_below (Kd.V_elderB (kv HO9002_.out) gb9003_ (Nat.le_of_eq hg.symm)) hb); replace HO9003_ := Aside0.mk (Kd.V_below (Kd.V_elderB (kv HO9003_.out) gb9003_ (Nat.le_of_eq hg.symm)) hb); replace HO9004_ := Aside0.mk (Kd.V_below (Kd.V_elderB (kv HO9004_.out) gb9003_ (Nat.le_of_eq hg.symm)) hb); replace HO9005_ := Aside0.mk (Kd.V_below (Kd.V_elderB (kv HO9005_.out) gb9003_ (Nat.le_of_eq hg.symm)) hb); replace BK9001_ := Aside0.mk (blk_below (bk BK9001_.out) hb); replace BK9002_ := Aside0.mk (blk_below (bk BK9002_.out) hb); replace HB := Aside0.mk (below_step bel hb); clear hb hbox hg) | ((with_reducible refine gate_dst (N := 13) rfl ?_); refine box_event ?hg (N := 13) ?hd (cs := #[.bool false, .slice none 0 0]) (t := 32) ?hr ?_; (case hd => rfl); (case hg => rfl); (case hr => first | (go_simp; done) | (go_simp; rfl)); intro gb9004_ hg w9011_ hbox hb; have BK9004_ := Aside0.mk (hbox); have GW9004_ := Aside0.mk ((by rw [hg]; exact (below_size bel) : w.heap.size ≤ gb9004_)); have GE9004_ := Aside0.mk ((by rw [hg]; exact (below_size bel) : w.heap.size ≤ gb9004_)); have NB9007_ := Aside0.mk ((by rw [hg]; exact Nat.ne_of_lt (blk_lt (bk BK9001_.out)) : gb9001_ ≠ gb9004_)); have NB9008_ := Aside0.mk ((by rw [hg]; exact Nat.ne_of_gt (blk_lt (bk BK9001_.out)) : gb9004_ ≠ gb9001_)); have NB9009_ := Aside0.mk ((by rw [hg]; exact Nat.ne_of_lt (blk_lt (bk BK9002_.out)) : gb9002_ ≠ gb9004_)); have NB9010_ := Aside0.mk ((by rw [hg]; exact Nat.ne_of_gt (blk_lt (bk BK9002_.out)) : gb9004_ ≠ gb9002_)); have NB9011_ := Aside0.mk ((by rw [hg]; exact Nat.ne_of_lt (blk_lt (bk BK9003_.out)) : gb9003_ ≠ gb9004_)); have NB9012_ := Aside0.mk ((by rw [hg]; exact Nat.ne_of_gt (blk_lt (bk BK9003_.out)) : gb9004_ ≠ gb9003_)); replace HO9001_ := Aside0.mk (Kd.V_below (Kd.V_elderB (kv HO9001_.out) gb9004_ (Nat.le_of_eq hg.symm)) hb); replace HO9002_ := Aside0.mk (Kd.V_below (Kd.V_elderB (kv HO9002_.out) gb9004_ (Nat.le_of_eq hg.symm)) hb); replace HO9003_ := Aside0.mk (Kd.V_below (Kd.V_elderB (kv HO9003_.out) gb9004_ (Nat.le_of_eq hg.symm)) hb); replace HO9004_ := Aside0.mk (Kd.V_below (Kd.V_elderB (kv HO9004_.out) gb9004_ (Nat.le_of_eq hg.symm)) hb); replace HO9005_ := Aside0.mk (Kd.V_below (Kd.V_elderB (kv HO9005_.out) gb9004_ (Nat.le_of_eq hg.symm)) hb); replace BK9001_ := Aside0.mk (blk_below (bk BK9001_.out) hb); replace BK9002_ := Aside0.mk (blk_below (bk BK9002_.out) hb); replace BK9003_ := Aside0.mk (blk_below (bk BK9003_.out) hb); replace HB := Aside0.mk (below_step bel hb); clear hb hbox hg; have hnb9002_ := NB9004_.out; have hnc9002_ := NB9003_.out; have hnb9003_ := NB9006_.out; have hnc9003_ := NB9005_.out; have hnb9004_ := NB9011_.out; have hnc9004_ := NB9012_.out; have hcz9013_ : w9011_.cell? ⟨gb9003_, 0, none⟩ = some (.bool false) := (blk_cell BK9003_.out 0).trans rfl; have hcz9014_ : w9011_.cell? ⟨gb9003_, 1, none⟩ = some (.slice none 0 0) := (blk_cell BK9003_.out 1).trans rfl; have hfz9013_ := blk_frozen BK9003_.out 0; have hfz9014_ := blk_frozen BK9003_.out 1; obtain ⟨Ao9004_, co9004_, eo9004_⟩ := Kd.V_slice HO9004_.out; subst eo9004_; have hnb9005_ := NB9008_.out; have hnc9005_ := NB9007_.out; have hnb9006_ := NB9010_.out; have hnc9006_ := NB9009_.out; have hcz9015_ : w9011_.cell? ⟨gb9004_, 0, none⟩ = some (.bool false) := (blk_cell BK9004_.out 0).trans rfl; have hcz9016_ : w9011_.cell? ⟨gb9004_, 1, none⟩ = some (.slice none 0 0) := (blk_cell BK9004_.out 1).trans rfl; have hfz9015_ := blk_frozen BK9004_.out 0; have hfz9016_ := blk_frozen BK9004_.out 1; obtain ⟨Ao9005_, co9005_, eo9005_⟩ := Kd.V_slice HO9005_.out; subst eo9005_) | ((with_reducible refine gate_callee (f := 20) rfl ?_); refine goesL_ (some 83) rfl rfl Tryd.func20 (by kernel_rfl) rfl #[.agg #[.bool t695, .slice Ao9004_ t696.length co9004_]] rfl ag ?_; (with_reducible refine (cellarerref02_Text.calls kj9 t695 _ _ t696 t705 _ gk ?side2 ?side3 A63.out).mono ?_); (case side2 => refine (Kd.V_reads' (e := 3) (base := w.heap.size) (ok := fun k_ => (((k_ ≠ gb9001_ ∧ k_ ≠ gb9002_) ∧ k_ ≠ gb9003_) ∧ k_ ≠ gb9004_)) (n := t696.length) (c := co9004_) ?_).2.2; exact (kv ((Kd.V_mono (Kd.V_mono (Kd.V_far (p := ⟨gb9004_, 1, none⟩) (Kd.V_far (p := ⟨gb9004_, 0, none⟩) (Kd.V_far (p := ⟨gb9003_, 1, none⟩) (Kd.V_far (p := ⟨gb9003_, 0, none⟩) (Kd.V_mono (Kd.V_mono HO9004_.out (fun k_ hk => (⟨hk, hk.1.2⟩ : _ ∧ k_ ≠ gb9003_))) (fun k_ hk => (⟨hk, hk.1.2⟩ : _ ∧ k_ ≠ gb9004_))) (fun _ hk => hk.1.2) (.bool t695)) (fun _ hk => hk.1.2) (.slice Ao9004_ t696.length co9004_)) (fun _ hk => hk.2) (.bool t699)) (fun _ hk => hk.2) (.slice Ao9005_ t700.length co9005_)) (fun _ h_ => h_.1)) (fun _ h_ => h_.1))))); (case side3 => exact (Kd.V_reads' HO9004_.out).2.1); rintro e w9012_ ⟨rfl, hb⟩; refine ⟨_, rfl, ?_⟩; replace HO9001_ := Aside0.mk (Kd.V_below (kv ((Kd.V_mono (Kd.V_mono (Kd.V_far (p := ⟨gb9004_, 1, none⟩) (Kd.V_far (p := ⟨gb9004_, 0, none⟩) (Kd.V_far (p := ⟨gb9003_, 1, none⟩) (Kd.V_far (p := ⟨gb9003_, 0, none⟩) (Kd.V_mono (Kd.V_mono HO9001_.out (fun k_ hk => (⟨hk, hk.1.2⟩ : _ ∧ k_ ≠ gb9003_))) (fun k_ hk => (⟨hk, hk.1.2⟩ : _ ∧ k_ ≠ gb9004_))) (fun _ hk => hk.1.2) (.bool t695)) (fun _ hk => hk.1.2) (.slice Ao9004_ t696.length co9004_)) (fun _ hk => hk.2) (.bool t699)) (fun _ hk => hk.2) (.slice Ao9005_ t700.length co9005_)) (fun _ h_ => h_.1)) (fun _ h_ => h_.1)))) hb); replace HO9002_ := Aside0.mk (Kd.V_below (kv ((Kd.V_mono (Kd.V_mono (Kd.V_far (p := ⟨gb9004_, 1, none⟩) (Kd.V_far (p := ⟨gb9004_, 0, none⟩) (Kd.V_far (p := ⟨gb9003_, 1, none⟩) (Kd.V_far (p := ⟨gb9003_, 0, none⟩) (Kd.V_mono (Kd.V_mono HO9002_.out (fun k_ hk => (⟨hk, hk.1.2⟩ : _ ∧ k_ ≠ gb9003_))) (fun k_ hk => (⟨hk, hk.1.2⟩ : _ ∧ k_ ≠ gb9004_))) (fun _ hk => hk.1.2) (.bool t695)) (fun _ hk => hk.1.2) (.slice Ao9004_ t696.length co9004_)) (fun _ hk => hk.2) (.bool t699)) (fun _ hk => hk.2) (.slice Ao9005_ t700.length co9005_)) (fun _ h_ => h_.1)) (fun _ h_ => h_.1)))) hb); replace HO9003_ := Aside0.mk (Kd.V_below (kv ((Kd.V_mono (Kd.V_mono (Kd.V_far (p := ⟨gb9004_, 1, none⟩) (Kd.V_far (p := ⟨gb9004_, 0, none⟩) (Kd.V_far (p := ⟨gb9003_, 1, none⟩) (Kd.V_far (p := ⟨gb9003_, 0, none⟩) (Kd.V_mono (Kd.V_mono HO9003_.out (fun k_ hk => (⟨hk, hk.1.2⟩ : _ ∧ k_ ≠ gb9003_))) (fun k_ hk => (⟨hk, hk.1.2⟩ : _ ∧ k_ ≠ gb9004_))) (fun _ hk => hk.1.2) (.bool t695)) (fun _ hk => hk.1.2) (.slice Ao9004_ t696.length co9004_)) (fun _ hk => hk.2) (.bool t699)) (fun _ hk => hk.2) (.slice Ao9005_ t700.length co9005_)) (fun _ h_ => h_.1)) (fun _ h_ => h_.1)))) hb); replace HO9004_ := Aside0.mk (Kd.V_below (kv ((Kd.V_mono (Kd.V_mono (Kd.V_far (p := ⟨gb9004_, 1, none⟩) (Kd.V_far (p := ⟨gb9004_, 0, none⟩) (Kd.V_far (p := ⟨gb9003_, 1, none⟩) (Kd.V_far (p := ⟨gb9003_, 0, none⟩) (Kd.V_mono (Kd.V_mono HO9004_.out (fun k_ hk => (⟨hk, hk.1.2⟩ : _ ∧ k_ ≠ gb9003_))) (fun k_ hk => (⟨hk, hk.1.2⟩ : _ ∧ k_ ≠ gb9004_))) (fun _ hk => hk.1.2) (.bool t695)) (fun _ hk => hk.1.2) (.slice Ao9004_ t696.length co9004_)) (fun _ hk => hk.2) (.bool t699)) (fun _ hk => hk.2) (.slice Ao9005_ t700.length co9005_)) (fun _ h_ => h_.1)) (fun _ h_ => h_.1)))) hb); replace HO9005_ := Aside0.mk (Kd.V_below (kv ((Kd.V_mono (Kd.V_mono (Kd.V_far (p := ⟨gb9004_, 1, none⟩) (Kd.V_far (p := ⟨gb9004_, 0, none⟩) (Kd.V_far (p := ⟨gb9003_, 1, none⟩) (Kd.V_far (p := ⟨gb9003_, 0, none⟩) (Kd.V_mono (Kd.V_mono HO9005_.out (fun k_ hk => (⟨hk, hk.1.2⟩ : _ ∧ k_ ≠ gb9003_))) (fun k_ hk => (⟨hk, hk.1.2⟩ : _ ∧ k_ ≠ gb9004_))) (fun _ hk => hk.1.2) (.bool t695)) (fun _ hk => hk.1.2) (.slice Ao9004_ t696.length co9004_)) (fun _ hk => hk.2) (.bool t699)) (fun _ hk => hk.2) (.slice Ao9005_ t700.length co9005_)) (fun _ h_ => h_.1)) (fun _ h_ => h_.1)))) hb); replace BK9001_ := Aside0.mk (blk_below (g := gb9001_) (o := .cells #[.bool t680, .slice Ao9001_ t681.length co9001_] 32 (0, 0)) (by (with_reducible repeat (first | refine blk_drewN ?_ _ | refine blk_drew ?_ | refine blk_alloc ?_ _)); refine blk_far ?_ NB9007_.out _; (with_reducible repeat (first | refine blk_drewN ?_ _ | refine blk_drew ?_ | refine blk_alloc ?_ _)); refine blk_far ?_ NB9007_.out _; (with_reducible repeat (first | refine blk_drewN ?_ _ | refine blk_drew ?_ | refine blk_alloc ?_ _)); refine blk_far ?_ NB9003_.out _; (with_reducible repeat (first | refine blk_drewN ?_ _ | refine blk_drew ?_ | refine blk_alloc ?_ _)); refine blk_far ?_ NB9003_.out _; (with_reducible repeat (first | refine blk_drewN ?_ _ | refine blk_drew ?_ | refine blk_alloc ?_ _)); exact BK9001_.out) hb); replace BK9002_ := Aside0.mk (blk_below (g := gb9002_) (o := .cells #[.bool t684, .slice Ao9002_ t685.length co9002_] 32 (0, 0)) (by (with_reducible repeat (first | refine blk_drewN ?_ _ | refine blk_drew ?_ | refine blk_alloc ?_ _)); refine blk_far ?_ NB9009_.out _; (with_reducible repeat (first | refine blk_drewN ?_ _ | refine blk_drew ?_ | refine blk_alloc ?_ _)); refine blk_far ?_ NB9009_.out _; (with_reducible repeat (first | refine blk_drewN ?_ _ | refine blk_drew ?_ | refine blk_alloc ?_ _)); refine blk_far ?_ NB9005_.out _; (with_reducible repeat (first | refine blk_drewN ?_ _ | refine blk_drew ?_ | refine blk_alloc ?_ _)); refine blk_far ?_ NB9005_.out _; (with_reducible repeat (first | refine blk_drewN ?_ _ | refine blk_drew ?_ | refine blk_alloc ?_ _)); exact BK9002_.out) hb); replace BK9003_ := Aside0.mk (blk_below (g := gb9003_) (o := .cells #[.bool t695, .slice Ao9004_ t696.length co9004_] 32 (0, 0)) (by (with_reducible repeat (first | refine blk_drewN ?_ _ | refine blk_drew ?_ | refine blk_alloc ?_ _)); refine blk_far ?_ NB9011_.out _; (with_reducible repeat (first | refine blk_drewN ?_ _ | refine blk_drew ?_ | refine blk_alloc ?_ _)); refine blk_far ?_ NB9011_.out _; (with_reducible repeat (first | refine blk_drewN ?_ _ | refine blk_drew ?_ | refine blk_alloc ?_ _)); refine blk_put (cs := #[.bool t695, .slice none 0 0]) ?_ 1 _ rfl; (with_reducible repeat (first | refine blk_drewN ?_ _ | refine blk_drew ?_ | refine blk_alloc ?_ _)); refine blk_put (cs := #[.bool false, .slice none 0 0]) ?_ 0 _ rfl; (with_reducible repeat (first | refine blk_drewN ?_ _ | refine blk_drew ?_ | refine blk_alloc ?_ _)); exact BK9003_.out) hb); replace BK9004_ := Aside0.mk (blk_below (g := gb9004_) (o := .cells #[.bool t699, .slice Ao9005_ t700.length co9005_] 32 (0, 0)) (by (with_reducible repeat (first | refine blk_drewN ?_ _ | refine blk_drew ?_ | refine blk_alloc ?_ _)); refine blk_put (cs := #[.bool t699, .slice none 0 0]) ?_ 1 _ rfl; (with_reducible repeat (first | refine blk_drewN ?_ _ | refine blk_drew ?_ | refine blk_alloc ?_ _)); refine blk_put (cs := #[.bool false, .slice none 0 0]) ?_ 0 _ rfl; (with_reducible repeat (first | refine blk_drewN ?_ _ | refine blk_drew ?_ | refine blk_alloc ?_ _)); refine blk_far ?_ NB9012_.out _; (with_reducible repeat (first | refine blk_drewN ?_ _ | refine blk_drew ?_ | refine blk_alloc ?_ _)); refine blk_far ?_ NB9012_.out _; (with_reducible repeat (first | refine blk_drewN ?_ _ | refine blk_drew ?_ | refine blk_alloc ?_ _)); exact BK9004_.out) hb); replace HB := Aside0.mk (below_step bel hb); clear hb; have hcz9017_ : w9012_.cell? ⟨gb9004_, 0, none⟩ = some (.bool t699) := (blk_cell BK9004_.out 0).trans rfl; have hcz9018_ : w9012_.cell? ⟨gb9004_, 1, none⟩ = some (.slice Ao9005_ t700.length co9005_) := (blk_cell BK9004_.out 1).trans rfl; have hfz9017_ := blk_frozen BK9004_.out 0; have hfz9018_ := blk_frozen BK9004_.out 1) | (go_at_call 20; (with_reducible refine (cellarerref02_Text.calls kj9 t699 _ _ t700 t706 _ gk ?side2 ?side3 A65.out).mono ?_); (case side2 => exact kc ((Kd.V_reads' HO9005_.out).2.2)); (case side3 => exact (Kd.V_reads' HO9005_.out).2.1); rintro e w9013_ ⟨rfl, hb⟩; replace HO9001_ := Aside0.mk (Kd.V_below (kv HO9001_.out) hb); replace HO9002_ := Aside0.mk (Kd.V_below (kv HO9002_.out) hb); replace HO9003_ := Aside0.mk (Kd.V_below (kv HO9003_.out) hb); replace HO9004_ := Aside0.mk (Kd.V_below (kv HO9004_.out) hb); replace HO9005_ := Aside0.mk (Kd.V_below (kv HO9005_.out) hb); replace BK9001_ := Aside0.mk (blk_below (bk BK9001_.out) hb); replace BK9002_ := Aside0.mk (blk_below (bk BK9002_.out) hb); replace BK9003_ := Aside0.mk (blk_below (bk BK9003_.out) hb); replace BK9004_ := Aside0.mk (blk_below (bk BK9004_.out) hb); replace HB := Aside0.mk (below_step bel hb); clear hb) | ((with_reducible refine gate_callee (f := 11) rfl ?_); refine goesL_ (some 14) rfl rfl Tryd.func11 (by kernel_rfl) rfl #[] rfl ag ?_; (with_reducible refine (cellarerlaw02_awake.calls k  _ _ gk A3.out).mono ?_); rintro e w9001_ ⟨rfl, hb⟩; refine ⟨_, rfl, ?_⟩; replace HB := Aside0.mk (below_step bel hb); clear hb) | ((with_reducible refine gate_callee (f := 12) rfl ?_); refine goesL_ (some 18) rfl rfl Tryd.func12 (by kernel_rfl) rfl #[.string a0, .string a1] rfl ag ?_; (with_reducible refine (cellarerlaw02_long.calls a0 a1 _ _ gk A5.out).mono ?_); rintro e w' ⟨rfl, ⟨nd, rfl⟩⟩; refine ⟨_, rfl, ?_⟩))); go_ret; exact ⟨er, bel⟩) : P_ := h_
set_option maxHeartbeats 8000000 in
set_option maxRecDepth 100000 in
theorem cellarerlaw02_IntegerDivides.calls (k : Nat) (a0 : ByteArray) (a1 : ByteArray) (r : Bool) (w : World) (hG : GOK w) (h : cellarerlaw02_IntegerDivides.f k a0 a1 = some r) :
  Calls Tryd.prog 3 #[.string a0, .string a1] w fun e w' => e = .returned (.bool r) ∧ Below w.heap.size w w' := by
 have hu32 := Tryd.underlying32
 replace hG := Aside0.mk hG
 have HB := Aside0.mk (Below.refl w.heap.size w)
 have H : ((cellarerlaw02_awake.f k).bind fun t671 => (if t671 = true then ((cellarerlaw02_long.f a0 a1).bind fun t672 => (if t672 = true then (some true) else ((integer_DivMod.f k a0 a1).bind fun bt673 => ((integer_Gcd.f k a0 a1).bind fun bt676 => ((cellarerref02_Valid.f k a0).bind fun t678 => (if t678 = true then ((cellarerref02_Valid.f k a1).bind fun t679 => (cellarerlaw02_IntegerDivides.j0 k a0 a1 bt673.1 bt673.2.1 bt673.2.2 bt676.1 bt676.2 (!t679))) else (cellarerlaw02_IntegerDivides.j0 k a0 a1 bt673.1 bt673.2.1 bt673.2.2 bt676.1 bt676.2 true))))))) else (some false))) = some r := h
 clear h
 obtain ⟨t671, A3, H⟩ := bind_ H
 try dsimp only at H
 by_cases c4 : t671 = true
 ·subst c4
  rw [if_pos rfl] at H
  obtain ⟨t672, A5, H⟩ := bind_ H
  try dsimp only at H
  by_cases c6 : t672 = true
  ·subst c6
   rw [if_pos rfl] at H
   obtain rfl := Option.some.inj H
   go_enter Tryd.func3, Tryd.ntmps3
   exact cellarerlaw02_IntegerDivides.close0
  ·replace c6 := Bool.eq_false_iff.mpr c6
   subst c6
   rw [if_neg Bool.false_ne_true] at H
   obtain ⟨⟨t673, t674, t675⟩, A8, H⟩ := bind_ H
   try dsimp only at H
   obtain ⟨⟨t676, t677⟩, A9, H⟩ := bind_ H
   try dsimp only at H
   have HC10 := Aside0.mk H
   clear H
   go_enter Tryd.func3, Tryd.ntmps3
   go_upto_region 7 with (first | ((with_reducible refine gate_callee (f := 11) rfl ?_); refine goesL_ (some 14) rfl rfl Tryd.func11 (by kernel_rfl) rfl #[] rfl ag ?_; (with_reducible refine (cellarerlaw02_awake.calls k  true _ gk A3.out).mono ?_); rintro e w11 ⟨rfl, hb⟩; refine ⟨_, rfl, ?_⟩; replace HB := Aside0.mk (below_step bel hb); clear hb) | ((with_reducible refine gate_callee (f := 12) rfl ?_); refine goesL_ (some 18) rfl rfl Tryd.func12 (by kernel_rfl) rfl #[.string a0, .string a1] rfl ag ?_; (with_reducible refine (cellarerlaw02_long.calls a0 a1 false _ gk A5.out).mono ?_); rintro e w' ⟨rfl, ⟨nd, rfl⟩⟩; refine ⟨_, rfl, ?_⟩) | ((with_reducible refine gate_callee (f := 13) rfl ?_); refine goesL_ (some 22) rfl rfl Tryd.func13 (by kernel_rfl) rfl #[.string a0, .string a1] rfl ag ?_; (with_reducible refine (integer_DivMod.calls k a0 a1 t673 t674 t675 _ gk A8.out).mono ?_); rintro e w12 ⟨rfl, hb⟩; refine ⟨_, rfl, ?_⟩; replace HB := Aside0.mk (below_step bel hb); clear hb) | ((with_reducible refine gate_callee (f := 14) rfl ?_); refine goesL_ (some 29) rfl rfl Tryd.func14 (by kernel_rfl) rfl #[.string a0, .string a1] rfl ag ?_; (with_reducible refine (integer_Gcd.calls k a0 a1 t676 t677 _ gk A9.out).mono ?_); rintro e w13 ⟨rfl, hb⟩; refine ⟨_, rfl, ?_⟩; replace HB := Aside0.mk (below_step bel hb); clear hb))
   (try simp only [Act.put, List.setIfInBounds_toArray, List.set_cons_zero, List.set_cons_succ])
   go_cut [39] (fun v39 wc => ∃ (kq : Nat) (x39_9 : Bool), v39 = .bool x39_9 ∧ Aside0 (cellarerlaw02_IntegerDivides.j0 kq a0 a1 t673 t674 t675 t676 t677 x39_9 = some r) ∧ Aside0 (kq ≤ k) ∧ Aside0 (Below w.heap.size w wc))
   case first =>
    have H := HC10.out
    clear HC10
    obtain ⟨t678, A14, H⟩ := bind_ H
    try dsimp only at H
    by_cases c15 : t678 = true
    ·subst c15
     rw [if_pos rfl] at H
     obtain ⟨t679, A16, H⟩ := bind_ H
     try dsimp only at H
     have H' := Aside0.mk H
     clear H
     go_wp2_with (first | ((with_reducible refine gate_callee (f := 15) rfl ?_); refine goesL_ (some 33) rfl rfl Tryd.func15 (by kernel_rfl) rfl #[.string a0] rfl ag ?_; (with_reducible refine (cellarerref02_Valid.calls k a0 true _ gk A14.out).mono ?_); rintro e w' ⟨rfl, ⟨nd, rfl⟩⟩; refine ⟨_, rfl, ?_⟩) | (go_at_call 15; (with_reducible refine (cellarerref02_Valid.calls k a1 t679 _ gk A16.out).mono ?_); rintro e w' ⟨rfl, ⟨nd, rfl⟩⟩))
     go_meet
     case rel => exact ⟨_, (!t679), (by first | rfl | (simp; done) | (simp [*]; done)), H', ⟨by first | omega | exact Nat.le_refl _⟩, ⟨bel⟩⟩
    ·replace c15 := Bool.eq_false_iff.mpr c15
     subst c15
     rw [if_neg Bool.false_ne_true] at H
     have H' := Aside0.mk H
     clear H
     go_wp2_with (first | ((with_reducible refine gate_callee (f := 15) rfl ?_); refine goesL_ (some 33) rfl rfl Tryd.func15 (by kernel_rfl) rfl #[.string a0] rfl ag ?_; (with_reducible refine (cellarerref02_Valid.calls k a0 false _ gk A14.out).mono ?_); rintro e w' ⟨rfl, ⟨nd, rfl⟩⟩; refine ⟨_, rfl, ?_⟩))
     go_meet
     case rel => exact ⟨_, (true), (by first | rfl | (simp; done) | (simp [*]; done)), H', ⟨by first | omega | exact Nat.le_refl _⟩, ⟨bel⟩⟩
   case rest =>
    clear HC10
    (try clear c1); (try clear p2); (try clear c3); (try clear c4); (try clear c6); (try clear c11); (try clear c12); (try clear c13); (try clear c14); (try clear c15)
    obtain ⟨kq, x39_9, rfl, HA, HJ9, HB⟩ := hcut
    cases kq with
    | zero => exact absurd HA.out (by simp [cellarerlaw02_IntegerDivides.j0])
    | succ kj9 =>
     have H := HA.out
     clear HA
     simp only [cellarerlaw02_IntegerDivides.j0] at H
     by_cases c17 : x39_9 = true
     ·subst c17
      rw [if_pos rfl] at H
      by_cases c18 : t673.size + t674.size ≤ 9223372036854775807
      ·rw [if_pos c18] at H
       have c18b0 := eq_true c18
       have c18b1 : decide (t673.size + t674.size ≤ 9223372036854775807) = true := decide_eq_true c18
       try have c18b2 : (9223372036854775807 < t673.size + t674.size) = False := eq_false (Nat.not_lt.2 c18)
       by_cases c19 : (t673 ++ t674).size + t676.size ≤ 9223372036854775807
       ·rw [if_pos c19] at H
        have c19b0 := eq_true c19
        have c19b1 : decide ((t673 ++ t674).size + t676.size ≤ 9223372036854775807) = true := decide_eq_true c19
        try have c19b2 : (9223372036854775807 < (t673 ++ t674).size + t676.size) = False := eq_false (Nat.not_lt.2 c19)
        by_cases c20 : ((t673 ++ t674) ++ t676).toList = ([] : List UInt8)
        ·rw [if_pos c20] at H
         have c20b0 : (((t673 ++ t674) ++ t676).toList == ([] : List UInt8)) = true := beq_iff_eq.mpr c20
         have c20b1 : (((t673 ++ t674) ++ t676).toList != ([] : List UInt8)) = false := bne_eq_false_iff_eq.mpr c20
         clear c20
         by_cases c21 : t675 = 3
         ·rw [if_pos c21] at H
          have c21b0 : (t675 == 3) = true := beq_iff_eq.mpr c21
          have c21b1 : (t675 != 3) = false := bne_eq_false_iff_eq.mpr c21
          clear c21
          obtain rfl := Option.some.inj H
          go_wp2
          go_ret
          exact ⟨er, bel⟩
         ·rw [if_neg c21] at H
          have c21b0 : (t675 == 3) = false := beq_eq_false_iff_ne.mpr c21
          have c21b1 : (t675 != 3) = true := bne_iff_ne.mpr c21
          obtain rfl := Option.some.inj H
          go_wp2
          go_ret
          exact ⟨er, bel⟩
        ·rw [if_neg c20] at H
         have c20b0 : (((t673 ++ t674) ++ t676).toList == ([] : List UInt8)) = false := beq_eq_false_iff_ne.mpr c20
         have c20b1 : (((t673 ++ t674) ++ t676).toList != ([] : List UInt8)) = true := bne_iff_ne.mpr c20
         obtain rfl := Option.some.inj H
         go_wp2
         go_ret
         exact ⟨er, bel⟩
       ·rw [if_neg c19] at H
        exact absurd H (by simp)
      ·rw [if_neg c18] at H
       exact absurd H (by simp)
     ·replace c17 := Bool.eq_false_iff.mpr c17
      subst c17
      rw [if_neg Bool.false_ne_true] at H
      obtain ⟨⟨t680, t681⟩, A22, H⟩ := bind_ H
      try dsimp only at H
      obtain ⟨⟨t684, t685⟩, A23, H⟩ := bind_ H
      try dsimp only at H
      obtain ⟨⟨t690, t691⟩, A24, H⟩ := bind_ H
      try dsimp only at H
      obtain ⟨t694, A25, H⟩ := bind_ H
      try dsimp only at H
      by_cases c26 : t694 = true
      ·subst c26
       rw [if_pos rfl] at H
       by_cases c27 : a1.toList = ([48] : List UInt8)
       ·rw [if_pos c27] at H
        have c27b0 : (a1.toList == ([48] : List UInt8)) = true := beq_iff_eq.mpr c27
        have c27b1 : (a1.toList != ([48] : List UInt8)) = false := bne_eq_false_iff_eq.mpr c27
        clear c27
        by_cases c28 : t673.size + t674.size ≤ 9223372036854775807
        ·rw [if_pos c28] at H
         have c28b0 := eq_true c28
         have c28b1 : decide (t673.size + t674.size ≤ 9223372036854775807) = true := decide_eq_true c28
         try have c28b2 : (9223372036854775807 < t673.size + t674.size) = False := eq_false (Nat.not_lt.2 c28)
         by_cases c29 : (t673 ++ t674).toList = ([] : List UInt8)
         ·rw [if_pos c29] at H
          have c29b0 : ((t673 ++ t674).toList == ([] : List UInt8)) = true := beq_iff_eq.mpr c29
          have c29b1 : ((t673 ++ t674).toList != ([] : List UInt8)) = false := bne_eq_false_iff_eq.mpr c29
          clear c29
          obtain rfl := Option.some.inj H
          exact cellarerlaw02_IntegerDivides.close0
         ·rw [if_neg c29] at H
          have c29b0 : ((t673 ++ t674).toList == ([] : List UInt8)) = false := beq_eq_false_iff_ne.mpr c29
          have c29b1 : ((t673 ++ t674).toList != ([] : List UInt8)) = true := bne_iff_ne.mpr c29
          obtain rfl := Option.some.inj H
          exact cellarerlaw02_IntegerDivides.close0
        ·rw [if_neg c28] at H
         exact absurd H (by simp)
       ·rw [if_neg c27] at H
        have c27b0 : (a1.toList == ([48] : List UInt8)) = false := beq_eq_false_iff_ne.mpr c27
        have c27b1 : (a1.toList != ([48] : List UInt8)) = true := bne_iff_ne.mpr c27
        obtain ⟨⟨t695, t696, t699, t700⟩, A62, H⟩ := bind_ H
        try dsimp only at H
        obtain ⟨t705, A63, H⟩ := bind_ H
        try dsimp only at H
        by_cases c64 : t673.toList = t705.toList
        ·rw [if_pos c64] at H
         have c64b0 : (t673.toList == t705.toList) = true := beq_iff_eq.mpr c64
         have c64b1 : (t673.toList != t705.toList) = false := bne_eq_false_iff_eq.mpr c64
         clear c64
         obtain ⟨t706, A65, H⟩ := bind_ H
         try dsimp only at H
         by_cases c66 : t674.toList = t706.toList
         ·rw [if_pos c66] at H
          have c66b0 : (t674.toList == t706.toList) = true := beq_iff_eq.mpr c66
          have c66b1 : (t674.toList != t706.toList) = false := bne_eq_false_iff_eq.mpr c66
          clear c66
          obtain rfl := Option.some.inj H
          exact cellarerlaw02_IntegerDivides.close0
         ·rw [if_neg c66] at H
          have c66b0 : (t674.toList == t706.toList) = false := beq_eq_false_iff_ne.mpr c66
          have c66b1 : (t674.toList != t706.toList) = true := bne_iff_ne.mpr c66
          obtain rfl := Option.some.inj H
          exact cellarerlaw02_IntegerDivides.close0
        ·rw [if_neg c64] at H
         have c64b0 : (t673.toList == t705.toList) = false := beq_eq_false_iff_ne.mpr c64
         have c64b1 : (t673.toList != t705.toList) = true := bne_iff_ne.mpr c64
         obtain rfl := Option.some.inj H
         exact cellarerlaw02_IntegerDivides.close0
      ·replace c26 := Bool.eq_false_iff.mpr c26
       subst c26
       rw [if_neg Bool.false_ne_true] at H
       obtain rfl := Option.some.inj H
       exact cellarerlaw02_IntegerDivides.close0
 ·replace c4 := Bool.eq_false_iff.mpr c4
  subst c4
  rw [if_neg Bool.false_ne_true] at H
  obtain rfl := Option.some.inj H
  go_enter Tryd.func3, Tryd.ntmps3
  exact cellarerlaw02_IntegerDivides.close0

theorem cellarerlaw02_IntegerDivides.walk (P : cellarerlaw02_IntegerDivides.Pure) (a0 : ByteArray) (a1 : ByteArray) (w : World) (hG : GOK w) (w0 : a0.size ≤ 140737488351232) (w1 : a1.size ≤ 140737488351232) :
  Calls Tryd.prog 3 #[.string a0, .string a1] w fun e w' => e = .returned (.bool true) ∧ Below w.heap.size w w' := by
 obtain ⟨k, h⟩ := P a0 a1 w0 w1
 refine (cellarerlaw02_IntegerDivides.calls k a0 a1 true w hG h).mono ?_
 rintro e w' ⟨rfl, hd⟩
 exact ⟨rfl, hd⟩

end Go.Proofs.YtdnjlmoggnbknaaDoor.PInt
