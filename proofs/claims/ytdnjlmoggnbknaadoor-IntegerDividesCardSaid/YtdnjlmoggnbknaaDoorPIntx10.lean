-- Written by a program of this session's (xprint.py) over the kit's print.
import Derived.Test.YtdnjlmoggnbknaaDoorPIntx0
import Derived.Test.YtdnjlmoggnbknaaDoorPIntx1
import Derived.Test.YtdnjlmoggnbknaaDoorPIntx5
import Derived.Test.YtdnjlmoggnbknaaDoorPIntx6
import Derived.Test.YtdnjlmoggnbknaaDoorPIntx8
import Derived.Test.YtdnjlmoggnbknaaDoorPIntD
import Derived.Test.YtdnjlmoggnbknaaDoorAuto
namespace Go.Proofs.YtdnjlmoggnbknaaDoor.PInt
open Go.RowKit Go.Proofs.YtdnjlmoggnbknaaDoor.Ext Go.Proofs.YtdnjlmoggnbknaaDoorW.PrintWords Go.Proofs.YtdnjlmoggnbknaaDoorW.PrintLast Go.Proofs.YtdnjlmoggnbknaaDoorW.PrintMore
attribute [local go_sem high] gtr_print leq_print
attribute [local go_sem] max2_int min2_int max_two min_two max_three min_three max_four min_four   -- for this text's walks alone
set_option linter.unusedVariables false
set_option linter.unusedSimpArgs false

/-! ### cellarerref02_Text: function 20 -/
set_option maxHeartbeats 8000000 in
set_option maxRecDepth 100000 in
theorem cellarerref02_Text.calls (k : Nat) (a0_0 : Bool) (A0_1 : Option Addr) (c0_1 : Nat) (l0_1 : List Int) (r : ByteArray) (w : World) (hG : GOK w) (hr0_1 : Kd.C (Kd.int .i64) w A0_1 l0_1.length l0_1) (hc0_1 : l0_1.length ≤ c0_1) (h : cellarerref02_Text.f k a0_0 l0_1 = some r) :
  Calls Tryd.prog 20 #[.agg #[.bool a0_0, .slice A0_1 l0_1.length c0_1]] w fun e w' => e = .returned (.string r) ∧ Below w.heap.size w w' := by
 have hu32 := Tryd.underlying32
 have HR0_1 := Aside0.mk hr0_1
 have HC0_1 := Aside0.mk hc0_1
 clear hr0_1 hc0_1
 replace hG := Aside0.mk hG
 have HB := Aside0.mk (Below.refl w.heap.size w)
 have H : (if (l0_1.length : Int) = 0 then (some (⟨#[48]⟩ : ByteArray)) else (if a0_0 = true then (cellarerref02_Text.j0 k (⟨#[45]⟩ : ByteArray) a0_0 l0_1) else (cellarerref02_Text.j0 k (⟨#[]⟩ : ByteArray) a0_0 l0_1))) = some r := h
 clear h
 by_cases c2 : (l0_1.length : Int) = 0
 ·rw [if_pos c2] at H
  have c2b0 : ((l0_1.length : Int) == 0) = true := beq_iff_eq.mpr c2
  have c2b1 : ((l0_1.length : Int) != 0) = false := bne_eq_false_iff_eq.mpr c2
  clear c2
  obtain rfl := Option.some.inj H
  go_enter Tryd.func20, Tryd.ntmps20
  go_wp2_with (first | ((with_reducible refine gate_dst (N := 1) rfl ?_); refine box_event ?hg (N := 1) ?hd (cs := #[.bool a0_0, .slice A0_1 l0_1.length c0_1]) (t := 32) ?hr ?_; (case hd => rfl); (case hg => rfl); (case hr => first | (go_simp; done) | (go_simp; rfl)); intro gb381 hg w3 hbox hb; have BK381 := Aside0.mk (hbox); have GW381 := Aside0.mk ((by rw [hg]; exact (below_size bel) : w.heap.size ≤ gb381)); have GE381 := Aside0.mk ((by rw [hg]; exact (below_size bel) : w.heap.size ≤ gb381)); replace HB := Aside0.mk (below_step bel hb); clear hb hbox hg; have hcz4_0 : w3.cell? ⟨gb381, 0, none⟩ = some (.bool a0_0) := (blk_cell BK381.out 0).trans rfl; have hcz4_1 : w3.cell? ⟨gb381, 1, none⟩ = some (.slice A0_1 l0_1.length c0_1) := (blk_cell BK381.out 1).trans rfl; have hfz4_0 := blk_frozen BK381.out 0; have hfz4_1 := blk_frozen BK381.out 1))
  repeat (go_quiet (first | ((with_reducible refine gate_dst (N := 1) rfl ?_); refine box_event ?hg (N := 1) ?hd (cs := #[.bool a0_0, .slice A0_1 l0_1.length c0_1]) (t := 32) ?hr ?_; (case hd => rfl); (case hg => rfl); (case hr => first | (go_simp; done) | (go_simp; rfl)); intro gb381 hg w3 hbox hb; have n0_ := Aside0.mk (below_step bel hb); have n1_ := Aside0.mk (hbox); have n2_ := Aside0.mk ((by rw [hg]; exact (below_size bel) : w.heap.size ≤ gb381)); have n3_ := Aside0.mk ((by rw [hg]; exact (below_size bel) : w.heap.size ≤ gb381)); clear HB; have HB := n0_; have BK381 := n1_; have GW381 := n2_; have GE381 := n3_; clear n0_ n1_ n2_ n3_; clear hb hbox hg; have hcz4_0 : w3.cell? ⟨gb381, 0, none⟩ = some (.bool a0_0) := (blk_cell BK381.out 0).trans rfl; have hcz4_1 : w3.cell? ⟨gb381, 1, none⟩ = some (.slice A0_1 l0_1.length c0_1) := (blk_cell BK381.out 1).trans rfl; have hfz4_0 := blk_frozen BK381.out 0; have hfz4_1 := blk_frozen BK381.out 1)); try go_wp2_with (first | ((with_reducible refine gate_dst (N := 1) rfl ?_); refine box_event ?hg (N := 1) ?hd (cs := #[.bool a0_0, .slice A0_1 l0_1.length c0_1]) (t := 32) ?hr ?_; (case hd => rfl); (case hg => rfl); (case hr => first | (go_simp; done) | (go_simp; rfl)); intro gb381 hg w3 hbox hb; have n0_ := Aside0.mk (below_step bel hb); have n1_ := Aside0.mk (hbox); have n2_ := Aside0.mk ((by rw [hg]; exact (below_size bel) : w.heap.size ≤ gb381)); have n3_ := Aside0.mk ((by rw [hg]; exact (below_size bel) : w.heap.size ≤ gb381)); clear HB; have HB := n0_; have BK381 := n1_; have GW381 := n2_; have GE381 := n3_; clear n0_ n1_ n2_ n3_; clear hb hbox hg; have hcz4_0 : w3.cell? ⟨gb381, 0, none⟩ = some (.bool a0_0) := (blk_cell BK381.out 0).trans rfl; have hcz4_1 : w3.cell? ⟨gb381, 1, none⟩ = some (.slice A0_1 l0_1.length c0_1) := (blk_cell BK381.out 1).trans rfl; have hfz4_0 := blk_frozen BK381.out 0; have hfz4_1 := blk_frozen BK381.out 1)))
  go_ret
  exact ⟨er, bel⟩
 ·rw [if_neg c2] at H
  have c2b0 : ((l0_1.length : Int) == 0) = false := beq_eq_false_iff_ne.mpr c2
  have c2b1 : ((l0_1.length : Int) != 0) = true := bne_iff_ne.mpr c2
  have c2b2 : ¬ (l0_1 = []) := fun h_ => c2 (by rw [h_]; rfl)
  have HC5 := Aside0.mk H
  clear H
  go_enter Tryd.func20, Tryd.ntmps20
  go_upto_if 10 with (first | ((with_reducible refine gate_dst (N := 1) rfl ?_); refine box_event ?hg (N := 1) ?hd (cs := #[.bool a0_0, .slice A0_1 l0_1.length c0_1]) (t := 32) ?hr ?_; (case hd => rfl); (case hg => rfl); (case hr => first | (go_simp; done) | (go_simp; rfl)); intro gb381 hg w6 hbox hb; have BK381 := Aside0.mk (hbox); have GW381 := Aside0.mk ((by rw [hg]; exact (below_size bel) : w.heap.size ≤ gb381)); have GE381 := Aside0.mk ((by rw [hg]; exact (below_size bel) : w.heap.size ≤ gb381)); replace HB := Aside0.mk (below_step bel hb); clear hb hbox hg; have hcz7_0 : w6.cell? ⟨gb381, 0, none⟩ = some (.bool a0_0) := (blk_cell BK381.out 0).trans rfl; have hcz7_1 : w6.cell? ⟨gb381, 1, none⟩ = some (.slice A0_1 l0_1.length c0_1) := (blk_cell BK381.out 1).trans rfl; have hfz7_0 := blk_frozen BK381.out 0; have hfz7_1 := blk_frozen BK381.out 1))
  repeat (go_quiet (first | ((with_reducible refine gate_dst (N := 1) rfl ?_); refine box_event ?hg (N := 1) ?hd (cs := #[.bool a0_0, .slice A0_1 l0_1.length c0_1]) (t := 32) ?hr ?_; (case hd => rfl); (case hg => rfl); (case hr => first | (go_simp; done) | (go_simp; rfl)); intro gb381 hg w6 hbox hb; have n0_ := Aside0.mk (below_step bel hb); have n1_ := Aside0.mk (hbox); have n2_ := Aside0.mk ((by rw [hg]; exact (below_size bel) : w.heap.size ≤ gb381)); have n3_ := Aside0.mk ((by rw [hg]; exact (below_size bel) : w.heap.size ≤ gb381)); clear HB; have HB := n0_; have BK381 := n1_; have GW381 := n2_; have GE381 := n3_; clear n0_ n1_ n2_ n3_; clear hb hbox hg; have hcz7_0 : w6.cell? ⟨gb381, 0, none⟩ = some (.bool a0_0) := (blk_cell BK381.out 0).trans rfl; have hcz7_1 : w6.cell? ⟨gb381, 1, none⟩ = some (.slice A0_1 l0_1.length c0_1) := (blk_cell BK381.out 1).trans rfl; have hfz7_0 := blk_frozen BK381.out 0; have hfz7_1 := blk_frozen BK381.out 1)); go_upto_if 10 with (first | ((with_reducible refine gate_dst (N := 1) rfl ?_); refine box_event ?hg (N := 1) ?hd (cs := #[.bool a0_0, .slice A0_1 l0_1.length c0_1]) (t := 32) ?hr ?_; (case hd => rfl); (case hg => rfl); (case hr => first | (go_simp; done) | (go_simp; rfl)); intro gb381 hg w6 hbox hb; have n0_ := Aside0.mk (below_step bel hb); have n1_ := Aside0.mk (hbox); have n2_ := Aside0.mk ((by rw [hg]; exact (below_size bel) : w.heap.size ≤ gb381)); have n3_ := Aside0.mk ((by rw [hg]; exact (below_size bel) : w.heap.size ≤ gb381)); clear HB; have HB := n0_; have BK381 := n1_; have GW381 := n2_; have GE381 := n3_; clear n0_ n1_ n2_ n3_; clear hb hbox hg; have hcz7_0 : w6.cell? ⟨gb381, 0, none⟩ = some (.bool a0_0) := (blk_cell BK381.out 0).trans rfl; have hcz7_1 : w6.cell? ⟨gb381, 1, none⟩ = some (.slice A0_1 l0_1.length c0_1) := (blk_cell BK381.out 1).trans rfl; have hfz7_0 := blk_frozen BK381.out 0; have hfz7_1 := blk_frozen BK381.out 1)))
  (try simp only [Act.put, List.setIfInBounds_toArray, List.set_cons_zero, List.set_cons_succ])
  go_cut [3] (fun v3 wc => ∃ (kq : Nat) (x3_4 : ByteArray), v3 = .string x3_4 ∧ Aside0 (cellarerref02_Text.j0 kq x3_4 a0_0 l0_1 = some r) ∧ Aside0 (kq ≤ k) ∧ Aside0 (wc.heap[gb381]? = some (.cells #[.bool a0_0, (.slice A0_1 l0_1.length c0_1)] 32 (0, 0))) ∧ Aside0 (Below w.heap.size w wc))
  case first =>
   have H := HC5.out
   clear HC5
   by_cases c8 : a0_0 = true
   ·subst c8
    rw [if_pos rfl] at H
    have H' := Aside0.mk H
    clear H
    go_wp2
    repeat (go_quiet (fail); try go_wp2)
    go_meet
    case rel => exact ⟨_, ((⟨#[45]⟩ : ByteArray)), (by first | rfl | (simp; done) | (simp [*]; done)), H', ⟨by first | omega | exact Nat.le_refl _⟩, ⟨bk BK381.out⟩, ⟨bel⟩⟩
   ·replace c8 := Bool.eq_false_iff.mpr c8
    subst c8
    rw [if_neg Bool.false_ne_true] at H
    have H' := Aside0.mk H
    clear H
    go_wp2
    repeat (go_quiet (fail); try go_wp2)
    go_meet
    case rel => exact ⟨_, ((⟨#[]⟩ : ByteArray)), (by first | rfl | (simp; done) | (simp [*]; done)), H', ⟨by first | omega | exact Nat.le_refl _⟩, ⟨bk BK381.out⟩, ⟨bel⟩⟩
  case rest =>
   clear HC5
   (try clear c2); (try clear c2b0); (try clear c2b1); (try clear c2b2); (try clear p2); (try clear c8); (try clear hcz4_0); (try clear hcz4_1); (try clear hcz7_0); (try clear hcz7_1); (try clear hfz4_0); (try clear hfz4_1); (try clear hfz7_0); (try clear hfz7_1)
   obtain ⟨kq, x3_4, rfl, HA, HJ4, BK381, HB⟩ := hcut
   cases kq with
   | zero => exact absurd HA.out (by simp [cellarerref02_Text.j0])
   | succ kj4 =>
    have H := HA.out
    clear HA
    simp only [cellarerref02_Text.j0] at H
    have H' := Aside0.mk H
    clear H
    go_wp2
    repeat (go_quiet (fail); try go_wp2)
    go_loopg [3, 4] kj4 (fun kq v3 v4 w' => ∃ (x3_2 : ByteArray) (x4_2 : Int), v3 = .string x3_2 ∧ v4 = .int .i64 x4_2 ∧ Aside0 (cellarerref02_Text.l0 kq x3_2 x4_2 a0_0 l0_1 = some r) ∧ Aside0 (kq ≤ kj4) ∧ Aside0 (w'.heap[gb381]? = some (.cells #[.bool a0_0, (.slice A0_1 l0_1.length c0_1)] 32 (0, 0))) ∧ Aside0 (Below w.heap.size w w'))
    case atStart => exact ⟨(x3_4), (0), (by first | rfl | (simp; done) | (simp [*]; done)), (by first | rfl | (simp; done) | (simp [*]; done)), H', ⟨Nat.le_refl _⟩, ⟨bk BK381.out⟩, ⟨bel⟩⟩
    case round =>
     clear H'
     (try clear c2); (try clear c2b0); (try clear c2b1); (try clear c2b2); (try clear p2); (try clear c8); (try clear hcz4_0); (try clear hcz4_1); (try clear hcz7_0); (try clear hcz7_1); (try clear hfz4_0); (try clear hfz4_1); (try clear hfz7_0); (try clear hfz7_1); (try clear p2)
     obtain ⟨x3_2, x4_2, rfl, rfl, HA, HK2, BK381, HB⟩ := hrel
     cases gk with
     | zero => exact absurd HA.out (by simp [cellarerref02_Text.l0])
     | succ k2 =>
      have H := HA.out
      clear HA
      simp only [cellarerref02_Text.l0] at H
      by_cases c9 : x4_2 < (l0_1.length : Int)
      ·rw [if_pos c9] at H
       have c9b0 : decide (x4_2 < (l0_1.length : Int)) = true := decide_eq_true c9
       clear c9
       by_cases c10 : 0 ≤ x4_2
       ·rw [if_pos c10] at H
        have c10b0 : decide (0 ≤ x4_2) = true := decide_eq_true c10
        clear c10
        by_cases c11 : 0 ≤ (rd l0_1 x4_2)
        ·rw [if_pos c11] at H
         have c11b0 := eq_true c11
         have c11b1 : decide (0 ≤ (rd l0_1 x4_2)) = true := decide_eq_true c11
         clear c11
         by_cases c12 : (rd l0_1 x4_2) ≤ (wrap64 ((rd l0_1 x4_2) + 1))
         ·rw [if_pos c12] at H
          have c12b0 := eq_true c12
          have c12b1 : decide ((rd l0_1 x4_2) ≤ (wrap64 ((rd l0_1 x4_2) + 1))) = true := decide_eq_true c12
          by_cases c13 : (wrap64 ((rd l0_1 x4_2) + 1)) ≤ 10
          ·rw [if_pos c13] at H
           have c13b0 := eq_true c13
           have c13b1 : decide ((wrap64 ((rd l0_1 x4_2) + 1)) ≤ 10) = true := decide_eq_true c13
           by_cases c14 : x3_2.size + ((⟨#[48, 49, 50, 51, 52, 53, 54, 55, 56, 57]⟩ : ByteArray).extract ((rd l0_1 x4_2) : Int).toNat ((wrap64 ((rd l0_1 x4_2) + 1)) : Int).toNat).size ≤ 9223372036854775807
           ·rw [if_pos c14] at H
            have c14b0 := eq_true c14
            have c14b1 : decide (x3_2.size + ((⟨#[48, 49, 50, 51, 52, 53, 54, 55, 56, 57]⟩ : ByteArray).extract ((rd l0_1 x4_2) : Int).toNat ((wrap64 ((rd l0_1 x4_2) + 1)) : Int).toNat).size ≤ 9223372036854775807) = true := decide_eq_true c14
            try have c14b2 : (9223372036854775807 < x3_2.size + ((⟨#[48, 49, 50, 51, 52, 53, 54, 55, 56, 57]⟩ : ByteArray).extract ((rd l0_1 x4_2) : Int).toNat ((wrap64 ((rd l0_1 x4_2) + 1)) : Int).toNat).size) = False := eq_false (Nat.not_lt.2 c14)
            have H' := Aside0.mk H
            clear H
            have hcz15_0 : wr.cell? ⟨gb381, 0, none⟩ = some (.bool a0_0) := (blk_cell BK381.out 0).trans rfl
            have hcz15_1 : wr.cell? ⟨gb381, 1, none⟩ = some (.slice A0_1 l0_1.length c0_1) := (blk_cell BK381.out 1).trans rfl
            have hfz15_0 := blk_frozen BK381.out 0
            have hfz15_1 := blk_frozen BK381.out 1
            have p382 : 0 ≤ (x4_2 : Int) := of_decide_eq_true (by first | (with_reducible assumption) | assumption)
            have q382 : x4_2 < (l0_1.length : Int) := of_decide_eq_true (by first | (with_reducible assumption) | assumption)
            obtain ⟨ad382, e382, hx382_0⟩ := Kd.at_int HR0_1.out x4_2 p382 q382
            cases e382
            replace hx382_0 := (HB.out.cell (World.block_lt_of_cell? w _ hx382_0)).trans hx382_0
            replace p382 := eq_true p382
            replace q382 := eq_true q382
            have p383 : 0 ≤ (x4_2 : Int) := of_decide_eq_true (by first | (with_reducible assumption) | assumption)
            have q383 : x4_2 < (l0_1.length : Int) := of_decide_eq_true (by first | (with_reducible assumption) | assumption)
            obtain ⟨ad383, e383, hx383_0⟩ := Kd.at_int HR0_1.out x4_2 p383 q383
            obtain rfl : ad382 = ad383 := (by injection e383)
            replace hx383_0 := (HB.out.cell (World.block_lt_of_cell? w _ hx383_0)).trans hx383_0
            replace p383 := eq_true p383
            replace q383 := eq_true q383
            go_wp2
            repeat (go_quiet (fail); try go_wp2)
            go_roundg k2
            case measure => have := HJ4.out; have := HK2.out; omega
            case rel => exact ⟨(x3_2 ++ ((⟨#[48, 49, 50, 51, 52, 53, 54, 55, 56, 57]⟩ : ByteArray).extract ((rd l0_1 x4_2) : Int).toNat ((wrap64 ((rd l0_1 x4_2) + 1)) : Int).toNat)), (wrap64 (x4_2 + 1)), (by first | rfl | (simp; done) | (simp [*]; done)), (by first | rfl | (simp; done) | (simp [*]; done)), H', ⟨by have := HJ4.out; have := HK2.out; omega⟩, ⟨bk BK381.out⟩, ⟨bel⟩⟩
           ·rw [if_neg c14] at H
            exact absurd H (by simp)
          ·rw [if_neg c13] at H
           exact absurd H (by simp)
         ·rw [if_neg c12] at H
          exact absurd H (by simp)
        ·rw [if_neg c11] at H
         exact absurd H (by simp)
       ·rw [if_neg c10] at H
        exact absurd H (by simp)
      ·rw [if_neg c9] at H
       have c9b0 : decide (x4_2 < (l0_1.length : Int)) = false := decide_eq_false c9
       clear c9
       obtain rfl := Option.some.inj H
       have hcz16_0 : wr.cell? ⟨gb381, 0, none⟩ = some (.bool a0_0) := (blk_cell BK381.out 0).trans rfl
       have hcz16_1 : wr.cell? ⟨gb381, 1, none⟩ = some (.slice A0_1 l0_1.length c0_1) := (blk_cell BK381.out 1).trans rfl
       have hfz16_0 := blk_frozen BK381.out 0
       have hfz16_1 := blk_frozen BK381.out 1
       go_wp2
       repeat (go_quiet (fail); try go_wp2)
       go_ret
       exact ⟨er, bel⟩

/-! ### cellarerref02_Long: function 42 -/
set_option maxHeartbeats 8000000 in
set_option maxRecDepth 100000 in
theorem cellarerref02_Long.calls (a0_0 : Bool) (A0_1 : Option Addr) (c0_1 : Nat) (l0_1 : List Int) (r : Bool) (w : World) (hG : GOK w) (hr0_1 : Kd.C (Kd.int .i64) w A0_1 l0_1.length l0_1) (hc0_1 : l0_1.length ≤ c0_1) (h : cellarerref02_Long.f a0_0 l0_1 = some r) :
  Calls Tryd.prog 42 #[.agg #[.bool a0_0, .slice A0_1 l0_1.length c0_1]] w fun e w' => e = .returned (.bool r) ∧ Below w.heap.size w w' := by
 have hu32 := Tryd.underlying32
 have HR0_1 := Aside0.mk hr0_1
 have HC0_1 := Aside0.mk hc0_1
 clear hr0_1 hc0_1
 replace hG := Aside0.mk hG
 have HB := Aside0.mk (Below.refl w.heap.size w)
 have H : (some (decide ((l0_1.length : Int) > 400))) = some r := h
 clear h
 obtain rfl := Option.some.inj H
 go_enter Tryd.func42, Tryd.ntmps42
 go_wp2_with (first | ((with_reducible refine gate_dst (N := 1) rfl ?_); refine box_event ?hg (N := 1) ?hd (cs := #[.bool a0_0, .slice A0_1 l0_1.length c0_1]) (t := 32) ?hr ?_; (case hd => rfl); (case hg => rfl); (case hr => first | (go_simp; done) | (go_simp; rfl)); intro gb384 hg w2 hbox hb; have BK384 := Aside0.mk (hbox); have GW384 := Aside0.mk ((by rw [hg]; exact (below_size bel) : w.heap.size ≤ gb384)); have GE384 := Aside0.mk ((by rw [hg]; exact (below_size bel) : w.heap.size ≤ gb384)); replace HB := Aside0.mk (below_step bel hb); clear hb hbox hg; have hcz3_0 : w2.cell? ⟨gb384, 0, none⟩ = some (.bool a0_0) := (blk_cell BK384.out 0).trans rfl; have hcz3_1 : w2.cell? ⟨gb384, 1, none⟩ = some (.slice A0_1 l0_1.length c0_1) := (blk_cell BK384.out 1).trans rfl; have hfz3_0 := blk_frozen BK384.out 0; have hfz3_1 := blk_frozen BK384.out 1))
 go_ret
 exact ⟨er, bel⟩

/-! ### cellarerlaw02_agree: function 17 -/
set_option maxRecDepth 100000 in
theorem cellarerlaw02_agree.close0 {P_ : Prop} (h_ : P_ := by (go_wp2_with (first | ((with_reducible refine gate_dst (N := 5) rfl ?_); refine box_event ?hg (N := 5) ?hd (cs := #[.bool a2_0, .slice A2_1 l2_1.length c2_1]) (t := 32) ?hr ?_; (case hd => rfl); (case hg => rfl); (case hr => first | (go_simp; done) | (go_simp; rfl)); intro gb9001_ hg w9001_ hbox hb; have BK9001_ := Aside0.mk (hbox); have GW9001_ := Aside0.mk ((by rw [hg]; exact (below_size bel) : w.heap.size ≤ gb9001_)); have GE9001_ := Aside0.mk ((by rw [hg]; exact (below_size bel) : w.heap.size ≤ gb9001_)); replace HB := Aside0.mk (below_step bel hb); clear hb hbox hg; have hcz9001_ : w9001_.cell? ⟨gb9001_, 0, none⟩ = some (.bool a2_0) := (blk_cell BK9001_.out 0).trans rfl; have hcz9002_ : w9001_.cell? ⟨gb9001_, 1, none⟩ = some (.slice A2_1 l2_1.length c2_1) := (blk_cell BK9001_.out 1).trans rfl; have hfz9001_ := blk_frozen BK9001_.out 0; have hfz9002_ := blk_frozen BK9001_.out 1) | ((with_reducible refine gate_callee (f := 42) rfl ?_); refine goesL_ (some 8) rfl rfl Tryd.func42 (by kernel_rfl) rfl #[.agg #[.bool a2_0, .slice A2_1 l2_1.length c2_1]] rfl ag ?_; (with_reducible refine (cellarerref02_Long.calls a2_0 _ _ l2_1 _ _ gk ?side2 ?side3 A4.out).mono ?_); (case side2 => exact kc ((Kd.C_below HR2_1.out HB.out))); (case side3 => exact HC2_1.out); rintro e w9002_ ⟨rfl, hb⟩; refine ⟨_, rfl, ?_⟩; replace BK9001_ := Aside0.mk (blk_below (bk BK9001_.out) hb); replace HB := Aside0.mk (below_step bel hb); clear hb; have hcz9003_ : w9002_.cell? ⟨gb9001_, 0, none⟩ = some (.bool a2_0) := (blk_cell BK9001_.out 0).trans rfl; have hcz9004_ : w9002_.cell? ⟨gb9001_, 1, none⟩ = some (.slice A2_1 l2_1.length c2_1) := (blk_cell BK9001_.out 1).trans rfl; have hfz9003_ := blk_frozen BK9001_.out 0; have hfz9004_ := blk_frozen BK9001_.out 1) | ((with_reducible refine gate_callee (f := 20) rfl ?_); refine goesL_ (some 17) rfl rfl Tryd.func20 (by kernel_rfl) rfl #[.agg #[.bool a2_0, .slice A2_1 l2_1.length c2_1]] rfl ag ?_; (with_reducible refine (cellarerref02_Text.calls k a2_0 _ _ l2_1 t387 _ gk ?side2 ?side3 A13.out).mono ?_); (case side2 => exact kc ((Kd.C_below HR2_1.out HB.out))); (case side3 => exact HC2_1.out); rintro e w9003_ ⟨rfl, hb⟩; refine ⟨_, rfl, ?_⟩; replace BK9001_ := Aside0.mk (blk_below (bk BK9001_.out) hb); replace HB := Aside0.mk (below_step bel hb); clear hb))); go_ret; exact ⟨er, bel⟩) : P_ := h_
set_option maxHeartbeats 8000000 in
set_option maxRecDepth 100000 in
theorem cellarerlaw02_agree.calls (k : Nat) (a0 : ByteArray) (a1 : Int) (a2_0 : Bool) (A2_1 : Option Addr) (c2_1 : Nat) (l2_1 : List Int) (r : Bool) (w : World) (hG : GOK w) (hr2_1 : Kd.C (Kd.int .i64) w A2_1 l2_1.length l2_1) (hc2_1 : l2_1.length ≤ c2_1) (h : cellarerlaw02_agree.f k a0 a1 a2_0 l2_1 = some r) :
  Calls Tryd.prog 17 #[.string a0, .int .i64 a1, .agg #[.bool a2_0, .slice A2_1 l2_1.length c2_1]] w fun e w' => e = .returned (.bool r) ∧ Below w.heap.size w w' := by
 have hu32 := Tryd.underlying32
 have HR2_1 := Aside0.mk hr2_1
 have HC2_1 := Aside0.mk hc2_1
 clear hr2_1 hc2_1
 replace hG := Aside0.mk hG
 have HB := Aside0.mk (Below.refl w.heap.size w)
 have H : ((cellarerref02_Long.f a2_0 l2_1).bind fun t386 => (if t386 = true then (if a0.toList = ([] : List UInt8) then (some (a1 == 5)) else (some false)) else ((cellarerref02_Text.f k a2_0 l2_1).bind fun t387 => (if a0.toList = t387.toList then (some (a1 == 0)) else (some false))))) = some r := h
 clear h
 obtain ⟨t386, A4, H⟩ := bind_ H
 try dsimp only at H
 by_cases c5 : t386 = true
 ·subst c5
  rw [if_pos rfl] at H
  by_cases c6 : a0.toList = ([] : List UInt8)
  ·rw [if_pos c6] at H
   have c6b0 : (a0.toList == ([] : List UInt8)) = true := beq_iff_eq.mpr c6
   have c6b1 : (a0.toList != ([] : List UInt8)) = false := bne_eq_false_iff_eq.mpr c6
   clear c6
   obtain rfl := Option.some.inj H
   go_enter Tryd.func17, Tryd.ntmps17
   exact cellarerlaw02_agree.close0
  ·rw [if_neg c6] at H
   have c6b0 : (a0.toList == ([] : List UInt8)) = false := beq_eq_false_iff_ne.mpr c6
   have c6b1 : (a0.toList != ([] : List UInt8)) = true := bne_iff_ne.mpr c6
   obtain rfl := Option.some.inj H
   go_enter Tryd.func17, Tryd.ntmps17
   exact cellarerlaw02_agree.close0
 ·replace c5 := Bool.eq_false_iff.mpr c5
  subst c5
  rw [if_neg Bool.false_ne_true] at H
  obtain ⟨t387, A13, H⟩ := bind_ H
  try dsimp only at H
  by_cases c14 : a0.toList = t387.toList
  ·rw [if_pos c14] at H
   have c14b0 : (a0.toList == t387.toList) = true := beq_iff_eq.mpr c14
   have c14b1 : (a0.toList != t387.toList) = false := bne_eq_false_iff_eq.mpr c14
   clear c14
   obtain rfl := Option.some.inj H
   go_enter Tryd.func17, Tryd.ntmps17
   exact cellarerlaw02_agree.close0
  ·rw [if_neg c14] at H
   have c14b0 : (a0.toList == t387.toList) = false := beq_eq_false_iff_ne.mpr c14
   have c14b1 : (a0.toList != t387.toList) = true := bne_iff_ne.mpr c14
   obtain rfl := Option.some.inj H
   go_enter Tryd.func17, Tryd.ntmps17
   exact cellarerlaw02_agree.close0

/-! ### integer_opposite: function 48 -/
/-! ### integer_Sub: function 22 -/
/-! ### cellarerref02_cmp: function 43 -/
set_option maxHeartbeats 8000000 in
set_option maxRecDepth 100000 in
theorem cellarerref02_cmp.calls (k : Nat) (A0 : Option Addr) (c0 : Nat) (l0 : List Int) (A1 : Option Addr) (c1 : Nat) (l1 : List Int) (r : Int) (w : World) (hG : GOK w) (hr0 : Kd.C (Kd.int .i64) w A0 l0.length l0) (hc0 : l0.length ≤ c0) (hr1 : Kd.C (Kd.int .i64) w A1 l1.length l1) (hc1 : l1.length ≤ c1) (h : cellarerref02_cmp.f k l0 l1 = some r) :
  Calls Tryd.prog 43 #[.slice A0 l0.length c0, .slice A1 l1.length c1] w fun e w' => e = .returned (.int .i64 r) ∧ Drawn0 w w' := by
 have HR0 := Aside0.mk hr0
 have HC0 := Aside0.mk hc0
 clear hr0 hc0
 have HR1 := Aside0.mk hr1
 have HC1 := Aside0.mk hc1
 clear hr1 hc1
 replace hG := Aside0.mk hG
 have H : (if (l0.length : Int) = (l1.length : Int) then (cellarerref02_cmp.l0 k l0 l1 0) else (if (l0.length : Int) < (l1.length : Int) then (some (-1)) else (some 1))) = some r := h
 clear h
 by_cases c3 : (l0.length : Int) = (l1.length : Int)
 ·rw [if_pos c3] at H
  have c3b0 : ((l0.length : Int) == (l1.length : Int)) = true := beq_iff_eq.mpr c3
  have c3b1 : ((l0.length : Int) != (l1.length : Int)) = false := bne_eq_false_iff_eq.mpr c3
  have c3b2 : (l0.length == l1.length) = true := by first | simpa using c3 | (simp at c3 ⊢; omega)
  clear c3
  have H' := Aside0.mk H
  clear H
  go_enter Tryd.func43, Tryd.ntmps43
  go_wp2
  repeat (go_quiet (fail); try go_wp2)
  go_loopg [5] k (fun kq v5 w' => ∃ (x5_1 : Int), v5 = .int .i64 x5_1 ∧ Aside0 (cellarerref02_cmp.l0 kq l0 l1 x5_1 = some r) ∧ Aside0 (kq ≤ k) ∧ Drawn0 w w')
  case atStart => exact ⟨(0), (by first | rfl | (simp; done) | (simp [*]; done)), H', ⟨Nat.le_refl _⟩, by repeat (first | exact Drawn0.refl _ | apply Drawn0.step)⟩
  case round =>
   clear H'
   (try clear c1); (try clear p2); (try clear c3); (try clear c3b0); (try clear c3b1); (try clear c3b2)
   obtain ⟨x5_1, rfl, HA, HK1, ⟨m1, rfl⟩⟩ := hrel
   cases gk with
   | zero => exact absurd HA.out (by simp [cellarerref02_cmp.l0])
   | succ k1 =>
    have H := HA.out
    clear HA
    simp only [cellarerref02_cmp.l0] at H
    by_cases c4 : x5_1 < (l0.length : Int)
    ·rw [if_pos c4] at H
     have c4b0 : decide (x5_1 < (l0.length : Int)) = true := decide_eq_true c4
     clear c4
     by_cases c5 : 0 ≤ x5_1
     ·rw [if_pos c5] at H
      have c5b0 : decide (0 ≤ x5_1) = true := decide_eq_true c5
      clear c5
      by_cases c6 : x5_1 < (l1.length : Int)
      ·rw [if_pos c6] at H
       have c6b0 : decide (x5_1 < (l1.length : Int)) = true := decide_eq_true c6
       clear c6
       by_cases c7 : (rd l0 x5_1) < (rd l1 x5_1)
       ·rw [if_pos c7] at H
        have c7b0 : decide ((rd l0 x5_1) < (rd l1 x5_1)) = true := decide_eq_true c7
        clear c7
        obtain rfl := Option.some.inj H
        have p417 : 0 ≤ (x5_1 : Int) := of_decide_eq_true (by first | (with_reducible assumption) | assumption)
        have q417 : x5_1 < (l0.length : Int) := of_decide_eq_true (by first | (with_reducible assumption) | assumption)
        obtain ⟨ad417, e417, hx417_0⟩ := Kd.at_int HR0.out x5_1 p417 q417
        cases e417
        replace p417 := eq_true p417
        replace q417 := eq_true q417
        have p418 : 0 ≤ (x5_1 : Int) := of_decide_eq_true (by first | (with_reducible assumption) | assumption)
        have q418 : x5_1 < (l1.length : Int) := of_decide_eq_true (by first | (with_reducible assumption) | assumption)
        obtain ⟨ad418, e418, hx418_0⟩ := Kd.at_int HR1.out x5_1 p418 q418
        cases e418
        replace p418 := eq_true p418
        replace q418 := eq_true q418
        go_wp2
        repeat (go_quiet (fail); try go_wp2)
        go_ret
        exact ⟨by first | rfl | (simp; done) | (simp [*]; done), by repeat (first | exact Drawn0.refl _ | apply Drawn0.step)⟩
       ·rw [if_neg c7] at H
        have c7b0 : decide ((rd l0 x5_1) < (rd l1 x5_1)) = false := decide_eq_false c7
        clear c7
        by_cases c8 : (rd l0 x5_1) > (rd l1 x5_1)
        ·rw [if_pos c8] at H
         have c8b0 : decide ((rd l1 x5_1) < (rd l0 x5_1)) = true := decide_eq_true c8
         clear c8
         obtain rfl := Option.some.inj H
         have p417 : 0 ≤ (x5_1 : Int) := of_decide_eq_true (by first | (with_reducible assumption) | assumption)
         have q417 : x5_1 < (l0.length : Int) := of_decide_eq_true (by first | (with_reducible assumption) | assumption)
         obtain ⟨ad417, e417, hx417_0⟩ := Kd.at_int HR0.out x5_1 p417 q417
         cases e417
         replace p417 := eq_true p417
         replace q417 := eq_true q417
         have p418 : 0 ≤ (x5_1 : Int) := of_decide_eq_true (by first | (with_reducible assumption) | assumption)
         have q418 : x5_1 < (l1.length : Int) := of_decide_eq_true (by first | (with_reducible assumption) | assumption)
         obtain ⟨ad418, e418, hx418_0⟩ := Kd.at_int HR1.out x5_1 p418 q418
         cases e418
         replace p418 := eq_true p418
         replace q418 := eq_true q418
         have p419 : 0 ≤ (x5_1 : Int) := of_decide_eq_true (by first | (with_reducible assumption) | assumption)
         have q419 : x5_1 < (l0.length : Int) := of_decide_eq_true (by first | (with_reducible assumption) | assumption)
         obtain ⟨ad419, e419, hx419_0⟩ := Kd.at_int HR0.out x5_1 p419 q419
         obtain rfl : ad417 = ad419 := (by injection e419)
         replace p419 := eq_true p419
         replace q419 := eq_true q419
         have p420 : 0 ≤ (x5_1 : Int) := of_decide_eq_true (by first | (with_reducible assumption) | assumption)
         have q420 : x5_1 < (l1.length : Int) := of_decide_eq_true (by first | (with_reducible assumption) | assumption)
         obtain ⟨ad420, e420, hx420_0⟩ := Kd.at_int HR1.out x5_1 p420 q420
         obtain rfl : ad418 = ad420 := (by injection e420)
         replace p420 := eq_true p420
         replace q420 := eq_true q420
         go_wp2
         repeat (go_quiet (fail); try go_wp2)
         go_ret
         exact ⟨by first | rfl | (simp; done) | (simp [*]; done), by repeat (first | exact Drawn0.refl _ | apply Drawn0.step)⟩
        ·rw [if_neg c8] at H
         have c8b0 : decide ((rd l1 x5_1) < (rd l0 x5_1)) = false := decide_eq_false c8
         clear c8
         have H' := Aside0.mk H
         clear H
         have p417 : 0 ≤ (x5_1 : Int) := of_decide_eq_true (by first | (with_reducible assumption) | assumption)
         have q417 : x5_1 < (l0.length : Int) := of_decide_eq_true (by first | (with_reducible assumption) | assumption)
         obtain ⟨ad417, e417, hx417_0⟩ := Kd.at_int HR0.out x5_1 p417 q417
         cases e417
         replace p417 := eq_true p417
         replace q417 := eq_true q417
         have p418 : 0 ≤ (x5_1 : Int) := of_decide_eq_true (by first | (with_reducible assumption) | assumption)
         have q418 : x5_1 < (l1.length : Int) := of_decide_eq_true (by first | (with_reducible assumption) | assumption)
         obtain ⟨ad418, e418, hx418_0⟩ := Kd.at_int HR1.out x5_1 p418 q418
         cases e418
         replace p418 := eq_true p418
         replace q418 := eq_true q418
         have p419 : 0 ≤ (x5_1 : Int) := of_decide_eq_true (by first | (with_reducible assumption) | assumption)
         have q419 : x5_1 < (l0.length : Int) := of_decide_eq_true (by first | (with_reducible assumption) | assumption)
         obtain ⟨ad419, e419, hx419_0⟩ := Kd.at_int HR0.out x5_1 p419 q419
         obtain rfl : ad417 = ad419 := (by injection e419)
         replace p419 := eq_true p419
         replace q419 := eq_true q419
         have p420 : 0 ≤ (x5_1 : Int) := of_decide_eq_true (by first | (with_reducible assumption) | assumption)
         have q420 : x5_1 < (l1.length : Int) := of_decide_eq_true (by first | (with_reducible assumption) | assumption)
         obtain ⟨ad420, e420, hx420_0⟩ := Kd.at_int HR1.out x5_1 p420 q420
         obtain rfl : ad418 = ad420 := (by injection e420)
         replace p420 := eq_true p420
         replace q420 := eq_true q420
         go_wp2
         repeat (go_quiet (fail); try go_wp2)
         go_roundg k1
         case measure => have := HK1.out; omega
         case rel => exact ⟨(wrap64 (x5_1 + 1)), (by first | rfl | (simp; done) | (simp [*]; done)), H', ⟨by have := HK1.out; omega⟩, by repeat (first | exact Drawn0.refl _ | apply Drawn0.step)⟩
      ·rw [if_neg c6] at H
       exact absurd H (by simp)
     ·rw [if_neg c5] at H
      exact absurd H (by simp)
    ·rw [if_neg c4] at H
     have c4b0 : decide (x5_1 < (l0.length : Int)) = false := decide_eq_false c4
     clear c4
     obtain rfl := Option.some.inj H
     go_wp2
     repeat (go_quiet (fail); try go_wp2)
     go_ret
     exact ⟨by first | rfl | (simp; done) | (simp [*]; done), by repeat (first | exact Drawn0.refl _ | apply Drawn0.step)⟩
 ·rw [if_neg c3] at H
  have c3b0 : ((l0.length : Int) == (l1.length : Int)) = false := beq_eq_false_iff_ne.mpr c3
  have c3b1 : ((l0.length : Int) != (l1.length : Int)) = true := bne_iff_ne.mpr c3
  have c3b2 : (l0.length == l1.length) = false := by first | simpa using c3 | (simp at c3 ⊢; omega)
  by_cases c9 : (l0.length : Int) < (l1.length : Int)
  ·rw [if_pos c9] at H
   have c9b0 : decide ((l0.length : Int) < (l1.length : Int)) = true := decide_eq_true c9
   have c9b1 : decide (l0.length < l1.length) = true := decide_eq_true (Int.ofNat_lt.mp c9)
   clear c9
   obtain rfl := Option.some.inj H
   go_enter Tryd.func43, Tryd.ntmps43
   go_wp2
   repeat (go_quiet (fail); try go_wp2)
   go_ret
   exact ⟨by first | rfl | (simp; done) | (simp [*]; done), by repeat (first | exact Drawn0.refl _ | apply Drawn0.step)⟩
  ·rw [if_neg c9] at H
   have c9b0 : decide ((l0.length : Int) < (l1.length : Int)) = false := decide_eq_false c9
   have c9b1 : decide (l0.length < l1.length) = false := decide_eq_false (fun h => c9 (Int.ofNat_lt.mpr h))
   clear c9
   obtain rfl := Option.some.inj H
   go_enter Tryd.func43, Tryd.ntmps43
   go_wp2
   repeat (go_quiet (fail); try go_wp2)
   go_ret
   exact ⟨by first | rfl | (simp; done) | (simp [*]; done), by repeat (first | exact Drawn0.refl _ | apply Drawn0.step)⟩

/-! ### cellarerref02_digit: function 64 -/
set_option maxHeartbeats 8000000 in
set_option maxRecDepth 100000 in
theorem cellarerref02_digit.calls (A0 : Option Addr) (c0 : Nat) (l0 : List Int) (a1 : Int) (r : Int) (w : World) (hG : GOK w) (hr0 : Kd.C (Kd.int .i64) w A0 l0.length l0) (hc0 : l0.length ≤ c0) (h : cellarerref02_digit.f l0 a1 = some r) :
  Calls Tryd.prog 64 #[.slice A0 l0.length c0, .int .i64 a1] w fun e w' => e = .returned (.int .i64 r) ∧ Drawn0 w w' := by
 have HR0 := Aside0.mk hr0
 have HC0 := Aside0.mk hc0
 clear hr0 hc0
 replace hG := Aside0.mk hG
 have H : (if a1 ≥ (l0.length : Int) then (some 0) else (if 0 ≤ (wrap64 ((wrap64 ((l0.length : Int) - 1)) - a1)) then (if (wrap64 ((wrap64 ((l0.length : Int) - 1)) - a1)) < (l0.length : Int) then (some (rd l0 (wrap64 ((wrap64 ((l0.length : Int) - 1)) - a1)))) else (none)) else (none))) = some r := h
 clear h
 by_cases c3 : a1 ≥ (l0.length : Int)
 ·rw [if_pos c3] at H
  have c3b0 : decide ((l0.length : Int) ≤ a1) = true := decide_eq_true c3
  clear c3
  obtain rfl := Option.some.inj H
  go_enter Tryd.func64, Tryd.ntmps64
  go_wp2
  go_ret
  exact ⟨by first | rfl | (simp; done) | (simp [*]; done), by repeat (first | exact Drawn0.refl _ | apply Drawn0.step)⟩
 ·rw [if_neg c3] at H
  have c3b0 : decide ((l0.length : Int) ≤ a1) = false := decide_eq_false c3
  clear c3
  obtain ⟨ji4, hji4⟩ : ∃ j_ : Int, (wrap64 ((wrap64 ((l0.length : Int) - 1)) - a1)) = j_ := ⟨_, rfl⟩
  replace H : (if 0 ≤ (ji4) then (if (ji4) < (l0.length : Int) then (some (rd l0 (ji4))) else (none)) else (none)) = some r := by first | (rw [hji4] at H; exact H) | (simp only [hji4] at H ⊢; exact H)
  have hji4w : (IntKind.i64.wrap ((wrap64 ((l0.length : Int) - 1)) - a1)) = ji4 := (i64_w _).trans hji4
  by_cases c5 : 0 ≤ (ji4)
  ·rw [if_pos c5] at H
   have c5b0 : decide (0 ≤ (ji4)) = true := decide_eq_true c5
   clear c5
   by_cases c6 : (ji4) < (l0.length : Int)
   ·rw [if_pos c6] at H
    have c6b0 : decide ((ji4) < (l0.length : Int)) = true := decide_eq_true c6
    clear c6
    obtain rfl := Option.some.inj H
    have p421 : 0 ≤ ((ji4) : Int) := of_decide_eq_true (by first | (with_reducible assumption) | assumption)
    have q421 : (ji4) < (l0.length : Int) := of_decide_eq_true (by first | (with_reducible assumption) | assumption)
    obtain ⟨ad421, e421, hx421_0⟩ := Kd.at_int HR0.out (ji4) p421 q421
    cases e421
    replace p421 := eq_true p421
    replace q421 := eq_true q421
    go_enter Tryd.func64, Tryd.ntmps64
    go_wp2
    go_ret
    exact ⟨by first | rfl | (simp; done) | (simp only [← hji4] <;> (first | rfl | simp)) | (simp [*]; done), by repeat (first | exact Drawn0.refl _ | apply Drawn0.step)⟩
   ·rw [if_neg c6] at H
    exact absurd H (by simp)
  ·rw [if_neg c5] at H
   exact absurd H (by simp)

end Go.Proofs.YtdnjlmoggnbknaaDoor.PInt
