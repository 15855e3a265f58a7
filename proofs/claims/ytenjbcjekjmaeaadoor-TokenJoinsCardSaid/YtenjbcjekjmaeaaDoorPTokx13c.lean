-- Written by a program of this session's (xprint.py) over the kit's print.
import Derived.Test.YtenjbcjekjmaeaaDoorPTokx0
import Derived.Test.YtenjbcjekjmaeaaDoorPTokx1
import Derived.Test.YtenjbcjekjmaeaaDoorPTokx9
import Derived.Test.YtenjbcjekjmaeaaDoorPTokD
namespace Go.Proofs.YtenjbcjekjmaeaaDoor.PTok
open Go.RowKit Go.Proofs.YtenjbcjekjmaeaaDoor.Ext Go.Proofs.YtenjbcjekjmaeaaDoorW.PrintWords Go.Proofs.YtenjbcjekjmaeaaDoorW.PrintLast
attribute [local go_sem high] gtr_print leq_print
set_option linter.unusedVariables false
set_option linter.unusedSimpArgs false

/-! ### token_Scan: function 11 -/
set_option maxHeartbeats 60000000 in
set_option maxRecDepth 100000 in
noncomputable def token_Scan.calls.cut :
  { p : Prop // PLift p → ∀ (k : Nat) (a0 : ByteArray) (r1 : List (S36)) (r2 : List (S33)) (r3 : Int) (r4 : Int) (w : World) (hG : GOK w) (h : token_Scan.f k a0 = some (r1, r2, r3, r4)), Calls Tryd.prog 11 #[.string a0] w fun e w' => ∃ v0_ v1_ : Value, e = .returned (.tuple #[v0_, v1_, .int .i64 r3, .int .i64 r4]) ∧ Kd.R k36 36 w' w.heap.size (fun _ => True) v0_ r1 ∧ Kd.R k33 33 w' w.heap.size (fun _ => True) v1_ r2 ∧ Below w.heap.size w w' } := by
 apply Subtype.mk
 intro hrest_ k a0 r1 r2 r3 r4 w hG h
 have hu33 := Tryd.underlying33
 have hu36 := Tryd.underlying36
 have hz48 : ∀ w, (zeroValue 48).run Tryd.prog w = .ok (.agg (arrB zeros256)) w := (zero_of_info (n := 256) (by as_aux_lemma => kernel_rfl)).1
 have hu57 := Tryd.underlying57
 replace hG := Aside0.mk hG
 have HB := Aside0.mk (Below.refl w.heap.size w)
 have H : (if (a0.size : Int) > 65536 then (some (([] : List (S36)), ([] : List (S33)), 0, 5)) else ((token_wrong.f k a0).bind fun t109 => (if t109 ≥ 0 then (some (([] : List (S36)), ([] : List (S33)), t109, 25)) else ((token_names.f).bind fun t110 => (token_Scan.l0 k a0 ([] : List (S36)) ([] : List (S33)) 0 t110))))) = some (r1, r2, r3, r4) := h
 clear h
 by_cases c2 : (a0.size : Int) > 65536
 ·rw [if_pos c2] at H
  have c2b0 : decide (65536 < (a0.size : Int)) = true := decide_eq_true c2
  have c2b1 : decide (65536 < a0.size) = true := decide_eq_true (by omega)
  clear c2
  simp only [Option.some.injEq, Prod.mk.injEq] at H
  obtain ⟨rfl, rfl, rfl, rfl⟩ := H
  go_enter Tryd.func11, Tryd.ntmps11
  go_wp2
  go_step3
  go_wp2
  (try rw [Exit.noGoto_ret])
  refine bodyPost_ret (results_list (rs := [.tmp 2, .tmp 3, .tmp 4, .tmp 5]) rfl (by simp) (.tmp (.tmp (.tmp (.tmp .nil))))) rfl ?_
  exact ⟨_, _, by first | rfl | (simp [errW_none, errW_some] <;> rfl) | (simp [*, errW_none, errW_some] <;> rfl), by first | exact Kd.R_nil _ _ _ _ _ | exact Kd.N_nil _ _ _ _ _ | exact Kd.V_nil _ _ _ _ _ | exact Kd.Q_nil _ _ _ _ _ | exact Kd.S_nil _ _ _ _ _, by first | exact Kd.R_nil _ _ _ _ _ | exact Kd.N_nil _ _ _ _ _ | exact Kd.V_nil _ _ _ _ _ | exact Kd.Q_nil _ _ _ _ _ | exact Kd.S_nil _ _ _ _ _, by repeat (first | (with_reducible first | exact HB.out | apply below_alloc | apply pw_below_drewN | apply below_drew1) | exact HB.out)⟩
 ·rw [if_neg c2] at H
  have c2b0 : decide (65536 < (a0.size : Int)) = false := decide_eq_false c2
  have c2b1 : decide (65536 < a0.size) = false := decide_eq_false (by omega)
  clear c2
  replace H := Option.bind_eq_some_iff.mp H
  obtain ⟨t109, A30, H⟩ := H
  replace H : (if t109 ≥ 0 then (some (([] : List (S36)), ([] : List (S33)), t109, 25)) else ((token_names.f).bind fun t110 => (token_Scan.l0 k a0 ([] : List (S36)) ([] : List (S33)) 0 t110))) = some (r1, r2, r3, r4) := H
  have A3 := Aside0.mk A30
  clear A30
  by_cases c4 : t109 ≥ 0
  ·rw [if_pos c4] at H
   have c4b0 : decide (0 ≤ t109) = true := decide_eq_true c4
   clear c4
   simp only [Option.some.injEq, Prod.mk.injEq] at H
   obtain ⟨rfl, rfl, rfl, rfl⟩ := H
   go_enter Tryd.func11, Tryd.ntmps11
   go_wp2
   go_step3
   go_wp2_with (first | ((with_reducible refine gate_callee (f := 20) rfl ?_); refine goesL_ (some 23) rfl rfl Tryd.func20 (by as_aux_lemma => kernel_rfl) rfl #[.string a0] rfl (by (try simp only [List.map_toArray, List.map_cons, List.map_nil]); first | done | rfl | (simp only [List.length_drop, List.length_take]; rfl)) ?_; (with_reducible refine (token_wrong.calls k a0 t109 _ ?side1 A3.out).mono ?_); (case side1 => exact GOK.below hG.out (by first | exact HB.out | (repeat (first | (with_reducible first | exact HB.out | apply below_alloc | apply pw_below_drewN | apply below_drew1) | exact HB.out)))); rintro e w' ⟨rfl, ⟨nd, rfl⟩⟩; refine ⟨_, rfl, ?_⟩))
   (try rw [Exit.noGoto_ret])
   refine bodyPost_ret (results_list (rs := [.tmp 2, .tmp 3, .tmp 4, .tmp 5]) rfl (by simp) (.tmp (.tmp (.tmp (.tmp .nil))))) rfl ?_
   exact ⟨_, _, by first | rfl | (simp [errW_none, errW_some] <;> rfl) | (simp [*, errW_none, errW_some] <;> rfl), by first | exact Kd.R_nil _ _ _ _ _ | exact Kd.N_nil _ _ _ _ _ | exact Kd.V_nil _ _ _ _ _ | exact Kd.Q_nil _ _ _ _ _ | exact Kd.S_nil _ _ _ _ _, by first | exact Kd.R_nil _ _ _ _ _ | exact Kd.N_nil _ _ _ _ _ | exact Kd.V_nil _ _ _ _ _ | exact Kd.Q_nil _ _ _ _ _ | exact Kd.S_nil _ _ _ _ _, by repeat (first | (with_reducible first | exact HB.out | apply below_alloc | apply pw_below_drewN | apply below_drew1) | exact HB.out)⟩
  ·rw [if_neg c4] at H
   have c4b0 : decide (0 ≤ t109) = false := decide_eq_false c4
   clear c4
   replace H := Option.bind_eq_some_iff.mp H
   obtain ⟨t110, A50, H⟩ := H
   replace H : (token_Scan.l0 k a0 ([] : List (S36)) ([] : List (S33)) 0 t110) = some (r1, r2, r3, r4) := H
   have A5 := Aside0.mk A50
   clear A50
   have H' := Aside0.mk H
   clear H
   go_enter Tryd.func11, Tryd.ntmps11
   go_wp2
   go_step3
   go_wp2_with (first | ((with_reducible refine gate_callee (f := 20) rfl ?_); refine goesL_ (some 23) rfl rfl Tryd.func20 (by as_aux_lemma => kernel_rfl) rfl #[.string a0] rfl (by (try simp only [List.map_toArray, List.map_cons, List.map_nil]); first | done | rfl | (simp only [List.length_drop, List.length_take]; rfl)) ?_; (with_reducible refine (token_wrong.calls k a0 t109 _ ?side1 A3.out).mono ?_); (case side1 => exact GOK.below hG.out (by first | exact HB.out | (repeat (first | (with_reducible first | exact HB.out | apply below_alloc | apply pw_below_drewN | apply below_drew1) | exact HB.out)))); rintro e w' ⟨rfl, ⟨nd, rfl⟩⟩; refine ⟨_, rfl, ?_⟩) | ((with_reducible refine gate_callee (f := 21) rfl ?_); refine goesL_ (some 27) rfl rfl Tryd.func21 (by as_aux_lemma => kernel_rfl) rfl #[] rfl (by (try simp only [List.map_toArray, List.map_cons, List.map_nil]); first | done | rfl | (simp only [List.length_drop, List.length_take]; rfl)) ?_; (with_reducible refine (token_names.calls  t110 _ ?side1 A5.out).mono ?_); (case side1 => exact GOK.below hG.out (by first | exact HB.out | (repeat (first | (with_reducible first | exact HB.out | apply below_alloc | apply pw_below_drewN | apply below_drew1) | exact HB.out)))); rintro e w6 ⟨rfl, hb⟩; refine ⟨_, rfl, ?_⟩; have n0_ := Aside0.mk (below_step (by repeat (first | (with_reducible first | exact HB.out | apply below_alloc | apply pw_below_drewN | apply below_drew1) | exact HB.out)) hb); clear HB; have HB := n0_; clear n0_; (try clear hb); (try clear hb2); (try clear hk); (try clear hi)) | ((with_reducible refine gate_dst (N := 7) rfl ?_); (try (refine gate_guard (by rfl) ?_; dsimp only)); refine box_event ?hg (N := 7) ?hd (cs := (arrB zeros256)) (t := 48) ?hr ?_; (case hd => rfl); (case hg => rfl); (case hr => first | (go_simp; done) | (go_simp; rfl)); intro gb111 hg w7 hbox hb; have n0_ := Aside0.mk (below_step (by repeat (first | (with_reducible first | exact HB.out | apply below_alloc | apply pw_below_drewN | apply below_drew1) | exact HB.out)) hb); have n1_ := Aside0.mk (hbox); have n2_ := Aside0.mk ((by rw [hg]; exact (below_size (by repeat (first | (with_reducible first | exact HB.out | apply below_alloc | apply pw_below_drewN | apply below_drew1) | exact HB.out))) : w.heap.size ≤ gb111)); have n3_ := Aside0.mk ((by rw [hg]; exact (below_size (by repeat (first | (with_reducible first | exact HB.out | apply below_alloc | apply pw_below_drewN | apply below_drew1) | exact HB.out))) : w.heap.size ≤ gb111)); clear HB; have HB := n0_; have BK111 := n1_; have GW111 := n2_; have GE111 := n3_; clear n0_ n1_ n2_ n3_; clear hb hbox hg) | ((with_reducible refine gate_store (t := 48) (p := 7) rfl ?_); refine arrb_store_event (t := 48) (p := 7) (v := .tmp 27) (g := gb111) (old := zeros256) (l := t110) ?hg ?ho BK111.out ?hx ?hy ?hi ?hn ?_; (case ho => rfl); (case hg => rfl); (case hx => rfl); (case hy => rfl); (case hi => as_aux_lemma => kernel_rfl); (case hn => rfl); intro w8 hbox hb; have n0_ := Aside0.mk ((hb _ _ (GE111.out) (by repeat (first | (with_reducible first | exact HB.out | apply below_alloc | apply pw_below_drewN | apply below_drew1 | refine below_set ?_ GE111.out) | exact HB.out)))); have n1_ := Aside0.mk (hbox); clear HB; clear BK111; have HB := n0_; have BK111 := n1_; clear n0_ n1_; clear hb hbox))
   (try (go_step3; go_wp2))
   go_loopg [8, 9, 10] k (fun kq v8 v9 v10 w' => ∃ (x8_1 : List (S36)) (x9_1 : List (S33)) (x10_1 : Int), v10 = .int .i64 x10_1 ∧ Aside0 (token_Scan.l0 kq a0 x8_1 x9_1 x10_1 t110 = some (r1, r2, r3, r4)) ∧ Aside0 (kq ≤ k) ∧ Aside0 (Kd.R k36 36 w' w.heap.size (fun _ => True) v8 x8_1) ∧ Aside0 (Kd.R k33 33 w' w.heap.size (fun _ => True) v9 x9_1) ∧ Aside0 (w'.heap[gb111]? = some (.cells (arrB t110) 48 (0, 0))) ∧ Aside0 (Below w.heap.size w w'))
   case atStart => exact ⟨(([] : List (S36))), (([] : List (S33))), (0), (by first | rfl | (simp; done) | (simp [*]; done)), H', ⟨Nat.le_refl _⟩, ⟨by first | exact Kd.R_nil _ _ _ _ _ | exact Kd.N_nil _ _ _ _ _ | exact Kd.V_nil _ _ _ _ _ | exact Kd.Q_nil _ _ _ _ _ | exact Kd.S_nil _ _ _ _ _⟩, ⟨by first | exact Kd.R_nil _ _ _ _ _ | exact Kd.N_nil _ _ _ _ _ | exact Kd.V_nil _ _ _ _ _ | exact Kd.Q_nil _ _ _ _ _ | exact Kd.S_nil _ _ _ _ _⟩, ⟨by (with_reducible repeat (first | refine blk_drewN ?_ _ | refine blk_drew ?_ | refine blk_alloc ?_ _)); exact BK111.out⟩, ⟨by repeat (first | (with_reducible first | exact HB.out | apply below_alloc | apply pw_below_drewN | apply below_drew1 | refine below_set ?_ GE111.out) | exact HB.out)⟩⟩
   case round =>
    clear H'
    (try clear c1); (try clear c2); (try clear c2b0); (try clear c2b1); (try clear p2); (try clear p3); (try clear c4); (try clear c4b0)
    obtain ⟨x8_1, x9_1, x10_1, rfl, HA, HK1, HO_8, HO_9, BK111, HB⟩ := hrel
    cases gk with
    | zero => exact absurd HA.out (by simp [token_Scan.l0])
    | succ k1 =>
     have H := HA.out
     clear HA
     simp only [token_Scan.l0] at H
     by_cases c9 : x10_1 < (a0.size : Int)
     ·rw [if_pos c9] at H
      have c9b0 : decide (x10_1 < (a0.size : Int)) = true := decide_eq_true c9
      clear c9
      by_cases c10 : 0 ≤ x10_1
      ·rw [if_pos c10] at H
       have c10b0 : decide (0 ≤ x10_1) = true := decide_eq_true c10
       clear c10
       have c12b0 := eq_true (of_decide_eq_true (by first | (with_reducible assumption) | assumption) : 0 ≤ x10_1)
       by_cases c13 : x10_1 ≤ (a0.size : Int)
       ·rw [if_pos c13] at H
        have c13b0 := eq_true c13
        have c13b1 : decide (x10_1 ≤ (a0.size : Int)) = true := decide_eq_true c13
        clear c13
        replace H := Option.bind_eq_some_iff.mp H
        obtain ⟨bz115, hbz1150, H⟩ := H
        replace H : ((strings_IndexByte.f (⟨#[32, 9, 13, 10]⟩ : ByteArray) (bt a0 x10_1)).bind fun t116 => ((some (decide (t116 ≥ 0))).bind fun bz117 => (if bz117 = true then (token_Scan.l0 k1 a0 x8_1 x9_1 (wrap64 (x10_1 + 1)) t110) else ((strings_HasPrefix.f bz115 (⟨#[45, 45]⟩ : ByteArray)).bind fun t118 => (if t118 = true then ((strings_IndexByte.f bz115 10).bind fun t119 => (if t119 < 0 then (if x9_1.length < 8796093022208 then (token_Scan.l0 k1 a0 x8_1 (x9_1 ++ [(⟨x10_1, wrap64 (x10_1 + (bz115.size : Int))⟩ : S33)]) (wrap64 (x10_1 + (bz115.size : Int))) t110) else (none)) else (if x9_1.length < 8796093022208 then (token_Scan.l0 k1 a0 x8_1 (x9_1 ++ [(⟨x10_1, wrap64 (x10_1 + t119)⟩ : S33)]) (wrap64 (x10_1 + t119)) t110) else (none)))) else (token_Scan.l1 k1 a0 x8_1 x9_1 x10_1 (bt a0 x10_1) bz115 1 t110)))))) = some (r1, r2, r3, r4) := H
        have hbz115 : (a0.extract (x10_1 : Int).toNat a0.size) = bz115 := Option.some.inj hbz1150
        clear hbz1150
        replace H := Option.bind_eq_some_iff.mp H
        obtain ⟨t116, A140, H⟩ := H
        replace H : ((some (decide (t116 ≥ 0))).bind fun bz117 => (if bz117 = true then (token_Scan.l0 k1 a0 x8_1 x9_1 (wrap64 (x10_1 + 1)) t110) else ((strings_HasPrefix.f bz115 (⟨#[45, 45]⟩ : ByteArray)).bind fun t118 => (if t118 = true then ((strings_IndexByte.f bz115 10).bind fun t119 => (if t119 < 0 then (if x9_1.length < 8796093022208 then (token_Scan.l0 k1 a0 x8_1 (x9_1 ++ [(⟨x10_1, wrap64 (x10_1 + (bz115.size : Int))⟩ : S33)]) (wrap64 (x10_1 + (bz115.size : Int))) t110) else (none)) else (if x9_1.length < 8796093022208 then (token_Scan.l0 k1 a0 x8_1 (x9_1 ++ [(⟨x10_1, wrap64 (x10_1 + t119)⟩ : S33)]) (wrap64 (x10_1 + t119)) t110) else (none)))) else (token_Scan.l1 k1 a0 x8_1 x9_1 x10_1 (bt a0 x10_1) bz115 1 t110))))) = some (r1, r2, r3, r4) := H
        have A14 := Aside0.mk A140
        clear A140
        replace H := Option.bind_eq_some_iff.mp H
        obtain ⟨bz117, hbz1170, H⟩ := H
        replace H : (if bz117 = true then (token_Scan.l0 k1 a0 x8_1 x9_1 (wrap64 (x10_1 + 1)) t110) else ((strings_HasPrefix.f bz115 (⟨#[45, 45]⟩ : ByteArray)).bind fun t118 => (if t118 = true then ((strings_IndexByte.f bz115 10).bind fun t119 => (if t119 < 0 then (if x9_1.length < 8796093022208 then (token_Scan.l0 k1 a0 x8_1 (x9_1 ++ [(⟨x10_1, wrap64 (x10_1 + (bz115.size : Int))⟩ : S33)]) (wrap64 (x10_1 + (bz115.size : Int))) t110) else (none)) else (if x9_1.length < 8796093022208 then (token_Scan.l0 k1 a0 x8_1 (x9_1 ++ [(⟨x10_1, wrap64 (x10_1 + t119)⟩ : S33)]) (wrap64 (x10_1 + t119)) t110) else (none)))) else (token_Scan.l1 k1 a0 x8_1 x9_1 x10_1 (bt a0 x10_1) bz115 1 t110)))) = some (r1, r2, r3, r4) := H
        have hbz117 : (decide (t116 ≥ 0)) = bz117 := Option.some.inj hbz1170
        clear hbz1170
        by_cases c15 : bz117 = true
        ·subst c15
         have H1 : (token_Scan.l0 k1 a0 x8_1 x9_1 (wrap64 (x10_1 + 1)) t110) = some (r1, r2, r3, r4) := by rw [if_pos rfl] at H; exact H
         clear H
         have H := H1
         clear H1
         have H' := Aside0.mk H
         clear H
         have p11 : 0 ≤ (x10_1 : Int) := of_decide_eq_true (by first | (with_reducible assumption) | assumption)
         have q11 : x10_1 < (a0.size : Int) := of_decide_eq_true (by first | (with_reducible assumption) | assumption)
         have hx11 := bt_at a0 x10_1
         replace p11 := eq_true p11
         replace q11 := eq_true q11
         go_wp2_with (first | ((with_reducible refine gate_callee (f := 22) rfl ?_); refine goesL_ (some 40) rfl rfl Tryd.func22 (by as_aux_lemma => kernel_rfl) rfl #[.string (⟨#[32, 9, 13, 10]⟩ : ByteArray), .int .u8 (bt a0 x10_1)] rfl (by (try simp only [List.map_toArray, List.map_cons, List.map_nil]); first | done | rfl | (simp only [List.length_drop, List.length_take]; rfl)) ?_; (with_reducible refine (strings_IndexByte.calls (⟨#[32, 9, 13, 10]⟩ : ByteArray) (bt a0 x10_1) t116 _ ?side1 A14.out).mono ?_); (case side1 => exact GOK.below hG.out (by first | exact HB.out | (repeat (first | (with_reducible first | exact HB.out | apply below_alloc | apply pw_below_drewN | apply below_drew1 | refine below_set ?_ GE111.out) | exact HB.out)))); rintro e w' ⟨rfl, ⟨nd, rfl⟩⟩; refine ⟨_, rfl, ?_⟩))
         go_roundg k1
         case measure => have := HK1.out; omega
         case rel => exact ⟨(x8_1), (x9_1), (wrap64 (x10_1 + 1)), (by first | rfl | (simp; done) | (simp [*]; done)), H', ⟨by have := HK1.out; omega⟩, ⟨by (with_reducible repeat (first | apply Kd.R_alloc | apply Kd.R_drewN | apply Kd.R_drew)); exact HO_8.out⟩, ⟨by (with_reducible repeat (first | apply Kd.R_alloc | apply Kd.R_drewN | apply Kd.R_drew)); exact HO_9.out⟩, ⟨by (with_reducible repeat (first | refine blk_drewN ?_ _ | refine blk_drew ?_ | refine blk_alloc ?_ _)); exact BK111.out⟩, ⟨by repeat (first | (with_reducible first | exact HB.out | apply below_alloc | apply pw_below_drewN | apply below_drew1 | refine below_set ?_ GE111.out) | exact HB.out)⟩⟩
        ·replace c15 := Bool.eq_false_iff.mpr c15
         subst c15
         have H1 : ((strings_HasPrefix.f bz115 (⟨#[45, 45]⟩ : ByteArray)).bind fun t118 => (if t118 = true then ((strings_IndexByte.f bz115 10).bind fun t119 => (if t119 < 0 then (if x9_1.length < 8796093022208 then (token_Scan.l0 k1 a0 x8_1 (x9_1 ++ [(⟨x10_1, wrap64 (x10_1 + (bz115.size : Int))⟩ : S33)]) (wrap64 (x10_1 + (bz115.size : Int))) t110) else (none)) else (if x9_1.length < 8796093022208 then (token_Scan.l0 k1 a0 x8_1 (x9_1 ++ [(⟨x10_1, wrap64 (x10_1 + t119)⟩ : S33)]) (wrap64 (x10_1 + t119)) t110) else (none)))) else (token_Scan.l1 k1 a0 x8_1 x9_1 x10_1 (bt a0 x10_1) bz115 1 t110))) = some (r1, r2, r3, r4) := by rw [if_neg (show ¬ (false = true) by decide)] at H; exact H
         clear H
         have H := H1
         clear H1
         replace H := Option.bind_eq_some_iff.mp H
         obtain ⟨t118, A160, H⟩ := H
         replace H : (if t118 = true then ((strings_IndexByte.f bz115 10).bind fun t119 => (if t119 < 0 then (if x9_1.length < 8796093022208 then (token_Scan.l0 k1 a0 x8_1 (x9_1 ++ [(⟨x10_1, wrap64 (x10_1 + (bz115.size : Int))⟩ : S33)]) (wrap64 (x10_1 + (bz115.size : Int))) t110) else (none)) else (if x9_1.length < 8796093022208 then (token_Scan.l0 k1 a0 x8_1 (x9_1 ++ [(⟨x10_1, wrap64 (x10_1 + t119)⟩ : S33)]) (wrap64 (x10_1 + t119)) t110) else (none)))) else (token_Scan.l1 k1 a0 x8_1 x9_1 x10_1 (bt a0 x10_1) bz115 1 t110)) = some (r1, r2, r3, r4) := H
         have A16 := Aside0.mk A160
         clear A160
         by_cases c17 : t118 = true
         ·subst c17
          have H1 : ((strings_IndexByte.f bz115 10).bind fun t119 => (if t119 < 0 then (if x9_1.length < 8796093022208 then (token_Scan.l0 k1 a0 x8_1 (x9_1 ++ [(⟨x10_1, wrap64 (x10_1 + (bz115.size : Int))⟩ : S33)]) (wrap64 (x10_1 + (bz115.size : Int))) t110) else (none)) else (if x9_1.length < 8796093022208 then (token_Scan.l0 k1 a0 x8_1 (x9_1 ++ [(⟨x10_1, wrap64 (x10_1 + t119)⟩ : S33)]) (wrap64 (x10_1 + t119)) t110) else (none)))) = some (r1, r2, r3, r4) := by rw [if_pos rfl] at H; exact H
          clear H
          have H := H1
          clear H1
          replace H := Option.bind_eq_some_iff.mp H
          obtain ⟨t119, A180, H⟩ := H
          replace H : (if t119 < 0 then (if x9_1.length < 8796093022208 then (token_Scan.l0 k1 a0 x8_1 (x9_1 ++ [(⟨x10_1, wrap64 (x10_1 + (bz115.size : Int))⟩ : S33)]) (wrap64 (x10_1 + (bz115.size : Int))) t110) else (none)) else (if x9_1.length < 8796093022208 then (token_Scan.l0 k1 a0 x8_1 (x9_1 ++ [(⟨x10_1, wrap64 (x10_1 + t119)⟩ : S33)]) (wrap64 (x10_1 + t119)) t110) else (none))) = some (r1, r2, r3, r4) := H
          have A18 := Aside0.mk A180
          clear A180
          by_cases c19 : t119 < 0
          ·rw [if_pos c19] at H
           have c19b0 : decide (t119 < 0) = true := decide_eq_true c19
           clear c19
           by_cases c20 : x9_1.length < 8796093022208
           ·rw [if_pos c20] at H
            have LMc20 := Aside0.mk c20
            clear c20
            obtain ⟨y120, hy120⟩ : ∃ y_ : List (S33), y_ = (x9_1 ++ [(⟨x10_1, wrap64 (x10_1 + (bz115.size : Int))⟩ : S33)]) := ⟨_, rfl⟩
            replace H : (token_Scan.l0 k1 a0 x8_1 y120 (wrap64 (x10_1 + (bz115.size : Int))) t110) = some (r1, r2, r3, r4) := by first | (rw [hy120]; with_reducible exact H) | (have H2_ := (Option.bind_some _ _).symm.trans H; rw [hy120]; with_reducible exact H2_) | (have H2_ := (Option.bind_some _ _).symm.trans H; with_reducible exact H2_) | with_reducible exact H | (rw [hy120]; exact H) | exact H
            have Ny120 := Aside0.mk hy120
            clear hy120
            have H' := Aside0.mk H
            clear H
            have p11 : 0 ≤ (x10_1 : Int) := of_decide_eq_true (by first | (with_reducible assumption) | assumption)
            have q11 : x10_1 < (a0.size : Int) := of_decide_eq_true (by first | (with_reducible assumption) | assumption)
            have hx11 := bt_at a0 x10_1
            replace p11 := eq_true p11
            replace q11 := eq_true q11
            go_wp2_with (first | ((with_reducible refine gate_callee (f := 22) rfl ?_); refine goesL_ (some 40) rfl rfl Tryd.func22 (by as_aux_lemma => kernel_rfl) rfl #[.string (⟨#[32, 9, 13, 10]⟩ : ByteArray), .int .u8 (bt a0 x10_1)] rfl (by (try simp only [List.map_toArray, List.map_cons, List.map_nil]); first | done | rfl | (simp only [List.length_drop, List.length_take]; rfl)) ?_; (with_reducible refine (strings_IndexByte.calls (⟨#[32, 9, 13, 10]⟩ : ByteArray) (bt a0 x10_1) t116 _ ?side1 A14.out).mono ?_); (case side1 => exact GOK.below hG.out (by first | exact HB.out | (repeat (first | (with_reducible first | exact HB.out | apply below_alloc | apply pw_below_drewN | apply below_drew1 | refine below_set ?_ GE111.out) | exact HB.out)))); rintro e w' ⟨rfl, ⟨nd, rfl⟩⟩; refine ⟨_, rfl, ?_⟩) | ((with_reducible refine gate_callee (f := 23) rfl ?_); refine goesL_ (some 46) rfl rfl Tryd.func23 (by as_aux_lemma => kernel_rfl) rfl #[.string bz115, .string (⟨#[45, 45]⟩ : ByteArray)] rfl (by (try simp only [List.map_toArray, List.map_cons, List.map_nil]); first | done | rfl | (simp only [List.length_drop, List.length_take]; rfl)) ?_; (with_reducible refine (strings_HasPrefix.calls bz115 (⟨#[45, 45]⟩ : ByteArray) true _ ?side1 A16.out).mono ?_); (case side1 => exact GOK.below hG.out (by first | exact HB.out | (repeat (first | (with_reducible first | exact HB.out | apply below_alloc | apply pw_below_drewN | apply below_drew1 | refine below_set ?_ GE111.out) | exact HB.out)))); rintro e w' ⟨rfl, ⟨nd, rfl⟩⟩; refine ⟨_, rfl, ?_⟩) | ((with_reducible refine gate_callee (f := 22) rfl ?_); refine goesL_ (some 48) rfl rfl Tryd.func22 (by as_aux_lemma => kernel_rfl) rfl #[.string bz115, .int .u8 10] rfl (by (try simp only [List.map_toArray, List.map_cons, List.map_nil]); first | done | rfl | (simp only [List.length_drop, List.length_take]; rfl)) ?_; (with_reducible refine (strings_IndexByte.calls bz115 10 t119 _ ?side1 A18.out).mono ?_); (case side1 => exact GOK.below hG.out (by first | exact HB.out | (repeat (first | (with_reducible first | exact HB.out | apply below_alloc | apply pw_below_drewN | apply below_drew1 | refine below_set ?_ GE111.out) | exact HB.out)))); rintro e w' ⟨rfl, ⟨nd, rfl⟩⟩; refine ⟨_, rfl, ?_⟩) | ((with_reducible refine gate_builtin (b := .append) (xs := #[.tmp 53, .tmp 59]) rfl ?_); (try (refine gate_guard (by rfl) ?_; dsimp only)); at_builtin; refine Kd.R_append k33 (w0 := w) w.heap.size rfl (.tmp 53) (.tmp 59) 24 33 (.agg #[(.int .i64 0), (.int .i64 0)]) 16 rfl Tryd.underlying24 info33 rfl (by decide) (by omega) u9 x9_1 (⟨x10_1, wrap64 (x10_1 + (bz115.size : Int))⟩ : S33) [.int .i64 x10_1, .int .i64 (wrap64 (x10_1 + (bz115.size : Int)))] (fun _ => True) (fun _ => False) rfl rfl ?aP (fun _ hk => hk.elim) ?aF ?aO ?aB ?aS ?aL ?_; (case aP => exact k33_mkM _ _ _ (⟨x10_1, wrap64 (x10_1 + (bz115.size : Int))⟩ : S33)); (case aB => exact (by repeat (first | (with_reducible first | exact HB.out | apply below_alloc | apply pw_below_drewN | apply below_drew1 | refine below_set ?_ GE111.out) | exact HB.out))); (case aF => exact (fun _ _ => trivial)); (case aO => exact (by (with_reducible repeat (first | apply Kd.R_alloc | apply Kd.R_drewN | apply Kd.R_drew)); exact HO_9.out)); (case aS => exact (below_size (by repeat (first | (with_reducible first | exact HB.out | apply below_alloc | apply pw_below_drewN | apply below_drew1 | refine below_set ?_ GE111.out) | exact HB.out)))); (case aL => have := LMc20.out; omega); intro v121 w21 ho hb hg hat; rw [← Ny120.out] at ho; have n0_ := Aside0.mk (Kd.R_over' (by (with_reducible repeat (first | apply Kd.R_alloc | apply Kd.R_drewN | apply Kd.R_drew)); exact HO_8.out) (Kd.R_typed (by (with_reducible repeat (first | apply Kd.R_alloc | apply Kd.R_drewN | apply Kd.R_drew)); exact HO_9.out)) (by decide) hg); have n1_ := Aside0.mk (blk_grown (g := gb111) (o := .cells (arrB t110) 48 (0, 0)) (by (with_reducible repeat (first | refine blk_drewN ?_ _ | refine blk_drew ?_ | refine blk_alloc ?_ _)); exact BK111.out) hg (Kd.R_ne HO_9.out BK111.out (by decide))); have n2_ := Aside0.mk (hb); have n3_ := Aside0.mk (ho); clear HO_8; clear BK111; clear HB; clear HO_9; have HO_8 := n0_; have BK111 := n1_; have HB := n2_; have HO122 := n3_; clear n0_ n1_ n2_ n3_; clear ho hb hg hat))
            go_roundg k1
            case measure => have := HK1.out; omega
            case rel => exact ⟨(x8_1), (y120), (wrap64 (x10_1 + (bz115.size : Int))), (by first | rfl | (simp; done) | (simp [*]; done)), H', ⟨by have := HK1.out; omega⟩, ⟨by (with_reducible repeat (first | apply Kd.R_alloc | apply Kd.R_drewN | apply Kd.R_drew)); exact HO_8.out⟩, ⟨by (with_reducible repeat (first | apply Kd.R_alloc | apply Kd.R_drewN | apply Kd.R_drew)); exact HO122.out⟩, ⟨by (with_reducible repeat (first | refine blk_drewN ?_ _ | refine blk_drew ?_ | refine blk_alloc ?_ _)); exact BK111.out⟩, ⟨by repeat (first | (with_reducible first | exact HB.out | apply below_alloc | apply pw_below_drewN | apply below_drew1 | refine below_set ?_ GE111.out) | exact HB.out)⟩⟩
           ·rw [if_neg c20] at H
            exact absurd H (by simp)
          ·rw [if_neg c19] at H
           have c19b0 : decide (t119 < 0) = false := decide_eq_false c19
           clear c19
           by_cases c22 : x9_1.length < 8796093022208
           ·rw [if_pos c22] at H
            have LMc22 := Aside0.mk c22
            clear c22
            obtain ⟨y123, hy123⟩ : ∃ y_ : List (S33), y_ = (x9_1 ++ [(⟨x10_1, wrap64 (x10_1 + t119)⟩ : S33)]) := ⟨_, rfl⟩
            replace H : (token_Scan.l0 k1 a0 x8_1 y123 (wrap64 (x10_1 + t119)) t110) = some (r1, r2, r3, r4) := by first | (rw [hy123]; with_reducible exact H) | (have H2_ := (Option.bind_some _ _).symm.trans H; rw [hy123]; with_reducible exact H2_) | (have H2_ := (Option.bind_some _ _).symm.trans H; with_reducible exact H2_) | with_reducible exact H | (rw [hy123]; exact H) | exact H
            have Ny123 := Aside0.mk hy123
            clear hy123
            have H' := Aside0.mk H
            clear H
            have p11 : 0 ≤ (x10_1 : Int) := of_decide_eq_true (by first | (with_reducible assumption) | assumption)
            have q11 : x10_1 < (a0.size : Int) := of_decide_eq_true (by first | (with_reducible assumption) | assumption)
            have hx11 := bt_at a0 x10_1
            replace p11 := eq_true p11
            replace q11 := eq_true q11
            go_wp2_with (first | ((with_reducible refine gate_callee (f := 22) rfl ?_); refine goesL_ (some 40) rfl rfl Tryd.func22 (by as_aux_lemma => kernel_rfl) rfl #[.string (⟨#[32, 9, 13, 10]⟩ : ByteArray), .int .u8 (bt a0 x10_1)] rfl (by (try simp only [List.map_toArray, List.map_cons, List.map_nil]); first | done | rfl | (simp only [List.length_drop, List.length_take]; rfl)) ?_; (with_reducible refine (strings_IndexByte.calls (⟨#[32, 9, 13, 10]⟩ : ByteArray) (bt a0 x10_1) t116 _ ?side1 A14.out).mono ?_); (case side1 => exact GOK.below hG.out (by first | exact HB.out | (repeat (first | (with_reducible first | exact HB.out | apply below_alloc | apply pw_below_drewN | apply below_drew1 | refine below_set ?_ GE111.out) | exact HB.out)))); rintro e w' ⟨rfl, ⟨nd, rfl⟩⟩; refine ⟨_, rfl, ?_⟩) | ((with_reducible refine gate_callee (f := 23) rfl ?_); refine goesL_ (some 46) rfl rfl Tryd.func23 (by as_aux_lemma => kernel_rfl) rfl #[.string bz115, .string (⟨#[45, 45]⟩ : ByteArray)] rfl (by (try simp only [List.map_toArray, List.map_cons, List.map_nil]); first | done | rfl | (simp only [List.length_drop, List.length_take]; rfl)) ?_; (with_reducible refine (strings_HasPrefix.calls bz115 (⟨#[45, 45]⟩ : ByteArray) true _ ?side1 A16.out).mono ?_); (case side1 => exact GOK.below hG.out (by first | exact HB.out | (repeat (first | (with_reducible first | exact HB.out | apply below_alloc | apply pw_below_drewN | apply below_drew1 | refine below_set ?_ GE111.out) | exact HB.out)))); rintro e w' ⟨rfl, ⟨nd, rfl⟩⟩; refine ⟨_, rfl, ?_⟩) | ((with_reducible refine gate_callee (f := 22) rfl ?_); refine goesL_ (some 48) rfl rfl Tryd.func22 (by as_aux_lemma => kernel_rfl) rfl #[.string bz115, .int .u8 10] rfl (by (try simp only [List.map_toArray, List.map_cons, List.map_nil]); first | done | rfl | (simp only [List.length_drop, List.length_take]; rfl)) ?_; (with_reducible refine (strings_IndexByte.calls bz115 10 t119 _ ?side1 A18.out).mono ?_); (case side1 => exact GOK.below hG.out (by first | exact HB.out | (repeat (first | (with_reducible first | exact HB.out | apply below_alloc | apply pw_below_drewN | apply below_drew1 | refine below_set ?_ GE111.out) | exact HB.out)))); rintro e w' ⟨rfl, ⟨nd, rfl⟩⟩; refine ⟨_, rfl, ?_⟩) | ((with_reducible refine gate_builtin (b := .append) (xs := #[.tmp 53, .tmp 59]) rfl ?_); (try (refine gate_guard (by rfl) ?_; dsimp only)); at_builtin; refine Kd.R_append k33 (w0 := w) w.heap.size rfl (.tmp 53) (.tmp 59) 24 33 (.agg #[(.int .i64 0), (.int .i64 0)]) 16 rfl Tryd.underlying24 info33 rfl (by decide) (by omega) u9 x9_1 (⟨x10_1, wrap64 (x10_1 + t119)⟩ : S33) [.int .i64 x10_1, .int .i64 (wrap64 (x10_1 + t119))] (fun _ => True) (fun _ => False) rfl rfl ?aP (fun _ hk => hk.elim) ?aF ?aO ?aB ?aS ?aL ?_; (case aP => exact k33_mkM _ _ _ (⟨x10_1, wrap64 (x10_1 + t119)⟩ : S33)); (case aB => exact (by repeat (first | (with_reducible first | exact HB.out | apply below_alloc | apply pw_below_drewN | apply below_drew1 | refine below_set ?_ GE111.out) | exact HB.out))); (case aF => exact (fun _ _ => trivial)); (case aO => exact (by (with_reducible repeat (first | apply Kd.R_alloc | apply Kd.R_drewN | apply Kd.R_drew)); exact HO_9.out)); (case aS => exact (below_size (by repeat (first | (with_reducible first | exact HB.out | apply below_alloc | apply pw_below_drewN | apply below_drew1 | refine below_set ?_ GE111.out) | exact HB.out)))); (case aL => have := LMc22.out; omega); intro v124 w23 ho hb hg hat; rw [← Ny123.out] at ho; have n0_ := Aside0.mk (Kd.R_over' (by (with_reducible repeat (first | apply Kd.R_alloc | apply Kd.R_drewN | apply Kd.R_drew)); exact HO_8.out) (Kd.R_typed (by (with_reducible repeat (first | apply Kd.R_alloc | apply Kd.R_drewN | apply Kd.R_drew)); exact HO_9.out)) (by decide) hg); have n1_ := Aside0.mk (blk_grown (g := gb111) (o := .cells (arrB t110) 48 (0, 0)) (by (with_reducible repeat (first | refine blk_drewN ?_ _ | refine blk_drew ?_ | refine blk_alloc ?_ _)); exact BK111.out) hg (Kd.R_ne HO_9.out BK111.out (by decide))); have n2_ := Aside0.mk (hb); have n3_ := Aside0.mk (ho); clear HO_8; clear BK111; clear HB; clear HO_9; have HO_8 := n0_; have BK111 := n1_; have HB := n2_; have HO125 := n3_; clear n0_ n1_ n2_ n3_; clear ho hb hg hat))
            go_roundg k1
            case measure => have := HK1.out; omega
            case rel => exact ⟨(x8_1), (y123), (wrap64 (x10_1 + t119)), (by first | rfl | (simp; done) | (simp [*]; done)), H', ⟨by have := HK1.out; omega⟩, ⟨by (with_reducible repeat (first | apply Kd.R_alloc | apply Kd.R_drewN | apply Kd.R_drew)); exact HO_8.out⟩, ⟨by (with_reducible repeat (first | apply Kd.R_alloc | apply Kd.R_drewN | apply Kd.R_drew)); exact HO125.out⟩, ⟨by (with_reducible repeat (first | refine blk_drewN ?_ _ | refine blk_drew ?_ | refine blk_alloc ?_ _)); exact BK111.out⟩, ⟨by repeat (first | (with_reducible first | exact HB.out | apply below_alloc | apply pw_below_drewN | apply below_drew1 | refine below_set ?_ GE111.out) | exact HB.out)⟩⟩
           ·rw [if_neg c22] at H
            exact absurd H (by simp)
         ·replace c17 := Bool.eq_false_iff.mpr c17
          subst c17
          have H1 : (token_Scan.l1 k1 a0 x8_1 x9_1 x10_1 (bt a0 x10_1) bz115 1 t110) = some (r1, r2, r3, r4) := by rw [if_neg (show ¬ (false = true) by decide)] at H; exact H
          clear H
          have H := H1
          clear H1
          have HC24 := Aside0.mk H
          clear H
          have p11 : 0 ≤ (x10_1 : Int) := of_decide_eq_true (by first | (with_reducible assumption) | assumption)
          have q11 : x10_1 < (a0.size : Int) := of_decide_eq_true (by first | (with_reducible assumption) | assumption)
          have hx11 := bt_at a0 x10_1
          replace p11 := eq_true p11
          replace q11 := eq_true q11
          go_upto_block 3 with (first | ((with_reducible refine gate_callee (f := 22) rfl ?_); refine goesL_ (some 40) rfl rfl Tryd.func22 (by as_aux_lemma => kernel_rfl) rfl #[.string (⟨#[32, 9, 13, 10]⟩ : ByteArray), .int .u8 (bt a0 x10_1)] rfl (by (try simp only [List.map_toArray, List.map_cons, List.map_nil]); first | done | rfl | (simp only [List.length_drop, List.length_take]; rfl)) ?_; (with_reducible refine (strings_IndexByte.calls (⟨#[32, 9, 13, 10]⟩ : ByteArray) (bt a0 x10_1) t116 _ ?side1 A14.out).mono ?_); (case side1 => exact GOK.below hG.out (by first | exact HB.out | (repeat (first | (with_reducible first | exact HB.out | apply below_alloc | apply pw_below_drewN | apply below_drew1 | refine below_set ?_ GE111.out) | exact HB.out)))); rintro e w' ⟨rfl, ⟨nd, rfl⟩⟩; refine ⟨_, rfl, ?_⟩) | ((with_reducible refine gate_callee (f := 23) rfl ?_); refine goesL_ (some 46) rfl rfl Tryd.func23 (by as_aux_lemma => kernel_rfl) rfl #[.string bz115, .string (⟨#[45, 45]⟩ : ByteArray)] rfl (by (try simp only [List.map_toArray, List.map_cons, List.map_nil]); first | done | rfl | (simp only [List.length_drop, List.length_take]; rfl)) ?_; (with_reducible refine (strings_HasPrefix.calls bz115 (⟨#[45, 45]⟩ : ByteArray) false _ ?side1 A16.out).mono ?_); (case side1 => exact GOK.below hG.out (by first | exact HB.out | (repeat (first | (with_reducible first | exact HB.out | apply below_alloc | apply pw_below_drewN | apply below_drew1 | refine below_set ?_ GE111.out) | exact HB.out)))); rintro e w' ⟨rfl, ⟨nd, rfl⟩⟩; refine ⟨_, rfl, ?_⟩))
          (try simp only [Act.put, List.setIfInBounds_toArray, List.set_cons_zero, List.set_cons_succ])
          go_cut [14] (fun v14 wc => ∃ (kq : Nat) (x14_23 : Int), v14 = .int .i64 x14_23 ∧ Aside0 (token_Scan.j2 kq a0 x8_1 x9_1 x10_1 (bt a0 x10_1) bz115 x14_23 t110 = some (r1, r2, r3, r4)) ∧ Aside0 (kq ≤ k1) ∧ Aside0 (Kd.R k36 36 wc w.heap.size (fun _ => True) u8 x8_1) ∧ Aside0 (Kd.R k33 33 wc w.heap.size (fun _ => True) u9 x9_1) ∧ Aside0 (wc.heap[gb111]? = some (.cells (arrB t110) 48 (0, 0))) ∧ Aside0 (Below w.heap.size w wc))
          case first =>
           have H := HC24.out
           clear HC24
           have H' := Aside0.mk H
           clear H
           go_wp2
           (try (go_step3; go_wp2))
           go_loopg [14] k1 (fun kq v14 w' => ∃ (x14_2 : Int), v14 = .int .i64 x14_2 ∧ Aside0 (token_Scan.l1 kq a0 x8_1 x9_1 x10_1 (bt a0 x10_1) bz115 x14_2 t110 = some (r1, r2, r3, r4)) ∧ Aside0 (kq ≤ k1) ∧ Aside0 (Kd.R k36 36 w' w.heap.size (fun _ => True) u8 x8_1) ∧ Aside0 (Kd.R k33 33 w' w.heap.size (fun _ => True) u9 x9_1) ∧ Aside0 (w'.heap[gb111]? = some (.cells (arrB t110) 48 (0, 0))) ∧ Aside0 (Below w.heap.size w w'))
           case atStart => exact ⟨(1), (by first | rfl | (simp; done) | (simp [*]; done)), H', ⟨Nat.le_refl _⟩, ⟨by (with_reducible repeat (first | apply Kd.R_alloc | apply Kd.R_drewN | apply Kd.R_drew)); exact HO_8.out⟩, ⟨by (with_reducible repeat (first | apply Kd.R_alloc | apply Kd.R_drewN | apply Kd.R_drew)); exact HO_9.out⟩, ⟨by (with_reducible repeat (first | refine blk_drewN ?_ _ | refine blk_drew ?_ | refine blk_alloc ?_ _)); exact BK111.out⟩, ⟨by repeat (first | (with_reducible first | exact HB.out | apply below_alloc | apply pw_below_drewN | apply below_drew1 | refine below_set ?_ GE111.out) | exact HB.out)⟩⟩
           case round =>
            clear H'
            (try clear c1); (try clear p1); (try clear q1); (try clear hx1); (try clear c2); (try clear c2b0); (try clear c2b1); (try clear p2); (try clear p3); (try clear c4); (try clear c4b0); (try clear p6); (try clear c9); (try clear c9b0); (try clear c10); (try clear c10b0); (try clear c11); (try clear p11); (try clear q11); (try clear hx11); (try clear c12); (try clear c12b0); (try clear c13); (try clear c13b0); (try clear c13b1); (try clear c15); (try clear c17); (try clear c19); (try clear c19b0); (try clear c20); (try clear c21); (try clear c22); (try clear c23); (try clear p11); (try clear p2); (try clear p3); (try clear q11)
            obtain ⟨x14_2, rfl, HA, HK2, HO_8, HO_9, BK111, HB⟩ := hrel
            cases gk with
            | zero => exact absurd HA.out (by simp [token_Scan.l1])
            | succ k2 =>
             have H := HA.out
             clear HA
             simp only [token_Scan.l1] at H
             by_cases c25 : x14_2 < (bz115.size : Int)
             ·rw [if_pos c25] at H
              have c25b0 : decide (x14_2 < (bz115.size : Int)) = true := decide_eq_true c25
              clear c25
              (first | rw [c25b0] | (simp only [i64_w, i32_w]; rw [c25b0]) | skip)
              by_cases c26 : 0 ≤ x14_2
              ·rw [if_pos c26] at H
               have c26b0 : decide (0 ≤ x14_2) = true := decide_eq_true c26
               clear c26
               by_cases c28 : 0 ≤ (bt bz115 x14_2)
               ·rw [if_pos c28] at H
                have c28b0 : decide (0 ≤ (bt bz115 x14_2)) = true := decide_eq_true c28
                clear c28
                by_cases c29 : (bt bz115 x14_2) < 256
                ·rw [if_pos c29] at H
                 have c29b0 : decide ((bt bz115 x14_2) < 256) = true := decide_eq_true c29
                 clear c29
                 by_cases c30 : (t110 (bt bz115 x14_2 : Int).toNat) = true
                 ·rw [if_pos c30] at H
                  have c30b0 : (t110 (bt bz115 x14_2 : Int).toNat) = true := c30
                  clear c30
                  have H' := Aside0.mk H
                  clear H
                  have p27 : 0 ≤ (x14_2 : Int) := of_decide_eq_true (by first | (with_reducible assumption) | assumption)
                  have q27 : x14_2 < (bz115.size : Int) := of_decide_eq_true (by first | (with_reducible assumption) | assumption)
                  have hx27 := bt_at bz115 x14_2
                  replace p27 := eq_true p27
                  replace q27 := eq_true q27
                  have hczz31_0 : wr.cell? ⟨gb111, ((bt bz115 x14_2)).toNat, none⟩ = some (.bool (t110 ((bt bz115 x14_2) : Int).toNat)) := arrb_cell BK111.out (bt bz115 x14_2) (by first | (with_reducible assumption) | omega | (first | exact bt_nonneg _ _)) (by first | (with_reducible assumption) | exact bt_lt _ _ | omega)
                  have hfzz31_0 := blk_frozen BK111.out ((bt bz115 x14_2)).toNat
                  have hidzz31 : (0 ≤ (bt bz115 x14_2) ∧ (bt bz115 x14_2) < 256) = True := eq_true ⟨by first | (with_reducible assumption) | exact bt_nonneg _ _ | omega, by first | (with_reducible assumption) | exact bt_lt _ _ | omega⟩
                  go_wp2
                  go_roundg k2
                  case measure => have := HK1.out; have := HK2.out; omega
                  case rel => exact ⟨(wrap64 (x14_2 + 1)), (by first | rfl | (simp; done) | (simp [*]; done)), H', ⟨by have := HK1.out; have := HK2.out; omega⟩, ⟨by (with_reducible repeat (first | apply Kd.R_alloc | apply Kd.R_drewN | apply Kd.R_drew)); exact HO_8.out⟩, ⟨by (with_reducible repeat (first | apply Kd.R_alloc | apply Kd.R_drewN | apply Kd.R_drew)); exact HO_9.out⟩, ⟨by (with_reducible repeat (first | refine blk_drewN ?_ _ | refine blk_drew ?_ | refine blk_alloc ?_ _)); exact BK111.out⟩, ⟨by repeat (first | (with_reducible first | exact HB.out | apply below_alloc | apply pw_below_drewN | apply below_drew1 | refine below_set ?_ GE111.out) | exact HB.out)⟩⟩
                 ·rw [if_neg c30] at H
                  have c30b0 : (t110 (bt bz115 x14_2 : Int).toNat) = false := by simpa using c30
                  clear c30
                  have H' := Aside0.mk H
                  clear H
                  have p27 : 0 ≤ (x14_2 : Int) := of_decide_eq_true (by first | (with_reducible assumption) | assumption)
                  have q27 : x14_2 < (bz115.size : Int) := of_decide_eq_true (by first | (with_reducible assumption) | assumption)
                  have hx27 := bt_at bz115 x14_2
                  replace p27 := eq_true p27
                  replace q27 := eq_true q27
                  have hczz32_0 : wr.cell? ⟨gb111, ((bt bz115 x14_2)).toNat, none⟩ = some (.bool (t110 ((bt bz115 x14_2) : Int).toNat)) := arrb_cell BK111.out (bt bz115 x14_2) (by first | (with_reducible assumption) | omega | (first | exact bt_nonneg _ _)) (by first | (with_reducible assumption) | exact bt_lt _ _ | omega)
                  have hfzz32_0 := blk_frozen BK111.out ((bt bz115 x14_2)).toNat
                  have hidzz32 : (0 ≤ (bt bz115 x14_2) ∧ (bt bz115 x14_2) < 256) = True := eq_true ⟨by first | (with_reducible assumption) | exact bt_nonneg _ _ | omega, by first | (with_reducible assumption) | exact bt_lt _ _ | omega⟩
                  go_wp2
                  go_meet
                  case rel => exact ⟨_, (x14_2), (by first | rfl | (simp; done) | (simp [*]; done)), H', ⟨by have := HK1.out; have := HK2.out; first | omega | exact Nat.le_refl _⟩, ⟨by (with_reducible repeat (first | apply Kd.R_alloc | apply Kd.R_drewN | apply Kd.R_drew)); exact HO_8.out⟩, ⟨by (with_reducible repeat (first | apply Kd.R_alloc | apply Kd.R_drewN | apply Kd.R_drew)); exact HO_9.out⟩, ⟨by (with_reducible repeat (first | refine blk_drewN ?_ _ | refine blk_drew ?_ | refine blk_alloc ?_ _)); exact BK111.out⟩, ⟨by repeat (first | (with_reducible first | exact HB.out | apply below_alloc | apply pw_below_drewN | apply below_drew1 | refine below_set ?_ GE111.out) | exact HB.out)⟩⟩
                ·rw [if_neg c29] at H
                 exact absurd H (by simp)
               ·rw [if_neg c28] at H
                exact absurd H (by simp)
              ·rw [if_neg c26] at H
               exact absurd H (by simp)
             ·rw [if_neg c25] at H
              have c25b0 : decide (x14_2 < (bz115.size : Int)) = false := decide_eq_false c25
              clear c25
              (first | rw [c25b0] | (simp only [i64_w, i32_w]; rw [c25b0]) | skip)
              have H' := Aside0.mk H
              clear H
              go_wp2
              go_meet
              case rel => exact ⟨_, (x14_2), (by first | rfl | (simp; done) | (simp [*]; done)), H', ⟨by have := HK1.out; have := HK2.out; first | omega | exact Nat.le_refl _⟩, ⟨by (with_reducible repeat (first | apply Kd.R_alloc | apply Kd.R_drewN | apply Kd.R_drew)); exact HO_8.out⟩, ⟨by (with_reducible repeat (first | apply Kd.R_alloc | apply Kd.R_drewN | apply Kd.R_drew)); exact HO_9.out⟩, ⟨by (with_reducible repeat (first | refine blk_drewN ?_ _ | refine blk_drew ?_ | refine blk_alloc ?_ _)); exact BK111.out⟩, ⟨by repeat (first | (with_reducible first | exact HB.out | apply below_alloc | apply pw_below_drewN | apply below_drew1 | refine below_set ?_ GE111.out) | exact HB.out)⟩⟩
          case rest =>
           rename_i Qp_h1 nd_h1 HB_h1 BK111_h1 K_h1 a_h1 u14_h1 u64_h1 u65_h1 u66_h1 u67_h1 u68_h1 u69_h1 u70_h1 u71_h1 u72_h1 u73_h1 u74_h1 u75_h1 u76_h1 J_h1 K_h2 a_h2 a_h3 nd_h2 K_h3 a_h4
           revert k a0 r1 r2 r3 r4 w hu33 hu36 hz48 hu57 hG t109 A3 t110 A5 Qp_h1 nd_h1 w6 gb111 w7 GW111 GE111 w8 HB_h1 BK111_h1 K_h1 a_h1 wr u2 u3 u4 u5 u8 u9 u11 u12 u13 u14_h1 u15 u16 u17 u18 u28 u29 u30 u31 u32 u33 u34 u35 u36 u37 u38 u39 u40 u41 u42 u43 u44 u45 u46 u47 u48 u49 u50 u51 u52 u53 u54 u55 u56 u57 u58 u59 u60 u61 u62 u63 u64_h1 u65_h1 u66_h1 u67_h1 u68_h1 u69_h1 u70_h1 u71_h1 u72_h1 u73_h1 u74_h1 u75_h1 u76_h1 u77 u78 u79 u80 u81 u82 u83 u84 u85 u86 u87 u88 u89 u90 u91 u92 u93 u94 u95 u96 u97 u98 u99 u100 u101 u102 u103 u104 u105 u106 u107 u108 u109 u110 u111 u112 u113 u114 u115 u116 u117 u118 u119 u120 u121 u122 u123 u124 u125 u126 u127 u128 u129 u130 u131 u132 u133 u134 u135 u136 u137 u138 u139 u140 u141 u142 u143 u144 u145 u146 u147 u148 u149 u150 u151 u152 u153 u154 u155 u156 u157 u158 u159 u160 u161 u162 u163 u164 u165 u166 u167 u168 u169 u170 u171 u172 u173 u174 u175 u176 u177 u178 u179 u180 u181 u182 u183 u184 u185 u186 u187 u188 u189 u190 J_h1 K_h2 a_h2 x8_1 x9_1 x10_1 HO_8 HO_9 BK111 HB k1 a_h3 HK1 c9b0 c10b0 c12b0 c13b0 c13b1 bz115 hbz115 t116 A14 hbz117 A16 HC24 hx11 p11 q11 nd_h2 nd K_h3 a_h4 wc u14 u64 u65 u66 u67 u68 u69 u70 u71 u72 u73 u74 u75 u76 hcut
           exact hrest_.down
       ·rw [if_neg c13] at H
        exact absurd H (by simp)
      ·rw [if_neg c10] at H
       exact absurd H (by simp)
     ·rw [if_neg c9] at H
      have c9b0 : decide (x10_1 < (a0.size : Int)) = false := decide_eq_false c9
      clear c9
      by_cases c111 : x8_1.length < 3518437208883
      ·rw [if_pos c111] at H
       have LMc111 := Aside0.mk c111
       clear c111
       obtain ⟨y112, hy112⟩ : ∃ y_ : List (S36), y_ = (x8_1 ++ [(⟨6, (⟨#[]⟩ : ByteArray), (⟨x10_1, x10_1⟩ : S33)⟩ : S36)]) := ⟨_, rfl⟩
       replace H : (some (y112, x9_1, 0, 0)) = some (r1, r2, r3, r4) := by first | (rw [hy112]; with_reducible exact H) | (have H2_ := (Option.bind_some _ _).symm.trans H; rw [hy112]; with_reducible exact H2_) | (have H2_ := (Option.bind_some _ _).symm.trans H; with_reducible exact H2_) | with_reducible exact H | (rw [hy112]; exact H) | exact H
       have Ny112 := Aside0.mk hy112
       clear hy112
       simp only [Option.some.injEq, Prod.mk.injEq] at H
       obtain ⟨rfl, rfl, rfl, rfl⟩ := H
       go_wp2_with (first | ((with_reducible refine gate_builtin (b := .append) (xs := #[.tmp 191, .tmp 196]) rfl ?_); (try (refine gate_guard (by rfl) ?_; dsimp only)); at_builtin; refine Kd.R_append k36 (w0 := w) w.heap.size rfl (.tmp 191) (.tmp 196) 23 36 (.agg #[(.int .i64 0), (.string ⟨#[]⟩), (.int .i64 0), (.int .i64 0)]) 40 rfl Tryd.underlying23 info36 rfl (by decide) (by omega) u8 x8_1 (⟨6, (⟨#[]⟩ : ByteArray), (⟨x10_1, x10_1⟩ : S33)⟩ : S36) [.int .i64 6, .string (⟨#[]⟩ : ByteArray), .int .i64 x10_1, .int .i64 x10_1] (fun _ => True) (fun _ => False) rfl rfl ?aP (fun _ hk => hk.elim) ?aF ?aO ?aB ?aS ?aL ?_; (case aP => exact k36_mkM _ _ _ (⟨6, (⟨#[]⟩ : ByteArray), (⟨x10_1, x10_1⟩ : S33)⟩ : S36)); (case aB => exact (by repeat (first | (with_reducible first | exact HB.out | apply below_alloc | apply pw_below_drewN | apply below_drew1 | refine below_set ?_ GE111.out) | exact HB.out))); (case aF => exact (fun _ _ => trivial)); (case aO => exact (by (with_reducible repeat (first | apply Kd.R_alloc | apply Kd.R_drewN | apply Kd.R_drew)); exact HO_8.out)); (case aS => exact (below_size (by repeat (first | (with_reducible first | exact HB.out | apply below_alloc | apply pw_below_drewN | apply below_drew1 | refine below_set ?_ GE111.out) | exact HB.out)))); (case aL => have := LMc111.out; omega); intro v113 w112 ho hb hg hat; rw [← Ny112.out] at ho; have n0_ := Aside0.mk (Kd.R_over' (by (with_reducible repeat (first | apply Kd.R_alloc | apply Kd.R_drewN | apply Kd.R_drew)); exact HO_9.out) (Kd.R_typed (by (with_reducible repeat (first | apply Kd.R_alloc | apply Kd.R_drewN | apply Kd.R_drew)); exact HO_8.out)) (by decide) hg); have n1_ := Aside0.mk (blk_grown (g := gb111) (o := .cells (arrB t110) 48 (0, 0)) (by (with_reducible repeat (first | refine blk_drewN ?_ _ | refine blk_drew ?_ | refine blk_alloc ?_ _)); exact BK111.out) hg (Kd.R_ne HO_8.out BK111.out (by decide))); have n2_ := Aside0.mk (hb); have n3_ := Aside0.mk (ho); clear HO_9; clear BK111; clear HB; clear HO_8; have HO_9 := n0_; have BK111 := n1_; have HB := n2_; have HO114 := n3_; clear n0_ n1_ n2_ n3_; clear ho hb hg hat))
       (try rw [Exit.noGoto_ret])
       refine bodyPost_ret (results_list (rs := [.tmp 2, .tmp 3, .tmp 4, .tmp 5]) rfl (by simp) (.tmp (.tmp (.tmp (.tmp .nil))))) rfl ?_
       exact ⟨_, _, by first | rfl | (simp [errW_none, errW_some] <;> rfl) | (simp [*, errW_none, errW_some] <;> rfl), by (with_reducible repeat (first | apply Kd.R_alloc | apply Kd.R_drewN | apply Kd.R_drew)); exact HO114.out, by (with_reducible repeat (first | apply Kd.R_alloc | apply Kd.R_drewN | apply Kd.R_drew)); exact HO_9.out, by repeat (first | (with_reducible first | exact HB.out | apply below_alloc | apply pw_below_drewN | apply below_drew1 | refine below_set ?_ GE111.out) | exact HB.out)⟩
      ·rw [if_neg c111] at H
       exact absurd H (by simp)

end Go.Proofs.YtenjbcjekjmaeaaDoor.PTok
