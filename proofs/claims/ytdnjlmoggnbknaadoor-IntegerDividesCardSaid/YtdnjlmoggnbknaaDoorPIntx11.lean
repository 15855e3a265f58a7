-- Written by a program of this session's (xprint.py) over the kit's print.
import Derived.Test.YtdnjlmoggnbknaaDoorPIntx0
import Derived.Test.YtdnjlmoggnbknaaDoorPIntx9
import Derived.Test.YtdnjlmoggnbknaaDoorPIntx10
import Derived.Test.YtdnjlmoggnbknaaDoorPIntD
import Derived.Test.YtdnjlmoggnbknaaDoorAuto
namespace Go.Proofs.YtdnjlmoggnbknaaDoor.PInt
open Go.RowKit Go.Proofs.YtdnjlmoggnbknaaDoor.Ext Go.Proofs.YtdnjlmoggnbknaaDoorW.PrintWords Go.Proofs.YtdnjlmoggnbknaaDoorW.PrintLast Go.Proofs.YtdnjlmoggnbknaaDoorW.PrintMore
attribute [local go_sem high] gtr_print leq_print
attribute [local go_sem] max2_int min2_int max_two min_two max_three min_three max_four min_four   -- for this text's walks alone
set_option linter.unusedVariables false
set_option linter.unusedSimpArgs false

/-! ### cellarerref02_plus: function 44 -/
set_option maxHeartbeats 8000000 in
set_option maxRecDepth 100000 in
theorem cellarerref02_plus.calls (k : Nat) (A0 : Option Addr) (c0 : Nat) (l0 : List Int) (A1 : Option Addr) (c1 : Nat) (l1 : List Int) (a2 : Int) (r : List Int) (w : World) (hG : GOK w) (hr0 : Kd.C (Kd.int .i64) w A0 l0.length l0) (hc0 : l0.length ≤ c0) (hr1 : Kd.C (Kd.int .i64) w A1 l1.length l1) (hc1 : l1.length ≤ c1) (h : cellarerref02_plus.f k l0 l1 a2 = some r) :
  Calls Tryd.prog 44 #[.slice A0 l0.length c0, .slice A1 l1.length c1, .int .i64 a2] w fun e w' => ∃ v0_ : Value, e = .returned (v0_) ∧ Kd.R (Kd.int .i64) 3 w' w.heap.size (fun _ => True) v0_ r ∧ Below w.heap.size w w' := by
 have HR0 := Aside0.mk hr0
 have HC0 := Aside0.mk hc0
 clear hr0 hc0
 have HR1 := Aside0.mk hr1
 have HC1 := Aside0.mk hc1
 clear hr1 hc1
 replace hG := Aside0.mk hG
 have HB := Aside0.mk (Below.refl w.heap.size w)
 have H : (cellarerref02_plus.l0 k l0 l1 a2 ([] : List Int) 0 0) = some r := h
 clear h
 have H' := Aside0.mk H
 clear H
 go_enter Tryd.func44, Tryd.ntmps44
 go_wp2
 go_loopg [7, 8, 9] k (fun kq v7 v8 v9 w' => ∃ (x7_1 : List Int) (x8_1 : Int) (x9_1 : Int), v8 = .int .i64 x8_1 ∧ v9 = .int .i64 x9_1 ∧ Aside0 (cellarerref02_plus.l0 kq l0 l1 a2 x7_1 x8_1 x9_1 = some r) ∧ Aside0 (kq ≤ k) ∧ Aside0 (Kd.R (Kd.int .i64) 3 w' w.heap.size (fun _ => True) v7 x7_1) ∧ Aside0 (Below w.heap.size w w'))
 case atStart => exact ⟨(([] : List Int)), (0), (0), (by first | rfl | (simp; done) | (simp [*]; done)), (by first | rfl | (simp; done) | (simp [*]; done)), H', ⟨Nat.le_refl _⟩, ⟨by first | exact Kd.R_nil _ _ _ _ _ | exact Kd.N_nil _ _ _ _ _ | exact Kd.V_nil _ _ _ _ _ | exact Kd.Q_nil _ _ _ _ _ | exact Kd.S_nil _ _ _ _ _⟩, ⟨bel⟩⟩
 case round =>
  clear H'
  (try clear c1); (try clear p2)
  obtain ⟨x7_1, x8_1, x9_1, rfl, rfl, HA, HK1, HO_7, HB⟩ := hrel
  cases gk with
  | zero => exact absurd HA.out (by simp [cellarerref02_plus.l0])
  | succ k1 =>
   have H := HA.out
   clear HA
   simp only [cellarerref02_plus.l0] at H
   have HC4 := Aside0.mk H
   clear H
   go_upto_region 4 with (fail)
   go_cut [24] (fun v24 wc => ∃ (kq : Nat) (x24_3 : Bool), v24 = .bool x24_3 ∧ Aside0 (cellarerref02_plus.j1 kq l0 l1 a2 x7_1 x8_1 x9_1 x24_3 = some r) ∧ Aside0 (kq ≤ k1) ∧ Aside0 (Kd.R (Kd.int .i64) 3 wc w.heap.size (fun _ => True) u7 x7_1) ∧ Aside0 (Below w.heap.size w wc))
   case first =>
    have H := HC4.out
    clear HC4
    by_cases c5 : x9_1 < (l0.length : Int)
    ·rw [if_pos c5] at H
     have c5b0 : decide (x9_1 < (l0.length : Int)) = true := decide_eq_true c5
     clear c5
     (first | rw [c5b0] | rw [c5b1] | (simp only [i64_w, i32_w]; rw [c5b0]) | skip)
     have H' := Aside0.mk H
     clear H
     go_wp2
     go_meet
     case rel => exact ⟨_, (true), (by first | rfl | (simp; done) | (simp [*]; done)), H', ⟨by have := HK1.out; first | omega | exact Nat.le_refl _⟩, ⟨kr HO_7.out⟩, ⟨bel⟩⟩
    ·rw [if_neg c5] at H
     have c5b0 : decide (x9_1 < (l0.length : Int)) = false := decide_eq_false c5
     clear c5
     (first | rw [c5b0] | rw [c5b1] | (simp only [i64_w, i32_w]; rw [c5b0]) | skip)
     by_cases c6 : x9_1 < (l1.length : Int)
     ·rw [if_pos c6] at H
      have c6b0 : decide (x9_1 < (l1.length : Int)) = true := decide_eq_true c6
      clear c6
      have H' := Aside0.mk H
      clear H
      go_wp2
      go_meet
      case rel => exact ⟨_, (true), (by first | rfl | (simp; done) | (simp [*]; done)), H', ⟨by have := HK1.out; first | omega | exact Nat.le_refl _⟩, ⟨kr HO_7.out⟩, ⟨bel⟩⟩
     ·rw [if_neg c6] at H
      have c6b0 : decide (x9_1 < (l1.length : Int)) = false := decide_eq_false c6
      clear c6
      have H' := Aside0.mk H
      clear H
      go_wp2
      go_meet
      case rel => exact ⟨_, ((x8_1 != 0)), (by first | rfl | (simp; done) | (simp [*]; done)), H', ⟨by have := HK1.out; first | omega | exact Nat.le_refl _⟩, ⟨kr HO_7.out⟩, ⟨bel⟩⟩
   case rest =>
    clear HC4
    (try clear c1); (try clear p2); (try clear c4); (try clear c5); (try clear c5b0); (try clear c6); (try clear c6b0); (try clear p2)
    obtain ⟨kq, x24_3, rfl, HA, HJ3, HO_7, HB⟩ := hcut
    cases kq with
    | zero => exact absurd HA.out (by simp [cellarerref02_plus.j1])
    | succ kj3 =>
     have H := HA.out
     clear HA
     simp only [cellarerref02_plus.j1] at H
     by_cases c7 : x24_3 = true
     ·subst c7
      rw [if_pos rfl] at H
      obtain ⟨t422, A8, H⟩ := bind_ H
      try dsimp only at H
      obtain ⟨t423, A9, H⟩ := bind_ H
      try dsimp only at H
      by_cases c10 : (wrap64 ((wrap64 (t422 + (wrap64 (a2 * t423)))) + x8_1)) < 0
      ·rw [if_pos c10] at H
       have c10b0 : decide ((wrap64 ((wrap64 (t422 + (wrap64 (a2 * t423)))) + x8_1)) < 0) = true := decide_eq_true c10
       clear c10
       by_cases c11 : (wrap64 ((wrap64 ((wrap64 (t422 + (wrap64 (a2 * t423)))) + x8_1)) + 10)) > 9
       ·rw [if_pos c11] at H
        have c11b0 : decide (9 < (wrap64 ((wrap64 ((wrap64 (t422 + (wrap64 (a2 * t423)))) + x8_1)) + 10))) = true := decide_eq_true c11
        clear c11
        obtain ⟨y424, hy424⟩ : ∃ y_ : List Int, y_ = (([wrap64 ((wrap64 ((wrap64 ((wrap64 (t422 + (wrap64 (a2 * t423)))) + x8_1)) + 10)) - 10)] : List Int)) := ⟨_, rfl⟩
        replace H : (if y424.length + x7_1.length < 17592186044416 then (cellarerref02_plus.l0 kj3 l0 l1 a2 (y424 ++ x7_1) 1 (wrap64 (x9_1 + 1))) else (none)) = some r := by first | (rw [hy424]; with_reducible exact H) | (have H2_ := (Option.bind_some _ _).symm.trans H; rw [hy424]; with_reducible exact H2_) | (have H2_ := (Option.bind_some _ _).symm.trans H; with_reducible exact H2_) | with_reducible exact H | (rw [hy424]; exact H) | exact H
        have Ny424 := Aside0.mk hy424
        clear hy424
        by_cases c12 : y424.length + x7_1.length < 17592186044416
        ·rw [if_pos c12] at H
         have LMc12 := Aside0.mk c12
         clear c12
         obtain ⟨y427, hy427⟩ : ∃ y_ : List Int, y_ = (y424 ++ x7_1) := ⟨_, rfl⟩
         replace H : (cellarerref02_plus.l0 kj3 l0 l1 a2 y427 1 (wrap64 (x9_1 + 1))) = some r := by first | (rw [hy427]; with_reducible exact H) | (have H2_ := (Option.bind_some _ _).symm.trans H; rw [hy427]; with_reducible exact H2_) | (have H2_ := (Option.bind_some _ _).symm.trans H; with_reducible exact H2_) | with_reducible exact H | (rw [hy427]; exact H) | exact H
         have Ny427 := Aside0.mk hy427
         clear hy427
         have H' := Aside0.mk H
         clear H
         go_wp2_with (first | ((with_reducible refine gate_callee (f := 64) rfl ?_); refine goesL_ (some 29) rfl rfl Tryd.func64 (by kernel_rfl) rfl #[.slice A0 l0.length c0, .int .i64 x9_1] rfl ag ?_; (with_reducible refine (cellarerref02_digit.calls _ _ l0 x9_1 t422 _ gk ?side2 HC0.out A8.out).mono ?_); (case side2 => exact kc ((Kd.C_below HR0.out HB.out))); rintro e w' ⟨rfl, ⟨nd, rfl⟩⟩; refine ⟨_, rfl, ?_⟩) | ((with_reducible refine gate_callee (f := 64) rfl ?_); refine goesL_ (some 33) rfl rfl Tryd.func64 (by kernel_rfl) rfl #[.slice A1 l1.length c1, .int .i64 x9_1] rfl ag ?_; (with_reducible refine (cellarerref02_digit.calls _ _ l1 x9_1 t423 _ gk ?side2 HC1.out A9.out).mono ?_); (case side2 => exact kc ((Kd.C_below HR1.out bel))); rintro e w' ⟨rfl, ⟨nd, rfl⟩⟩; refine ⟨_, rfl, ?_⟩) | ((with_reducible refine gate_dst (N := 47) rfl ?_); (try (refine gate_guard (by rfl) ?_; dsimp only)); refine Kd.R_lit (Kd.int .i64) _ 3 ?hg (N := 47) ?hd (xs := ([wrap64 ((wrap64 ((wrap64 ((wrap64 (t422 + (wrap64 (a2 * t423)))) + x8_1)) + 10)) - 10)] : List Int)) (inner := [.int .i64 (wrap64 ((wrap64 ((wrap64 ((wrap64 (t422 + (wrap64 (a2 * t423)))) + x8_1)) + 10)) - 10))]) (ok := fun _ => True) (okp := fun _ => True) ?hr ?hp (fun _ hk => hk) trivial (Below.refl _ _) (Nat.le_refl _) (by simp) ?_; (case hd => rfl); (case hg => rfl); (case hr => first | (go_simp; done) | (go_simp; rfl)); (case hp => exact (Reps.one (show Kd.M (Kd.int .i64) _ _ _ (wrap64 ((wrap64 ((wrap64 ((wrap64 (t422 + (wrap64 (a2 * t423)))) + x8_1)) + 10)) - 10)) [.int .i64 (wrap64 ((wrap64 ((wrap64 ((wrap64 (t422 + (wrap64 (a2 * t423)))) + x8_1)) + 10)) - 10))] from rfl) (Reps.none _ _))); intro v425 w13 ho14 hb hg_ hnew_; clear hg_ hnew_; (first | rw [← Ny424.out] at ho14 | (simp only [Int.reduceToNat] at ho14; rw [← Ny424.out] at ho14)); have HO426 := Aside0.mk (Kd.R_lower (Kd.R_new' ho14 (Kd.R_lt (kr HO_7.out))) (below_size bel)); replace HO_7 := Aside0.mk (Kd.R_elder' (kr HO_7.out) (Kd.R_base ho14) hb); replace HB := Aside0.mk (below_step bel hb); clear hb ho14; obtain ⟨Ao16, co16, eo16⟩ := Kd.R_slice HO_7.out; subst eo16) | ((with_reducible refine gate_builtin (b := .append) (xs := #[.tmp 47, .tmp 48]) rfl ?_); (try (refine gate_guard (by rfl) ?_; dsimp only)); at_builtin; refine Kd.R_append_rows (Kd.int .i64) (w0 := w) w.heap.size rfl (.tmp 47) (.tmp 48) 30 3 (.int .i64 0) 8 rfl Tryd.underlying30 info3 rfl (by decide) (by omega) v425 y424 x7_1 _ _ _ (fun k_ => some k_ ≠ (.slice Ao16 x7_1.length co16 : Value).ownBlock) (fun _ => False) rfl rfl ?aO ?aR (fun _ _ h => h) (fun _ h => h.elim) ?aF ?aB ?aS ?aL ?_; (case aR => exact kc ((Kd.R_reads' HO_7.out).2.2)); (case aB => exact bel); (case aF => exact (fun k_ hk => Kd.fresh' (Kd.R_lt (kr HO_7.out)) k_ hk)); (case aO => exact (kr (Kd.R_mono HO426.out (fun _ hk => hk.2)))); (case aS => exact (below_size bel)); (case aL => have := LMc12.out; omega); intro v428 w15 ho hb hg hat; rw [← Ny427.out] at ho; have HO429 := Aside0.mk (ho); replace HO_7 := Aside0.mk (Kd.R_after (ok := (fun _ => True)) (kr HO_7.out) hg hat); replace HB := Aside0.mk (hb); clear HO426; clear ho hb hg hat))
         go_roundg kj3
         case measure => have := HK1.out; have := HJ3.out; omega
         case rel => exact ⟨(y427), (1), (wrap64 (x9_1 + 1)), (by first | rfl | (simp; done) | (simp [*]; done)), (by first | rfl | (simp; done) | (simp [*]; done)), H', ⟨by have := HK1.out; have := HJ3.out; omega⟩, ⟨kr (Kd.R_mono HO429.out (fun _ hk => trivial))⟩, ⟨bel⟩⟩
        ·rw [if_neg c12] at H
         exact absurd H (by simp)
       ·rw [if_neg c11] at H
        have c11b0 : decide (9 < (wrap64 ((wrap64 ((wrap64 (t422 + (wrap64 (a2 * t423)))) + x8_1)) + 10))) = false := decide_eq_false c11
        clear c11
        obtain ⟨y430, hy430⟩ : ∃ y_ : List Int, y_ = (([wrap64 ((wrap64 ((wrap64 (t422 + (wrap64 (a2 * t423)))) + x8_1)) + 10)] : List Int)) := ⟨_, rfl⟩
        replace H : (if y430.length + x7_1.length < 17592186044416 then (cellarerref02_plus.l0 kj3 l0 l1 a2 (y430 ++ x7_1) (-1) (wrap64 (x9_1 + 1))) else (none)) = some r := by first | (rw [hy430]; with_reducible exact H) | (have H2_ := (Option.bind_some _ _).symm.trans H; rw [hy430]; with_reducible exact H2_) | (have H2_ := (Option.bind_some _ _).symm.trans H; with_reducible exact H2_) | with_reducible exact H | (rw [hy430]; exact H) | exact H
        have Ny430 := Aside0.mk hy430
        clear hy430
        by_cases c17 : y430.length + x7_1.length < 17592186044416
        ·rw [if_pos c17] at H
         have LMc17 := Aside0.mk c17
         clear c17
         obtain ⟨y433, hy433⟩ : ∃ y_ : List Int, y_ = (y430 ++ x7_1) := ⟨_, rfl⟩
         replace H : (cellarerref02_plus.l0 kj3 l0 l1 a2 y433 (-1) (wrap64 (x9_1 + 1))) = some r := by first | (rw [hy433]; with_reducible exact H) | (have H2_ := (Option.bind_some _ _).symm.trans H; rw [hy433]; with_reducible exact H2_) | (have H2_ := (Option.bind_some _ _).symm.trans H; with_reducible exact H2_) | with_reducible exact H | (rw [hy433]; exact H) | exact H
         have Ny433 := Aside0.mk hy433
         clear hy433
         have H' := Aside0.mk H
         clear H
         go_wp2_with (first | ((with_reducible refine gate_callee (f := 64) rfl ?_); refine goesL_ (some 29) rfl rfl Tryd.func64 (by kernel_rfl) rfl #[.slice A0 l0.length c0, .int .i64 x9_1] rfl ag ?_; (with_reducible refine (cellarerref02_digit.calls _ _ l0 x9_1 t422 _ gk ?side2 HC0.out A8.out).mono ?_); (case side2 => exact kc ((Kd.C_below HR0.out HB.out))); rintro e w' ⟨rfl, ⟨nd, rfl⟩⟩; refine ⟨_, rfl, ?_⟩) | ((with_reducible refine gate_callee (f := 64) rfl ?_); refine goesL_ (some 33) rfl rfl Tryd.func64 (by kernel_rfl) rfl #[.slice A1 l1.length c1, .int .i64 x9_1] rfl ag ?_; (with_reducible refine (cellarerref02_digit.calls _ _ l1 x9_1 t423 _ gk ?side2 HC1.out A9.out).mono ?_); (case side2 => exact kc ((Kd.C_below HR1.out bel))); rintro e w' ⟨rfl, ⟨nd, rfl⟩⟩; refine ⟨_, rfl, ?_⟩) | ((with_reducible refine gate_dst (N := 47) rfl ?_); (try (refine gate_guard (by rfl) ?_; dsimp only)); refine Kd.R_lit (Kd.int .i64) _ 3 ?hg (N := 47) ?hd (xs := ([wrap64 ((wrap64 ((wrap64 (t422 + (wrap64 (a2 * t423)))) + x8_1)) + 10)] : List Int)) (inner := [.int .i64 (wrap64 ((wrap64 ((wrap64 (t422 + (wrap64 (a2 * t423)))) + x8_1)) + 10))]) (ok := fun _ => True) (okp := fun _ => True) ?hr ?hp (fun _ hk => hk) trivial (Below.refl _ _) (Nat.le_refl _) (by simp) ?_; (case hd => rfl); (case hg => rfl); (case hr => first | (go_simp; done) | (go_simp; rfl)); (case hp => exact (Reps.one (show Kd.M (Kd.int .i64) _ _ _ (wrap64 ((wrap64 ((wrap64 (t422 + (wrap64 (a2 * t423)))) + x8_1)) + 10)) [.int .i64 (wrap64 ((wrap64 ((wrap64 (t422 + (wrap64 (a2 * t423)))) + x8_1)) + 10))] from rfl) (Reps.none _ _))); intro v431 w18 ho19 hb hg_ hnew_; clear hg_ hnew_; (first | rw [← Ny430.out] at ho19 | (simp only [Int.reduceToNat] at ho19; rw [← Ny430.out] at ho19)); have HO432 := Aside0.mk (Kd.R_lower (Kd.R_new' ho19 (Kd.R_lt (kr HO_7.out))) (below_size bel)); replace HO_7 := Aside0.mk (Kd.R_elder' (kr HO_7.out) (Kd.R_base ho19) hb); replace HB := Aside0.mk (below_step bel hb); clear hb ho19; obtain ⟨Ao21, co21, eo21⟩ := Kd.R_slice HO_7.out; subst eo21) | ((with_reducible refine gate_builtin (b := .append) (xs := #[.tmp 47, .tmp 48]) rfl ?_); (try (refine gate_guard (by rfl) ?_; dsimp only)); at_builtin; refine Kd.R_append_rows (Kd.int .i64) (w0 := w) w.heap.size rfl (.tmp 47) (.tmp 48) 30 3 (.int .i64 0) 8 rfl Tryd.underlying30 info3 rfl (by decide) (by omega) v431 y430 x7_1 _ _ _ (fun k_ => some k_ ≠ (.slice Ao21 x7_1.length co21 : Value).ownBlock) (fun _ => False) rfl rfl ?aO ?aR (fun _ _ h => h) (fun _ h => h.elim) ?aF ?aB ?aS ?aL ?_; (case aR => exact kc ((Kd.R_reads' HO_7.out).2.2)); (case aB => exact bel); (case aF => exact (fun k_ hk => Kd.fresh' (Kd.R_lt (kr HO_7.out)) k_ hk)); (case aO => exact (kr (Kd.R_mono HO432.out (fun _ hk => hk.2)))); (case aS => exact (below_size bel)); (case aL => have := LMc17.out; omega); intro v434 w20 ho hb hg hat; rw [← Ny433.out] at ho; have HO435 := Aside0.mk (ho); replace HO_7 := Aside0.mk (Kd.R_after (ok := (fun _ => True)) (kr HO_7.out) hg hat); replace HB := Aside0.mk (hb); clear HO432; clear ho hb hg hat))
         go_roundg kj3
         case measure => have := HK1.out; have := HJ3.out; omega
         case rel => exact ⟨(y433), ((-1)), (wrap64 (x9_1 + 1)), (by first | rfl | (simp; done) | (simp [*]; done)), (by first | rfl | (simp; done) | (simp [*]; done)), H', ⟨by have := HK1.out; have := HJ3.out; omega⟩, ⟨kr (Kd.R_mono HO435.out (fun _ hk => trivial))⟩, ⟨bel⟩⟩
        ·rw [if_neg c17] at H
         exact absurd H (by simp)
      ·rw [if_neg c10] at H
       have c10b0 : decide ((wrap64 ((wrap64 (t422 + (wrap64 (a2 * t423)))) + x8_1)) < 0) = false := decide_eq_false c10
       clear c10
       by_cases c22 : (wrap64 ((wrap64 (t422 + (wrap64 (a2 * t423)))) + x8_1)) > 9
       ·rw [if_pos c22] at H
        have c22b0 : decide (9 < (wrap64 ((wrap64 (t422 + (wrap64 (a2 * t423)))) + x8_1))) = true := decide_eq_true c22
        clear c22
        obtain ⟨y436, hy436⟩ : ∃ y_ : List Int, y_ = (([wrap64 ((wrap64 ((wrap64 (t422 + (wrap64 (a2 * t423)))) + x8_1)) - 10)] : List Int)) := ⟨_, rfl⟩
        replace H : (if y436.length + x7_1.length < 17592186044416 then (cellarerref02_plus.l0 kj3 l0 l1 a2 (y436 ++ x7_1) 1 (wrap64 (x9_1 + 1))) else (none)) = some r := by first | (rw [hy436]; with_reducible exact H) | (have H2_ := (Option.bind_some _ _).symm.trans H; rw [hy436]; with_reducible exact H2_) | (have H2_ := (Option.bind_some _ _).symm.trans H; with_reducible exact H2_) | with_reducible exact H | (rw [hy436]; exact H) | exact H
        have Ny436 := Aside0.mk hy436
        clear hy436
        by_cases c23 : y436.length + x7_1.length < 17592186044416
        ·rw [if_pos c23] at H
         have LMc23 := Aside0.mk c23
         clear c23
         obtain ⟨y439, hy439⟩ : ∃ y_ : List Int, y_ = (y436 ++ x7_1) := ⟨_, rfl⟩
         replace H : (cellarerref02_plus.l0 kj3 l0 l1 a2 y439 1 (wrap64 (x9_1 + 1))) = some r := by first | (rw [hy439]; with_reducible exact H) | (have H2_ := (Option.bind_some _ _).symm.trans H; rw [hy439]; with_reducible exact H2_) | (have H2_ := (Option.bind_some _ _).symm.trans H; with_reducible exact H2_) | with_reducible exact H | (rw [hy439]; exact H) | exact H
         have Ny439 := Aside0.mk hy439
         clear hy439
         have H' := Aside0.mk H
         clear H
         go_wp2_with (first | ((with_reducible refine gate_callee (f := 64) rfl ?_); refine goesL_ (some 29) rfl rfl Tryd.func64 (by kernel_rfl) rfl #[.slice A0 l0.length c0, .int .i64 x9_1] rfl ag ?_; (with_reducible refine (cellarerref02_digit.calls _ _ l0 x9_1 t422 _ gk ?side2 HC0.out A8.out).mono ?_); (case side2 => exact kc ((Kd.C_below HR0.out HB.out))); rintro e w' ⟨rfl, ⟨nd, rfl⟩⟩; refine ⟨_, rfl, ?_⟩) | ((with_reducible refine gate_callee (f := 64) rfl ?_); refine goesL_ (some 33) rfl rfl Tryd.func64 (by kernel_rfl) rfl #[.slice A1 l1.length c1, .int .i64 x9_1] rfl ag ?_; (with_reducible refine (cellarerref02_digit.calls _ _ l1 x9_1 t423 _ gk ?side2 HC1.out A9.out).mono ?_); (case side2 => exact kc ((Kd.C_below HR1.out bel))); rintro e w' ⟨rfl, ⟨nd, rfl⟩⟩; refine ⟨_, rfl, ?_⟩) | ((with_reducible refine gate_dst (N := 47) rfl ?_); (try (refine gate_guard (by rfl) ?_; dsimp only)); refine Kd.R_lit (Kd.int .i64) _ 3 ?hg (N := 47) ?hd (xs := ([wrap64 ((wrap64 ((wrap64 (t422 + (wrap64 (a2 * t423)))) + x8_1)) - 10)] : List Int)) (inner := [.int .i64 (wrap64 ((wrap64 ((wrap64 (t422 + (wrap64 (a2 * t423)))) + x8_1)) - 10))]) (ok := fun _ => True) (okp := fun _ => True) ?hr ?hp (fun _ hk => hk) trivial (Below.refl _ _) (Nat.le_refl _) (by simp) ?_; (case hd => rfl); (case hg => rfl); (case hr => first | (go_simp; done) | (go_simp; rfl)); (case hp => exact (Reps.one (show Kd.M (Kd.int .i64) _ _ _ (wrap64 ((wrap64 ((wrap64 (t422 + (wrap64 (a2 * t423)))) + x8_1)) - 10)) [.int .i64 (wrap64 ((wrap64 ((wrap64 (t422 + (wrap64 (a2 * t423)))) + x8_1)) - 10))] from rfl) (Reps.none _ _))); intro v437 w24 ho25 hb hg_ hnew_; clear hg_ hnew_; (first | rw [← Ny436.out] at ho25 | (simp only [Int.reduceToNat] at ho25; rw [← Ny436.out] at ho25)); have HO438 := Aside0.mk (Kd.R_lower (Kd.R_new' ho25 (Kd.R_lt (kr HO_7.out))) (below_size bel)); replace HO_7 := Aside0.mk (Kd.R_elder' (kr HO_7.out) (Kd.R_base ho25) hb); replace HB := Aside0.mk (below_step bel hb); clear hb ho25; obtain ⟨Ao27, co27, eo27⟩ := Kd.R_slice HO_7.out; subst eo27) | ((with_reducible refine gate_builtin (b := .append) (xs := #[.tmp 47, .tmp 48]) rfl ?_); (try (refine gate_guard (by rfl) ?_; dsimp only)); at_builtin; refine Kd.R_append_rows (Kd.int .i64) (w0 := w) w.heap.size rfl (.tmp 47) (.tmp 48) 30 3 (.int .i64 0) 8 rfl Tryd.underlying30 info3 rfl (by decide) (by omega) v437 y436 x7_1 _ _ _ (fun k_ => some k_ ≠ (.slice Ao27 x7_1.length co27 : Value).ownBlock) (fun _ => False) rfl rfl ?aO ?aR (fun _ _ h => h) (fun _ h => h.elim) ?aF ?aB ?aS ?aL ?_; (case aR => exact kc ((Kd.R_reads' HO_7.out).2.2)); (case aB => exact bel); (case aF => exact (fun k_ hk => Kd.fresh' (Kd.R_lt (kr HO_7.out)) k_ hk)); (case aO => exact (kr (Kd.R_mono HO438.out (fun _ hk => hk.2)))); (case aS => exact (below_size bel)); (case aL => have := LMc23.out; omega); intro v440 w26 ho hb hg hat; rw [← Ny439.out] at ho; have HO441 := Aside0.mk (ho); replace HO_7 := Aside0.mk (Kd.R_after (ok := (fun _ => True)) (kr HO_7.out) hg hat); replace HB := Aside0.mk (hb); clear HO438; clear ho hb hg hat))
         go_roundg kj3
         case measure => have := HK1.out; have := HJ3.out; omega
         case rel => exact ⟨(y439), (1), (wrap64 (x9_1 + 1)), (by first | rfl | (simp; done) | (simp [*]; done)), (by first | rfl | (simp; done) | (simp [*]; done)), H', ⟨by have := HK1.out; have := HJ3.out; omega⟩, ⟨kr (Kd.R_mono HO441.out (fun _ hk => trivial))⟩, ⟨bel⟩⟩
        ·rw [if_neg c23] at H
         exact absurd H (by simp)
       ·rw [if_neg c22] at H
        have c22b0 : decide (9 < (wrap64 ((wrap64 (t422 + (wrap64 (a2 * t423)))) + x8_1))) = false := decide_eq_false c22
        clear c22
        obtain ⟨y442, hy442⟩ : ∃ y_ : List Int, y_ = (([wrap64 ((wrap64 (t422 + (wrap64 (a2 * t423)))) + x8_1)] : List Int)) := ⟨_, rfl⟩
        replace H : (if y442.length + x7_1.length < 17592186044416 then (cellarerref02_plus.l0 kj3 l0 l1 a2 (y442 ++ x7_1) 0 (wrap64 (x9_1 + 1))) else (none)) = some r := by first | (rw [hy442]; with_reducible exact H) | (have H2_ := (Option.bind_some _ _).symm.trans H; rw [hy442]; with_reducible exact H2_) | (have H2_ := (Option.bind_some _ _).symm.trans H; with_reducible exact H2_) | with_reducible exact H | (rw [hy442]; exact H) | exact H
        have Ny442 := Aside0.mk hy442
        clear hy442
        by_cases c28 : y442.length + x7_1.length < 17592186044416
        ·rw [if_pos c28] at H
         have LMc28 := Aside0.mk c28
         clear c28
         obtain ⟨y445, hy445⟩ : ∃ y_ : List Int, y_ = (y442 ++ x7_1) := ⟨_, rfl⟩
         replace H : (cellarerref02_plus.l0 kj3 l0 l1 a2 y445 0 (wrap64 (x9_1 + 1))) = some r := by first | (rw [hy445]; with_reducible exact H) | (have H2_ := (Option.bind_some _ _).symm.trans H; rw [hy445]; with_reducible exact H2_) | (have H2_ := (Option.bind_some _ _).symm.trans H; with_reducible exact H2_) | with_reducible exact H | (rw [hy445]; exact H) | exact H
         have Ny445 := Aside0.mk hy445
         clear hy445
         have H' := Aside0.mk H
         clear H
         go_wp2_with (first | ((with_reducible refine gate_callee (f := 64) rfl ?_); refine goesL_ (some 29) rfl rfl Tryd.func64 (by kernel_rfl) rfl #[.slice A0 l0.length c0, .int .i64 x9_1] rfl ag ?_; (with_reducible refine (cellarerref02_digit.calls _ _ l0 x9_1 t422 _ gk ?side2 HC0.out A8.out).mono ?_); (case side2 => exact kc ((Kd.C_below HR0.out HB.out))); rintro e w' ⟨rfl, ⟨nd, rfl⟩⟩; refine ⟨_, rfl, ?_⟩) | ((with_reducible refine gate_callee (f := 64) rfl ?_); refine goesL_ (some 33) rfl rfl Tryd.func64 (by kernel_rfl) rfl #[.slice A1 l1.length c1, .int .i64 x9_1] rfl ag ?_; (with_reducible refine (cellarerref02_digit.calls _ _ l1 x9_1 t423 _ gk ?side2 HC1.out A9.out).mono ?_); (case side2 => exact kc ((Kd.C_below HR1.out bel))); rintro e w' ⟨rfl, ⟨nd, rfl⟩⟩; refine ⟨_, rfl, ?_⟩) | ((with_reducible refine gate_dst (N := 47) rfl ?_); (try (refine gate_guard (by rfl) ?_; dsimp only)); refine Kd.R_lit (Kd.int .i64) _ 3 ?hg (N := 47) ?hd (xs := ([wrap64 ((wrap64 (t422 + (wrap64 (a2 * t423)))) + x8_1)] : List Int)) (inner := [.int .i64 (wrap64 ((wrap64 (t422 + (wrap64 (a2 * t423)))) + x8_1))]) (ok := fun _ => True) (okp := fun _ => True) ?hr ?hp (fun _ hk => hk) trivial (Below.refl _ _) (Nat.le_refl _) (by simp) ?_; (case hd => rfl); (case hg => rfl); (case hr => first | (go_simp; done) | (go_simp; rfl)); (case hp => exact (Reps.one (show Kd.M (Kd.int .i64) _ _ _ (wrap64 ((wrap64 (t422 + (wrap64 (a2 * t423)))) + x8_1)) [.int .i64 (wrap64 ((wrap64 (t422 + (wrap64 (a2 * t423)))) + x8_1))] from rfl) (Reps.none _ _))); intro v443 w29 ho30 hb hg_ hnew_; clear hg_ hnew_; (first | rw [← Ny442.out] at ho30 | (simp only [Int.reduceToNat] at ho30; rw [← Ny442.out] at ho30)); have HO444 := Aside0.mk (Kd.R_lower (Kd.R_new' ho30 (Kd.R_lt (kr HO_7.out))) (below_size bel)); replace HO_7 := Aside0.mk (Kd.R_elder' (kr HO_7.out) (Kd.R_base ho30) hb); replace HB := Aside0.mk (below_step bel hb); clear hb ho30; obtain ⟨Ao32, co32, eo32⟩ := Kd.R_slice HO_7.out; subst eo32) | ((with_reducible refine gate_builtin (b := .append) (xs := #[.tmp 47, .tmp 48]) rfl ?_); (try (refine gate_guard (by rfl) ?_; dsimp only)); at_builtin; refine Kd.R_append_rows (Kd.int .i64) (w0 := w) w.heap.size rfl (.tmp 47) (.tmp 48) 30 3 (.int .i64 0) 8 rfl Tryd.underlying30 info3 rfl (by decide) (by omega) v443 y442 x7_1 _ _ _ (fun k_ => some k_ ≠ (.slice Ao32 x7_1.length co32 : Value).ownBlock) (fun _ => False) rfl rfl ?aO ?aR (fun _ _ h => h) (fun _ h => h.elim) ?aF ?aB ?aS ?aL ?_; (case aR => exact kc ((Kd.R_reads' HO_7.out).2.2)); (case aB => exact bel); (case aF => exact (fun k_ hk => Kd.fresh' (Kd.R_lt (kr HO_7.out)) k_ hk)); (case aO => exact (kr (Kd.R_mono HO444.out (fun _ hk => hk.2)))); (case aS => exact (below_size bel)); (case aL => have := LMc28.out; omega); intro v446 w31 ho hb hg hat; rw [← Ny445.out] at ho; have HO447 := Aside0.mk (ho); replace HO_7 := Aside0.mk (Kd.R_after (ok := (fun _ => True)) (kr HO_7.out) hg hat); replace HB := Aside0.mk (hb); clear HO444; clear ho hb hg hat))
         go_roundg kj3
         case measure => have := HK1.out; have := HJ3.out; omega
         case rel => exact ⟨(y445), (0), (wrap64 (x9_1 + 1)), (by first | rfl | (simp; done) | (simp [*]; done)), (by first | rfl | (simp; done) | (simp [*]; done)), H', ⟨by have := HK1.out; have := HJ3.out; omega⟩, ⟨kr (Kd.R_mono HO447.out (fun _ hk => trivial))⟩, ⟨bel⟩⟩
        ·rw [if_neg c28] at H
         exact absurd H (by simp)
     ·replace c7 := Bool.eq_false_iff.mpr c7
      subst c7
      rw [if_neg Bool.false_ne_true] at H
      obtain rfl := Option.some.inj H
      go_wp2
      go_ret
      exact ⟨_, by first | rfl | (simp [errW_none, errW_some] <;> rfl) | (simp [*, errW_none, errW_some] <;> rfl), kr HO_7.out, bel⟩

/-! ### cellarerref02_Add: function 24 -/
set_option maxHeartbeats 8000000 in
set_option maxRecDepth 100000 in
theorem cellarerref02_Add.calls (k : Nat) (a0_0 : Bool) (A0_1 : Option Addr) (c0_1 : Nat) (l0_1 : List Int) (a1_0 : Bool) (A1_1 : Option Addr) (c1_1 : Nat) (l1_1 : List Int) (r1 : Bool) (r2 : List Int) (w : World) (hG : GOK w) (hr0_1 : Kd.C (Kd.int .i64) w A0_1 l0_1.length l0_1) (hc0_1 : l0_1.length ≤ c0_1) (hr1_1 : Kd.C (Kd.int .i64) w A1_1 l1_1.length l1_1) (hc1_1 : l1_1.length ≤ c1_1) (h : cellarerref02_Add.f k a0_0 l0_1 a1_0 l1_1 = some (r1, r2)) :
  Calls Tryd.prog 24 #[.agg #[.bool a0_0, .slice A0_1 l0_1.length c0_1], .agg #[.bool a1_0, .slice A1_1 l1_1.length c1_1]] w fun e w' => ∃ v1_ : Value, e = .returned (.agg #[.bool r1, v1_]) ∧ Kd.V (Kd.int .i64) 3 w' w.heap.size (fun k_ => (w.heap.size ≤ k_)) v1_ r2 ∧ Below w.heap.size w w' := by
 have hu32 := Tryd.underlying32
 have HR0_1 := Aside0.mk hr0_1
 have HC0_1 := Aside0.mk hc0_1
 clear hr0_1 hc0_1
 have HR1_1 := Aside0.mk hr1_1
 have HC1_1 := Aside0.mk hc1_1
 clear hr1_1 hc1_1
 replace hG := Aside0.mk hG
 have HB := Aside0.mk (Below.refl w.heap.size w)
 have H : (if (a0_0 == a1_0) = true then ((cellarerref02_plus.f k l0_1 l1_1 1).bind fun t451 => ((cellarerref02_make0.f k a0_0 t451).bind fun bt454 => (some (bt454.1, bt454.2)))) else ((cellarerref02_cmp.f k l0_1 l1_1).bind fun t458 => (if t458 < 0 then ((cellarerref02_plus.f k l1_1 l0_1 (-1)).bind fun t459 => ((cellarerref02_make0.f k a1_0 t459).bind fun bt462 => (some (bt462.1, bt462.2)))) else ((cellarerref02_plus.f k l0_1 l1_1 (-1)).bind fun t466 => ((cellarerref02_make0.f k a0_0 t466).bind fun bt469 => (some (bt469.1, bt469.2))))))) = some (r1, r2) := h
 clear h
 by_cases c3 : (a0_0 == a1_0) = true
 ·rw [if_pos c3] at H
  have c3b0 : (a0_0 == a1_0) = true := c3
  (try (have c3b1 : decide (a0_0 = a1_0) = true := by simpa using c3))
  (try (have c3b2 : (a0_0 == a1_0) = true := by simpa using c3))
  clear c3
  obtain ⟨t451, A4, H⟩ := bind_ H
  try dsimp only at H
  obtain ⟨⟨t454, t455⟩, A5, H⟩ := bind_ H
  try dsimp only at H
  simp only [Option.some.injEq, Prod.mk.injEq] at H
  obtain ⟨rfl, rfl⟩ := H
  go_enter Tryd.func24, Tryd.ntmps24
  try go_wp2_with (first | ((with_reducible refine gate_dst (N := 2) rfl ?_); refine box_event ?hg (N := 2) ?hd (cs := #[.bool a0_0, .slice A0_1 l0_1.length c0_1]) (t := 32) ?hr ?_; (case hd => rfl); (case hg => rfl); (case hr => first | (go_simp; done) | (go_simp; rfl)); intro gb448 hg w6 hbox hb; have BK448 := Aside0.mk (hbox); have GW448 := Aside0.mk ((by rw [hg]; exact (below_size bel) : w.heap.size ≤ gb448)); have GE448 := Aside0.mk ((by rw [hg]; exact (below_size bel) : w.heap.size ≤ gb448)); replace HB := Aside0.mk (below_step bel hb); clear hb hbox hg) | ((with_reducible refine gate_dst (N := 3) rfl ?_); refine box_event ?hg (N := 3) ?hd (cs := #[.bool a1_0, .slice A1_1 l1_1.length c1_1]) (t := 32) ?hr ?_; (case hd => rfl); (case hg => rfl); (case hr => first | (go_simp; done) | (go_simp; rfl)); intro gb449 hg w7 hbox hb; have BK449 := Aside0.mk (hbox); have GW449 := Aside0.mk ((by rw [hg]; exact (below_size bel) : w.heap.size ≤ gb449)); have GE449 := Aside0.mk ((by rw [hg]; exact (below_size bel) : w.heap.size ≤ gb449)); have NB448_449 := Aside0.mk ((by rw [hg]; exact Nat.ne_of_lt (blk_lt (bk BK448.out)) : gb448 ≠ gb449)); have NB449_448 := Aside0.mk ((by rw [hg]; exact Nat.ne_of_gt (blk_lt (bk BK448.out)) : gb449 ≠ gb448)); replace BK448 := Aside0.mk (blk_below (bk BK448.out) hb); replace HB := Aside0.mk (below_step bel hb); clear hb hbox hg) | ((with_reducible refine gate_dst (N := 4) rfl ?_); refine box_event ?hg (N := 4) ?hd (cs := #[.bool false, .slice none 0 0]) (t := 32) ?hr ?_; (case hd => rfl); (case hg => rfl); (case hr => first | (go_simp; done) | (go_simp; rfl)); intro gb450 hg w8 hbox hb; have BK450 := Aside0.mk (hbox); have GW450 := Aside0.mk ((by rw [hg]; exact (below_size bel) : w.heap.size ≤ gb450)); have GE450 := Aside0.mk ((by rw [hg]; exact (below_size bel) : w.heap.size ≤ gb450)); have NB448_450 := Aside0.mk ((by rw [hg]; exact Nat.ne_of_lt (blk_lt (bk BK448.out)) : gb448 ≠ gb450)); have NB450_448 := Aside0.mk ((by rw [hg]; exact Nat.ne_of_gt (blk_lt (bk BK448.out)) : gb450 ≠ gb448)); have NB449_450 := Aside0.mk ((by rw [hg]; exact Nat.ne_of_lt (blk_lt (bk BK449.out)) : gb449 ≠ gb450)); have NB450_449 := Aside0.mk ((by rw [hg]; exact Nat.ne_of_gt (blk_lt (bk BK449.out)) : gb450 ≠ gb449)); replace BK448 := Aside0.mk (blk_below (bk BK448.out) hb); replace BK449 := Aside0.mk (blk_below (bk BK449.out) hb); replace HB := Aside0.mk (below_step bel hb); clear hb hbox hg; have hnb9 := NB448_449.out; have hnc9 := NB449_448.out; have hnb10 := NB448_450.out; have hnc10 := NB450_448.out; have hcz11_0 : w8.cell? ⟨gb448, 0, none⟩ = some (.bool a0_0) := (blk_cell BK448.out 0).trans rfl; have hcz11_1 : w8.cell? ⟨gb448, 1, none⟩ = some (.slice A0_1 l0_1.length c0_1) := (blk_cell BK448.out 1).trans rfl; have hfz11_0 := blk_frozen BK448.out 0; have hfz11_1 := blk_frozen BK448.out 1; have hnb12 := NB449_450.out; have hnc12 := NB450_449.out; have hcz13_0 : w8.cell? ⟨gb449, 0, none⟩ = some (.bool a1_0) := (blk_cell BK449.out 0).trans rfl; have hcz13_1 : w8.cell? ⟨gb449, 1, none⟩ = some (.slice A1_1 l1_1.length c1_1) := (blk_cell BK449.out 1).trans rfl; have hfz13_0 := blk_frozen BK449.out 0; have hfz13_1 := blk_frozen BK449.out 1))
  replace BK448 := Aside0.mk (blk_drew BK448.out)
  replace BK449 := Aside0.mk (blk_drew BK449.out)
  replace BK450 := Aside0.mk (blk_drew BK450.out)
  replace HB := Aside0.mk (below_drew1 HB.out)
  refine start_ (n := 9) (S := fun w' => w'.cell? ⟨gb448, 0, none⟩ = some (.bool a0_0) ∧ w'.cell? ⟨gb448, 1, none⟩ = some (.slice A0_1 l0_1.length c0_1) ∧ w'.cell? ⟨gb449, 0, none⟩ = some (.bool a1_0) ∧ w'.cell? ⟨gb449, 1, none⟩ = some (.slice A1_1 l1_1.length c1_1)) (ds := []) #[false, false, false, false, false, false, false, false, false] (by kernel_rfl) rfl rfl ⟨(blk_cell BK448.out 0).trans rfl, (blk_cell BK448.out 1).trans rfl, (blk_cell BK449.out 0).trans rfl, (blk_cell BK449.out 1).trans rfl⟩ (fun hHeld => ?_); refine with_tabW cellarerref02_Add.tab2 cellarerref02_Add.bits2 (fun HT_ HW_ => ?_)
  generalize w8.drew = w14 at BK448 BK449 BK450 HB hHeld ⊢
  refine pure_ (i := 0) (N := some 10) #[true, false, false, false, false, false, false, false, false] rfl rfl (any_of HT_.out (by kernel_rfl)) (fun _ _ _ h => h) (Or.inl ⟨by rfl, yv⟩) nm ?_
  refine pure_ (i := 2) (N := some 12) #[true, false, true, false, false, false, false, false, false] rfl rfl (any_of HT_.out (by kernel_rfl)) (fun _ _ _ h => h) (Or.inl ⟨by rfl, yv⟩) nm ?_
  refine pure_ (i := 4) (N := some 14) #[true, false, true, false, true, false, false, false, false] rfl rfl (any_of HT_.out (by kernel_rfl)) (fun _ _ _ h => h) (Or.inl ⟨by rfl, yv⟩) nm ?_
  refine take_ (i := 1) (N := some 11) #[true, true, true, false, true, false, false, false, false] rfl rfl (take_ofW HT_.out HW_.out (by kernel_rfl)) (fun _ _ _ h => h) (Or.inl ⟨by rfl, yt4⟩) hHeld nm ?_
  refine take_ (i := 3) (N := some 13) #[true, true, true, true, true, false, false, false, false] rfl rfl (take_ofW HT_.out HW_.out (by kernel_rfl)) (fun _ _ _ h => h) (Or.inl ⟨by rfl, yt4⟩) hHeld nm ?_
  refine take_ (i := 5) (N := some 15) #[true, true, true, true, true, true, false, false, false] rfl rfl (take_ofW HT_.out HW_.out (by kernel_rfl)) (fun _ _ _ h => h) (Or.inl ⟨by rfl, yt4⟩) hHeld nm ?_
  refine one_ (i := 6) (N := some 16) #[true, true, true, true, true, true, true, false, false] rfl rfl (one_of HT_.out (by kernel_rfl)) (by decide) (fun K hK => ?_)
  refine goes_ Tryd.func44 (by kernel_rfl) rfl #[.slice A0_1 l0_1.length c0_1, .slice A1_1 l1_1.length c1_1, .int .i64 1] (by rfl) rfl rfl ag ?_
  with_reducible refine (cellarerref02_plus.calls k _ _ l0_1 _ _ l1_1 1 t451 _ ?side1 ?side2 ?side3 ?side4 ?side5 A4.out).mono ?_
  (case side1 => exact GOK.below hG.out bel)
  (case side2 => exact kc ((Kd.C_below HR0_1.out HB.out)))
  (case side3 => exact HC0_1.out)
  (case side4 => exact kc ((Kd.C_below HR1_1.out HB.out)))
  (case side5 => exact HC1_1.out)
  rintro e w15 ⟨v452, rfl, ho0, hb⟩
  refine ⟨_, rfl, ?_⟩
  have HO453 := Aside0.mk (Kd.R_lower (Kd.R_newM (M := fun k_ => (w.heap.size ≤ k_)) ho0 (below_size bel) (fun k_ h_ => h_)) (below_size bel))
  replace BK448 := Aside0.mk (blk_below (bk BK448.out) hb)
  replace BK449 := Aside0.mk (blk_below (bk BK449.out) hb)
  replace BK450 := Aside0.mk (blk_below (bk BK450.out) hb)
  replace HB := Aside0.mk (below_step bel hb)
  clear hb ho0
  obtain ⟨Ao16, co16, eo16⟩ := Kd.R_slice HO453.out
  (first | subst eo16 | (injection eo16 with f1_ f2_ f3_; have f4_ := f1_.symm; have f5_ := f3_.symm; clear f1_ f2_ f3_; subst f4_; subst f5_))
  refine hK.out _ _ ⟨(blk_cell BK448.out 0).trans rfl, (blk_cell BK448.out 1).trans rfl, (blk_cell BK449.out 0).trans rfl, (blk_cell BK449.out 1).trans rfl⟩ (fun hHeld => ?_)
  clear hK K
  refine norm_ (a' := ?_) ?_ ?_
  rotate_left
  ·show Act.put _ (some 16) _ = _
   simp only [Act.put, List.setIfInBounds_toArray, List.set_cons_zero, List.set_cons_succ, i64_w, i32_w]
   rfl
  refine one_ (i := 7) (N := some 17) #[true, true, true, true, true, true, true, true, false] rfl rfl (one_of HT_.out (by kernel_rfl)) (by decide) (fun K hK => ?_)
  refine goes_ Tryd.func41 (by kernel_rfl) rfl #[.bool a0_0, .slice Ao16 t451.length co16] (by rfl) rfl rfl ag ?_
  with_reducible refine (cellarerref02_make0.calls k a0_0 (fun k_ => some k_ = (.slice Ao16 t451.length co16 : Value).ownBlock) _ _ t451 t454 t455 _ ?side1 ?side2 A5.out).mono ?_
  (case side1 => exact GOK.below hG.out bel)
  (case side2 => exact Kd.R_V (Kd.R_tight rfl (Kd.R_types (Kd.R_types (Kd.R_types HO453.out BK448.out (by decide)) BK449.out (by decide)) BK450.out (by decide))))
  rintro e w17 ⟨v456, rfl, ho0, hb⟩
  refine ⟨_, rfl, ?_⟩
  have HO457 := Aside0.mk (Kd.V_lower (Kd.V_mono (ok' := fun k_ => (w.heap.size ≤ k_) ∧ k_ ≠ gb448 ∧ k_ ≠ gb449 ∧ k_ ≠ gb450) ho0 (fun k_ hk_ => ⟨Or.elim hk_ (fun hs_ => ((Kd.R_types (Kd.R_types (Kd.R_types HO453.out BK448.out (by decide)) BK449.out (by decide)) BK450.out (by decide)).1 k_ hs_.symm).1.1.1.1) (fun hn_ => (Nat.le_trans (below_size bel) hn_)), Or.elim hk_ (fun hs_ => ((Kd.R_types (Kd.R_types (Kd.R_types HO453.out BK448.out (by decide)) BK449.out (by decide)) BK450.out (by decide)).1 k_ hs_.symm).1.1.2) (fun hn_ => (Kd.freshB (bk BK448.out) k_ hn_)), Or.elim hk_ (fun hs_ => ((Kd.R_types (Kd.R_types (Kd.R_types HO453.out BK448.out (by decide)) BK449.out (by decide)) BK450.out (by decide)).1 k_ hs_.symm).1.2) (fun hn_ => (Kd.freshB (bk BK449.out) k_ hn_)), Or.elim hk_ (fun hs_ => ((Kd.R_types (Kd.R_types (Kd.R_types HO453.out BK448.out (by decide)) BK449.out (by decide)) BK450.out (by decide)).1 k_ hs_.symm).2) (fun hn_ => (Kd.freshB (bk BK450.out) k_ hn_))⟩)) (below_size bel))
  replace HO453 := Aside0.mk (Kd.R_below (kr HO453.out) hb)
  replace BK448 := Aside0.mk (blk_below (bk BK448.out) hb)
  replace BK449 := Aside0.mk (blk_below (bk BK449.out) hb)
  replace BK450 := Aside0.mk (blk_below (bk BK450.out) hb)
  replace HB := Aside0.mk (below_step bel hb)
  clear hb ho0
  obtain ⟨Ao19, co19, eo19⟩ := Kd.V_slice HO457.out
  (first | subst eo19 | (injection eo19 with f1_ f2_ f3_; have f4_ := f1_.symm; have f5_ := f3_.symm; clear f1_ f2_ f3_; subst f4_; subst f5_))
  refine hK.out _ _ ⟨(blk_cell BK448.out 0).trans rfl, (blk_cell BK448.out 1).trans rfl, (blk_cell BK449.out 0).trans rfl, (blk_cell BK449.out 1).trans rfl⟩ (fun hHeld => ?_)
  clear hK K
  refine norm_ (a' := ?_) ?_ ?_
  rotate_left
  ·show Act.put _ (some 17) _ = _
   simp only [Act.put, List.setIfInBounds_toArray, List.set_cons_zero, List.set_cons_succ, i64_w, i32_w]
   rfl
  refine one_ (i := 8) (N := none) #[true, true, true, true, true, true, true, true, true] rfl rfl (one_of HT_.out (by kernel_rfl)) (by decide) (fun K hK => ?_)
  have hs18 : w17.cell? ⟨gb450, 0, none⟩ = some (.bool false) := (blk_cell BK450.out 0).trans rfl
  have hfs18 := blk_frozen BK450.out 0
  have hns18_0 := NB448_450.out
  have hns18_1 := NB449_450.out
  have hms18_0 := NB450_448.out
  have hms18_1 := NB450_449.out
  have hs20 : w17.cell? ⟨gb450, 1, none⟩ = some (.slice none 0 0) := (blk_cell BK450.out 1).trans rfl
  have hfs20 := blk_frozen BK450.out 1
  have hns20_0 := NB448_450.out
  have hns20_1 := NB449_450.out
  have hms20_0 := NB450_448.out
  have hms20_1 := NB450_449.out
  refine skip_ (w1 := ?_) (by rfl) rfl ?_ ?_
  rotate_left
  ·go_simp
   rfl
  refine hK.out _ _ ⟨((cell_far (p := ⟨gb450, _, none⟩) NB448_450.out _).trans (((cell_far (p := ⟨gb450, _, none⟩) NB448_450.out _).trans (hHeld.1)))), ((cell_far (p := ⟨gb450, _, none⟩) NB448_450.out _).trans (((cell_far (p := ⟨gb450, _, none⟩) NB448_450.out _).trans (hHeld.2.1)))), ((cell_far (p := ⟨gb450, _, none⟩) NB449_450.out _).trans (((cell_far (p := ⟨gb450, _, none⟩) NB449_450.out _).trans (hHeld.2.2.1)))), ((cell_far (p := ⟨gb450, _, none⟩) NB449_450.out _).trans (((cell_far (p := ⟨gb450, _, none⟩) NB449_450.out _).trans (hHeld.2.2.2))))⟩ (fun hHeld => ?_)
  clear hK K
  refine done_ (done_of HT_.out (by kernel_rfl)) ?_
  try go_wp2
  refine bodyPost_ret (results_cell_row rfl _ _ gb450 32 #[.bool t454, .slice Ao19 t455.length co19] (0, 0) _ rfl (by (with_reducible repeat (first | refine blk_drewN ?_ _ | refine blk_drew ?_ | refine blk_alloc ?_ _)); refine blk_put (cs := #[.bool t454, .slice none 0 0]) ?_ 1 _ rfl; (with_reducible repeat (first | refine blk_drewN ?_ _ | refine blk_drew ?_ | refine blk_alloc ?_ _)); refine blk_put (cs := #[.bool false, .slice none 0 0]) ?_ 0 _ rfl; (with_reducible repeat (first | refine blk_drewN ?_ _ | refine blk_drew ?_ | refine blk_alloc ?_ _)); exact BK450.out) Tryd.underlying32 rfl (by kernel_rfl)) rfl ?_
  exact ⟨_, by first | rfl | (simp [errW_none, errW_some] <;> rfl) | (simp [*, errW_none, errW_some] <;> rfl), kv (Kd.V_mono (Kd.V_far (p := ⟨gb450, 1, none⟩) (Kd.V_far (p := ⟨gb450, 0, none⟩) (Kd.V_mono HO457.out (fun k_ hk => (⟨hk, hk.2.2.2⟩ : _ ∧ k_ ≠ gb450))) (fun _ hk => hk.2) (.bool t454)) (fun _ hk => hk.2) (.slice Ao19 t455.length co19)) (fun _ hk => hk.1.1)), bel⟩
 ·rw [if_neg c3] at H
  have c3b0 : (a0_0 == a1_0) = false := by simpa using c3
  (try (have c3b1 : decide (a0_0 = a1_0) = false := by simpa using c3))
  (try (have c3b2 : (a0_0 == a1_0) = false := by simpa using c3))
  (try (have c3b3 : ¬ (a0_0 = a1_0) := by simpa using c3))
  clear c3
  obtain ⟨t458, A21, H⟩ := bind_ H
  try dsimp only at H
  by_cases c22 : t458 < 0
  ·rw [if_pos c22] at H
   have c22b0 : decide (t458 < 0) = true := decide_eq_true c22
   clear c22
   obtain ⟨t459, A23, H⟩ := bind_ H
   try dsimp only at H
   obtain ⟨⟨t462, t463⟩, A24, H⟩ := bind_ H
   try dsimp only at H
   simp only [Option.some.injEq, Prod.mk.injEq] at H
   obtain ⟨rfl, rfl⟩ := H
   go_enter Tryd.func24, Tryd.ntmps24
   try go_wp2_with (first | ((with_reducible refine gate_dst (N := 2) rfl ?_); refine box_event ?hg (N := 2) ?hd (cs := #[.bool a0_0, .slice A0_1 l0_1.length c0_1]) (t := 32) ?hr ?_; (case hd => rfl); (case hg => rfl); (case hr => first | (go_simp; done) | (go_simp; rfl)); intro gb448 hg w25 hbox hb; have BK448 := Aside0.mk (hbox); have GW448 := Aside0.mk ((by rw [hg]; exact (below_size bel) : w.heap.size ≤ gb448)); have GE448 := Aside0.mk ((by rw [hg]; exact (below_size bel) : w.heap.size ≤ gb448)); replace HB := Aside0.mk (below_step bel hb); clear hb hbox hg) | ((with_reducible refine gate_dst (N := 3) rfl ?_); refine box_event ?hg (N := 3) ?hd (cs := #[.bool a1_0, .slice A1_1 l1_1.length c1_1]) (t := 32) ?hr ?_; (case hd => rfl); (case hg => rfl); (case hr => first | (go_simp; done) | (go_simp; rfl)); intro gb449 hg w26 hbox hb; have BK449 := Aside0.mk (hbox); have GW449 := Aside0.mk ((by rw [hg]; exact (below_size bel) : w.heap.size ≤ gb449)); have GE449 := Aside0.mk ((by rw [hg]; exact (below_size bel) : w.heap.size ≤ gb449)); have NB448_449 := Aside0.mk ((by rw [hg]; exact Nat.ne_of_lt (blk_lt (bk BK448.out)) : gb448 ≠ gb449)); have NB449_448 := Aside0.mk ((by rw [hg]; exact Nat.ne_of_gt (blk_lt (bk BK448.out)) : gb449 ≠ gb448)); replace BK448 := Aside0.mk (blk_below (bk BK448.out) hb); replace HB := Aside0.mk (below_step bel hb); clear hb hbox hg) | ((with_reducible refine gate_dst (N := 4) rfl ?_); refine box_event ?hg (N := 4) ?hd (cs := #[.bool false, .slice none 0 0]) (t := 32) ?hr ?_; (case hd => rfl); (case hg => rfl); (case hr => first | (go_simp; done) | (go_simp; rfl)); intro gb450 hg w27 hbox hb; have BK450 := Aside0.mk (hbox); have GW450 := Aside0.mk ((by rw [hg]; exact (below_size bel) : w.heap.size ≤ gb450)); have GE450 := Aside0.mk ((by rw [hg]; exact (below_size bel) : w.heap.size ≤ gb450)); have NB448_450 := Aside0.mk ((by rw [hg]; exact Nat.ne_of_lt (blk_lt (bk BK448.out)) : gb448 ≠ gb450)); have NB450_448 := Aside0.mk ((by rw [hg]; exact Nat.ne_of_gt (blk_lt (bk BK448.out)) : gb450 ≠ gb448)); have NB449_450 := Aside0.mk ((by rw [hg]; exact Nat.ne_of_lt (blk_lt (bk BK449.out)) : gb449 ≠ gb450)); have NB450_449 := Aside0.mk ((by rw [hg]; exact Nat.ne_of_gt (blk_lt (bk BK449.out)) : gb450 ≠ gb449)); replace BK448 := Aside0.mk (blk_below (bk BK448.out) hb); replace BK449 := Aside0.mk (blk_below (bk BK449.out) hb); replace HB := Aside0.mk (below_step bel hb); clear hb hbox hg; have hnb28 := NB448_449.out; have hnc28 := NB449_448.out; have hnb29 := NB448_450.out; have hnc29 := NB450_448.out; have hcz30_0 : w27.cell? ⟨gb448, 0, none⟩ = some (.bool a0_0) := (blk_cell BK448.out 0).trans rfl; have hcz30_1 : w27.cell? ⟨gb448, 1, none⟩ = some (.slice A0_1 l0_1.length c0_1) := (blk_cell BK448.out 1).trans rfl; have hfz30_0 := blk_frozen BK448.out 0; have hfz30_1 := blk_frozen BK448.out 1; have hnb31 := NB449_450.out; have hnc31 := NB450_449.out; have hcz32_0 : w27.cell? ⟨gb449, 0, none⟩ = some (.bool a1_0) := (blk_cell BK449.out 0).trans rfl; have hcz32_1 : w27.cell? ⟨gb449, 1, none⟩ = some (.slice A1_1 l1_1.length c1_1) := (blk_cell BK449.out 1).trans rfl; have hfz32_0 := blk_frozen BK449.out 0; have hfz32_1 := blk_frozen BK449.out 1) | ((with_reducible refine gate_callee (f := 43) rfl ?_); refine goesL_ (some 22) rfl rfl Tryd.func43 (by kernel_rfl) rfl #[.slice A0_1 l0_1.length c0_1, .slice A1_1 l1_1.length c1_1] rfl ag ?_; (with_reducible refine (cellarerref02_cmp.calls k _ _ l0_1 _ _ l1_1 t458 _ gk ?side2 ?side3 ?side4 ?side5 A21.out).mono ?_); (case side2 => exact kc ((Kd.C_below HR0_1.out HB.out))); (case side3 => exact HC0_1.out); (case side4 => exact kc ((Kd.C_below HR1_1.out HB.out))); (case side5 => exact HC1_1.out); rintro e w' ⟨rfl, ⟨nd, rfl⟩⟩; refine ⟨_, rfl, ?_⟩; (try (rw [drewN_self w27]; generalize hq_ : World.drewN w27 _ = w27; have n0_ : Aside0 (w27.heap[gb448]? = some (.cells #[.bool a0_0, .slice A0_1 l0_1.length c0_1] 32 (0, 0))) := ⟨by rw [← hq_]; exact (bk BK448.out)⟩; have n1_ : Aside0 (w27.heap[gb449]? = some (.cells #[.bool a1_0, .slice A1_1 l1_1.length c1_1] 32 (0, 0))) := ⟨by rw [← hq_]; exact (bk BK449.out)⟩; have n2_ : Aside0 (w27.heap[gb450]? = some (.cells #[.bool false, .slice none 0 0] 32 (0, 0))) := ⟨by rw [← hq_]; exact (bk BK450.out)⟩; have n3_ : Aside0 (Below w.heap.size w w27) := ⟨by rw [← hq_]; exact bel⟩; clear BK448 BK449 BK450 HB hq_; have BK448 := n0_; have BK449 := n1_; have BK450 := n2_; have HB := n3_; clear n0_ n1_ n2_ n3_))))
   replace BK448 := Aside0.mk (blk_drew BK448.out)
   replace BK449 := Aside0.mk (blk_drew BK449.out)
   replace BK450 := Aside0.mk (blk_drew BK450.out)
   replace HB := Aside0.mk (below_drew1 HB.out)
   refine start_ (n := 9) (S := fun w' => w'.cell? ⟨gb449, 0, none⟩ = some (.bool a1_0) ∧ w'.cell? ⟨gb449, 1, none⟩ = some (.slice A1_1 l1_1.length c1_1) ∧ w'.cell? ⟨gb448, 0, none⟩ = some (.bool a0_0) ∧ w'.cell? ⟨gb448, 1, none⟩ = some (.slice A0_1 l0_1.length c0_1)) (ds := []) #[false, false, false, false, false, false, false, false, false] (by kernel_rfl) rfl rfl ⟨(blk_cell BK449.out 0).trans rfl, (blk_cell BK449.out 1).trans rfl, (blk_cell BK448.out 0).trans rfl, (blk_cell BK448.out 1).trans rfl⟩ (fun hHeld => ?_); refine with_tabW cellarerref02_Add.tab4 cellarerref02_Add.bits4 (fun HT_ HW_ => ?_)
   generalize w27.drew = w33 at BK448 BK449 BK450 HB hHeld ⊢
   refine pure_ (i := 0) (N := some 24) #[true, false, false, false, false, false, false, false, false] rfl rfl (any_of HT_.out (by kernel_rfl)) (fun _ _ _ h => h) (Or.inl ⟨by rfl, yv⟩) nm ?_
   refine pure_ (i := 2) (N := some 26) #[true, false, true, false, false, false, false, false, false] rfl rfl (any_of HT_.out (by kernel_rfl)) (fun _ _ _ h => h) (Or.inl ⟨by rfl, yv⟩) nm ?_
   refine pure_ (i := 4) (N := some 28) #[true, false, true, false, true, false, false, false, false] rfl rfl (any_of HT_.out (by kernel_rfl)) (fun _ _ _ h => h) (Or.inl ⟨by rfl, yv⟩) nm ?_
   refine take_ (i := 1) (N := some 25) #[true, true, true, false, true, false, false, false, false] rfl rfl (take_ofW HT_.out HW_.out (by kernel_rfl)) (fun _ _ _ h => h) (Or.inl ⟨by rfl, yt4⟩) hHeld nm ?_
   refine take_ (i := 3) (N := some 27) #[true, true, true, true, true, false, false, false, false] rfl rfl (take_ofW HT_.out HW_.out (by kernel_rfl)) (fun _ _ _ h => h) (Or.inl ⟨by rfl, yt4⟩) hHeld nm ?_
   refine take_ (i := 5) (N := some 29) #[true, true, true, true, true, true, false, false, false] rfl rfl (take_ofW HT_.out HW_.out (by kernel_rfl)) (fun _ _ _ h => h) (Or.inl ⟨by rfl, yt4⟩) hHeld nm ?_
   refine one_ (i := 6) (N := some 30) #[true, true, true, true, true, true, true, false, false] rfl rfl (one_of HT_.out (by kernel_rfl)) (by decide) (fun K hK => ?_)
   refine goes_ Tryd.func44 (by kernel_rfl) rfl #[.slice A1_1 l1_1.length c1_1, .slice A0_1 l0_1.length c0_1, .int .i64 (-1)] (by rfl) rfl rfl ag ?_
   with_reducible refine (cellarerref02_plus.calls k _ _ l1_1 _ _ l0_1 (-1) t459 _ ?side1 ?side2 ?side3 ?side4 ?side5 A23.out).mono ?_
   (case side1 => exact GOK.below hG.out bel)
   (case side2 => exact kc ((Kd.C_below HR1_1.out HB.out)))
   (case side3 => exact HC1_1.out)
   (case side4 => exact kc ((Kd.C_below HR0_1.out HB.out)))
   (case side5 => exact HC0_1.out)
   rintro e w34 ⟨v460, rfl, ho0, hb⟩
   refine ⟨_, rfl, ?_⟩
   have HO461 := Aside0.mk (Kd.R_lower (Kd.R_newM (M := fun k_ => (w.heap.size ≤ k_)) ho0 (below_size bel) (fun k_ h_ => h_)) (below_size bel))
   replace BK448 := Aside0.mk (blk_below (bk BK448.out) hb)
   replace BK449 := Aside0.mk (blk_below (bk BK449.out) hb)
   replace BK450 := Aside0.mk (blk_below (bk BK450.out) hb)
   replace HB := Aside0.mk (below_step bel hb)
   clear hb ho0
   obtain ⟨Ao35, co35, eo35⟩ := Kd.R_slice HO461.out
   (first | subst eo35 | (injection eo35 with f1_ f2_ f3_; have f4_ := f1_.symm; have f5_ := f3_.symm; clear f1_ f2_ f3_; subst f4_; subst f5_))
   refine hK.out _ _ ⟨(blk_cell BK449.out 0).trans rfl, (blk_cell BK449.out 1).trans rfl, (blk_cell BK448.out 0).trans rfl, (blk_cell BK448.out 1).trans rfl⟩ (fun hHeld => ?_)
   clear hK K
   refine norm_ (a' := ?_) ?_ ?_
   rotate_left
   ·show Act.put _ (some 30) _ = _
    simp only [Act.put, List.setIfInBounds_toArray, List.set_cons_zero, List.set_cons_succ, i64_w, i32_w]
    rfl
   refine one_ (i := 7) (N := some 31) #[true, true, true, true, true, true, true, true, false] rfl rfl (one_of HT_.out (by kernel_rfl)) (by decide) (fun K hK => ?_)
   refine goes_ Tryd.func41 (by kernel_rfl) rfl #[.bool a1_0, .slice Ao35 t459.length co35] (by rfl) rfl rfl ag ?_
   with_reducible refine (cellarerref02_make0.calls k a1_0 (fun k_ => some k_ = (.slice Ao35 t459.length co35 : Value).ownBlock) _ _ t459 t462 t463 _ ?side1 ?side2 A24.out).mono ?_
   (case side1 => exact GOK.below hG.out bel)
   (case side2 => exact Kd.R_V (Kd.R_tight rfl (Kd.R_types (Kd.R_types (Kd.R_types HO461.out BK448.out (by decide)) BK449.out (by decide)) BK450.out (by decide))))
   rintro e w36 ⟨v464, rfl, ho0, hb⟩
   refine ⟨_, rfl, ?_⟩
   have HO465 := Aside0.mk (Kd.V_lower (Kd.V_mono (ok' := fun k_ => (w.heap.size ≤ k_) ∧ k_ ≠ gb448 ∧ k_ ≠ gb449 ∧ k_ ≠ gb450) ho0 (fun k_ hk_ => ⟨Or.elim hk_ (fun hs_ => ((Kd.R_types (Kd.R_types (Kd.R_types HO461.out BK448.out (by decide)) BK449.out (by decide)) BK450.out (by decide)).1 k_ hs_.symm).1.1.1.1) (fun hn_ => (Nat.le_trans (below_size bel) hn_)), Or.elim hk_ (fun hs_ => ((Kd.R_types (Kd.R_types (Kd.R_types HO461.out BK448.out (by decide)) BK449.out (by decide)) BK450.out (by decide)).1 k_ hs_.symm).1.1.2) (fun hn_ => (Kd.freshB (bk BK448.out) k_ hn_)), Or.elim hk_ (fun hs_ => ((Kd.R_types (Kd.R_types (Kd.R_types HO461.out BK448.out (by decide)) BK449.out (by decide)) BK450.out (by decide)).1 k_ hs_.symm).1.2) (fun hn_ => (Kd.freshB (bk BK449.out) k_ hn_)), Or.elim hk_ (fun hs_ => ((Kd.R_types (Kd.R_types (Kd.R_types HO461.out BK448.out (by decide)) BK449.out (by decide)) BK450.out (by decide)).1 k_ hs_.symm).2) (fun hn_ => (Kd.freshB (bk BK450.out) k_ hn_))⟩)) (below_size bel))
   replace HO461 := Aside0.mk (Kd.R_below (kr HO461.out) hb)
   replace BK448 := Aside0.mk (blk_below (bk BK448.out) hb)
   replace BK449 := Aside0.mk (blk_below (bk BK449.out) hb)
   replace BK450 := Aside0.mk (blk_below (bk BK450.out) hb)
   replace HB := Aside0.mk (below_step bel hb)
   clear hb ho0
   obtain ⟨Ao38, co38, eo38⟩ := Kd.V_slice HO465.out
   (first | subst eo38 | (injection eo38 with f1_ f2_ f3_; have f4_ := f1_.symm; have f5_ := f3_.symm; clear f1_ f2_ f3_; subst f4_; subst f5_))
   refine hK.out _ _ ⟨(blk_cell BK449.out 0).trans rfl, (blk_cell BK449.out 1).trans rfl, (blk_cell BK448.out 0).trans rfl, (blk_cell BK448.out 1).trans rfl⟩ (fun hHeld => ?_)
   clear hK K
   refine norm_ (a' := ?_) ?_ ?_
   rotate_left
   ·show Act.put _ (some 31) _ = _
    simp only [Act.put, List.setIfInBounds_toArray, List.set_cons_zero, List.set_cons_succ, i64_w, i32_w]
    rfl
   refine one_ (i := 8) (N := none) #[true, true, true, true, true, true, true, true, true] rfl rfl (one_of HT_.out (by kernel_rfl)) (by decide) (fun K hK => ?_)
   have hs37 : w36.cell? ⟨gb450, 0, none⟩ = some (.bool false) := (blk_cell BK450.out 0).trans rfl
   have hfs37 := blk_frozen BK450.out 0
   have hns37_0 := NB448_450.out
   have hns37_1 := NB449_450.out
   have hms37_0 := NB450_448.out
   have hms37_1 := NB450_449.out
   have hs39 : w36.cell? ⟨gb450, 1, none⟩ = some (.slice none 0 0) := (blk_cell BK450.out 1).trans rfl
   have hfs39 := blk_frozen BK450.out 1
   have hns39_0 := NB448_450.out
   have hns39_1 := NB449_450.out
   have hms39_0 := NB450_448.out
   have hms39_1 := NB450_449.out
   refine skip_ (w1 := ?_) (by rfl) rfl ?_ ?_
   rotate_left
   ·go_simp
    rfl
   refine hK.out _ _ ⟨((cell_far (p := ⟨gb450, _, none⟩) NB449_450.out _).trans (((cell_far (p := ⟨gb450, _, none⟩) NB449_450.out _).trans (hHeld.1)))), ((cell_far (p := ⟨gb450, _, none⟩) NB449_450.out _).trans (((cell_far (p := ⟨gb450, _, none⟩) NB449_450.out _).trans (hHeld.2.1)))), ((cell_far (p := ⟨gb450, _, none⟩) NB448_450.out _).trans (((cell_far (p := ⟨gb450, _, none⟩) NB448_450.out _).trans (hHeld.2.2.1)))), ((cell_far (p := ⟨gb450, _, none⟩) NB448_450.out _).trans (((cell_far (p := ⟨gb450, _, none⟩) NB448_450.out _).trans (hHeld.2.2.2))))⟩ (fun hHeld => ?_)
   clear hK K
   refine done_ (done_of HT_.out (by kernel_rfl)) ?_
   try go_wp2
   refine bodyPost_ret (results_cell_row rfl _ _ gb450 32 #[.bool t462, .slice Ao38 t463.length co38] (0, 0) _ rfl (by (with_reducible repeat (first | refine blk_drewN ?_ _ | refine blk_drew ?_ | refine blk_alloc ?_ _)); refine blk_put (cs := #[.bool t462, .slice none 0 0]) ?_ 1 _ rfl; (with_reducible repeat (first | refine blk_drewN ?_ _ | refine blk_drew ?_ | refine blk_alloc ?_ _)); refine blk_put (cs := #[.bool false, .slice none 0 0]) ?_ 0 _ rfl; (with_reducible repeat (first | refine blk_drewN ?_ _ | refine blk_drew ?_ | refine blk_alloc ?_ _)); exact BK450.out) Tryd.underlying32 rfl (by kernel_rfl)) rfl ?_
   exact ⟨_, by first | rfl | (simp [errW_none, errW_some] <;> rfl) | (simp [*, errW_none, errW_some] <;> rfl), kv (Kd.V_mono (Kd.V_far (p := ⟨gb450, 1, none⟩) (Kd.V_far (p := ⟨gb450, 0, none⟩) (Kd.V_mono HO465.out (fun k_ hk => (⟨hk, hk.2.2.2⟩ : _ ∧ k_ ≠ gb450))) (fun _ hk => hk.2) (.bool t462)) (fun _ hk => hk.2) (.slice Ao38 t463.length co38)) (fun _ hk => hk.1.1)), bel⟩
  ·rw [if_neg c22] at H
   have c22b0 : decide (t458 < 0) = false := decide_eq_false c22
   clear c22
   obtain ⟨t466, A40, H⟩ := bind_ H
   try dsimp only at H
   obtain ⟨⟨t469, t470⟩, A41, H⟩ := bind_ H
   try dsimp only at H
   simp only [Option.some.injEq, Prod.mk.injEq] at H
   obtain ⟨rfl, rfl⟩ := H
   go_enter Tryd.func24, Tryd.ntmps24
   try go_wp2_with (first | ((with_reducible refine gate_dst (N := 2) rfl ?_); refine box_event ?hg (N := 2) ?hd (cs := #[.bool a0_0, .slice A0_1 l0_1.length c0_1]) (t := 32) ?hr ?_; (case hd => rfl); (case hg => rfl); (case hr => first | (go_simp; done) | (go_simp; rfl)); intro gb448 hg w42 hbox hb; have BK448 := Aside0.mk (hbox); have GW448 := Aside0.mk ((by rw [hg]; exact (below_size bel) : w.heap.size ≤ gb448)); have GE448 := Aside0.mk ((by rw [hg]; exact (below_size bel) : w.heap.size ≤ gb448)); replace HB := Aside0.mk (below_step bel hb); clear hb hbox hg) | ((with_reducible refine gate_dst (N := 3) rfl ?_); refine box_event ?hg (N := 3) ?hd (cs := #[.bool a1_0, .slice A1_1 l1_1.length c1_1]) (t := 32) ?hr ?_; (case hd => rfl); (case hg => rfl); (case hr => first | (go_simp; done) | (go_simp; rfl)); intro gb449 hg w43 hbox hb; have BK449 := Aside0.mk (hbox); have GW449 := Aside0.mk ((by rw [hg]; exact (below_size bel) : w.heap.size ≤ gb449)); have GE449 := Aside0.mk ((by rw [hg]; exact (below_size bel) : w.heap.size ≤ gb449)); have NB448_449 := Aside0.mk ((by rw [hg]; exact Nat.ne_of_lt (blk_lt (bk BK448.out)) : gb448 ≠ gb449)); have NB449_448 := Aside0.mk ((by rw [hg]; exact Nat.ne_of_gt (blk_lt (bk BK448.out)) : gb449 ≠ gb448)); replace BK448 := Aside0.mk (blk_below (bk BK448.out) hb); replace HB := Aside0.mk (below_step bel hb); clear hb hbox hg) | ((with_reducible refine gate_dst (N := 4) rfl ?_); refine box_event ?hg (N := 4) ?hd (cs := #[.bool false, .slice none 0 0]) (t := 32) ?hr ?_; (case hd => rfl); (case hg => rfl); (case hr => first | (go_simp; done) | (go_simp; rfl)); intro gb450 hg w44 hbox hb; have BK450 := Aside0.mk (hbox); have GW450 := Aside0.mk ((by rw [hg]; exact (below_size bel) : w.heap.size ≤ gb450)); have GE450 := Aside0.mk ((by rw [hg]; exact (below_size bel) : w.heap.size ≤ gb450)); have NB448_450 := Aside0.mk ((by rw [hg]; exact Nat.ne_of_lt (blk_lt (bk BK448.out)) : gb448 ≠ gb450)); have NB450_448 := Aside0.mk ((by rw [hg]; exact Nat.ne_of_gt (blk_lt (bk BK448.out)) : gb450 ≠ gb448)); have NB449_450 := Aside0.mk ((by rw [hg]; exact Nat.ne_of_lt (blk_lt (bk BK449.out)) : gb449 ≠ gb450)); have NB450_449 := Aside0.mk ((by rw [hg]; exact Nat.ne_of_gt (blk_lt (bk BK449.out)) : gb450 ≠ gb449)); replace BK448 := Aside0.mk (blk_below (bk BK448.out) hb); replace BK449 := Aside0.mk (blk_below (bk BK449.out) hb); replace HB := Aside0.mk (below_step bel hb); clear hb hbox hg; have hnb45 := NB448_449.out; have hnc45 := NB449_448.out; have hnb46 := NB448_450.out; have hnc46 := NB450_448.out; have hcz47_0 : w44.cell? ⟨gb448, 0, none⟩ = some (.bool a0_0) := (blk_cell BK448.out 0).trans rfl; have hcz47_1 : w44.cell? ⟨gb448, 1, none⟩ = some (.slice A0_1 l0_1.length c0_1) := (blk_cell BK448.out 1).trans rfl; have hfz47_0 := blk_frozen BK448.out 0; have hfz47_1 := blk_frozen BK448.out 1; have hnb48 := NB449_450.out; have hnc48 := NB450_449.out; have hcz49_0 : w44.cell? ⟨gb449, 0, none⟩ = some (.bool a1_0) := (blk_cell BK449.out 0).trans rfl; have hcz49_1 : w44.cell? ⟨gb449, 1, none⟩ = some (.slice A1_1 l1_1.length c1_1) := (blk_cell BK449.out 1).trans rfl; have hfz49_0 := blk_frozen BK449.out 0; have hfz49_1 := blk_frozen BK449.out 1) | ((with_reducible refine gate_callee (f := 43) rfl ?_); refine goesL_ (some 22) rfl rfl Tryd.func43 (by kernel_rfl) rfl #[.slice A0_1 l0_1.length c0_1, .slice A1_1 l1_1.length c1_1] rfl ag ?_; (with_reducible refine (cellarerref02_cmp.calls k _ _ l0_1 _ _ l1_1 t458 _ gk ?side2 ?side3 ?side4 ?side5 A21.out).mono ?_); (case side2 => exact kc ((Kd.C_below HR0_1.out HB.out))); (case side3 => exact HC0_1.out); (case side4 => exact kc ((Kd.C_below HR1_1.out HB.out))); (case side5 => exact HC1_1.out); rintro e w' ⟨rfl, ⟨nd, rfl⟩⟩; refine ⟨_, rfl, ?_⟩; (try (rw [drewN_self w44]; generalize hq_ : World.drewN w44 _ = w44; have n0_ : Aside0 (w44.heap[gb448]? = some (.cells #[.bool a0_0, .slice A0_1 l0_1.length c0_1] 32 (0, 0))) := ⟨by rw [← hq_]; exact (bk BK448.out)⟩; have n1_ : Aside0 (w44.heap[gb449]? = some (.cells #[.bool a1_0, .slice A1_1 l1_1.length c1_1] 32 (0, 0))) := ⟨by rw [← hq_]; exact (bk BK449.out)⟩; have n2_ : Aside0 (w44.heap[gb450]? = some (.cells #[.bool false, .slice none 0 0] 32 (0, 0))) := ⟨by rw [← hq_]; exact (bk BK450.out)⟩; have n3_ : Aside0 (Below w.heap.size w w44) := ⟨by rw [← hq_]; exact bel⟩; clear BK448 BK449 BK450 HB hq_; have BK448 := n0_; have BK449 := n1_; have BK450 := n2_; have HB := n3_; clear n0_ n1_ n2_ n3_))))
   replace BK448 := Aside0.mk (blk_drew BK448.out)
   replace BK449 := Aside0.mk (blk_drew BK449.out)
   replace BK450 := Aside0.mk (blk_drew BK450.out)
   replace HB := Aside0.mk (below_drew1 HB.out)
   refine start_ (n := 9) (S := fun w' => w'.cell? ⟨gb448, 0, none⟩ = some (.bool a0_0) ∧ w'.cell? ⟨gb448, 1, none⟩ = some (.slice A0_1 l0_1.length c0_1) ∧ w'.cell? ⟨gb449, 0, none⟩ = some (.bool a1_0) ∧ w'.cell? ⟨gb449, 1, none⟩ = some (.slice A1_1 l1_1.length c1_1)) (ds := []) #[false, false, false, false, false, false, false, false, false] (by kernel_rfl) rfl rfl ⟨(blk_cell BK448.out 0).trans rfl, (blk_cell BK448.out 1).trans rfl, (blk_cell BK449.out 0).trans rfl, (blk_cell BK449.out 1).trans rfl⟩ (fun hHeld => ?_); refine with_tabW cellarerref02_Add.tab5 cellarerref02_Add.bits5 (fun HT_ HW_ => ?_)
   generalize w44.drew = w50 at BK448 BK449 BK450 HB hHeld ⊢
   refine pure_ (i := 0) (N := some 32) #[true, false, false, false, false, false, false, false, false] rfl rfl (any_of HT_.out (by kernel_rfl)) (fun _ _ _ h => h) (Or.inl ⟨by rfl, yv⟩) nm ?_
   refine pure_ (i := 2) (N := some 34) #[true, false, true, false, false, false, false, false, false] rfl rfl (any_of HT_.out (by kernel_rfl)) (fun _ _ _ h => h) (Or.inl ⟨by rfl, yv⟩) nm ?_
   refine pure_ (i := 4) (N := some 36) #[true, false, true, false, true, false, false, false, false] rfl rfl (any_of HT_.out (by kernel_rfl)) (fun _ _ _ h => h) (Or.inl ⟨by rfl, yv⟩) nm ?_
   refine take_ (i := 1) (N := some 33) #[true, true, true, false, true, false, false, false, false] rfl rfl (take_ofW HT_.out HW_.out (by kernel_rfl)) (fun _ _ _ h => h) (Or.inl ⟨by rfl, yt4⟩) hHeld nm ?_
   refine take_ (i := 3) (N := some 35) #[true, true, true, true, true, false, false, false, false] rfl rfl (take_ofW HT_.out HW_.out (by kernel_rfl)) (fun _ _ _ h => h) (Or.inl ⟨by rfl, yt4⟩) hHeld nm ?_
   refine take_ (i := 5) (N := some 37) #[true, true, true, true, true, true, false, false, false] rfl rfl (take_ofW HT_.out HW_.out (by kernel_rfl)) (fun _ _ _ h => h) (Or.inl ⟨by rfl, yt4⟩) hHeld nm ?_
   refine one_ (i := 6) (N := some 38) #[true, true, true, true, true, true, true, false, false] rfl rfl (one_of HT_.out (by kernel_rfl)) (by decide) (fun K hK => ?_)
   refine goes_ Tryd.func44 (by kernel_rfl) rfl #[.slice A0_1 l0_1.length c0_1, .slice A1_1 l1_1.length c1_1, .int .i64 (-1)] (by rfl) rfl rfl ag ?_
   with_reducible refine (cellarerref02_plus.calls k _ _ l0_1 _ _ l1_1 (-1) t466 _ ?side1 ?side2 ?side3 ?side4 ?side5 A40.out).mono ?_
   (case side1 => exact GOK.below hG.out bel)
   (case side2 => exact kc ((Kd.C_below HR0_1.out HB.out)))
   (case side3 => exact HC0_1.out)
   (case side4 => exact kc ((Kd.C_below HR1_1.out HB.out)))
   (case side5 => exact HC1_1.out)
   rintro e w51 ⟨v467, rfl, ho0, hb⟩
   refine ⟨_, rfl, ?_⟩
   have HO468 := Aside0.mk (Kd.R_lower (Kd.R_newM (M := fun k_ => (w.heap.size ≤ k_)) ho0 (below_size bel) (fun k_ h_ => h_)) (below_size bel))
   replace BK448 := Aside0.mk (blk_below (bk BK448.out) hb)
   replace BK449 := Aside0.mk (blk_below (bk BK449.out) hb)
   replace BK450 := Aside0.mk (blk_below (bk BK450.out) hb)
   replace HB := Aside0.mk (below_step bel hb)
   clear hb ho0
   obtain ⟨Ao52, co52, eo52⟩ := Kd.R_slice HO468.out
   (first | subst eo52 | (injection eo52 with f1_ f2_ f3_; have f4_ := f1_.symm; have f5_ := f3_.symm; clear f1_ f2_ f3_; subst f4_; subst f5_))
   refine hK.out _ _ ⟨(blk_cell BK448.out 0).trans rfl, (blk_cell BK448.out 1).trans rfl, (blk_cell BK449.out 0).trans rfl, (blk_cell BK449.out 1).trans rfl⟩ (fun hHeld => ?_)
   clear hK K
   refine norm_ (a' := ?_) ?_ ?_
   rotate_left
   ·show Act.put _ (some 38) _ = _
    simp only [Act.put, List.setIfInBounds_toArray, List.set_cons_zero, List.set_cons_succ, i64_w, i32_w]
    rfl
   refine one_ (i := 7) (N := some 39) #[true, true, true, true, true, true, true, true, false] rfl rfl (one_of HT_.out (by kernel_rfl)) (by decide) (fun K hK => ?_)
   refine goes_ Tryd.func41 (by kernel_rfl) rfl #[.bool a0_0, .slice Ao52 t466.length co52] (by rfl) rfl rfl ag ?_
   with_reducible refine (cellarerref02_make0.calls k a0_0 (fun k_ => some k_ = (.slice Ao52 t466.length co52 : Value).ownBlock) _ _ t466 t469 t470 _ ?side1 ?side2 A41.out).mono ?_
   (case side1 => exact GOK.below hG.out bel)
   (case side2 => exact Kd.R_V (Kd.R_tight rfl (Kd.R_types (Kd.R_types (Kd.R_types HO468.out BK448.out (by decide)) BK449.out (by decide)) BK450.out (by decide))))
   rintro e w53 ⟨v471, rfl, ho0, hb⟩
   refine ⟨_, rfl, ?_⟩
   have HO472 := Aside0.mk (Kd.V_lower (Kd.V_mono (ok' := fun k_ => (w.heap.size ≤ k_) ∧ k_ ≠ gb448 ∧ k_ ≠ gb449 ∧ k_ ≠ gb450) ho0 (fun k_ hk_ => ⟨Or.elim hk_ (fun hs_ => ((Kd.R_types (Kd.R_types (Kd.R_types HO468.out BK448.out (by decide)) BK449.out (by decide)) BK450.out (by decide)).1 k_ hs_.symm).1.1.1.1) (fun hn_ => (Nat.le_trans (below_size bel) hn_)), Or.elim hk_ (fun hs_ => ((Kd.R_types (Kd.R_types (Kd.R_types HO468.out BK448.out (by decide)) BK449.out (by decide)) BK450.out (by decide)).1 k_ hs_.symm).1.1.2) (fun hn_ => (Kd.freshB (bk BK448.out) k_ hn_)), Or.elim hk_ (fun hs_ => ((Kd.R_types (Kd.R_types (Kd.R_types HO468.out BK448.out (by decide)) BK449.out (by decide)) BK450.out (by decide)).1 k_ hs_.symm).1.2) (fun hn_ => (Kd.freshB (bk BK449.out) k_ hn_)), Or.elim hk_ (fun hs_ => ((Kd.R_types (Kd.R_types (Kd.R_types HO468.out BK448.out (by decide)) BK449.out (by decide)) BK450.out (by decide)).1 k_ hs_.symm).2) (fun hn_ => (Kd.freshB (bk BK450.out) k_ hn_))⟩)) (below_size bel))
   replace HO468 := Aside0.mk (Kd.R_below (kr HO468.out) hb)
   replace BK448 := Aside0.mk (blk_below (bk BK448.out) hb)
   replace BK449 := Aside0.mk (blk_below (bk BK449.out) hb)
   replace BK450 := Aside0.mk (blk_below (bk BK450.out) hb)
   replace HB := Aside0.mk (below_step bel hb)
   clear hb ho0
   obtain ⟨Ao55, co55, eo55⟩ := Kd.V_slice HO472.out
   (first | subst eo55 | (injection eo55 with f1_ f2_ f3_; have f4_ := f1_.symm; have f5_ := f3_.symm; clear f1_ f2_ f3_; subst f4_; subst f5_))
   refine hK.out _ _ ⟨(blk_cell BK448.out 0).trans rfl, (blk_cell BK448.out 1).trans rfl, (blk_cell BK449.out 0).trans rfl, (blk_cell BK449.out 1).trans rfl⟩ (fun hHeld => ?_)
   clear hK K
   refine norm_ (a' := ?_) ?_ ?_
   rotate_left
   ·show Act.put _ (some 39) _ = _
    simp only [Act.put, List.setIfInBounds_toArray, List.set_cons_zero, List.set_cons_succ, i64_w, i32_w]
    rfl
   refine one_ (i := 8) (N := none) #[true, true, true, true, true, true, true, true, true] rfl rfl (one_of HT_.out (by kernel_rfl)) (by decide) (fun K hK => ?_)
   have hs54 : w53.cell? ⟨gb450, 0, none⟩ = some (.bool false) := (blk_cell BK450.out 0).trans rfl
   have hfs54 := blk_frozen BK450.out 0
   have hns54_0 := NB448_450.out
   have hns54_1 := NB449_450.out
   have hms54_0 := NB450_448.out
   have hms54_1 := NB450_449.out
   have hs56 : w53.cell? ⟨gb450, 1, none⟩ = some (.slice none 0 0) := (blk_cell BK450.out 1).trans rfl
   have hfs56 := blk_frozen BK450.out 1
   have hns56_0 := NB448_450.out
   have hns56_1 := NB449_450.out
   have hms56_0 := NB450_448.out
   have hms56_1 := NB450_449.out
   refine skip_ (w1 := ?_) (by rfl) rfl ?_ ?_
   rotate_left
   ·go_simp
    rfl
   refine hK.out _ _ ⟨((cell_far (p := ⟨gb450, _, none⟩) NB448_450.out _).trans (((cell_far (p := ⟨gb450, _, none⟩) NB448_450.out _).trans (hHeld.1)))), ((cell_far (p := ⟨gb450, _, none⟩) NB448_450.out _).trans (((cell_far (p := ⟨gb450, _, none⟩) NB448_450.out _).trans (hHeld.2.1)))), ((cell_far (p := ⟨gb450, _, none⟩) NB449_450.out _).trans (((cell_far (p := ⟨gb450, _, none⟩) NB449_450.out _).trans (hHeld.2.2.1)))), ((cell_far (p := ⟨gb450, _, none⟩) NB449_450.out _).trans (((cell_far (p := ⟨gb450, _, none⟩) NB449_450.out _).trans (hHeld.2.2.2))))⟩ (fun hHeld => ?_)
   clear hK K
   refine done_ (done_of HT_.out (by kernel_rfl)) ?_
   try go_wp2
   refine bodyPost_ret (results_cell_row rfl _ _ gb450 32 #[.bool t469, .slice Ao55 t470.length co55] (0, 0) _ rfl (by (with_reducible repeat (first | refine blk_drewN ?_ _ | refine blk_drew ?_ | refine blk_alloc ?_ _)); refine blk_put (cs := #[.bool t469, .slice none 0 0]) ?_ 1 _ rfl; (with_reducible repeat (first | refine blk_drewN ?_ _ | refine blk_drew ?_ | refine blk_alloc ?_ _)); refine blk_put (cs := #[.bool false, .slice none 0 0]) ?_ 0 _ rfl; (with_reducible repeat (first | refine blk_drewN ?_ _ | refine blk_drew ?_ | refine blk_alloc ?_ _)); exact BK450.out) Tryd.underlying32 rfl (by kernel_rfl)) rfl ?_
   exact ⟨_, by first | rfl | (simp [errW_none, errW_some] <;> rfl) | (simp [*, errW_none, errW_some] <;> rfl), kv (Kd.V_mono (Kd.V_far (p := ⟨gb450, 1, none⟩) (Kd.V_far (p := ⟨gb450, 0, none⟩) (Kd.V_mono HO472.out (fun k_ hk => (⟨hk, hk.2.2.2⟩ : _ ∧ k_ ≠ gb450))) (fun _ hk => hk.2) (.bool t469)) (fun _ hk => hk.2) (.slice Ao55 t470.length co55)) (fun _ hk => hk.1.1)), bel⟩

end Go.Proofs.YtdnjlmoggnbknaaDoor.PInt
