-- Written by a program of this session's (xprint.py) over the kit's print.
import Derived.Test.YtdnjlmoggnbknaaDoorPIntx0
import Derived.Test.YtdnjlmoggnbknaaDoorPIntx1
import Derived.Test.YtdnjlmoggnbknaaDoorPIntx2
import Derived.Test.YtdnjlmoggnbknaaDoorPIntx3
import Derived.Test.YtdnjlmoggnbknaaDoorPIntD
import Derived.Test.YtdnjlmoggnbknaaDoorAuto
namespace Go.Proofs.YtdnjlmoggnbknaaDoor.PInt
open Go.RowKit Go.Proofs.YtdnjlmoggnbknaaDoor.Ext Go.Proofs.YtdnjlmoggnbknaaDoorW.PrintWords Go.Proofs.YtdnjlmoggnbknaaDoorW.PrintLast Go.Proofs.YtdnjlmoggnbknaaDoorW.PrintMore
attribute [local go_sem high] gtr_print leq_print
attribute [local go_sem] max2_int min2_int max_two min_two max_three min_three max_four min_four   -- for this text's walks alone
set_option linter.unusedVariables false
set_option linter.unusedSimpArgs false

/-! ### integer_divide: function 37 -/
set_option maxHeartbeats 8000000 in
set_option maxRecDepth 100000 in
theorem integer_divide.calls (k : Nat) (P0_ : Nat → Prop) (A0 : Option Addr) (c0 : Nat) (l0 : List Int) (A1 : Option Addr) (c1 : Nat) (l1 : List Int) (r1 : List Int) (r2 : List Int) (w : World) (hG : GOK w) (hs0 : Kd.V (Kd.int .u64) 57 w w.heap.size (fun k_ => P0_ k_) (.slice A0 l0.length c0) l0) (hr1 : Kd.C (Kd.int .u64) w A1 l1.length l1) (hc1 : l1.length ≤ c1) (h : integer_divide.f k l0 l1 = some (r1, r2)) :
  Calls Tryd.prog 37 #[.slice A0 l0.length c0, .slice A1 l1.length c1] w fun e w' => ∃ v0_ v1_ : Value, e = .returned (.tuple #[v0_, v1_]) ∧ Kd.V (Kd.int .u64) 57 w' w.heap.size (fun k_ => (P0_ k_ ∨ w.heap.size ≤ k_)) v0_ r1 ∧ Kd.V (Kd.int .u64) 57 w' w.heap.size (fun k_ => (P0_ k_ ∨ w.heap.size ≤ k_)) v1_ r2 ∧ Below w.heap.size w w' := by
 have HO0 := Aside0.mk (show Kd.V (Kd.int .u64) 57 w w.heap.size (fun k_ => (P0_ k_ ∨ w.heap.size ≤ k_)) (.slice A0 l0.length c0) l0 from Kd.V_mono hs0 (fun k_ hk => .inl hk))
 have HR1 := Aside0.mk hr1
 have HC1 := Aside0.mk hc1
 clear hr1 hc1
 replace hG := Aside0.mk hG
 have HB := Aside0.mk (Below.refl w.heap.size w)
 have H : ((integer_compare.f k l0 l1).bind fun t169 => (if t169 < 0 then (some (([] : List Int), l0)) else (if (l1.length : Int) = 1 then (if 0 < (l1.length : Int) then ((integer_small.f k l0 (rd l1 0)).bind fun bt171 => ((integer_trimmed.f k (([bt171.2] : List Int))).bind fun t178 => (some (bt171.1, t178)))) else (none)) else (if 0 ≤ (wrap64 ((l1.length : Int) - 1)) then (if (wrap64 ((l1.length : Int) - 1)) < (l1.length : Int) then (if (IntKind.u64.wrap ((rd l1 (wrap64 ((l1.length : Int) - 1))) + 1)) = 0 then (none) else ((some (([IntKind.u64.wrap (Int.tdiv (1000000000 : Int) (IntKind.u64.wrap ((rd l1 (wrap64 ((l1.length : Int) - 1))) + 1)))] : List Int) : List Int)).bind fun y182 => ((integer_times.f k l0 y182).bind fun t185 => ((integer_times.f k l1 y182).bind fun t188 => (if 0 ≤ (wrap64 ((t188.length : Int) - 1)) then (if (wrap64 ((t188.length : Int) - 1)) < (t188.length : Int) then (if 0 ≤ (t185.length : Int) then (if ((t185.length : Int) : Int).toNat ≤ 35184372088832 then (integer_divide.l0 k y182 t185 t188 (rd t188 (wrap64 ((t188.length : Int) - 1))) (([] : List Int)) (List.replicate ((t185.length : Int) : Int).toNat 0) (wrap64 ((t185.length : Int) - 1))) else (none)) else (none)) else (none)) else (none)))))) else (none)) else (none))))) = some (r1, r2) := h
 clear h
 obtain ⟨t169, A3, H⟩ := bind_ H
 try dsimp only at H
 by_cases c4 : t169 < 0
 ·rw [if_pos c4] at H
  have c4b0 : decide (t169 < 0) = true := decide_eq_true c4
  clear c4
  simp only [Option.some.injEq, Prod.mk.injEq] at H
  obtain ⟨rfl, rfl⟩ := H
  go_enter Tryd.func37, Tryd.ntmps37
  go_wp2_with (first | ((with_reducible refine gate_callee (f := 55) rfl ?_); refine goesL_ (some 22) rfl rfl Tryd.func55 (by kernel_rfl) rfl #[.slice A0 l0.length c0, .slice A1 l1.length c1] rfl ag ?_; (with_reducible refine (integer_compare.calls k _ _ l0 _ _ l1 t169 _ gk ?side2 ?side3 ?side4 HC1.out A3.out).mono ?_); (case side2 => exact kc ((Kd.V_reads' HO0.out).2.2)); (case side3 => exact (Kd.V_reads' HO0.out).2.1); (case side4 => exact kc HR1.out); rintro e w' ⟨rfl, ⟨nd, rfl⟩⟩; refine ⟨_, rfl, ?_⟩))
  go_ret2
  exact ⟨_, _, by first | rfl | (simp [errW_none, errW_some] <;> rfl) | (simp [*, errW_none, errW_some] <;> rfl), Kd.V_nil _ _ _ _ _, kv HO0.out, bel⟩
 ·rw [if_neg c4] at H
  have c4b0 : decide (t169 < 0) = false := decide_eq_false c4
  clear c4
  by_cases c5 : (l1.length : Int) = 1
  ·rw [if_pos c5] at H
   have c5b0 : ((l1.length : Int) == 1) = true := beq_iff_eq.mpr c5
   have c5b1 : ((l1.length : Int) != 1) = false := bne_eq_false_iff_eq.mpr c5
   clear c5
   by_cases c6 : 0 < (l1.length : Int)
   ·rw [if_pos c6] at H
    have c6b0 : decide (0 < (l1.length : Int)) = true := decide_eq_true c6
    have c6b1 : decide (0 < l1.length) = true := decide_eq_true (by omega)
    clear c6
    obtain ⟨⟨t171, t174⟩, A7, H⟩ := bind_ H
    try dsimp only at H
    obtain ⟨y175, hy175⟩ : ∃ y_ : List Int, y_ = (([t174] : List Int)) := ⟨_, rfl⟩
    replace H : ((integer_trimmed.f k y175).bind fun t178 => (some (t171, t178))) = some (r1, r2) := by first | (rw [hy175]; with_reducible exact H) | (have H2_ := (Option.bind_some _ _).symm.trans H; rw [hy175]; with_reducible exact H2_) | (have H2_ := (Option.bind_some _ _).symm.trans H; with_reducible exact H2_) | with_reducible exact H | (rw [hy175]; exact H) | exact H
    have Ny175 := Aside0.mk hy175
    clear hy175
    obtain ⟨t178, A8, H⟩ := bind_ H
    try dsimp only at H
    simp only [Option.some.injEq, Prod.mk.injEq] at H
    obtain ⟨rfl, rfl⟩ := H
    go_enter Tryd.func37, Tryd.ntmps37
    go_wp2_with (first | ((with_reducible refine gate_callee (f := 55) rfl ?_); refine goesL_ (some 22) rfl rfl Tryd.func55 (by kernel_rfl) rfl #[.slice A0 l0.length c0, .slice A1 l1.length c1] rfl ag ?_; (with_reducible refine (integer_compare.calls k _ _ l0 _ _ l1 t169 _ gk ?side2 ?side3 ?side4 HC1.out A3.out).mono ?_); (case side2 => exact kc ((Kd.V_reads' HO0.out).2.2)); (case side3 => exact (Kd.V_reads' HO0.out).2.1); (case side4 => exact kc HR1.out); rintro e w' ⟨rfl, ⟨nd, rfl⟩⟩; refine ⟨_, rfl, ?_⟩; have p170 : 0 ≤ (0 : Int) := (by omega); have q170 : 0 < (l1.length : Int) := of_decide_eq_true (by first | (with_reducible assumption) | assumption); obtain ⟨ad170, e170, hx170_0⟩ := Kd.at_int HR1.out 0 p170 q170; cases e170; have qi170 : (0 < l1.length) = True := eq_true (by omega); (try rw [show ((0 : Int)).toNat = 0 from rfl] at hx170_0); (try rw [Addr.add_zero'] at hx170_0); replace p170 := eq_true p170; replace q170 := eq_true q170) | ((with_reducible refine gate_callee (f := 56) rfl ?_); refine goesL_ (some 33) rfl rfl Tryd.func56 (by kernel_rfl) rfl #[.slice A0 l0.length c0, .int .u64 (rd l1 0)] rfl ag ?_; (with_reducible refine (integer_small.calls k _ _ l0 (rd l1 0) t171 t174 _ gk ?side2 ?side3 A7.out).mono ?_); (case side2 => exact kc ((Kd.V_reads' HO0.out).2.2)); (case side3 => exact (Kd.V_reads' HO0.out).2.1); rintro e w9 ⟨v172, rfl, ho0, hb⟩; refine ⟨_, rfl, ?_⟩; have HO173 := Aside0.mk (Kd.V_lower (Kd.V_mono (ok' := fun k_ => (P0_ k_ ∨ w.heap.size ≤ k_)) ho0 (fun k_ hk_ => (.inr (Nat.le_trans (below_size bel) hk_)))) (below_size bel)); replace HO0 := Aside0.mk (Kd.V_below (kv HO0.out) hb); replace HB := Aside0.mk (below_step bel hb); clear hb ho0) | ((with_reducible refine gate_dst (N := 38) rfl ?_); refine Kd.R_lit (Kd.int .u64) _ 57 ?hg (N := 38) ?hd (xs := ([t174] : List Int)) (inner := [.int .u64 t174]) (ok := fun _ => True) (okp := fun _ => True) ?hr ?hp (fun _ hk => hk) trivial (Below.refl _ _) (Nat.le_refl _) (by simp) ?_; (case hd => rfl); (case hg => rfl); (case hr => first | (go_simp; done) | (go_simp; rfl)); (case hp => exact (Reps.one (show Kd.M (Kd.int .u64) _ _ _ t174 [.int .u64 t174] from rfl) (Reps.none _ _))); intro v176 w10 ho11 hb hg_ hnew_; clear hg_ hnew_; (first | rw [← Ny175.out] at ho11 | (simp only [Int.reduceToNat] at ho11; rw [← Ny175.out] at ho11)); have HO177 := Aside0.mk (Kd.R_lower (Kd.R_newM (M := fun k_ => (w.heap.size ≤ k_)) ho11 (below_size bel) (fun k_ h_ => h_)) (below_size bel)); replace HO0 := Aside0.mk (Kd.V_elder' (kv HO0.out) (Kd.R_base ho11) hb); replace HO173 := Aside0.mk (Kd.V_elder' (kv HO173.out) (Kd.R_base ho11) hb); replace HB := Aside0.mk (below_step bel hb); clear hb ho11; obtain ⟨Ao12, co12, eo12⟩ := Kd.R_slice HO177.out; subst eo12) | ((with_reducible refine gate_callee (f := 54) rfl ?_); refine goesL_ (some 39) rfl rfl Tryd.func54 (by kernel_rfl) rfl #[.slice Ao12 y175.length co12] rfl ag ?_; (with_reducible refine (integer_trimmed.calls k (fun k_ => some k_ = (.slice Ao12 y175.length co12 : Value).ownBlock) _ _ y175 t178 _ gk ?side2 A8.out).mono ?_); (case side2 => exact Kd.R_V (Kd.R_tight rfl HO177.out)); rintro e w13 ⟨v179, rfl, ho0, hb⟩; refine ⟨_, rfl, ?_⟩; have HO180 := Aside0.mk (Kd.V_lower (Kd.V_mono (ok' := fun k_ => (P0_ k_ ∨ w.heap.size ≤ k_)) ho0 (fun k_ hk_ => Or.elim hk_ (fun hs_ => (.inr ((HO177.out.1 k_ hs_.symm).1))) (fun hn_ => (.inr (Nat.le_trans (below_size bel) hn_))))) (below_size bel)); replace HO0 := Aside0.mk (Kd.V_below (kv HO0.out) hb); replace HO173 := Aside0.mk (Kd.V_below (kv HO173.out) hb); replace HO177 := Aside0.mk (Kd.R_below (kr HO177.out) hb); replace HB := Aside0.mk (below_step bel hb); clear hb ho0))
    go_ret2
    exact ⟨_, _, by first | rfl | (simp [errW_none, errW_some] <;> rfl) | (simp [*, errW_none, errW_some] <;> rfl), kv (Kd.V_mono HO173.out (fun _ hk => hk.1)), kv HO180.out, bel⟩
   ·rw [if_neg c6] at H
    exact absurd H (by simp)
  ·rw [if_neg c5] at H
   have c5b0 : ((l1.length : Int) == 1) = false := beq_eq_false_iff_ne.mpr c5
   have c5b1 : ((l1.length : Int) != 1) = true := bne_iff_ne.mpr c5
   obtain ⟨ji14, hji14⟩ : ∃ j_ : Int, (wrap64 ((l1.length : Int) - 1)) = j_ := ⟨_, rfl⟩
   replace H : (if 0 ≤ (ji14) then (if (ji14) < (l1.length : Int) then (if (IntKind.u64.wrap ((rd l1 (ji14)) + 1)) = 0 then (none) else ((some (([IntKind.u64.wrap (Int.tdiv (1000000000 : Int) (IntKind.u64.wrap ((rd l1 (ji14)) + 1)))] : List Int) : List Int)).bind fun y182 => ((integer_times.f k l0 y182).bind fun t185 => ((integer_times.f k l1 y182).bind fun t188 => (if 0 ≤ (wrap64 ((t188.length : Int) - 1)) then (if (wrap64 ((t188.length : Int) - 1)) < (t188.length : Int) then (if 0 ≤ (t185.length : Int) then (if ((t185.length : Int) : Int).toNat ≤ 35184372088832 then (integer_divide.l0 k y182 t185 t188 (rd t188 (wrap64 ((t188.length : Int) - 1))) (([] : List Int)) (List.replicate ((t185.length : Int) : Int).toNat 0) (wrap64 ((t185.length : Int) - 1))) else (none)) else (none)) else (none)) else (none)))))) else (none)) else (none)) = some (r1, r2) := by first | (rw [hji14] at H; exact H) | (simp only [hji14] at H ⊢; exact H)
   (try rw [hji14] at A3)
   have hji14w : (IntKind.i64.wrap ((l1.length : Int) - 1)) = ji14 := (i64_w _).trans hji14
   by_cases c15 : 0 ≤ (ji14)
   ·rw [if_pos c15] at H
    have c15b0 : decide (0 ≤ (ji14)) = true := decide_eq_true c15
    clear c15
    by_cases c16 : (ji14) < (l1.length : Int)
    ·rw [if_pos c16] at H
     have c16b0 : decide ((ji14) < (l1.length : Int)) = true := decide_eq_true c16
     clear c16
     by_cases c17 : (IntKind.u64.wrap ((rd l1 (ji14)) + 1)) = 0
     ·rw [if_pos c17] at H
      exact absurd H (by simp)
     ·rw [if_neg c17] at H
      have c17b0 : ((IntKind.u64.wrap ((rd l1 (ji14)) + 1)) == 0) = false := beq_eq_false_iff_ne.mpr c17
      have c17b1 : ((IntKind.u64.wrap ((rd l1 (ji14)) + 1)) != 0) = true := bne_iff_ne.mpr c17
      obtain ⟨y182, hy182⟩ : ∃ y_ : List Int, y_ = (([IntKind.u64.wrap (Int.tdiv (1000000000 : Int) (IntKind.u64.wrap ((rd l1 (ji14)) + 1)))] : List Int)) := ⟨_, rfl⟩
      replace H : ((integer_times.f k l0 y182).bind fun t185 => ((integer_times.f k l1 y182).bind fun t188 => (if 0 ≤ (wrap64 ((t188.length : Int) - 1)) then (if (wrap64 ((t188.length : Int) - 1)) < (t188.length : Int) then (if 0 ≤ (t185.length : Int) then (if ((t185.length : Int) : Int).toNat ≤ 35184372088832 then (integer_divide.l0 k y182 t185 t188 (rd t188 (wrap64 ((t188.length : Int) - 1))) (([] : List Int)) (List.replicate ((t185.length : Int) : Int).toNat 0) (wrap64 ((t185.length : Int) - 1))) else (none)) else (none)) else (none)) else (none)))) = some (r1, r2) := by first | (rw [hy182]; with_reducible exact H) | (have H2_ := (Option.bind_some _ _).symm.trans H; rw [hy182]; with_reducible exact H2_) | (have H2_ := (Option.bind_some _ _).symm.trans H; with_reducible exact H2_) | with_reducible exact H | (rw [hy182]; exact H) | exact H
      have Ny182 := Aside0.mk hy182
      clear hy182
      obtain ⟨t185, A18, H⟩ := bind_ H
      try dsimp only at H
      obtain ⟨t188, A19, H⟩ := bind_ H
      try dsimp only at H
      obtain ⟨ji20, hji20⟩ : ∃ j_ : Int, (wrap64 ((t188.length : Int) - 1)) = j_ := ⟨_, rfl⟩
      replace H : (if 0 ≤ (ji20) then (if (ji20) < (t188.length : Int) then (if 0 ≤ (t185.length : Int) then (if ((t185.length : Int) : Int).toNat ≤ 35184372088832 then (integer_divide.l0 k y182 t185 t188 (rd t188 (ji20)) (([] : List Int)) (List.replicate ((t185.length : Int) : Int).toNat 0) (wrap64 ((t185.length : Int) - 1))) else (none)) else (none)) else (none)) else (none)) = some (r1, r2) := by first | (rw [hji20] at H; exact H) | (simp only [hji20] at H ⊢; exact H)
      (try rw [hji20] at A3)
      (try rw [hji20] at A18)
      (try rw [hji20] at A19)
      have hji20w : (IntKind.i64.wrap ((t188.length : Int) - 1)) = ji20 := (i64_w _).trans hji20
      by_cases c21 : 0 ≤ (ji20)
      ·rw [if_pos c21] at H
       have c21b0 : decide (0 ≤ (ji20)) = true := decide_eq_true c21
       clear c21
       by_cases c22 : (ji20) < (t188.length : Int)
       ·rw [if_pos c22] at H
        have c22b0 : decide ((ji20) < (t188.length : Int)) = true := decide_eq_true c22
        clear c22
        obtain ⟨y192, hy192⟩ : ∃ y_ : List Int, y_ = (([] : List Int)) := ⟨_, rfl⟩
        replace H : (if 0 ≤ (t185.length : Int) then (if ((t185.length : Int) : Int).toNat ≤ 35184372088832 then (integer_divide.l0 k y182 t185 t188 (rd t188 (ji20)) y192 (List.replicate ((t185.length : Int) : Int).toNat 0) (wrap64 ((t185.length : Int) - 1))) else (none)) else (none)) = some (r1, r2) := by first | (rw [hy192]; with_reducible exact H) | (have H2_ := (Option.bind_some _ _).symm.trans H; rw [hy192]; with_reducible exact H2_) | (have H2_ := (Option.bind_some _ _).symm.trans H; with_reducible exact H2_) | with_reducible exact H | (rw [hy192]; exact H) | exact H
        have Ny192 := Aside0.mk hy192
        clear hy192
        by_cases c23 : 0 ≤ (t185.length : Int)
        ·rw [if_pos c23] at H
         have c23b0 := eq_true c23
         have c23b1 : decide (0 ≤ (t185.length : Int)) = true := decide_eq_true c23
         clear c23
         by_cases c24 : ((t185.length : Int) : Int).toNat ≤ 35184372088832
         ·rw [if_pos c24] at H
          have c24b0 := eq_true c24
          have c24b1 : decide (((t185.length : Int) : Int).toNat ≤ 35184372088832) = true := decide_eq_true c24
          clear c24
          obtain ⟨y195, hy195⟩ : ∃ y_ : List Int, y_ = (List.replicate ((t185.length : Int) : Int).toNat 0) := ⟨_, rfl⟩
          replace H : (integer_divide.l0 k y182 t185 t188 (rd t188 (ji20)) y192 y195 (wrap64 ((t185.length : Int) - 1))) = some (r1, r2) := by first | (rw [hy195]; with_reducible exact H) | (have H2_ := (Option.bind_some _ _).symm.trans H; rw [hy195]; with_reducible exact H2_) | (have H2_ := (Option.bind_some _ _).symm.trans H; with_reducible exact H2_) | with_reducible exact H | (rw [hy195]; exact H) | exact H
          have Ny195 := Aside0.mk hy195
          clear hy195
          have H' := Aside0.mk H
          clear H
          go_enter Tryd.func37, Tryd.ntmps37
          go_wp2_with (first | ((with_reducible refine gate_callee (f := 55) rfl ?_); refine goesL_ (some 22) rfl rfl Tryd.func55 (by kernel_rfl) rfl #[.slice A0 l0.length c0, .slice A1 l1.length c1] rfl ag ?_; (with_reducible refine (integer_compare.calls k _ _ l0 _ _ l1 t169 _ gk ?side2 ?side3 ?side4 HC1.out A3.out).mono ?_); (case side2 => exact kc ((Kd.V_reads' HO0.out).2.2)); (case side3 => exact (Kd.V_reads' HO0.out).2.1); (case side4 => exact kc HR1.out); rintro e w' ⟨rfl, ⟨nd, rfl⟩⟩; refine ⟨_, rfl, ?_⟩; have p181 : 0 ≤ ((ji14) : Int) := of_decide_eq_true (by first | (with_reducible assumption) | assumption); have q181 : (ji14) < (l1.length : Int) := of_decide_eq_true (by first | (with_reducible assumption) | assumption); obtain ⟨ad181, e181, hx181_0⟩ := Kd.at_int HR1.out (ji14) p181 q181; cases e181; replace p181 := eq_true p181; replace q181 := eq_true q181) | ((with_reducible refine gate_dst (N := 48) rfl ?_); refine Kd.R_lit (Kd.int .u64) _ 57 ?hg (N := 48) ?hd (xs := ([IntKind.u64.wrap (Int.tdiv (1000000000 : Int) (IntKind.u64.wrap ((rd l1 (ji14)) + 1)))] : List Int)) (inner := [.int .u64 (IntKind.u64.wrap (Int.tdiv (1000000000 : Int) (IntKind.u64.wrap ((rd l1 (ji14)) + 1))))]) (ok := fun _ => True) (okp := fun _ => True) ?hr ?hp (fun _ hk => hk) trivial (Below.refl _ _) (Nat.le_refl _) (by simp) ?_; (case hd => rfl); (case hg => rfl); (case hr => first | (go_simp; done) | (go_simp; rfl)); (case hp => exact (Reps.one (show Kd.M (Kd.int .u64) _ _ _ (IntKind.u64.wrap (Int.tdiv (1000000000 : Int) (IntKind.u64.wrap ((rd l1 (ji14)) + 1)))) [.int .u64 (IntKind.u64.wrap (Int.tdiv (1000000000 : Int) (IntKind.u64.wrap ((rd l1 (ji14)) + 1))))] from rfl) (Reps.none _ _))); intro v183 w25 ho26 hb hg_ hnew_; clear hg_ hnew_; (first | rw [← Ny182.out] at ho26 | (simp only [Int.reduceToNat] at ho26; rw [← Ny182.out] at ho26)); have HO184 := Aside0.mk (Kd.R_lower (Kd.R_newM (M := fun k_ => (w.heap.size ≤ k_)) ho26 (below_size bel) (fun k_ h_ => h_)) (below_size bel)); replace HO0 := Aside0.mk (Kd.V_elder' (kv HO0.out) (Kd.R_base ho26) hb); replace HB := Aside0.mk (below_step bel hb); clear hb ho26; obtain ⟨Ao27, co27, eo27⟩ := Kd.R_slice HO184.out; subst eo27) | ((with_reducible refine gate_callee (f := 50) rfl ?_); refine goesL_ (some 51) rfl rfl Tryd.func50 (by kernel_rfl) rfl #[.slice A0 l0.length c0, .slice Ao27 y182.length co27] rfl ag ?_; (with_reducible refine (integer_times.calls k _ _ l0 _ _ y182 t185 _ gk ?side2 ?side3 ?side4 ?side5 A18.out).mono ?_); (case side2 => exact kc ((Kd.V_reads' HO0.out).2.2)); (case side3 => exact (Kd.V_reads' HO0.out).2.1); (case side4 => exact kc ((Kd.R_reads' HO184.out).2.2)); (case side5 => exact (Kd.R_reads' HO184.out).2.1); rintro e w28 ⟨v186, rfl, ho0, hb⟩; refine ⟨_, rfl, ?_⟩; have HO187 := Aside0.mk (Kd.V_lower (Kd.V_mono (ok' := fun k_ => (P0_ k_ ∨ w.heap.size ≤ k_) ∧ some k_ ≠ (.slice Ao27 y182.length co27 : Value).ownBlock) ho0 (fun k_ hk_ => ⟨(.inr (Nat.le_trans (below_size bel) hk_)), (Kd.fresh' (Kd.R_lt (kr HO184.out)) k_ hk_)⟩)) (below_size bel)); replace HO0 := Aside0.mk (Kd.V_below (kv HO0.out) hb); replace HO184 := Aside0.mk (Kd.R_below (kr HO184.out) hb); replace HB := Aside0.mk (below_step bel hb); clear hb ho0) | ((with_reducible refine gate_callee (f := 50) rfl ?_); refine goesL_ (some 54) rfl rfl Tryd.func50 (by kernel_rfl) rfl #[.slice (some ad181) l1.length c1, .slice Ao27 y182.length co27] rfl ag ?_; (with_reducible refine (integer_times.calls k _ _ l1 _ _ y182 t188 _ gk ?side2 HC1.out ?side4 ?side5 A19.out).mono ?_); (case side2 => exact kc ((Kd.C_below HR1.out HB.out))); (case side4 => exact kc ((Kd.R_reads' HO184.out).2.2)); (case side5 => exact (Kd.R_reads' HO184.out).2.1); rintro e w29 ⟨v189, rfl, ho0, hb⟩; refine ⟨_, rfl, ?_⟩; have HO190 := Aside0.mk (Kd.V_lower (Kd.V_mono (ok' := fun k_ => (P0_ k_ ∨ w.heap.size ≤ k_) ∧ some k_ ≠ (.slice Ao27 y182.length co27 : Value).ownBlock) ho0 (fun k_ hk_ => ⟨(.inr (Nat.le_trans (below_size bel) hk_)), (Kd.fresh' (Kd.R_lt (kr HO184.out)) k_ hk_)⟩)) (below_size bel)); replace HO0 := Aside0.mk (Kd.V_below (kv HO0.out) hb); replace HO184 := Aside0.mk (Kd.R_below (kr HO184.out) hb); replace HO187 := Aside0.mk (Kd.V_below (kv HO187.out) hb); replace HB := Aside0.mk (below_step bel hb); clear hb ho0; obtain ⟨Ao30, co30, eo30⟩ := Kd.V_slice HO190.out; subst eo30; have p191 : 0 ≤ ((ji20) : Int) := of_decide_eq_true (by first | (with_reducible assumption) | assumption); have q191 : (ji20) < (t188.length : Int) := of_decide_eq_true (by first | (with_reducible assumption) | assumption); obtain ⟨ad191, e191, hx191_0⟩ := Kd.at_int (Kd.V_reads' HO190.out).2.2 (ji20) p191 q191; cases e191; replace p191 := eq_true p191; replace q191 := eq_true q191) | ((with_reducible refine gate_dst (N := 61) rfl ?_); refine Kd.R_lit (Kd.int .u64) _ 57 ?hg (N := 61) ?hd (xs := ([] : List Int)) (inner := []) (ok := fun _ => True) (okp := fun _ => True) ?hr ?hp (fun _ hk => hk) trivial (Below.refl _ _) (Nat.le_refl _) (by simp) ?_; (case hd => rfl); (case hg => rfl); (case hr => first | (go_simp; done) | (go_simp; rfl)); (case hp => exact (Reps.none _ _)); intro v193 w31 ho32 hb hg_ hnew_; clear hg_ hnew_; (first | rw [← Ny192.out] at ho32 | (simp only [Int.reduceToNat] at ho32; rw [← Ny192.out] at ho32)); have HO194 := Aside0.mk (Kd.R_lower (Kd.R_new' (Kd.R_newM (M := fun k_ => (w.heap.size ≤ k_)) ho32 (below_size bel) (fun k_ h_ => h_)) (Kd.R_lt (kr HO184.out))) (below_size bel)); replace HO0 := Aside0.mk (Kd.V_elder' (kv HO0.out) (Kd.R_base ho32) hb); replace HO184 := Aside0.mk (Kd.R_elder' (kr HO184.out) (Kd.R_base ho32) hb); replace HO187 := Aside0.mk (Kd.V_elder' (kv HO187.out) (Kd.R_base ho32) hb); replace HO190 := Aside0.mk (Kd.V_elder' (kv HO190.out) (Kd.R_base ho32) hb); replace HB := Aside0.mk (below_step bel hb); clear hb ho32; obtain ⟨Ao33, co33, eo33⟩ := Kd.V_slice HO187.out; subst eo33) | ((with_reducible refine gate_dst (N := 64) rfl ?_); refine Kd.R_make (Kd.int .u64) _ 57 rfl (N := 64) rfl 49 _ _ rfl (t185.length : Int) rfl rfl Tryd.underlying49 (.int .u64 0) 8 info57 rfl (by decide) (by omega) 0 (ok := fun _ => True) (okp := fun _ => True) rfl (fun _ hk => hk) trivial (of_decide_eq_true (by first | (with_reducible assumption) | assumption)) (Nat.le_trans (Nat.mul_le_mul_right _ (of_decide_eq_true (by first | (with_reducible assumption) | assumption) : (t185.length : Int).toNat ≤ 35184372088832)) (by omega)) (Below.refl _ _) (Nat.le_refl _) ?_; intro v196 w34 ho35 hb hg_ hnew_; clear hg_ hnew_; (first | rw [← Ny195.out] at ho35 | (simp only [Int.reduceToNat] at ho35; rw [← Ny195.out] at ho35)); have HO197 := Aside0.mk (Kd.R_lower (Kd.R_new' (Kd.R_new' (Kd.R_newM (M := fun k_ => (w.heap.size ≤ k_)) ho35 (below_size bel) (fun k_ h_ => h_)) (Kd.R_lt (kr HO184.out))) (Kd.R_lt (kr HO194.out))) (below_size bel)); replace HO0 := Aside0.mk (Kd.V_elder' (kv HO0.out) (Kd.R_base ho35) hb); replace HO184 := Aside0.mk (Kd.R_elder' (kr HO184.out) (Kd.R_base ho35) hb); replace HO187 := Aside0.mk (Kd.V_elder' (kv HO187.out) (Kd.R_base ho35) hb); replace HO190 := Aside0.mk (Kd.V_elder' (kv HO190.out) (Kd.R_base ho35) hb); replace HO194 := Aside0.mk (Kd.R_elder' (kr HO194.out) (Kd.R_base ho35) hb); replace HB := Aside0.mk (below_step bel hb); clear hb ho35))
          go_loopg [12, 14] k (fun kq v12 v14 w' => ∃ (x12_1 : List Int) (x13_1 : List Int) (x14_1 : Int), v14 = .int .i64 x14_1 ∧ Aside0 (integer_divide.l0 kq y182 t185 t188 (rd t188 (ji20)) x12_1 x13_1 x14_1 = some (r1, r2)) ∧ Aside0 (kq ≤ k) ∧ Aside0 (Kd.R (Kd.int .u64) 57 w' w.heap.size (fun k_ => (w.heap.size ≤ k_) ∧ some k_ ≠ (v196 : Value).ownBlock) (.slice Ao27 y182.length co27) y182) ∧ Aside0 (Kd.V (Kd.int .u64) 57 w' w.heap.size (fun k_ => (P0_ k_ ∨ w.heap.size ≤ k_) ∧ some k_ ≠ ((.slice Ao27 y182.length co27) : Value).ownBlock ∧ some k_ ≠ (v196 : Value).ownBlock) (.slice Ao33 t185.length co33) t185) ∧ Aside0 (Kd.V (Kd.int .u64) 57 w' w.heap.size (fun k_ => (P0_ k_ ∨ w.heap.size ≤ k_) ∧ some k_ ≠ ((.slice Ao27 y182.length co27) : Value).ownBlock ∧ some k_ ≠ (v196 : Value).ownBlock) (.slice (some ad191) t188.length co30) t188) ∧ Aside0 (Kd.V (Kd.int .u64) 57 w' w.heap.size (fun k_ => (P0_ k_ ∨ w.heap.size ≤ k_) ∧ some k_ ≠ ((.slice Ao27 y182.length co27) : Value).ownBlock ∧ some k_ ≠ (v196 : Value).ownBlock) v12 x12_1) ∧ Aside0 (Kd.R (Kd.int .u64) 57 w' w.heap.size (fun k_ => (w.heap.size ≤ k_) ∧ some k_ ≠ ((.slice Ao27 y182.length co27) : Value).ownBlock) v196 x13_1) ∧ Aside0 (Below w.heap.size w w'))
          case atStart => exact ⟨(y192), (y195), (wrap64 ((t185.length : Int) - 1)), (by first | rfl | (simp; done) | (simp [*]; done)), H', ⟨Nat.le_refl _⟩, ⟨kr (Kd.R_mono HO184.out (fun _ hk => ⟨hk.1.1.1, hk.2⟩))⟩, ⟨kv (Kd.V_mono HO187.out (fun _ hk => ⟨hk.1.1.1, ⟨hk.1.1.2, hk.2⟩⟩))⟩, ⟨kv (Kd.V_mono HO190.out (fun _ hk => ⟨hk.1.1.1, ⟨hk.1.1.2, hk.2⟩⟩))⟩, ⟨Kd.R_V (kr (Kd.R_mono HO194.out (fun _ hk => ⟨.inr hk.1.1.1, ⟨hk.1.2, hk.2⟩⟩)))⟩, ⟨kr (Kd.R_mono HO197.out (fun _ hk => ⟨hk.1.1.1, hk.1.2⟩))⟩, ⟨bel⟩⟩
          case round =>
           clear H'
           (try clear c1); (try clear p1); (try clear q1); (try clear hx1); (try clear qi1); (try clear c2); (try clear p2); (try clear c3); (try clear c4); (try clear c4b0); (try clear c5); (try clear c5b0); (try clear c5b1); (try clear c6); (try clear c6b0); (try clear c6b1); (try clear p6); (try clear c15); (try clear c15b0); (try clear c16); (try clear c16b0); (try clear c17); (try clear c17b0); (try clear c17b1); (try clear p17); (try clear q17); (try clear hx17); (try clear qi17); (try clear p18); (try clear q18); (try clear hx18); (try clear p19); (try clear q19); (try clear hx19); (try clear c21); (try clear c21b0); (try clear c22); (try clear c22b0); (try clear c23); (try clear c23b0); (try clear c23b1); (try clear c24); (try clear c24b0); (try clear c24b1); (try clear hx170_0); (try clear hx181_0); (try clear hx191_0); (try clear p170); (try clear p181); (try clear p191); (try clear q170); (try clear q181); (try clear q191)
           obtain ⟨x12_1, x13_1, x14_1, rfl, HA, HK1, HO_8, HO_9, HO_10, HO_12, HO_13, HB⟩ := hrel
           cases gk with
           | zero => exact absurd HA.out (by simp [integer_divide.l0])
           | succ k1 =>
            have H := HA.out
            clear HA
            simp only [integer_divide.l0] at H
            by_cases c36 : x14_1 ≥ 0
            ·rw [if_pos c36] at H
             have c36b0 : decide (0 ≤ x14_1) = true := decide_eq_true c36
             clear c36
             by_cases c37 : 0 ≤ x14_1
             ·rw [if_pos c37] at H
              have c37b0 : decide (0 ≤ x14_1) = true := decide_eq_true c37
              clear c37
              by_cases c38 : x14_1 < (t185.length : Int)
              ·rw [if_pos c38] at H
               have c38b0 : decide (x14_1 < (t185.length : Int)) = true := decide_eq_true c38
               clear c38
               obtain ⟨y207, hy207⟩ : ∃ y_ : List Int, y_ = (([rd t185 x14_1] : List Int)) := ⟨_, rfl⟩
               replace H : (if y207.length + x12_1.length < 17592186044416 then ((integer_trimmed.f k1 (y207 ++ x12_1)).bind fun t213 => (if (t213.length : Int) ≥ (t188.length : Int) then (if 0 ≤ (wrap64 ((t188.length : Int) - 1)) then (if (wrap64 ((t188.length : Int) - 1)) < (t213.length : Int) then (if (t213.length : Int) > (t188.length : Int) then (if 0 ≤ (t188.length : Int) then (if (t188.length : Int) < (t213.length : Int) then (if (rd t188 (ji20)) = 0 then (none) else (integer_divide.j1 k1 y182 t185 t188 (rd t188 (ji20)) t213 x13_1 x14_1 (mn (IntKind.u64.wrap (Int.tdiv (IntKind.u64.wrap ((rd t213 (wrap64 ((t188.length : Int) - 1))) + (IntKind.u64.wrap ((rd t213 (t188.length : Int)) * 1000000000)))) (rd t188 (ji20)))) 999999999))) else (none)) else (none)) else (if (rd t188 (ji20)) = 0 then (none) else (integer_divide.j1 k1 y182 t185 t188 (rd t188 (ji20)) t213 x13_1 x14_1 (mn (IntKind.u64.wrap (Int.tdiv (rd t213 (wrap64 ((t188.length : Int) - 1))) (rd t188 (ji20)))) 999999999)))) else (none)) else (none)) else (integer_divide.j1 k1 y182 t185 t188 (rd t188 (ji20)) t213 x13_1 x14_1 0))) else (none)) = some (r1, r2) := by first | (rw [hy207]; with_reducible exact H) | (have H2_ := (Option.bind_some _ _).symm.trans H; rw [hy207]; with_reducible exact H2_) | (have H2_ := (Option.bind_some _ _).symm.trans H; with_reducible exact H2_) | with_reducible exact H | (rw [hy207]; exact H) | exact H
               have Ny207 := Aside0.mk hy207
               clear hy207
               by_cases c39 : y207.length + x12_1.length < 17592186044416
               ·rw [if_pos c39] at H
                have LMc39 := Aside0.mk c39
                clear c39
                obtain ⟨y210, hy210⟩ : ∃ y_ : List Int, y_ = (y207 ++ x12_1) := ⟨_, rfl⟩
                replace H : ((integer_trimmed.f k1 y210).bind fun t213 => (if (t213.length : Int) ≥ (t188.length : Int) then (if 0 ≤ (wrap64 ((t188.length : Int) - 1)) then (if (wrap64 ((t188.length : Int) - 1)) < (t213.length : Int) then (if (t213.length : Int) > (t188.length : Int) then (if 0 ≤ (t188.length : Int) then (if (t188.length : Int) < (t213.length : Int) then (if (rd t188 (ji20)) = 0 then (none) else (integer_divide.j1 k1 y182 t185 t188 (rd t188 (ji20)) t213 x13_1 x14_1 (mn (IntKind.u64.wrap (Int.tdiv (IntKind.u64.wrap ((rd t213 (wrap64 ((t188.length : Int) - 1))) + (IntKind.u64.wrap ((rd t213 (t188.length : Int)) * 1000000000)))) (rd t188 (ji20)))) 999999999))) else (none)) else (none)) else (if (rd t188 (ji20)) = 0 then (none) else (integer_divide.j1 k1 y182 t185 t188 (rd t188 (ji20)) t213 x13_1 x14_1 (mn (IntKind.u64.wrap (Int.tdiv (rd t213 (wrap64 ((t188.length : Int) - 1))) (rd t188 (ji20)))) 999999999)))) else (none)) else (none)) else (integer_divide.j1 k1 y182 t185 t188 (rd t188 (ji20)) t213 x13_1 x14_1 0))) = some (r1, r2) := by first | (rw [hy210]; with_reducible exact H) | (have H2_ := (Option.bind_some _ _).symm.trans H; rw [hy210]; with_reducible exact H2_) | (have H2_ := (Option.bind_some _ _).symm.trans H; with_reducible exact H2_) | with_reducible exact H | (rw [hy210]; exact H) | exact H
                have Ny210 := Aside0.mk hy210
                clear hy210
                obtain ⟨t213, A40, H⟩ := bind_ H
                try dsimp only at H
                have HC41 := Aside0.mk H
                clear H
                have p206 : 0 ≤ (x14_1 : Int) := of_decide_eq_true (by first | (with_reducible assumption) | assumption)
                have q206 : x14_1 < (t185.length : Int) := of_decide_eq_true (by first | (with_reducible assumption) | assumption)
                obtain ⟨ad206, e206, hx206_0⟩ := Kd.at_int (Kd.V_reads' HO_9.out).2.2 x14_1 p206 q206
                cases e206
                replace p206 := eq_true p206
                replace q206 := eq_true q206
                go_upto_if 84 with (first | ((with_reducible refine gate_dst (N := 76) rfl ?_); refine Kd.R_lit (Kd.int .u64) _ 57 ?hg (N := 76) ?hd (xs := ([rd t185 x14_1] : List Int)) (inner := [.int .u64 (rd t185 x14_1)]) (ok := fun _ => True) (okp := fun _ => True) ?hr ?hp (fun _ hk => hk) trivial (Below.refl _ _) (Nat.le_refl _) (by simp) ?_; (case hd => rfl); (case hg => rfl); (case hr => first | (go_simp; done) | (go_simp; rfl)); (case hp => exact (Reps.one (show Kd.M (Kd.int .u64) _ _ _ (rd t185 x14_1) [.int .u64 (rd t185 x14_1)] from rfl) (Reps.none _ _))); intro v208 w42 ho43 hb hg_ hnew_; clear hg_ hnew_; (first | rw [← Ny207.out] at ho43 | (simp only [Int.reduceToNat] at ho43; rw [← Ny207.out] at ho43)); have HO209 := Aside0.mk (Kd.R_lower (Kd.R_new' (Kd.R_new' (Kd.R_newM (M := fun k_ => (w.heap.size ≤ k_)) ho43 (below_size bel) (fun k_ h_ => h_)) (Kd.R_lt (kr HO_8.out))) (Kd.R_lt (kr HO_13.out))) (below_size bel)); replace HO_8 := Aside0.mk (Kd.R_elder' (kr HO_8.out) (Kd.R_base ho43) hb); replace HO_9 := Aside0.mk (Kd.V_elder' (kv HO_9.out) (Kd.R_base ho43) hb); replace HO_10 := Aside0.mk (Kd.V_elder' (kv HO_10.out) (Kd.R_base ho43) hb); replace HO_12 := Aside0.mk (Kd.V_elder' (kv HO_12.out) (Kd.R_base ho43) hb); replace HO_13 := Aside0.mk (Kd.R_elder' (kr HO_13.out) (Kd.R_base ho43) hb); replace HB := Aside0.mk (below_step bel hb); clear hb ho43; obtain ⟨Ao45, co45, eo45⟩ := Kd.V_slice HO_12.out; subst eo45) | ((with_reducible refine gate_builtin (b := .append) (xs := #[.tmp 76, .tmp 77]) rfl ?_); at_builtin; refine Kd.R_append_rows (Kd.int .u64) (w0 := w) w.heap.size rfl (.tmp 76) (.tmp 77) 49 57 (.int .u64 0) 8 rfl Tryd.underlying49 info57 rfl (by decide) (by omega) v208 y207 x12_1 _ _ _ (fun k_ => (w.heap.size ≤ k_) ∧ some k_ ≠ (.slice Ao27 y182.length co27 : Value).ownBlock ∧ some k_ ≠ (v196 : Value).ownBlock) (fun _ => False) rfl rfl ?aO ?aR (fun _ _ h => h) (fun _ h => h.elim) ?aF ?aB ?aS ?aL ?_; (case aR => exact kc ((Kd.V_reads' HO_12.out).2.2)); (case aB => exact bel); (case aF => exact (fun k_ hk => ⟨(Nat.le_trans (below_size bel) hk), Kd.fresh' (Kd.R_lt (kr HO_8.out)) k_ hk, Kd.fresh' (Kd.R_lt (kr HO_13.out)) k_ hk⟩)); (case aO => exact (kr (Kd.R_mono HO209.out (fun _ hk => ⟨hk.1.1.1, ⟨hk.1.2, hk.2⟩⟩)))); (case aS => exact (below_size bel)); (case aL => have := LMc39.out; omega); intro v211 w44 ho hb hg hat; rw [← Ny210.out] at ho; have HO212 := Aside0.mk (ho); replace HO_8 := Aside0.mk (Kd.R_after (ok := (fun k_ => (w.heap.size ≤ k_) ∧ some k_ ≠ (v196 : Value).ownBlock)) (kr HO_8.out) hg hat); replace HO_9 := Aside0.mk (Kd.V_afterv (ok := (fun k_ => (P0_ k_ ∨ w.heap.size ≤ k_) ∧ some k_ ≠ (.slice Ao27 y182.length co27 : Value).ownBlock ∧ some k_ ≠ (v196 : Value).ownBlock)) (kv HO_9.out) hg hat); replace HO_10 := Aside0.mk (Kd.V_afterv (ok := (fun k_ => (P0_ k_ ∨ w.heap.size ≤ k_) ∧ some k_ ≠ (.slice Ao27 y182.length co27 : Value).ownBlock ∧ some k_ ≠ (v196 : Value).ownBlock)) (kv HO_10.out) hg hat); replace HO_12 := Aside0.mk (Kd.V_afterv (ok := (fun k_ => (P0_ k_ ∨ w.heap.size ≤ k_) ∧ some k_ ≠ (.slice Ao27 y182.length co27 : Value).ownBlock ∧ some k_ ≠ (v196 : Value).ownBlock)) (kv HO_12.out) hg hat); replace HO_13 := Aside0.mk (Kd.R_after (ok := (fun k_ => (w.heap.size ≤ k_) ∧ some k_ ≠ (.slice Ao27 y182.length co27 : Value).ownBlock)) (kr HO_13.out) hg hat); replace HB := Aside0.mk (hb); clear HO209; clear ho hb hg hat; obtain ⟨Ao46, co46, eo46⟩ := Kd.R_slice HO212.out; subst eo46) | ((with_reducible refine gate_callee (f := 54) rfl ?_); refine goesL_ (some 79) rfl rfl Tryd.func54 (by kernel_rfl) rfl #[.slice Ao46 y210.length co46] rfl ag ?_; (with_reducible refine (integer_trimmed.calls k1 (fun k_ => some k_ = (.slice Ao46 y210.length co46 : Value).ownBlock) _ _ y210 t213 _ gk ?side2 A40.out).mono ?_); (case side2 => exact Kd.R_V (Kd.R_tight rfl HO212.out)); rintro e w47 ⟨v214, rfl, ho0, hb⟩; refine ⟨_, rfl, ?_⟩; have HO215 := Aside0.mk (Kd.V_lower (Kd.V_mono (ok' := fun k_ => (P0_ k_ ∨ w.heap.size ≤ k_) ∧ some k_ ≠ (.slice Ao27 y182.length co27 : Value).ownBlock ∧ some k_ ≠ (v196 : Value).ownBlock) ho0 (fun k_ hk_ => ⟨Or.elim hk_ (fun hs_ => (.inr ((HO212.out.1 k_ hs_.symm).1))) (fun hn_ => (.inr (Nat.le_trans (below_size bel) hn_))), Or.elim hk_ (fun hs_ => (HO212.out.1 k_ hs_.symm).2.1) (fun hn_ => (Kd.fresh' (Kd.R_lt (kr HO_8.out)) k_ hn_)), Or.elim hk_ (fun hs_ => (HO212.out.1 k_ hs_.symm).2.2) (fun hn_ => (Kd.fresh' (Kd.R_lt (kr HO_13.out)) k_ hn_))⟩)) (below_size bel)); replace HO_8 := Aside0.mk (Kd.R_below (kr HO_8.out) hb); replace HO_9 := Aside0.mk (Kd.V_below (kv HO_9.out) hb); replace HO_10 := Aside0.mk (Kd.V_below (kv HO_10.out) hb); replace HO_12 := Aside0.mk (Kd.V_below (kv HO_12.out) hb); replace HO_13 := Aside0.mk (Kd.R_below (kr HO_13.out) hb); replace HO212 := Aside0.mk (Kd.R_below (kr HO212.out) hb); replace HB := Aside0.mk (below_step bel hb); clear hb ho0; obtain ⟨Ao48, co48, eo48⟩ := Kd.V_slice HO215.out; subst eo48))
                (try simp only [Act.put, List.setIfInBounds_toArray, List.set_cons_zero, List.set_cons_succ])
                go_cut [15] (fun v15 wc => ∃ (kq : Nat) (x15_40 : Int), v15 = .int .u64 x15_40 ∧ Aside0 (integer_divide.j1 kq y182 t185 t188 (rd t188 (ji20)) t213 x13_1 x14_1 x15_40 = some (r1, r2)) ∧ Aside0 (kq ≤ k1) ∧ Aside0 (Kd.R (Kd.int .u64) 57 wc w.heap.size (fun k_ => (w.heap.size ≤ k_) ∧ some k_ ≠ (v196 : Value).ownBlock) (.slice Ao27 y182.length co27) y182) ∧ Aside0 (Kd.V (Kd.int .u64) 57 wc w.heap.size (fun k_ => (P0_ k_ ∨ w.heap.size ≤ k_) ∧ some k_ ≠ ((.slice Ao27 y182.length co27) : Value).ownBlock ∧ some k_ ≠ (v196 : Value).ownBlock) (.slice (some ad206) t185.length co33) t185) ∧ Aside0 (Kd.V (Kd.int .u64) 57 wc w.heap.size (fun k_ => (P0_ k_ ∨ w.heap.size ≤ k_) ∧ some k_ ≠ ((.slice Ao27 y182.length co27) : Value).ownBlock ∧ some k_ ≠ (v196 : Value).ownBlock) (.slice (some ad191) t188.length co30) t188) ∧ Aside0 (Kd.V (Kd.int .u64) 57 wc w.heap.size (fun k_ => (P0_ k_ ∨ w.heap.size ≤ k_) ∧ some k_ ≠ ((.slice Ao27 y182.length co27) : Value).ownBlock ∧ some k_ ≠ (v196 : Value).ownBlock) (.slice Ao48 t213.length co48) t213) ∧ Aside0 (Kd.R (Kd.int .u64) 57 wc w.heap.size (fun k_ => (w.heap.size ≤ k_) ∧ some k_ ≠ ((.slice Ao27 y182.length co27) : Value).ownBlock) v196 x13_1) ∧ Aside0 (Below w.heap.size w wc))
                case first =>
                 have H := HC41.out
                 clear HC41
                 by_cases c49 : (t213.length : Int) ≥ (t188.length : Int)
                 ·rw [if_pos c49] at H
                  have c49b0 : decide ((t188.length : Int) ≤ (t213.length : Int)) = true := decide_eq_true c49
                  have c49b1 : decide (t188.length ≤ t213.length) = true := decide_eq_true (Int.ofNat_le.mp c49)
                  clear c49
                  (first | rw [c49b0] | rw [c49b1] | (simp only [i64_w, i32_w]; rw [c49b0]) | skip)
                  obtain ⟨ji50, hji50⟩ : ∃ j_ : Int, (wrap64 ((t188.length : Int) - 1)) = j_ := ⟨_, rfl⟩
                  replace H : (if 0 ≤ (ji50) then (if (ji50) < (t213.length : Int) then (if (t213.length : Int) > (t188.length : Int) then (if 0 ≤ (t188.length : Int) then (if (t188.length : Int) < (t213.length : Int) then (if (rd t188 (ji20)) = 0 then (none) else (integer_divide.j1 k1 y182 t185 t188 (rd t188 (ji20)) t213 x13_1 x14_1 (mn (IntKind.u64.wrap (Int.tdiv (IntKind.u64.wrap ((rd t213 (ji50)) + (IntKind.u64.wrap ((rd t213 (t188.length : Int)) * 1000000000)))) (rd t188 (ji20)))) 999999999))) else (none)) else (none)) else (if (rd t188 (ji20)) = 0 then (none) else (integer_divide.j1 k1 y182 t185 t188 (rd t188 (ji20)) t213 x13_1 x14_1 (mn (IntKind.u64.wrap (Int.tdiv (rd t213 (ji50)) (rd t188 (ji20)))) 999999999)))) else (none)) else (none)) = some (r1, r2) := by first | (rw [hji50] at H; exact H) | (simp only [hji50] at H ⊢; exact H)
                  have hji50w : (IntKind.i64.wrap ((t188.length : Int) - 1)) = ji50 := (i64_w _).trans hji50
                  by_cases c51 : 0 ≤ (ji50)
                  ·rw [if_pos c51] at H
                   have c51b0 : decide (0 ≤ (ji50)) = true := decide_eq_true c51
                   clear c51
                   by_cases c52 : (ji50) < (t213.length : Int)
                   ·rw [if_pos c52] at H
                    have c52b0 : decide ((ji50) < (t213.length : Int)) = true := decide_eq_true c52
                    clear c52
                    by_cases c53 : (t213.length : Int) > (t188.length : Int)
                    ·rw [if_pos c53] at H
                     have c53b0 : decide ((t188.length : Int) < (t213.length : Int)) = true := decide_eq_true c53
                     have c53b1 : decide (t188.length < t213.length) = true := decide_eq_true (Int.ofNat_lt.mp c53)
                     clear c53
                     by_cases c54 : 0 ≤ (t188.length : Int)
                     ·rw [if_pos c54] at H
                      have c54b0 : decide (0 ≤ (t188.length : Int)) = true := decide_eq_true c54
                      have c54b1 : decide (0 ≤ t188.length) = true := decide_eq_true (by omega)
                      clear c54
                      by_cases c55 : (t188.length : Int) < (t213.length : Int)
                      ·rw [if_pos c55] at H
                       have c55b0 : decide ((t188.length : Int) < (t213.length : Int)) = true := decide_eq_true c55
                       have c55b1 : decide (t188.length < t213.length) = true := decide_eq_true (Int.ofNat_lt.mp c55)
                       clear c55
                       by_cases c56 : (rd t188 (ji20)) = 0
                       ·rw [if_pos c56] at H
                        exact absurd H (by simp)
                       ·rw [if_neg c56] at H
                        have c56b0 : ((rd t188 (ji20)) == 0) = false := beq_eq_false_iff_ne.mpr c56
                        have c56b1 : ((rd t188 (ji20)) != 0) = true := bne_iff_ne.mpr c56
                        obtain ⟨ji57, hji57⟩ : ∃ j_ : Int, (mn (IntKind.u64.wrap (Int.tdiv (IntKind.u64.wrap ((rd t213 (ji50)) + (IntKind.u64.wrap ((rd t213 (t188.length : Int)) * 1000000000)))) (rd t188 (ji20)))) 999999999) = j_ := ⟨_, rfl⟩
                        replace H : (integer_divide.j1 k1 y182 t185 t188 (rd t188 (ji20)) t213 x13_1 x14_1 ji57) = some (r1, r2) := by first | (rw [hji57] at H; exact H) | (simp only [hji57] at H ⊢; exact H)
                        have hji57_ : (if 999999999 < (IntKind.u64.wrap (Int.tdiv (IntKind.u64.wrap ((rd t213 (ji50)) + (IntKind.u64.wrap ((rd t213 (t188.length : Int)) * 1000000000)))) (rd t188 (ji20)))) then 999999999 else (IntKind.u64.wrap (Int.tdiv (IntKind.u64.wrap ((rd t213 (ji50)) + (IntKind.u64.wrap ((rd t213 (t188.length : Int)) * 1000000000)))) (rd t188 (ji20))))) = ji57 := hji57
                        have H' := Aside0.mk H
                        clear H
                        have p216 : 0 ≤ ((ji50) : Int) := of_decide_eq_true (by first | (with_reducible assumption) | assumption)
                        have q216 : (ji50) < (t213.length : Int) := of_decide_eq_true (by first | (with_reducible assumption) | assumption)
                        obtain ⟨ad216, e216, hx216_0⟩ := Kd.at_int (Kd.V_reads' HO215.out).2.2 (ji50) p216 q216
                        cases e216
                        replace p216 := eq_true p216
                        replace q216 := eq_true q216
                        have p217 : 0 ≤ ((t188.length : Int) : Int) := of_decide_eq_true (by first | (with_reducible assumption) | assumption)
                        have q217 : (t188.length : Int) < (t213.length : Int) := of_decide_eq_true (by first | (with_reducible assumption) | assumption)
                        obtain ⟨ad217, e217, hx217_0⟩ := Kd.at_int (Kd.V_reads' HO215.out).2.2 (t188.length : Int) p217 q217
                        obtain rfl : ad216 = ad217 := (by injection e217)
                        (try simp only [Go.IntWalk.toNatUp] at hx217_0)
                        replace p217 := eq_true p217
                        replace q217 := eq_true q217
                        have ejj := hji50.symm.trans hji20
                        rw [ejj] at hx216_0 p216 q216 hji57 hji57_
                        clear hji50 hji50w ejj
                        go_wp2
                        go_meet
                        case rel => exact ⟨_, (ji57), (by first | rfl | (simp; done) | (simp only [← hji57] <;> (first | rfl | simp)) | (simp [*]; done)), H', ⟨by have := HK1.out; first | omega | exact Nat.le_refl _⟩, ⟨kr (Kd.R_mono HO_8.out (fun _ hk => ⟨hk.1.1, hk.1.2⟩))⟩, ⟨kv (Kd.V_mono HO_9.out (fun _ hk => ⟨hk.1.1, ⟨hk.1.2.1, hk.1.2.2⟩⟩))⟩, ⟨kv (Kd.V_mono HO_10.out (fun _ hk => ⟨hk.1.1, ⟨hk.1.2.1, hk.1.2.2⟩⟩))⟩, ⟨kv HO215.out⟩, ⟨kr (Kd.R_mono HO_13.out (fun _ hk => ⟨hk.1.1, hk.1.2⟩))⟩, ⟨bel⟩⟩
                      ·rw [if_neg c55] at H
                       exact absurd H (by simp)
                     ·rw [if_neg c54] at H
                      exact absurd H (by simp)
                    ·rw [if_neg c53] at H
                     have c53b0 : decide ((t188.length : Int) < (t213.length : Int)) = false := decide_eq_false c53
                     have c53b1 : decide (t188.length < t213.length) = false := decide_eq_false (fun h => c53 (Int.ofNat_lt.mpr h))
                     clear c53
                     by_cases c58 : (rd t188 (ji20)) = 0
                     ·rw [if_pos c58] at H
                      exact absurd H (by simp)
                     ·rw [if_neg c58] at H
                      have c58b0 : ((rd t188 (ji20)) == 0) = false := beq_eq_false_iff_ne.mpr c58
                      have c58b1 : ((rd t188 (ji20)) != 0) = true := bne_iff_ne.mpr c58
                      obtain ⟨ji59, hji59⟩ : ∃ j_ : Int, (mn (IntKind.u64.wrap (Int.tdiv (rd t213 (ji50)) (rd t188 (ji20)))) 999999999) = j_ := ⟨_, rfl⟩
                      replace H : (integer_divide.j1 k1 y182 t185 t188 (rd t188 (ji20)) t213 x13_1 x14_1 ji59) = some (r1, r2) := by first | (rw [hji59] at H; exact H) | (simp only [hji59] at H ⊢; exact H)
                      have hji59_ : (if 999999999 < (IntKind.u64.wrap (Int.tdiv (rd t213 (ji50)) (rd t188 (ji20)))) then 999999999 else (IntKind.u64.wrap (Int.tdiv (rd t213 (ji50)) (rd t188 (ji20))))) = ji59 := hji59
                      have H' := Aside0.mk H
                      clear H
                      have p216 : 0 ≤ ((ji50) : Int) := of_decide_eq_true (by first | (with_reducible assumption) | assumption)
                      have q216 : (ji50) < (t213.length : Int) := of_decide_eq_true (by first | (with_reducible assumption) | assumption)
                      obtain ⟨ad216, e216, hx216_0⟩ := Kd.at_int (Kd.V_reads' HO215.out).2.2 (ji50) p216 q216
                      cases e216
                      replace p216 := eq_true p216
                      replace q216 := eq_true q216
                      have ejj := hji50.symm.trans hji20
                      rw [ejj] at hx216_0 p216 q216 hji59 hji59_
                      clear hji50 hji50w ejj
                      go_wp2
                      go_meet
                      case rel => exact ⟨_, (ji59), (by first | rfl | (simp; done) | (simp only [← hji59] <;> (first | rfl | simp)) | (simp [*]; done)), H', ⟨by have := HK1.out; first | omega | exact Nat.le_refl _⟩, ⟨kr (Kd.R_mono HO_8.out (fun _ hk => ⟨hk.1.1, hk.1.2⟩))⟩, ⟨kv (Kd.V_mono HO_9.out (fun _ hk => ⟨hk.1.1, ⟨hk.1.2.1, hk.1.2.2⟩⟩))⟩, ⟨kv (Kd.V_mono HO_10.out (fun _ hk => ⟨hk.1.1, ⟨hk.1.2.1, hk.1.2.2⟩⟩))⟩, ⟨kv HO215.out⟩, ⟨kr (Kd.R_mono HO_13.out (fun _ hk => ⟨hk.1.1, hk.1.2⟩))⟩, ⟨bel⟩⟩
                   ·rw [if_neg c52] at H
                    exact absurd H (by simp)
                  ·rw [if_neg c51] at H
                   exact absurd H (by simp)
                 ·rw [if_neg c49] at H
                  have c49b0 : decide ((t188.length : Int) ≤ (t213.length : Int)) = false := decide_eq_false c49
                  have c49b1 : decide (t188.length ≤ t213.length) = false := decide_eq_false (fun h => c49 (Int.ofNat_le.mpr h))
                  clear c49
                  (first | rw [c49b0] | rw [c49b1] | (simp only [i64_w, i32_w]; rw [c49b0]) | skip)
                  have H' := Aside0.mk H
                  clear H
                  go_wp2
                  go_meet
                  case rel => exact ⟨_, (0), (by first | rfl | (simp; done) | (simp [*]; done)), H', ⟨by have := HK1.out; first | omega | exact Nat.le_refl _⟩, ⟨kr (Kd.R_mono HO_8.out (fun _ hk => ⟨hk.1.1, hk.1.2⟩))⟩, ⟨kv (Kd.V_mono HO_9.out (fun _ hk => ⟨hk.1.1, ⟨hk.1.2.1, hk.1.2.2⟩⟩))⟩, ⟨kv (Kd.V_mono HO_10.out (fun _ hk => ⟨hk.1.1, ⟨hk.1.2.1, hk.1.2.2⟩⟩))⟩, ⟨kv HO215.out⟩, ⟨kr (Kd.R_mono HO_13.out (fun _ hk => ⟨hk.1.1, hk.1.2⟩))⟩, ⟨bel⟩⟩
                case rest =>
                 clear HC41
                 (try clear c1); (try clear p1); (try clear q1); (try clear hx1); (try clear qi1); (try clear c2); (try clear p2); (try clear q2); (try clear hx2); (try clear c3); (try clear c4); (try clear c4b0); (try clear c5); (try clear c5b0); (try clear c5b1); (try clear c6); (try clear c6b0); (try clear c6b1); (try clear p6); (try clear c15); (try clear c15b0); (try clear c16); (try clear c16b0); (try clear c17); (try clear c17b0); (try clear c17b1); (try clear p17); (try clear q17); (try clear hx17); (try clear qi17); (try clear p18); (try clear q18); (try clear hx18); (try clear p19); (try clear q19); (try clear hx19); (try clear p20); (try clear q20); (try clear hx20); (try clear c21); (try clear c21b0); (try clear p21); (try clear q21); (try clear hx21); (try clear c22); (try clear c22b0); (try clear c23); (try clear c23b0); (try clear c23b1); (try clear c24); (try clear c24b0); (try clear c24b1); (try clear c36); (try clear c36b0); (try clear c37); (try clear c37b0); (try clear c38); (try clear c38b0); (try clear c39); (try clear c49); (try clear c49b0); (try clear c49b1); (try clear c50); (try clear c51); (try clear c51b0); (try clear c52); (try clear c52b0); (try clear c53); (try clear c53b0); (try clear c53b1); (try clear c54); (try clear c54b0); (try clear c54b1); (try clear c55); (try clear c55b0); (try clear c55b1); (try clear c56); (try clear c56b0); (try clear c56b1); (try clear c58); (try clear c58b0); (try clear c58b1); (try clear hx170_0); (try clear hx181_0); (try clear hx191_0); (try clear hx206_0); (try clear hx216_0); (try clear hx217_0); (try clear p1); (try clear p17); (try clear p170); (try clear p18); (try clear p181); (try clear p19); (try clear p191); (try clear p2); (try clear p206); (try clear p216); (try clear p217); (try clear p6); (try clear q1); (try clear q17); (try clear q170); (try clear q18); (try clear q181); (try clear q19); (try clear q191); (try clear q206); (try clear q216); (try clear q217)
                 obtain ⟨kq, x15_40, rfl, HA, HJ40, HO_8, HO_9, HO_10, HO_12, HO_13, HB⟩ := hcut
                 cases kq with
                 | zero => exact absurd HA.out (by simp [integer_divide.j1])
                 | succ kj40 =>
                  have H := HA.out
                  clear HA
                  simp only [integer_divide.j1] at H
                  obtain ⟨y218, hy218⟩ : ∃ y_ : List Int, y_ = (([x15_40] : List Int)) := ⟨_, rfl⟩
                  replace H : ((integer_times.f kj40 t188 y218).bind fun t221 => (if x15_40 = 0 then (integer_divide.j2 kj40 y182 t185 t188 (rd t188 (ji20)) t213 x13_1 x14_1 x15_40 ([] : List Int)) else (integer_divide.j2 kj40 y182 t185 t188 (rd t188 (ji20)) t213 x13_1 x14_1 x15_40 t221))) = some (r1, r2) := by first | (rw [hy218]; with_reducible exact H) | (have H2_ := (Option.bind_some _ _).symm.trans H; rw [hy218]; with_reducible exact H2_) | (have H2_ := (Option.bind_some _ _).symm.trans H; with_reducible exact H2_) | with_reducible exact H | (rw [hy218]; exact H) | exact H
                  have Ny218 := Aside0.mk hy218
                  clear hy218
                  obtain ⟨t221, A60, H⟩ := bind_ H
                  try dsimp only at H
                  have HC61 := Aside0.mk H
                  clear H
                  go_upto_if 113 with (first | ((with_reducible refine gate_dst (N := 110) rfl ?_); refine Kd.R_lit (Kd.int .u64) _ 57 ?hg (N := 110) ?hd (xs := ([x15_40] : List Int)) (inner := [.int .u64 x15_40]) (ok := fun _ => True) (okp := fun _ => True) ?hr ?hp (fun _ hk => hk) trivial (Below.refl _ _) (Nat.le_refl _) (by simp) ?_; (case hd => rfl); (case hg => rfl); (case hr => first | (go_simp; done) | (go_simp; rfl)); (case hp => exact (Reps.one (show Kd.M (Kd.int .u64) _ _ _ x15_40 [.int .u64 x15_40] from rfl) (Reps.none _ _))); intro v219 w62 ho63 hb hg_ hnew_; clear hg_ hnew_; (first | rw [← Ny218.out] at ho63 | (simp only [Int.reduceToNat] at ho63; rw [← Ny218.out] at ho63)); have HO220 := Aside0.mk (Kd.R_lower (Kd.R_new' (Kd.R_new' (Kd.R_newM (M := fun k_ => (w.heap.size ≤ k_)) ho63 (below_size bel) (fun k_ h_ => h_)) (Kd.R_lt (kr HO_8.out))) (Kd.R_lt (kr HO_13.out))) (below_size bel)); replace HO_8 := Aside0.mk (Kd.R_elder' (kr HO_8.out) (Kd.R_base ho63) hb); replace HO_9 := Aside0.mk (Kd.V_elder' (kv HO_9.out) (Kd.R_base ho63) hb); replace HO_10 := Aside0.mk (Kd.V_elder' (kv HO_10.out) (Kd.R_base ho63) hb); replace HO_12 := Aside0.mk (Kd.V_elder' (kv HO_12.out) (Kd.R_base ho63) hb); replace HO_13 := Aside0.mk (Kd.R_elder' (kr HO_13.out) (Kd.R_base ho63) hb); replace HB := Aside0.mk (below_step bel hb); clear hb ho63; obtain ⟨Ao64, co64, eo64⟩ := Kd.R_slice HO220.out; subst eo64) | ((with_reducible refine gate_callee (f := 50) rfl ?_); refine goesL_ (some 111) rfl rfl Tryd.func50 (by kernel_rfl) rfl #[.slice (some ad191) t188.length co30, .slice Ao64 y218.length co64] rfl ag ?_; (with_reducible refine (integer_times.calls kj40 _ _ t188 _ _ y218 t221 _ gk ?side2 ?side3 ?side4 ?side5 A60.out).mono ?_); (case side2 => exact kc ((Kd.V_reads' HO_10.out).2.2)); (case side3 => exact (Kd.V_reads' HO_10.out).2.1); (case side4 => exact kc ((Kd.R_reads' HO220.out).2.2)); (case side5 => exact (Kd.R_reads' HO220.out).2.1); rintro e w65 ⟨v222, rfl, ho0, hb⟩; refine ⟨_, rfl, ?_⟩; have HO223 := Aside0.mk (Kd.V_lower (Kd.V_mono (ok' := fun k_ => (P0_ k_ ∨ w.heap.size ≤ k_) ∧ some k_ ≠ (.slice Ao27 y182.length co27 : Value).ownBlock ∧ some k_ ≠ (v196 : Value).ownBlock ∧ some k_ ≠ (.slice Ao64 y218.length co64 : Value).ownBlock) ho0 (fun k_ hk_ => ⟨(.inr (Nat.le_trans (below_size bel) hk_)), (Kd.fresh' (Kd.R_lt (kr HO_8.out)) k_ hk_), (Kd.fresh' (Kd.R_lt (kr HO_13.out)) k_ hk_), (Kd.fresh' (Kd.R_lt (kr HO220.out)) k_ hk_)⟩)) (below_size bel)); replace HO_8 := Aside0.mk (Kd.R_below (kr HO_8.out) hb); replace HO_9 := Aside0.mk (Kd.V_below (kv HO_9.out) hb); replace HO_10 := Aside0.mk (Kd.V_below (kv HO_10.out) hb); replace HO_12 := Aside0.mk (Kd.V_below (kv HO_12.out) hb); replace HO_13 := Aside0.mk (Kd.R_below (kr HO_13.out) hb); replace HO220 := Aside0.mk (Kd.R_below (kr HO220.out) hb); replace HB := Aside0.mk (below_step bel hb); clear hb ho0))
                  (try simp only [Act.put, List.setIfInBounds_toArray, List.set_cons_zero, List.set_cons_succ])
                  go_cut [17] (fun v17 wc => ∃ (kq : Nat) (x17_60 : List Int), Aside0 (integer_divide.j2 kq y182 t185 t188 (rd t188 (ji20)) t213 x13_1 x14_1 x15_40 x17_60 = some (r1, r2)) ∧ Aside0 (kq ≤ kj40) ∧ Aside0 (Kd.R (Kd.int .u64) 57 wc w.heap.size (fun k_ => (w.heap.size ≤ k_) ∧ some k_ ≠ (v196 : Value).ownBlock) (.slice Ao27 y182.length co27) y182) ∧ Aside0 (Kd.V (Kd.int .u64) 57 wc w.heap.size (fun k_ => (P0_ k_ ∨ w.heap.size ≤ k_) ∧ some k_ ≠ ((.slice Ao27 y182.length co27) : Value).ownBlock ∧ some k_ ≠ (v196 : Value).ownBlock) (.slice (some ad206) t185.length co33) t185) ∧ Aside0 (Kd.V (Kd.int .u64) 57 wc w.heap.size (fun k_ => (P0_ k_ ∨ w.heap.size ≤ k_) ∧ some k_ ≠ ((.slice Ao27 y182.length co27) : Value).ownBlock ∧ some k_ ≠ (v196 : Value).ownBlock) (.slice (some ad191) t188.length co30) t188) ∧ Aside0 (Kd.V (Kd.int .u64) 57 wc w.heap.size (fun k_ => (P0_ k_ ∨ w.heap.size ≤ k_) ∧ some k_ ≠ ((.slice Ao27 y182.length co27) : Value).ownBlock ∧ some k_ ≠ (v196 : Value).ownBlock) (.slice Ao48 t213.length co48) t213) ∧ Aside0 (Kd.R (Kd.int .u64) 57 wc w.heap.size (fun k_ => (w.heap.size ≤ k_) ∧ some k_ ≠ ((.slice Ao27 y182.length co27) : Value).ownBlock) v196 x13_1) ∧ Aside0 (Kd.V (Kd.int .u64) 57 wc w.heap.size (fun k_ => (P0_ k_ ∨ w.heap.size ≤ k_) ∧ some k_ ≠ ((.slice Ao27 y182.length co27) : Value).ownBlock ∧ some k_ ≠ (v196 : Value).ownBlock) v17 x17_60) ∧ Aside0 (Below w.heap.size w wc))
                  case first =>
                   have H := HC61.out
                   clear HC61
                   by_cases c66 : x15_40 = 0
                   ·rw [if_pos c66] at H
                    have c66b0 : (x15_40 == 0) = true := beq_iff_eq.mpr c66
                    have c66b1 : (x15_40 != 0) = false := bne_eq_false_iff_eq.mpr c66
                    clear c66
                    (first | rw [c66b0] | rw [c66b1] | (simp only [i64_w, i32_w]; rw [c66b0]) | skip)
                    have H' := Aside0.mk H
                    clear H
                    go_wp2
                    go_meet
                    case rel => exact ⟨_, (([] : List Int)), H', ⟨by have := HK1.out; have := HJ40.out; first | omega | exact Nat.le_refl _⟩, ⟨kr (Kd.R_mono HO_8.out (fun _ hk => ⟨hk.1.1, hk.1.2⟩))⟩, ⟨kv (Kd.V_mono HO_9.out (fun _ hk => ⟨hk.1.1, ⟨hk.1.2.1, hk.1.2.2⟩⟩))⟩, ⟨kv (Kd.V_mono HO_10.out (fun _ hk => ⟨hk.1.1, ⟨hk.1.2.1, hk.1.2.2⟩⟩))⟩, ⟨kv (Kd.V_mono HO_12.out (fun _ hk => ⟨hk.1.1, ⟨hk.1.2.1, hk.1.2.2⟩⟩))⟩, ⟨kr (Kd.R_mono HO_13.out (fun _ hk => ⟨hk.1.1, hk.1.2⟩))⟩, ⟨Kd.V_nil _ _ _ _ _⟩, ⟨bel⟩⟩
                   ·rw [if_neg c66] at H
                    have c66b0 : (x15_40 == 0) = false := beq_eq_false_iff_ne.mpr c66
                    have c66b1 : (x15_40 != 0) = true := bne_iff_ne.mpr c66
                    (first | rw [c66b0] | rw [c66b1] | (simp only [i64_w, i32_w]; rw [c66b0]) | skip)
                    have H' := Aside0.mk H
                    clear H
                    go_wp2
                    go_meet
                    case rel => exact ⟨_, (t221), H', ⟨by have := HK1.out; have := HJ40.out; first | omega | exact Nat.le_refl _⟩, ⟨kr (Kd.R_mono HO_8.out (fun _ hk => ⟨hk.1.1, hk.1.2⟩))⟩, ⟨kv (Kd.V_mono HO_9.out (fun _ hk => ⟨hk.1.1, ⟨hk.1.2.1, hk.1.2.2⟩⟩))⟩, ⟨kv (Kd.V_mono HO_10.out (fun _ hk => ⟨hk.1.1, ⟨hk.1.2.1, hk.1.2.2⟩⟩))⟩, ⟨kv (Kd.V_mono HO_12.out (fun _ hk => ⟨hk.1.1, ⟨hk.1.2.1, hk.1.2.2⟩⟩))⟩, ⟨kr (Kd.R_mono HO_13.out (fun _ hk => ⟨hk.1.1, hk.1.2⟩))⟩, ⟨kv (Kd.V_mono HO223.out (fun _ hk => ⟨hk.1, ⟨hk.2.1, hk.2.2.1⟩⟩))⟩, ⟨bel⟩⟩
                  case rest =>
                   clear HC61
                   (try clear c1); (try clear p1); (try clear q1); (try clear hx1); (try clear qi1); (try clear c2); (try clear p2); (try clear q2); (try clear hx2); (try clear c3); (try clear c4); (try clear c4b0); (try clear c5); (try clear c5b0); (try clear c5b1); (try clear c6); (try clear c6b0); (try clear c6b1); (try clear p6); (try clear c15); (try clear c15b0); (try clear c16); (try clear c16b0); (try clear c17); (try clear c17b0); (try clear c17b1); (try clear p17); (try clear q17); (try clear hx17); (try clear qi17); (try clear p18); (try clear q18); (try clear hx18); (try clear p19); (try clear q19); (try clear hx19); (try clear p20); (try clear q20); (try clear hx20); (try clear c21); (try clear c21b0); (try clear p21); (try clear q21); (try clear hx21); (try clear c22); (try clear c22b0); (try clear c23); (try clear c23b0); (try clear c23b1); (try clear c24); (try clear c24b0); (try clear c24b1); (try clear c36); (try clear c36b0); (try clear c37); (try clear c37b0); (try clear c38); (try clear c38b0); (try clear c39); (try clear c49); (try clear c49b0); (try clear c49b1); (try clear c50); (try clear c51); (try clear c51b0); (try clear c52); (try clear c52b0); (try clear c53); (try clear c53b0); (try clear c53b1); (try clear c54); (try clear c54b0); (try clear c54b1); (try clear c55); (try clear c55b0); (try clear c55b1); (try clear c56); (try clear c56b0); (try clear c56b1); (try clear c58); (try clear c58b0); (try clear c58b1); (try clear p64); (try clear c66); (try clear c66b0); (try clear c66b1); (try clear hx170_0); (try clear hx181_0); (try clear hx191_0); (try clear hx206_0); (try clear hx216_0); (try clear hx217_0); (try clear p1); (try clear p17); (try clear p170); (try clear p18); (try clear p181); (try clear p19); (try clear p191); (try clear p2); (try clear p20); (try clear p206); (try clear p21); (try clear p216); (try clear p217); (try clear p6); (try clear q1); (try clear q17); (try clear q170); (try clear q18); (try clear q181); (try clear q19); (try clear q191); (try clear q2); (try clear q20); (try clear q206); (try clear q21); (try clear q216); (try clear q217)
                   obtain ⟨kq, x17_60, HA, HJ60, HO_8, HO_9, HO_10, HO_12, HO_13, HO_17, HB⟩ := hcut
                   cases kq with
                   | zero => exact absurd HA.out (by simp [integer_divide.j2])
                   | succ kj60 =>
                    have H := HA.out
                    clear HA
                    simp only [integer_divide.j2] at H
                    have H' := Aside0.mk H
                    clear H
                    go_wp2
                    go_loopg [15, 17] kj60 (fun kq v15 v17 w' => ∃ (x15_4 : Int) (x17_4 : List Int), v15 = .int .u64 x15_4 ∧ Aside0 (integer_divide.l1 kq y182 t185 t188 (rd t188 (ji20)) t213 x13_1 x14_1 x15_4 x17_4 = some (r1, r2)) ∧ Aside0 (kq ≤ kj60) ∧ Aside0 (Kd.R (Kd.int .u64) 57 w' w.heap.size (fun k_ => (w.heap.size ≤ k_) ∧ some k_ ≠ (v196 : Value).ownBlock) (.slice Ao27 y182.length co27) y182) ∧ Aside0 (Kd.V (Kd.int .u64) 57 w' w.heap.size (fun k_ => (P0_ k_ ∨ w.heap.size ≤ k_) ∧ some k_ ≠ ((.slice Ao27 y182.length co27) : Value).ownBlock ∧ some k_ ≠ (v196 : Value).ownBlock) (.slice (some ad206) t185.length co33) t185) ∧ Aside0 (Kd.V (Kd.int .u64) 57 w' w.heap.size (fun k_ => (P0_ k_ ∨ w.heap.size ≤ k_) ∧ some k_ ≠ ((.slice Ao27 y182.length co27) : Value).ownBlock ∧ some k_ ≠ (v196 : Value).ownBlock) (.slice (some ad191) t188.length co30) t188) ∧ Aside0 (Kd.V (Kd.int .u64) 57 w' w.heap.size (fun k_ => (P0_ k_ ∨ w.heap.size ≤ k_) ∧ some k_ ≠ ((.slice Ao27 y182.length co27) : Value).ownBlock ∧ some k_ ≠ (v196 : Value).ownBlock) (.slice Ao48 t213.length co48) t213) ∧ Aside0 (Kd.R (Kd.int .u64) 57 w' w.heap.size (fun k_ => (w.heap.size ≤ k_) ∧ some k_ ≠ ((.slice Ao27 y182.length co27) : Value).ownBlock) v196 x13_1) ∧ Aside0 (Kd.V (Kd.int .u64) 57 w' w.heap.size (fun k_ => (P0_ k_ ∨ w.heap.size ≤ k_) ∧ some k_ ≠ ((.slice Ao27 y182.length co27) : Value).ownBlock ∧ some k_ ≠ (v196 : Value).ownBlock) v17 x17_4) ∧ Aside0 (Below w.heap.size w w'))
                    case atStart => exact ⟨(x15_40), (x17_60), (by first | rfl | (simp; done) | (simp [*]; done)), H', ⟨Nat.le_refl _⟩, ⟨kr HO_8.out⟩, ⟨kv HO_9.out⟩, ⟨kv HO_10.out⟩, ⟨kv HO_12.out⟩, ⟨kr HO_13.out⟩, ⟨kv HO_17.out⟩, ⟨bel⟩⟩
                    case round =>
                     clear H'
                     (try clear c1); (try clear p1); (try clear q1); (try clear hx1); (try clear qi1); (try clear c2); (try clear p2); (try clear q2); (try clear hx2); (try clear c3); (try clear c4); (try clear c4b0); (try clear c5); (try clear c5b0); (try clear c5b1); (try clear c6); (try clear c6b0); (try clear c6b1); (try clear p6); (try clear c15); (try clear c15b0); (try clear c16); (try clear c16b0); (try clear c17); (try clear c17b0); (try clear c17b1); (try clear p17); (try clear q17); (try clear hx17); (try clear qi17); (try clear p18); (try clear q18); (try clear hx18); (try clear p19); (try clear q19); (try clear hx19); (try clear p20); (try clear q20); (try clear hx20); (try clear c21); (try clear c21b0); (try clear p21); (try clear q21); (try clear hx21); (try clear c22); (try clear c22b0); (try clear c23); (try clear c23b0); (try clear c23b1); (try clear c24); (try clear c24b0); (try clear c24b1); (try clear c36); (try clear c36b0); (try clear c37); (try clear c37b0); (try clear c38); (try clear c38b0); (try clear c39); (try clear c49); (try clear c49b0); (try clear c49b1); (try clear c50); (try clear c51); (try clear c51b0); (try clear c52); (try clear c52b0); (try clear c53); (try clear c53b0); (try clear c53b1); (try clear c54); (try clear c54b0); (try clear c54b1); (try clear c55); (try clear c55b0); (try clear c55b1); (try clear c56); (try clear c56b0); (try clear c56b1); (try clear c58); (try clear c58b0); (try clear c58b1); (try clear p64); (try clear c66); (try clear c66b0); (try clear c66b1); (try clear hx170_0); (try clear hx181_0); (try clear hx191_0); (try clear hx206_0); (try clear hx216_0); (try clear hx217_0); (try clear p1); (try clear p17); (try clear p170); (try clear p18); (try clear p181); (try clear p19); (try clear p191); (try clear p2); (try clear p20); (try clear p206); (try clear p21); (try clear p216); (try clear p217); (try clear p6); (try clear p64); (try clear q1); (try clear q17); (try clear q170); (try clear q18); (try clear q181); (try clear q19); (try clear q191); (try clear q2); (try clear q20); (try clear q206); (try clear q21); (try clear q216); (try clear q217)
                     obtain ⟨x15_4, x17_4, rfl, HA, HK4, HO_8, HO_9, HO_10, HO_12, HO_13, HO_17, HB⟩ := hrel
                     cases gk with
                     | zero => exact absurd HA.out (by simp [integer_divide.l1])
                     | succ k4 =>
                      have H := HA.out
                      clear HA
                      simp only [integer_divide.l1] at H
                      obtain ⟨t224, A67, H⟩ := bind_ H
                      try dsimp only at H
                      by_cases c68 : t224 > 0
                      ·rw [if_pos c68] at H
                       have c68b0 : decide (0 < t224) = true := decide_eq_true c68
                       clear c68
                       obtain ⟨t225, A69, H⟩ := bind_ H
                       try dsimp only at H
                       have H' := Aside0.mk H
                       clear H
                       obtain ⟨Ao70, co70, eo70⟩ := Kd.V_slice HO_17.out
                       subst eo70
                       go_wp2_with (first | ((with_reducible refine gate_callee (f := 55) rfl ?_); refine goesL_ (some 116) rfl rfl Tryd.func55 (by kernel_rfl) rfl #[.slice Ao70 x17_4.length co70, .slice Ao48 t213.length co48] rfl ag ?_; (with_reducible refine (integer_compare.calls k4 _ _ x17_4 _ _ t213 t224 _ gk ?side2 ?side3 ?side4 ?side5 A67.out).mono ?_); (case side2 => exact kc ((Kd.V_reads' HO_17.out).2.2)); (case side3 => exact (Kd.V_reads' HO_17.out).2.1); (case side4 => exact kc ((Kd.V_reads' HO_12.out).2.2)); (case side5 => exact (Kd.V_reads' HO_12.out).2.1); rintro e w' ⟨rfl, ⟨nd, rfl⟩⟩; refine ⟨_, rfl, ?_⟩) | ((with_reducible refine gate_callee (f := 57) rfl ?_); refine goesL_ (some 122) rfl rfl Tryd.func57 (by kernel_rfl) rfl #[.slice Ao70 x17_4.length co70, .slice (some ad191) t188.length co30] rfl ag ?_; (with_reducible refine (integer_minus.calls k4 _ _ x17_4 _ _ t188 t225 _ gk ?side2 ?side3 ?side4 ?side5 A69.out).mono ?_); (case side2 => exact kc ((Kd.V_reads' HO_17.out).2.2)); (case side3 => exact (Kd.V_reads' HO_17.out).2.1); (case side4 => exact kc ((Kd.V_reads' HO_10.out).2.2)); (case side5 => exact (Kd.V_reads' HO_10.out).2.1); rintro e w71 ⟨v226, rfl, ho0, hb⟩; refine ⟨_, rfl, ?_⟩; have HO227 := Aside0.mk (Kd.V_lower (Kd.V_mono (ok' := fun k_ => (P0_ k_ ∨ w.heap.size ≤ k_) ∧ some k_ ≠ (.slice Ao27 y182.length co27 : Value).ownBlock ∧ some k_ ≠ (v196 : Value).ownBlock) ho0 (fun k_ hk_ => ⟨(.inr (Nat.le_trans (below_size bel) hk_)), (Kd.fresh' (Kd.R_lt (kr HO_8.out)) k_ hk_), (Kd.fresh' (Kd.R_lt (kr HO_13.out)) k_ hk_)⟩)) (below_size bel)); replace HO_8 := Aside0.mk (Kd.R_below (kr HO_8.out) hb); replace HO_9 := Aside0.mk (Kd.V_below (kv HO_9.out) hb); replace HO_10 := Aside0.mk (Kd.V_below (kv HO_10.out) hb); replace HO_12 := Aside0.mk (Kd.V_below (kv HO_12.out) hb); replace HO_13 := Aside0.mk (Kd.R_below (kr HO_13.out) hb); replace HO_17 := Aside0.mk (Kd.V_below (kv HO_17.out) hb); replace HB := Aside0.mk (below_step bel hb); clear hb ho0))
                       go_roundg k4
                       case measure => have := HK1.out; have := HJ40.out; have := HJ60.out; have := HK4.out; omega
                       case rel => exact ⟨(IntKind.u64.wrap (x15_4 - 1)), (t225), (by first | rfl | (simp; done) | (simp [*]; done)), H', ⟨by have := HK1.out; have := HJ40.out; have := HJ60.out; have := HK4.out; omega⟩, ⟨kr HO_8.out⟩, ⟨kv HO_9.out⟩, ⟨kv HO_10.out⟩, ⟨kv HO_12.out⟩, ⟨kr HO_13.out⟩, ⟨kv HO227.out⟩, ⟨bel⟩⟩
                      ·rw [if_neg c68] at H
                       have c68b0 : decide (0 < t224) = false := decide_eq_false c68
                       clear c68
                       by_cases c72 : 0 ≤ x14_1
                       ·rw [if_pos c72] at H
                        have c72b0 : decide (0 ≤ x14_1) = true := decide_eq_true c72
                        clear c72
                        by_cases c73 : x14_1 < (x13_1.length : Int)
                        ·rw [if_pos c73] at H
                         have c73b0 : decide (x14_1 < (x13_1.length : Int)) = true := decide_eq_true c73
                         clear c73
                         obtain ⟨y228, hy228⟩ : ∃ y_ : List Int, y_ = (x13_1.set (x14_1 : Int).toNat x15_4) := ⟨_, rfl⟩
                         replace H : ((integer_minus.f k4 t213 x17_4).bind fun t229 => (integer_divide.l0 k4 y182 t185 t188 (rd t188 (ji20)) t229 y228 (wrap64 (x14_1 - 1)))) = some (r1, r2) := by first | (rw [hy228]; with_reducible exact H) | (have H2_ := (Option.bind_some _ _).symm.trans H; rw [hy228]; with_reducible exact H2_) | (have H2_ := (Option.bind_some _ _).symm.trans H; with_reducible exact H2_) | with_reducible exact H | (rw [hy228]; exact H) | exact H
                         have Ny228 := Aside0.mk hy228
                         clear hy228
                         obtain ⟨t229, A75, H⟩ := bind_ H
                         try dsimp only at H
                         have H' := Aside0.mk H
                         clear H
                         obtain ⟨Ao76, co76, eo76⟩ := Kd.V_slice HO_17.out
                         subst eo76
                         go_wp2_with (first | ((with_reducible refine gate_callee (f := 55) rfl ?_); refine goesL_ (some 116) rfl rfl Tryd.func55 (by kernel_rfl) rfl #[.slice Ao76 x17_4.length co76, .slice Ao48 t213.length co48] rfl ag ?_; (with_reducible refine (integer_compare.calls k4 _ _ x17_4 _ _ t213 t224 _ gk ?side2 ?side3 ?side4 ?side5 A67.out).mono ?_); (case side2 => exact kc ((Kd.V_reads' HO_17.out).2.2)); (case side3 => exact (Kd.V_reads' HO_17.out).2.1); (case side4 => exact kc ((Kd.V_reads' HO_12.out).2.2)); (case side5 => exact (Kd.V_reads' HO_12.out).2.1); rintro e w' ⟨rfl, ⟨nd, rfl⟩⟩; refine ⟨_, rfl, ?_⟩; (try (rw [drewN_self wr]; generalize hq_ : World.drewN wr _ = wr; have n0_ : Aside0 (Kd.V (Kd.int .u64) 57 wr w.heap.size (fun k_ => (P0_ k_ ∨ w.heap.size ≤ k_) ∧ some k_ ≠ (v196 : Value).ownBlock ∧ some k_ ≠ (.slice Ao27 y182.length co27 : Value).ownBlock) (.slice (some ad191) t188.length co30) t188) := ⟨by rw [← hq_]; exact (kv (Kd.V_mono HO_10.out (fun _ hk => ⟨hk.1, ⟨hk.2.2, hk.2.1⟩⟩)))⟩; have n1_ : Aside0 (Kd.V (Kd.int .u64) 57 wr w.heap.size (fun k_ => (P0_ k_ ∨ w.heap.size ≤ k_) ∧ some k_ ≠ (v196 : Value).ownBlock ∧ some k_ ≠ (.slice Ao27 y182.length co27 : Value).ownBlock) (.slice Ao48 t213.length co48) t213) := ⟨by rw [← hq_]; exact (kv (Kd.V_mono HO_12.out (fun _ hk => ⟨hk.1, ⟨hk.2.2, hk.2.1⟩⟩)))⟩; have n2_ : Aside0 (Kd.R (Kd.int .u64) 57 wr w.heap.size (fun k_ => (w.heap.size ≤ k_) ∧ some k_ ≠ (.slice Ao27 y182.length co27 : Value).ownBlock) v196 x13_1) := ⟨by rw [← hq_]; exact (kr HO_13.out)⟩; have n3_ : Aside0 (Kd.V (Kd.int .u64) 57 wr w.heap.size (fun k_ => (P0_ k_ ∨ w.heap.size ≤ k_) ∧ some k_ ≠ (v196 : Value).ownBlock ∧ some k_ ≠ (.slice Ao27 y182.length co27 : Value).ownBlock) (.slice Ao76 x17_4.length co76) x17_4) := ⟨by rw [← hq_]; exact (kv (Kd.V_mono HO_17.out (fun _ hk => ⟨hk.1, ⟨hk.2.2, hk.2.1⟩⟩)))⟩; have n4_ : Aside0 (Kd.R (Kd.int .u64) 57 wr w.heap.size (fun k_ => (w.heap.size ≤ k_) ∧ some k_ ≠ (v196 : Value).ownBlock) (.slice Ao27 y182.length co27) y182) := ⟨by rw [← hq_]; exact (kr HO_8.out)⟩; have n5_ : Aside0 (Kd.V (Kd.int .u64) 57 wr w.heap.size (fun k_ => (P0_ k_ ∨ w.heap.size ≤ k_) ∧ some k_ ≠ (v196 : Value).ownBlock ∧ some k_ ≠ (.slice Ao27 y182.length co27 : Value).ownBlock) (.slice (some ad206) t185.length co33) t185) := ⟨by rw [← hq_]; exact (kv (Kd.V_mono HO_9.out (fun _ hk => ⟨hk.1, ⟨hk.2.2, hk.2.1⟩⟩)))⟩; have n6_ : Aside0 (Below w.heap.size w wr) := ⟨by rw [← hq_]; exact bel⟩; clear HO_10 HO_12 HO_13 HO_17 HO_8 HO_9 HB hq_; have HO_10 := n0_; have HO_12 := n1_; have HO_13 := n2_; have HO_17 := n3_; have HO_8 := n4_; have HO_9 := n5_; have HB := n6_; clear n0_ n1_ n2_ n3_ n4_ n5_ n6_)); have p74 : 0 ≤ (x14_1 : Int) := of_decide_eq_true (by first | (with_reducible assumption) | assumption); have q74 : (x14_1 : Int) < ((x13_1.length : Int) : Int) := of_decide_eq_true (by first | (with_reducible assumption) | assumption); obtain ⟨go74, co74, eo74, gb74, gl74, cl74, HG74⟩ := Kd.R_form HO_13.out (by omega); (first | cases eo74 | (injection eo74 with ea_ en_ ec_; (first | subst ea_ | (injection ea_ with ea_; subst ea_)); subst ec_; clear en_)); have GB74 := Aside0.mk gb74; have GG74 := Aside0.mk HG74; clear gb74 gl74 HG74; obtain ⟨hx74_0, hf74_0⟩ := Kd.R_celln 0 HO_13.out (x14_1 : Int) p74 q74; replace p74 := eq_true p74; replace q74 := eq_true q74; obtain ⟨hy77_, hz77_⟩ := Kd.R_celln 0 HO_13.out (x14_1 : Int) (of_decide_eq_true (by first | (with_reducible assumption) | assumption)) (of_decide_eq_true (by first | (with_reducible assumption) | assumption)); have HP77 := Kd.R_putg HO_13.out (x14_1 : Int) x15_4) | ((with_reducible refine gate_store (t := 57) (p := 126) rfl ?_); (try (obtain ⟨hyq77_, hzq77_⟩ := Kd.R_celln 0 HO_13.out (x14_1 : Int) (of_decide_eq_true (by first | (with_reducible assumption) | assumption)) (of_decide_eq_true (by first | (with_reducible assumption) | assumption)))); refine store_event (t := 57) (p := 126) (v := ?vo_w78) (w1 := (wr.setCell ⟨go74, (x14_1 : Int).toNat, none⟩ (.int .u64 x15_4))) ?hg ?ho ?hn ?hr ?_; (case ho => rfl); (case hg => rfl); (case hn => rfl); (case hr => first | (go_simp; done) | (go_simp; rfl)); intro w78 hw; have hg : wr.grownBy w78 (some go74) := (by rw [hw]; exact HP77.2); have hp_ : Kd.R (Kd.int .u64) 57 w78 w.heap.size (fun k_ => (w.heap.size ≤ k_) ∧ some k_ ≠ (.slice Ao27 y182.length co27 : Value).ownBlock) (.slice (some ⟨go74, 0, none⟩) x13_1.length co74) y228 := (by rw [hw, Ny228.out]; exact HP77.1); clear HP77; replace HO_8 := Aside0.mk (Kd.R_after (v := (.slice (some ⟨go74, 0, none⟩) x13_1.length co74)) (v1 := (.slice (some ⟨go74, 0, none⟩) x13_1.length co74)) (ok := (fun k_ => (w.heap.size ≤ k_))) (kr HO_8.out) hg (.inl rfl)); replace HO_9 := Aside0.mk (Kd.V_afterv (v := (.slice (some ⟨go74, 0, none⟩) x13_1.length co74)) (v1 := (.slice (some ⟨go74, 0, none⟩) x13_1.length co74)) (ok := (fun k_ => (P0_ k_ ∨ w.heap.size ≤ k_) ∧ some k_ ≠ (.slice Ao27 y182.length co27 : Value).ownBlock)) (kv (Kd.V_mono HO_9.out (fun _ hk => by first | exact ⟨⟨hk.1, hk.2.1⟩, hk.2.2⟩ | exact ⟨⟨hk.1, hk.2.2⟩, hk.2.1⟩))) hg (.inl rfl)); replace HO_10 := Aside0.mk (Kd.V_afterv (v := (.slice (some ⟨go74, 0, none⟩) x13_1.length co74)) (v1 := (.slice (some ⟨go74, 0, none⟩) x13_1.length co74)) (ok := (fun k_ => (P0_ k_ ∨ w.heap.size ≤ k_) ∧ some k_ ≠ (.slice Ao27 y182.length co27 : Value).ownBlock)) (kv (Kd.V_mono HO_10.out (fun _ hk => by first | exact ⟨⟨hk.1, hk.2.1⟩, hk.2.2⟩ | exact ⟨⟨hk.1, hk.2.2⟩, hk.2.1⟩))) hg (.inl rfl)); replace HO_12 := Aside0.mk (Kd.V_afterv (v := (.slice (some ⟨go74, 0, none⟩) x13_1.length co74)) (v1 := (.slice (some ⟨go74, 0, none⟩) x13_1.length co74)) (ok := (fun k_ => (P0_ k_ ∨ w.heap.size ≤ k_) ∧ some k_ ≠ (.slice Ao27 y182.length co27 : Value).ownBlock)) (kv (Kd.V_mono HO_12.out (fun _ hk => by first | exact ⟨⟨hk.1, hk.2.1⟩, hk.2.2⟩ | exact ⟨⟨hk.1, hk.2.2⟩, hk.2.1⟩))) hg (.inl rfl)); replace HO_13 := Aside0.mk (hp_); replace HO_17 := Aside0.mk (Kd.V_afterv (v := (.slice (some ⟨go74, 0, none⟩) x13_1.length co74)) (v1 := (.slice (some ⟨go74, 0, none⟩) x13_1.length co74)) (ok := (fun k_ => (P0_ k_ ∨ w.heap.size ≤ k_) ∧ some k_ ≠ (.slice Ao27 y182.length co27 : Value).ownBlock)) (kv (Kd.V_mono HO_17.out (fun _ hk => by first | exact ⟨⟨hk.1, hk.2.1⟩, hk.2.2⟩ | exact ⟨⟨hk.1, hk.2.2⟩, hk.2.1⟩))) hg (.inl rfl)); replace HB := Aside0.mk ((by rw [hw]; exact below_set (HB.out) GB74.out : Below w.heap.size w w78)); clear hg hw hp_) | ((with_reducible refine gate_callee (f := 57) rfl ?_); refine goesL_ (some 129) rfl rfl Tryd.func57 (by kernel_rfl) rfl #[.slice Ao48 t213.length co48, .slice Ao76 x17_4.length co76] rfl ag ?_; (with_reducible refine (integer_minus.calls k4 _ _ t213 _ _ x17_4 t229 _ gk ?side2 ?side3 ?side4 ?side5 A75.out).mono ?_); (case side2 => exact kc ((Kd.V_reads' HO_12.out).2.2)); (case side3 => exact (Kd.V_reads' HO_12.out).2.1); (case side4 => exact kc ((Kd.V_reads' HO_17.out).2.2)); (case side5 => exact (Kd.V_reads' HO_17.out).2.1); rintro e w79 ⟨v230, rfl, ho0, hb⟩; refine ⟨_, rfl, ?_⟩; have HO231 := Aside0.mk (Kd.V_lower (Kd.V_mono (ok' := fun k_ => (P0_ k_ ∨ w.heap.size ≤ k_) ∧ some k_ ≠ (.slice Ao27 y182.length co27 : Value).ownBlock ∧ some k_ ≠ (.slice (some ⟨go74, 0, none⟩) x13_1.length co74 : Value).ownBlock) ho0 (fun k_ hk_ => ⟨(.inr (Nat.le_trans (below_size bel) hk_)), (Kd.fresh' (Kd.R_lt (kr HO_8.out)) k_ hk_), (Kd.fresh' (Kd.R_lt (kr HO_13.out)) k_ hk_)⟩)) (below_size bel)); replace HO_8 := Aside0.mk (Kd.R_below (kr HO_8.out) hb); replace HO_9 := Aside0.mk (Kd.V_below (kv HO_9.out) hb); replace HO_10 := Aside0.mk (Kd.V_below (kv HO_10.out) hb); replace HO_12 := Aside0.mk (Kd.V_below (kv HO_12.out) hb); replace HO_13 := Aside0.mk (Kd.R_below (kr HO_13.out) hb); replace HO_17 := Aside0.mk (Kd.V_below (kv HO_17.out) hb); replace HB := Aside0.mk (below_step bel hb); clear hb ho0))
                         go_roundg k4
                         case measure => have := HK1.out; have := HJ40.out; have := HJ60.out; have := HK4.out; omega
                         case rel => exact ⟨(t229), (y228), (wrap64 (x14_1 - 1)), (by first | rfl | (simp; done) | (simp [*]; done)), H', ⟨by have := HK1.out; have := HJ40.out; have := HJ60.out; have := HK4.out; omega⟩, ⟨kr HO_8.out⟩, ⟨kv (Kd.V_mono HO_9.out (fun _ hk => ⟨hk.1.1, ⟨hk.1.2, hk.2⟩⟩))⟩, ⟨kv (Kd.V_mono HO_10.out (fun _ hk => ⟨hk.1.1, ⟨hk.1.2, hk.2⟩⟩))⟩, ⟨kv HO231.out⟩, ⟨kr HO_13.out⟩, ⟨bel⟩⟩
                        ·rw [if_neg c73] at H
                         exact absurd H (by simp)
                       ·rw [if_neg c72] at H
                        exact absurd H (by simp)
               ·rw [if_neg c39] at H
                exact absurd H (by simp)
              ·rw [if_neg c38] at H
               exact absurd H (by simp)
             ·rw [if_neg c37] at H
              exact absurd H (by simp)
            ·rw [if_neg c36] at H
             have c36b0 : decide (0 ≤ x14_1) = false := decide_eq_false c36
             clear c36
             by_cases c80 : 0 < (y182.length : Int)
             ·rw [if_pos c80] at H
              have c80b0 : decide (0 < (y182.length : Int)) = true := decide_eq_true c80
              have c80b1 : decide (0 < y182.length) = true := decide_eq_true (by omega)
              clear c80
              obtain ⟨⟨t199, t202⟩, A81, H⟩ := bind_ H
              try dsimp only at H
              obtain ⟨t203, A82, H⟩ := bind_ H
              try dsimp only at H
              simp only [Option.some.injEq, Prod.mk.injEq] at H
              obtain ⟨rfl, rfl⟩ := H
              have p198 : 0 ≤ (0 : Int) := (by omega)
              have q198 : 0 < (y182.length : Int) := of_decide_eq_true (by first | (with_reducible assumption) | assumption)
              obtain ⟨ad198, e198, hx198_0⟩ := Kd.at_int (Kd.R_reads' HO_8.out).2.2 0 p198 q198
              cases e198
              have qi198 : (0 < y182.length) = True := eq_true (by omega)
              (try rw [show ((0 : Int)).toNat = 0 from rfl] at hx198_0)
              (try rw [Addr.add_zero'] at hx198_0)
              replace p198 := eq_true p198
              replace q198 := eq_true q198
              obtain ⟨Ao83, co83, eo83⟩ := Kd.V_slice HO_12.out
              subst eo83
              go_wp2_with (first | ((with_reducible refine gate_callee (f := 56) rfl ?_); refine goesL_ (some 135) rfl rfl Tryd.func56 (by kernel_rfl) rfl #[.slice Ao83 x12_1.length co83, .int .u64 (rd y182 0)] rfl ag ?_; (with_reducible refine (integer_small.calls k1 _ _ x12_1 (rd y182 0) t199 t202 _ gk ?side2 ?side3 A81.out).mono ?_); (case side2 => exact kc ((Kd.V_reads' HO_12.out).2.2)); (case side3 => exact (Kd.V_reads' HO_12.out).2.1); rintro e w84 ⟨v200, rfl, ho0, hb⟩; refine ⟨_, rfl, ?_⟩; have HO201 := Aside0.mk (Kd.V_lower (Kd.V_mono (ok' := fun k_ => (P0_ k_ ∨ w.heap.size ≤ k_) ∧ some k_ ≠ (.slice (some ad198) y182.length co27 : Value).ownBlock ∧ some k_ ≠ (v196 : Value).ownBlock) ho0 (fun k_ hk_ => ⟨(.inr (Nat.le_trans (below_size bel) hk_)), (Kd.fresh' (Kd.R_lt (kr HO_8.out)) k_ hk_), (Kd.fresh' (Kd.R_lt (kr HO_13.out)) k_ hk_)⟩)) (below_size bel)); replace HO_8 := Aside0.mk (Kd.R_below (kr HO_8.out) hb); replace HO_9 := Aside0.mk (Kd.V_below (kv HO_9.out) hb); replace HO_10 := Aside0.mk (Kd.V_below (kv HO_10.out) hb); replace HO_12 := Aside0.mk (Kd.V_below (kv HO_12.out) hb); replace HO_13 := Aside0.mk (Kd.R_below (kr HO_13.out) hb); replace HB := Aside0.mk (below_step bel hb); clear hb ho0; obtain ⟨Ao85, co85, eo85⟩ := Kd.R_slice HO_13.out; subst eo85) | ((with_reducible refine gate_callee (f := 54) rfl ?_); refine goesL_ (some 139) rfl rfl Tryd.func54 (by kernel_rfl) rfl #[.slice Ao85 x13_1.length co85] rfl ag ?_; (with_reducible refine (integer_trimmed.calls k1 (fun k_ => some k_ = (.slice Ao85 x13_1.length co85 : Value).ownBlock) _ _ x13_1 t203 _ gk ?side2 A82.out).mono ?_); (case side2 => exact Kd.R_V (Kd.R_tight rfl HO_13.out)); rintro e w86 ⟨v204, rfl, ho0, hb⟩; refine ⟨_, rfl, ?_⟩; have HO205 := Aside0.mk (Kd.V_lower (Kd.V_mono (ok' := fun k_ => (P0_ k_ ∨ w.heap.size ≤ k_) ∧ some k_ ≠ (.slice (some ad198) y182.length co27 : Value).ownBlock) ho0 (fun k_ hk_ => ⟨Or.elim hk_ (fun hs_ => (.inr ((HO_13.out.1 k_ hs_.symm).1))) (fun hn_ => (.inr (Nat.le_trans (below_size bel) hn_))), Or.elim hk_ (fun hs_ => (HO_13.out.1 k_ hs_.symm).2) (fun hn_ => (Kd.fresh' (Kd.R_lt (kr HO_8.out)) k_ hn_))⟩)) (below_size bel)); replace HO_8 := Aside0.mk (Kd.R_below (kr HO_8.out) hb); replace HO_9 := Aside0.mk (Kd.V_below (kv HO_9.out) hb); replace HO_10 := Aside0.mk (Kd.V_below (kv HO_10.out) hb); replace HO_12 := Aside0.mk (Kd.V_below (kv HO_12.out) hb); replace HO_13 := Aside0.mk (Kd.R_below (kr HO_13.out) hb); replace HO201 := Aside0.mk (Kd.V_below (kv HO201.out) hb); replace HB := Aside0.mk (below_step bel hb); clear hb ho0))
              go_ret2
              exact ⟨_, _, by first | rfl | (simp [errW_none, errW_some] <;> rfl) | (simp only [← hji14, ← hji20]; first | rfl | (simp [errW_none, errW_some] <;> rfl)) | (simp [*, errW_none, errW_some] <;> rfl), kv (Kd.V_mono HO205.out (fun _ hk => hk.1)), kv (Kd.V_mono HO201.out (fun _ hk => hk.1)), bel⟩
             ·rw [if_neg c80] at H
              exact absurd H (by simp)
         ·rw [if_neg c24] at H
          exact absurd H (by simp)
        ·rw [if_neg c23] at H
         exact absurd H (by simp)
       ·rw [if_neg c22] at H
        exact absurd H (by simp)
      ·rw [if_neg c21] at H
       exact absurd H (by simp)
    ·rw [if_neg c16] at H
     exact absurd H (by simp)
   ·rw [if_neg c15] at H
    exact absurd H (by simp)

end Go.Proofs.YtdnjlmoggnbknaaDoor.PInt
