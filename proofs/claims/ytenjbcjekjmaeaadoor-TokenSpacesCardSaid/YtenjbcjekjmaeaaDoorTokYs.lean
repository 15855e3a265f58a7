/- The pure law of TokenSpaces, over the program's functions. No condition. -/
import Derived.Test.YtenjbcjekjmaeaaDoorTokY
import Derived.Test.YtenjbcjekjmaeaaDoorPTokE
namespace Go.Proofs.YtenjbcjekjmaeaaDoor.PTok
open Go.RowKit Go.Proofs.YtenjbcjekjmaeaaDoor.Ext Go.Proofs.YtenjbcjekjmaeaaDoorW.PrintWords
set_option linter.unusedVariables false
set_option linter.unusedSimpArgs false

/-- A scan's tokens lie in its range, one behind the other. -/
theorem scan_asc : ∀ (m p : Nat) (l : Bs) (last : Option (Nat × Bs)) (ts : List Tk) (ns : List (Nat × Nat)), l.length ≤ m → scan m p l last = .ok ts ns → (∀ t ∈ ts, p ≤ t.a ∧ t.a ≤ p + l.length) ∧ ∀ (i j : Nat) (hi : i < j) (hj : j < ts.length), (ts[i]'(by omega)).a < ts[j].a := by
  intro m
  induction m with
  | zero =>
    intro p l last ts ns hl h
    obtain rfl : l = [] := List.length_eq_zero_iff.1 (by omega)
    simp only [scan, Res.ok.injEq] at h
    obtain ⟨rfl, rfl⟩ := h
    exact ⟨fun t ht => by simp only [List.mem_singleton] at ht; subst ht; simp, fun i j hi hj => by simp only [List.length_singleton] at hj; omega⟩
  | succ m ih =>
    intro p l last ts ns hl h
    cases l with
    | nil =>
      simp only [scan, Res.ok.injEq] at h
      obtain ⟨rfl, rfl⟩ := h
      exact ⟨fun t ht => by simp only [List.mem_singleton] at ht; subst ht; simp, fun i j hi hj => by simp only [List.length_singleton] at hj; omega⟩
    | cons c r =>
      simp only [List.length_cons] at hl ⊢
      simp only [scan] at h
      cases hst : step c r last with
      | white =>
        rw [hst] at h
        obtain ⟨h1, h2⟩ := ih _ _ _ _ _ (by omega) h
        exact ⟨fun t ht => by have := h1 t ht; omega, h2⟩
      | note n =>
        rw [hst] at h
        simp only at h
        have hn := step_note2 hst
        cases hr : scan m (p + n) ((c :: r).drop n) last with
        | err o e => rw [hr] at h; simp [Res.addN] at h
        | ok ts' ns' =>
          rw [hr] at h
          simp only [Res.addN, Res.ok.injEq] at h
          obtain ⟨rfl, rfl⟩ := h
          obtain ⟨h1, h2⟩ := ih _ _ _ _ _ (by simp only [List.length_drop, List.length_cons]; omega) hr
          simp only [List.length_drop, List.length_cons] at h1
          exact ⟨fun t ht => by have := h1 t ht; omega, h2⟩
      | tok kd n =>
        rw [hst] at h
        simp only at h
        have hn := step_tok hst
        cases hr : scan m (p + n) ((c :: r).drop n) (some (kd, (c :: r).take n)) with
        | err o e => rw [hr] at h; simp [Res.addT] at h
        | ok ts' ns' =>
          rw [hr] at h
          simp only [Res.addT, Res.ok.injEq] at h
          obtain ⟨rfl, rfl⟩ := h
          obtain ⟨h1, h2⟩ := ih _ _ _ _ _ (by simp only [List.length_drop, List.length_cons]; omega) hr
          simp only [List.length_drop, List.length_cons] at h1
          refine ⟨fun t ht => ?_, fun i j hi hj => ?_⟩
          · rcases List.mem_cons.1 ht with rfl | ht
            · exact ⟨Nat.le_refl _, by show p ≤ _; omega⟩
            · have := h1 t ht
              omega
          · cases j with
            | zero => omega
            | succ j =>
              simp only [List.length_cons] at hj
              cases i with
              | zero =>
                simp only [List.getElem_cons_zero, List.getElem_cons_succ]
                have := h1 ts'[j] (List.getElem_mem _)
                omega
              | succ i => exact h2 i j (by omega) (by omega)
      | err o e => rw [hst] at h; simp at h
theorem spaces_loop (ts us : List Tk) (j : Nat) (hj : j < ts.length) (hl : ts.length ≤ 1001) (hb : ∀ t ∈ ts, t.a ≤ 1000) (hasc : ∀ (i k : Nat) (hi : i < k) (hk : k < ts.length), (ts[i]'(by omega)).a < ts[k].a) (hu : us = ts.take j ++ (ts.drop j).map mvT) :
    ∀ (d i : Nat), i + d = ts.length → Ev (fun k => cellarerlaw13_TokenSpaces.l0 k (ts.map toS) (ts[j].a : Int) (us.map toS) (i : Int)) true := by
  have hlen : us.length = ts.length := by subst hu; simp; omega
  intro d
  induction d with
  | zero =>
    intro i hi
    refine Ev.step (f := fun _ => some true) (fun k => ?_) (Ev.now _)
    simp only [cellarerlaw13_TokenSpaces.l0]
    rw [if_neg (by simp; omega)]
  | succ d ih =>
    intro i hi
    refine Ev.step (f := fun k => cellarerlaw13_TokenSpaces.l0 k (ts.map toS) (ts[j].a : Int) (us.map toS) ((i + 1 : Nat) : Int)) (fun k => ?_) (ih (i + 1) (by omega))
    have h1 : i < ts.length := by omega
    have h2 : i < us.length := by omega
    have hba := hb ts[i] (List.getElem_mem _)
    simp only [cellarerlaw13_TokenSpaces.l0]
    rw [if_pos (by simp; omega), if_pos (by omega), rdS ts i h1, rdS us i h2]
    by_cases hij : i < j
    · have hlt := hasc i j hij hj
      have hui : us[i] = ts[i] := by
        subst hu
        rw [List.getElem_append_left (by simp; omega)]
        simp
      rw [hui]
      rw [if_neg (by simp only [toS, toP]; omega), if_pos (by simp; omega), if_pos rfl, if_pos rfl, if_pos (by simp only [toS, toP]; rw [wrap_ok (by omega) (by omega)]; omega), wrap_p1 (by omega)]
    · have hge : ts[j].a ≤ ts[i].a := by
        by_cases e : i = j
        · subst e; exact Nat.le_refl _
        · exact Nat.le_of_lt (hasc j i (by omega) h1)
      have hui : us[i] = mvT ts[i] := by
        subst hu
        rw [List.getElem_append_right (by simp; omega)]
        simp only [List.getElem_map, List.getElem_drop, List.length_take]
        congr 2
        omega
      rw [hui]
      rw [if_pos (by simp only [toS, toP]; omega), if_pos (by simp; omega), if_pos (show (toS (mvT ts[i])).f0 = (toS ts[i]).f0 from rfl), if_pos (show (toS (mvT ts[i])).f1.toList = (toS ts[i]).f1.toList from rfl), if_pos (by simp only [toS, toP, mvT]; rw [wrap_ok (by omega) (by omega)]; omega), wrap_p1 (by omega)]
theorem TokenSpaces : cellarerlaw13_TokenSpaces.Pure := by
  intro s w hs0 hw
  have hb : 0 ≤ w ∧ w ≤ 255 := by
    have e1 : IntKind.u8.min = 0 := rfl
    have e2 : IntKind.u8.max = 255 := rfl
    simpa [Lit.wf, e1, e2] using hw
  refine Ev.rounds (r := true) ?_
  unfold cellarerlaw13_TokenSpaces.f
  refine Ev.bind awake_ev (Ev.congr (fun k => if_pos rfl) ?_)
  by_cases hs : s.size ≤ 1000
  · refine Ev.congr (fun k => if_neg (by omega)) (Ev.bind (token_Scan_ev s (by omega)) ?_)
    have stop : ∀ (x5 : List S36) (x6 : List S33), Ev (fun k => cellarerlaw13_TokenSpaces.j0 k s w x5 x6 true) true := by
      intro x5 x6
      refine Ev.step (f := fun _ => some true) (fun k => ?_) (Ev.now _)
      simp only [cellarerlaw13_TokenSpaces.j0]
      rw [if_pos trivial]
    by_cases hbad : bad 0 (lst s) ≥ 0
    · rw [if_pos hbad]
      exact Ev.congr (fun k => if_neg (show ¬ ((25 : Int) = 0) by decide)) (stop _ _)
    · rw [if_neg hbad]
      cases hr : scan (lst s).length 0 (lst s) none with
      | err o e =>
        have := scan_err _ _ _ _ _ _ (Nat.le_refl _) hr
        exact Ev.congr (fun k => if_neg (show ¬ ((e : Int) = 0) by omega)) (stop _ _)
      | ok ts ns =>
        have hlen := scan_len _ _ _ _ _ _ hr
        rw [← size_lst] at hlen
        obtain ⟨⟨t0, tr, ht0, _⟩, _⟩ := scan_first _ _ _ _ _ _ hr
        have hpos : 0 < ts.length := by rw [ht0]; simp
        obtain ⟨hin, hasc⟩ := scan_asc _ _ _ _ _ _ (Nat.le_refl _) hr
        obtain ⟨j, hj, hjw⟩ : ∃ j : Nat, j < ts.length ∧ Int.tmod (wrap64 w) ((ts.map toS).length : Int) = (j : Int) := by
          refine ⟨w.toNat % ts.length, Nat.mod_lt _ hpos, ?_⟩
          rw [wrap_ok (by omega) (by omega), Int.tmod_eq_emod_of_nonneg hb.1]
          have : w = (w.toNat : Int) := by omega
          rw [this, List.length_map]
          simp
        obtain ⟨g1, g2, ns', g3, g4⟩ := scan_ins (lst s).length (lst s) ((lst s).length + 14) 0 none ts ns j hj (Nat.le_refl _) hr (Nat.le_refl _)
        rw [Nat.sub_zero] at g3
        rw [Nat.zero_add, ← size_lst] at g2
        have hfine := bad_neg _ _ hbad
        -- the new source
        have hS : (s.extract 0 ((ts[j].a : Int)).toNat ++ (⟨#[10, 32, 45, 45, 32, 97, 32, 34, 110, 111, 116, 101, 34, 10]⟩ : ByteArray)) ++ s.extract ((ts[j].a : Int)).toNat s.size = mkS ((lst s).take ts[j].a ++ INS ++ (lst s).drop ts[j].a) := by
          apply lst_inj
          have e2 : lst (s.extract (ts[j].a) s.size) = (lst s).drop ts[j].a := by rw [lst_extract, size_lst, List.take_length]
          rw [lst_app, lst_app, lst_mkS, Int.toNat_natCast, e2, lst_extract, List.drop_zero]
          rfl
        have hl1 : ((lst s).take ts[j].a ++ INS ++ (lst s).drop ts[j].a).length = (lst s).length + 14 := by
          simp only [List.length_append, List.length_take, List.length_drop, INS, List.length_cons, List.length_nil]
          rw [size_lst] at g2
          omega
        have hfs : ∀ c ∈ lst (mkS ((lst s).take ts[j].a ++ INS ++ (lst s).drop ts[j].a)), isFine c = true := by
          rw [lst_mkS]
          intro c hc
          simp only [List.mem_append] at hc
          rcases hc with (hc | hc) | hc
          · exact hfine c (List.mem_of_mem_take hc)
          · revert hc
            revert c
            decide
          · exact hfine c (List.mem_of_mem_drop hc)
        have hsc := scan_fine (mkS ((lst s).take ts[j].a ++ INS ++ (lst s).drop ts[j].a)) (by rw [size_mkS, hl1, ← size_lst]; omega) hfs
        rw [lst_mkS, hl1, g3] at hsc
        refine Ev.congr (fun k => if_pos rfl) ?_
        have ez : (((([] : List S36) ++ ts.map toS).length : Int) == 0) = false := by rw [List.nil_append, List.length_map]; exact beq_eq_false_iff_ne.mpr (by omega)
        have eu : (ts.take j ++ (ts.drop j).map mvT).length = ts.length := by simp; omega
        refine Ev.step (f := fun k => (token_Scan.f k (mkS ((lst s).take ts[j].a ++ INS ++ (lst s).drop ts[j].a))).bind fun bt335 => (if bt335.2.2.2 = 0 then (if (bt335.1.length : Int) = ((ts.map toS).length : Int) then (cellarerlaw13_TokenSpaces.j1 k (ts.map toS) (ts[j].a : Int) bt335.1 ((bt335.2.1.length : Int) != (wrap64 (((ns.map toP).length : Int) + 1)))) else (cellarerlaw13_TokenSpaces.j1 k (ts.map toS) (ts[j].a : Int) bt335.1 true)) else (cellarerlaw13_TokenSpaces.j1 k (ts.map toS) (ts[j].a : Int) bt335.1 true))) (fun k => ?_) (Ev.bind hsc ?_)
        · show cellarerlaw13_TokenSpaces.j0 (k + 1) s w (([] : List S36) ++ ts.map toS) (([] : List S33) ++ ns.map toP) (((([] : List S36) ++ ts.map toS).length : Int) == 0) = _
          rw [ez, List.nil_append, List.nil_append]
          simp only [cellarerlaw13_TokenSpaces.j0]
          rw [hjw, rdS ts j hj]
          have ea : ((toS ts[j]).f2.f0) = (ts[j].a : Int) := rfl
          have z1 : (s.extract 0 ((ts[j].a : Int)).toNat).size ≤ 1000 := by rw [size_lst, lst_extract, List.length_drop, List.length_take]; rw [size_lst] at hs; omega
          have z2 : (s.extract ((ts[j].a : Int)).toNat s.size).size ≤ 1000 := by rw [size_lst, lst_extract, List.length_drop, List.length_take]; rw [size_lst] at hs; omega
          have z3 : (s.extract 0 ((ts[j].a : Int)).toNat ++ (⟨#[10, 32, 45, 45, 32, 97, 32, 34, 110, 111, 116, 101, 34, 10]⟩ : ByteArray)).size ≤ 2000 := by rw [ByteArray.size_append]; have : (⟨#[10, 32, 45, 45, 32, 97, 32, 34, 110, 111, 116, 101, 34, 10]⟩ : ByteArray).size = 14 := rfl; omega
          rw [if_neg (by simp), if_neg (by rw [List.length_map]; omega), if_pos (by omega), if_pos (by rw [List.length_map]; omega), ea, if_pos (by omega), if_pos (by omega), if_pos (by omega), if_pos (by omega), hS]
        · refine Ev.congr (fun k => if_pos rfl) ?_
          refine Ev.congr (fun k => if_pos (show ((((([] : List S36) ++ (ts.take j ++ (ts.drop j).map mvT).map toS)).length : Int) = ((ts.map toS).length : Int)) by simp; omega)) ?_
          have en : ((((([] : List S33) ++ ns'.map toP)).length : Int) != (wrap64 (((ns.map toP).length : Int) + 1))) = false := by
            rw [wrap_ok (by omega) (by simp; omega)]
            simp [g4]
          refine Ev.step (f := fun k => cellarerlaw13_TokenSpaces.l0 k (ts.map toS) (ts[j].a : Int) ((ts.take j ++ (ts.drop j).map mvT).map toS) 0) (fun k => ?_) (spaces_loop ts _ j hj (by omega) (fun t ht => by have := (hin t ht).2; rw [← size_lst] at this; omega) hasc rfl ts.length 0 (by omega))
          show cellarerlaw13_TokenSpaces.j1 (k + 1) (ts.map toS) (ts[j].a : Int) (([] : List S36) ++ (ts.take j ++ (ts.drop j).map mvT).map toS) ((((([] : List S33) ++ ns'.map toP)).length : Int) != (wrap64 (((ns.map toP).length : Int) + 1))) = _
          rw [en, List.nil_append]
          simp only [cellarerlaw13_TokenSpaces.j1]
          rw [if_neg (by simp)]
  · exact Ev.congr (f := fun _ => some true) (fun k => if_pos (by omega)) (Ev.now _)
end Go.Proofs.YtenjbcjekjmaeaaDoor.PTok
