/- The pure law of TokenJoins: the program's Join and the reference's tell the same text or error for every list of tokens. No condition. -/
import Derived.Test.YtenjbcjekjmaeaaDoorTokWa
import Derived.Test.YtenjbcjekjmaeaaDoorPTokE
namespace Go.Proofs.YtenjbcjekjmaeaaDoor.PTok
open Go.RowKit Go.Proofs.YtenjbcjekjmaeaaDoor.Ext Go.Proofs.YtenjbcjekjmaeaaDoorW.PrintWords
set_option linter.unusedVariables false
set_option linter.unusedSimpArgs false

/-- The program's token for the reference's. -/
def cv (t : S41) : S36 := ⟨t.f0, t.f1, t.f2⟩
def keeps (t : S41) : Bool := !(t.f0 == 6)
/-- Do the kept tokens' kinds and texts agree with what was scanned? -/
def cmp : List S41 → List Tk → Bool
  | [], _ => true
  | t :: r, u :: s => (t.f0 == (u.kd : Int)) && (lst t.f1 == u.text) && cmp r s
  | _ :: _, [] => false
/-- What both answer, the kept tokens and the joined text known. -/
def ans (K : List S41) (S : Bs) : ByteArray × Int :=
  if bad 0 S ≥ 0 then (⟨#[]⟩, 3) else match scan S.length 0 S none with
    | .err _ _ => (⟨#[]⟩, 3)
    | .ok ts _ => if ts.length = K.length + 1 then (if cmp K ts then (mkS S, 0) else (⟨#[]⟩, 3)) else (⟨#[]⟩, 3)
theorem rd41 (X : List S41) (i : Nat) (h : i < X.length) : rd_T41 X (i : Int) = X[i] := by simp [rd_T41, h]
theorem rd36 (X : List S41) (i : Nat) (h : i < X.length) : rd_T36 (X.map cv) (i : Int) = cv X[i] := by simp [rd_T36, h]
theorem cmp_step (K : List S41) (ts : List Tk) (i : Nat) (h1 : i < K.length) (h2 : i < ts.length) : cmp (K.drop i) (ts.drop i) = ((K[i].f0 == (ts[i].kd : Int)) && (lst K[i].f1 == ts[i].text) && cmp (K.drop (i + 1)) (ts.drop (i + 1))) := by
  rw [List.drop_eq_getElem_cons h1, List.drop_eq_getElem_cons h2]
  rfl
theorem pcmp (S : ByteArray) (K : List S41) (ts : List Tk) (hk : K.length ≤ 1000) (ht : ts.length = K.length + 1) : ∀ (d i : Nat), i + d = K.length → Ev (fun k => token_Join.l1 k S (ts.map toS) (K.map cv) (K.length : Int) (i : Int)) (if cmp (K.drop i) (ts.drop i) then (S, 0) else (⟨#[]⟩, 3)) := by
  intro d
  induction d with
  | zero =>
    intro i hi
    refine Ev.step (f := fun _ => some (S, 0)) (fun k => ?_) ?_
    · simp only [token_Join.l1]
      rw [if_neg (by omega)]
    · rw [List.drop_eq_nil_of_le (by omega)]
      exact Ev.now _
  | succ d ih =>
    intro i hi
    have h1 : i < K.length := by omega
    have h2 : i < ts.length := by omega
    rw [cmp_step K ts i h1 h2]
    by_cases e1 : K[i].f0 = (ts[i].kd : Int)
    · by_cases e2 : lst K[i].f1 = ts[i].text
      · rw [beq_iff_eq.mpr e1, beq_iff_eq.mpr e2, Bool.true_and, Bool.true_and]
        refine Ev.step (f := fun k => token_Join.l1 k S (ts.map toS) (K.map cv) (K.length : Int) ((i + 1 : Nat) : Int)) (fun k => ?_) (ih (i + 1) (by omega))
        simp only [token_Join.l1]
        rw [if_pos (by omega), if_pos (by omega), if_pos (by simp; omega), if_pos (by simp; omega), rd36 K i h1, rdS ts i h2, if_pos (by simpa [cv, toS] using e1), if_pos (by simpa [cv, toS, toList_lst] using e2), wrap_p1 (by omega)]
      · rw [beq_iff_eq.mpr e1, beq_eq_false_iff_ne.mpr e2]
        refine Ev.step (f := fun _ => some (⟨#[]⟩, 3)) (fun k => ?_) (Ev.now _)
        simp only [token_Join.l1]
        rw [if_pos (by omega), if_pos (by omega), if_pos (by simp; omega), if_pos (by simp; omega), rd36 K i h1, rdS ts i h2, if_pos (by simpa [cv, toS] using e1), if_neg (by simpa [cv, toS, toList_lst] using e2)]
    · rw [beq_eq_false_iff_ne.mpr e1]
      refine Ev.step (f := fun _ => some (⟨#[]⟩, 3)) (fun k => ?_) (Ev.now _)
      simp only [token_Join.l1]
      rw [if_pos (by omega), if_pos (by omega), if_pos (by simp; omega), if_pos (by simp; omega), rd36 K i h1, rdS ts i h2, if_neg (by simpa [cv, toS] using e1)]
theorem rcmp (S : ByteArray) (K : List S41) (ts : List Tk) (hk : K.length ≤ 1000) (ht : ts.length = K.length + 1) : ∀ (d i : Nat), i + d = K.length → Ev (fun k => cellarerref13_Join.l1 k S K (ts.map toR) (i : Int)) (if cmp (K.drop i) (ts.drop i) then (S, 0) else (⟨#[]⟩, 3)) := by
  intro d
  induction d with
  | zero =>
    intro i hi
    refine Ev.step (f := fun _ => some (S, 0)) (fun k => ?_) ?_
    · simp only [cellarerref13_Join.l1]
      rw [if_neg (by omega)]
    · rw [List.drop_eq_nil_of_le (by omega)]
      exact Ev.now _
  | succ d ih =>
    intro i hi
    have h1 : i < K.length := by omega
    have h2 : i < ts.length := by omega
    rw [cmp_step K ts i h1 h2]
    by_cases e1 : K[i].f0 = (ts[i].kd : Int)
    · by_cases e2 : lst K[i].f1 = ts[i].text
      · rw [beq_iff_eq.mpr e1, beq_iff_eq.mpr e2, Bool.true_and, Bool.true_and]
        refine Ev.step (f := fun k => cellarerref13_Join.l1 k S K (ts.map toR) ((i + 1 : Nat) : Int)) (fun k => ?_) (ih (i + 1) (by omega))
        simp only [cellarerref13_Join.l1]
        rw [if_pos (by omega), if_pos (by omega), if_pos (by simp; omega), rd41 K i h1, rdR ts i h2, if_pos (by simpa [toR] using e1.symm), if_pos (by simpa [toR, toList_lst] using e2.symm), wrap_p1 (by omega)]
      · rw [beq_iff_eq.mpr e1, beq_eq_false_iff_ne.mpr e2]
        refine Ev.step (f := fun _ => some (⟨#[]⟩, 3)) (fun k => ?_) (Ev.now _)
        simp only [cellarerref13_Join.l1]
        rw [if_pos (by omega), if_pos (by omega), if_pos (by simp; omega), rd41 K i h1, rdR ts i h2, if_pos (by simpa [toR] using e1.symm), if_neg (by simpa [toR, toList_lst] using fun e => e2 e.symm)]
    · rw [beq_eq_false_iff_ne.mpr e1]
      refine Ev.step (f := fun _ => some (⟨#[]⟩, 3)) (fun k => ?_) (Ev.now _)
      simp only [cellarerref13_Join.l1]
      rw [if_pos (by omega), if_pos (by omega), if_pos (by simp; omega), rd41 K i h1, rdR ts i h2, if_neg (by simpa [toR] using fun e => e1 e.symm)]
/-- The kept tokens' texts, joined. -/
def jk (K : List S41) : Bs := Lib.join (K.map fun t => lst t.f1) [32]
theorem jk_snoc (K : List S41) (t : S41) : jk (K ++ [t]) = if K = [] then lst t.f1 else jk K ++ 32 :: lst t.f1 := by
  cases K with
  | nil => simp [jk, Lib.join_one]
  | cons u K =>
    rw [if_neg (by simp)]
    unfold jk
    rw [List.cons_append, List.map_cons, List.map_cons, Lib.join_cons, Lib.join_cons]
    simp [Lib.joinTail]
theorem pend (K : List S41) (hk : K.length ≤ 1000) (hs : (jk K).length ≤ 65536) (X : List S36) (n i : Int) (hi : ¬ i < n) : Ev (fun k => token_Join.l0 k (K.map (·.f1)) (K.map cv) X n i) (ans K (jk K)) := by
  have hjoin : strings_Join.f (K.map (·.f1)) (⟨#[32]⟩ : ByteArray) = some (mkS (jk K)) := by
    have e : Lib.join ((K.map (·.f1)).map (·.data.toList)) (⟨#[32]⟩ : ByteArray).data.toList = jk K := by
      unfold jk
      rw [List.map_map]
      rfl
    unfold strings_Join.f
    rw [e, if_pos (by omega), if_pos (by simp; omega)]
    rfl
  have hz : (mkS (jk K)).size ≤ 65536 := by rw [size_mkS]; omega
  have fail : Ev (fun k => token_Join.j1 k (K.map cv) (mkS (jk K)) ([] : List S36) true) (⟨#[]⟩, 3) := by
    refine Ev.step (f := fun _ => some (⟨#[]⟩, 3)) (fun k => ?_) (Ev.now _)
    simp only [token_Join.j1]
    rw [if_pos trivial]
  have hsc := token_Scan_ev (mkS (jk K)) hz
  rw [lst_mkS] at hsc
  refine Ev.step (f := fun k => (token_Scan.f k (mkS (jk K))).bind fun bt399 => (if bt399.2.2.2 = 0 then (token_Join.j1 k (K.map cv) (mkS (jk K)) bt399.1 ((bt399.1.length : Int) != (wrap64 (((K.map cv).length : Int) + 1)))) else (token_Join.j1 k (K.map cv) (mkS (jk K)) bt399.1 true))) (fun k => ?_) (Ev.bind hsc ?_)
  · simp only [token_Join.l0]
    rw [if_neg hi, hjoin]
    simp only [Option.bind_some]
    rw [if_neg (by omega)]
  · unfold ans
    by_cases hbad : bad 0 (jk K) ≥ 0
    · rw [if_pos hbad, if_pos hbad]
      exact Ev.congr (fun k => if_neg (show ¬ ((25 : Int) = 0) by decide)) fail
    · rw [if_neg hbad, if_neg hbad]
      cases hr : scan (jk K).length 0 (jk K) none with
      | err o e =>
        have := scan_err _ _ _ _ _ _ (Nat.le_refl _) hr
        exact Ev.congr (fun k => if_neg (show ¬ ((e : Int) = 0) by omega)) fail
      | ok ts ns =>
        have hlen := (scan_len _ _ _ _ _ _ hr).1
        refine Ev.congr (fun k => if_pos rfl) ?_
        show Ev (fun k => token_Join.j1 k (K.map cv) (mkS (jk K)) (([] : List S36) ++ ts.map toS) (((([] : List S36) ++ ts.map toS).length : Int) != (wrap64 (((K.map cv).length : Int) + 1)))) (if ts.length = K.length + 1 then (if cmp K ts then (mkS (jk K), 0) else (⟨#[]⟩, 3)) else (⟨#[]⟩, 3))
        rw [List.nil_append, List.length_map, List.length_map, wrap_ok (by omega) (by omega)]
        by_cases hl : ts.length = K.length + 1
        · rw [if_pos hl]
          have eb : ((ts.length : Int) != ((K.length : Int) + 1)) = false := by simp [hl]
          rw [eb]
          refine Ev.step (f := fun k => token_Join.l1 k (mkS (jk K)) (ts.map toS) (K.map cv) (K.length : Int) 0) (fun k => ?_) (pcmp _ K ts hk hl K.length 0 (by omega))
          simp only [token_Join.j1]
          rw [if_neg (by decide)]
          simp
        · rw [if_neg hl]
          have eb : ((ts.length : Int) != ((K.length : Int) + 1)) = true := by simp; omega
          rw [eb]
          refine Ev.step (f := fun _ => some (⟨#[]⟩, 3)) (fun k => ?_) (Ev.now _)
          simp only [token_Join.j1]
          rw [if_pos trivial]
theorem ploop (X : List S41) (hx : X.length ≤ 1000) (hs : (jk (X.filter keeps)).length ≤ 65536) : ∀ (todo don : List S41), X = don ++ todo → Ev (fun k => token_Join.l0 k ((don.filter keeps).map (·.f1)) ((don.filter keeps).map cv) (X.map cv) ((X.map cv).length : Int) (don.length : Int)) (ans (X.filter keeps) (jk (X.filter keeps))) := by
  intro todo
  induction todo with
  | nil =>
    intro don hd
    rw [List.append_nil] at hd
    subst hd
    exact pend _ (Nat.le_trans (List.length_filter_le _ _) hx) hs _ _ _ (by simp)
  | cons t todo ih =>
    intro don hd
    have hlen : X.length = don.length + (todo.length + 1) := by rw [hd]; simp
    have hr : rd_T36 (X.map cv) (don.length : Int) = cv t := by rw [rd36 X don.length (by omega)]; subst hd; simp
    have hf := List.length_filter_le keeps don
    have hnx := ih (don ++ [t]) (by rw [hd]; simp)
    refine Ev.step (fun k => ?_) hnx
    simp only [token_Join.l0]
    rw [if_pos (by simp; omega), if_pos (by omega), if_pos (by simp; omega), hr, List.filter_append, List.length_append]
    by_cases h6 : t.f0 = 6
    · have hkp : keeps t = false := by simp [keeps, h6]
      rw [if_pos (show (cv t).f0 = 6 from h6), List.filter_cons_of_neg (by rw [hkp]; decide), List.filter_nil, List.append_nil, wrap_p1 (by omega)]
      rfl
    · have hkp : keeps t = true := by simp [keeps, h6]
      rw [if_neg (show ¬ (cv t).f0 = 6 from h6), if_pos (by simp; omega), if_pos (by simp; omega), List.filter_cons_of_pos hkp, List.filter_nil, List.map_append, List.map_append, wrap_p1 (by omega)]
      rfl
theorem rend (K : List S41) (hk : K.length ≤ 1000) (hs : (jk K).length ≤ 65536) (X : List S41) (i : Int) (hi : ¬ i < (X.length : Int)) : Ev (fun k => cellarerref13_Join.l0 k X (mkS (jk K)) K i) (ans K (jk K)) := by
  have hz : (mkS (jk K)).size ≤ 65536 := by rw [size_mkS]; omega
  have fail : Ev (fun k => cellarerref13_Join.j1 k (mkS (jk K)) K ([] : List S41) true) (⟨#[]⟩, 3) := by
    refine Ev.step (f := fun _ => some (⟨#[]⟩, 3)) (fun k => ?_) (Ev.now _)
    simp only [cellarerref13_Join.j1]
    rw [if_pos trivial]
  have hsc := cellarerref13_Scan_ev (mkS (jk K)) hz
  rw [lst_mkS] at hsc
  refine Ev.step (f := fun k => (cellarerref13_Scan.f k (mkS (jk K))).bind fun bt422 => (if bt422.2.2.2 = 0 then (cellarerref13_Join.j1 k (mkS (jk K)) K bt422.1 ((bt422.1.length : Int) != (wrap64 ((K.length : Int) + 1)))) else (cellarerref13_Join.j1 k (mkS (jk K)) K bt422.1 true))) (fun k => ?_) (Ev.bind hsc ?_)
  · simp only [cellarerref13_Join.l0]
    rw [if_neg hi, if_neg (by omega)]
  · unfold ans
    by_cases hbad : bad 0 (jk K) ≥ 0
    · rw [if_pos hbad, if_pos hbad]
      exact Ev.congr (fun k => if_neg (show ¬ ((25 : Int) = 0) by decide)) fail
    · rw [if_neg hbad, if_neg hbad]
      cases hr : scan (jk K).length 0 (jk K) none with
      | err o e =>
        have := scan_err _ _ _ _ _ _ (Nat.le_refl _) hr
        exact Ev.congr (fun k => if_neg (show ¬ ((e : Int) = 0) by omega)) fail
      | ok ts ns =>
        have hlen := (scan_len _ _ _ _ _ _ hr).1
        refine Ev.congr (fun k => if_pos rfl) ?_
        show Ev (fun k => cellarerref13_Join.j1 k (mkS (jk K)) K (([] : List S41) ++ ts.map toR) (((([] : List S41) ++ ts.map toR).length : Int) != (wrap64 ((K.length : Int) + 1)))) (if ts.length = K.length + 1 then (if cmp K ts then (mkS (jk K), 0) else (⟨#[]⟩, 3)) else (⟨#[]⟩, 3))
        rw [List.nil_append, List.length_map, wrap_ok (by omega) (by omega)]
        by_cases hl : ts.length = K.length + 1
        · rw [if_pos hl]
          have eb : ((ts.length : Int) != ((K.length : Int) + 1)) = false := by simp [hl]
          rw [eb]
          refine Ev.step (f := fun k => cellarerref13_Join.l1 k (mkS (jk K)) K (ts.map toR) 0) (fun k => ?_) (rcmp _ K ts hk hl K.length 0 (by omega))
          simp only [cellarerref13_Join.j1]
          rw [if_neg (by decide)]
        · rw [if_neg hl]
          have eb : ((ts.length : Int) != ((K.length : Int) + 1)) = true := by simp; omega
          rw [eb]
          refine Ev.step (f := fun _ => some (⟨#[]⟩, 3)) (fun k => ?_) (Ev.now _)
          simp only [cellarerref13_Join.j1]
          rw [if_pos trivial]
theorem tail_bound : ∀ (K : List S41), (∀ t ∈ K, (lst t.f1).length ≤ 60) → (Lib.joinTail [32] (K.map fun t => lst t.f1)).length ≤ 61 * K.length
  | [], _ => by simp [Lib.joinTail]
  | t :: K, h => by
    have h1 := tail_bound K (fun u hu => h u (by simp [hu]))
    have h2 := h t (by simp)
    simp only [Lib.joinTail, List.map_cons, List.flatten_cons, List.length_append, List.length_cons, List.length_nil] at h1 ⊢
    omega
theorem jk_bound (K : List S41) (h : ∀ t ∈ K, (lst t.f1).length ≤ 60) : (jk K).length ≤ 61 * K.length := by
  cases K with
  | nil => simp [jk, Lib.join_nil]
  | cons t K =>
    have h1 := tail_bound K (fun u hu => h u (by simp [hu]))
    have h2 := h t (by simp)
    unfold jk
    rw [List.map_cons, Lib.join_cons, List.length_append, List.length_cons]
    omega
theorem rloop (X : List S41) (hx : X.length ≤ 1000) (h60 : ∀ t ∈ X, (lst t.f1).length ≤ 60) : ∀ (todo don : List S41), X = don ++ todo → Ev (fun k => cellarerref13_Join.l0 k X (mkS (jk (don.filter keeps))) (don.filter keeps) (don.length : Int)) (ans (X.filter keeps) (jk (X.filter keeps))) := by
  intro todo
  induction todo with
  | nil =>
    intro don hd
    rw [List.append_nil] at hd
    subst hd
    have hf := List.length_filter_le keeps X
    have hb := jk_bound (X.filter keeps) (fun t ht => h60 t (List.mem_filter.1 ht).1)
    exact rend _ (by omega) (by omega) _ _ (by omega)
  | cons t todo ih =>
    intro don hd
    have hlen : X.length = don.length + (todo.length + 1) := by rw [hd]; simp
    have hr : rd_T41 X (don.length : Int) = t := by rw [rd41 X don.length (by omega)]; subst hd; simp
    have hf := List.length_filter_le keeps don
    have ht60 := h60 t (by rw [hd]; simp)
    have hsz : t.f1.size = (lst t.f1).length := size_lst t.f1
    have hb := jk_bound (don.filter keeps) (fun u hu => h60 u (by rw [hd]; simp [(List.mem_filter.1 hu).1]))
    have hnx := ih (don ++ [t]) (by rw [hd]; simp)
    refine Ev.step (fun k => ?_) hnx
    simp only [cellarerref13_Join.l0]
    rw [if_pos (by omega), if_pos (by omega), hr, List.filter_append, List.length_append]
    by_cases h6 : t.f0 = 6
    · have hkp : keeps t = false := by simp [keeps, h6]
      rw [if_pos h6, List.filter_cons_of_neg (by rw [hkp]; decide), List.filter_nil, List.append_nil, wrap_p1 (by omega)]
      rfl
    · have hkp : keeps t = true := by simp [keeps, h6]
      rw [if_neg h6, List.filter_cons_of_pos hkp, List.filter_nil, jk_snoc]
      by_cases hn : don.filter keeps = []
      · rw [if_pos hn, if_neg (by rw [hn]; simp), if_pos (by rw [size_mkS]; omega), if_pos (by omega), wrap_p1 (by omega), hn]
        have e : mkS (jk []) ++ t.f1 = mkS (lst t.f1) := lst_inj (by rw [lst_app, lst_mkS, lst_mkS]; rfl)
        rw [e]
        rfl
      · have hp : 0 < (don.filter keeps).length := List.length_pos_iff.2 hn
        have z1 : (mkS (jk (don.filter keeps)) ++ (⟨#[32]⟩ : ByteArray)).size = (jk (don.filter keeps)).length + 1 := by rw [ByteArray.size_append, size_mkS]; rfl
        rw [if_neg hn, if_pos (by omega), if_pos (by rw [size_mkS]; omega), if_pos (by omega), if_pos (by omega), wrap_p1 (by omega)]
        have e : (mkS (jk (don.filter keeps)) ++ (⟨#[32]⟩ : ByteArray)) ++ t.f1 = mkS (jk (don.filter keeps) ++ 32 :: lst t.f1) := lst_inj (by rw [lst_app, lst_app, lst_mkS, lst_mkS]; simp [lst])
        rw [e]
        rfl
/-- The one statement, for every list. -/
theorem joins_loop (X : List S41) : ∀ (d i : Nat), i + d = X.length → (∀ t ∈ X.take i, (lst t.f1).length ≤ 60) → i ≤ 61 → Ev (fun k => cellarerlaw13_TokenJoins.l0 k X ((X.take i).map cv) (i : Int)) true := by
  intro d
  induction d with
  | zero =>
    intro i hi h60 h61
    have hX : X.take i = X := List.take_of_length_le (by omega)
    rw [hX] at h60 ⊢
    have hf := List.length_filter_le keeps X
    have hb := jk_bound (X.filter keeps) (fun t ht => h60 t (List.mem_filter.1 ht).1)
    have hp : Ev (fun k => token_Join.f k (X.map cv)) (ans (X.filter keeps) (jk (X.filter keeps))) := ploop X (by omega) (by omega) X [] rfl
    have hr : Ev (fun k => cellarerref13_Join.f k X) (ans (X.filter keeps) (jk (X.filter keeps))) := rloop X (by omega) h60 X [] rfl
    refine Ev.step (f := fun k => (token_Join.f k (X.map cv)).bind fun bt442 => ((cellarerref13_Join.f k X).bind fun bt444 => (if bt442.1.toList = bt444.1.toList then (some (bt442.2 == bt444.2)) else (some false)))) (fun k => ?_) (Ev.bind hp (Ev.bind hr ?_))
    · simp only [cellarerlaw13_TokenJoins.l0]
      rw [if_neg (by omega)]
    · refine Ev.congr (f := fun _ => some true) (fun k => ?_) (Ev.now _)
      rw [if_pos rfl]
      simp
  | succ d ih =>
    intro i hi h60 h61
    have h1 : i < X.length := by omega
    by_cases hz : (X[i].f1.size : Int) > 60
    · refine Ev.step (f := fun _ => some true) (fun k => ?_) (Ev.now _)
      simp only [cellarerlaw13_TokenJoins.l0]
      rw [if_pos (by omega), if_pos (by omega), rd41 X i h1, if_pos hz]
    · by_cases hi6 : (i : Int) > 60
      · refine Ev.step (f := fun _ => some true) (fun k => ?_) (Ev.now _)
        simp only [cellarerlaw13_TokenJoins.l0]
        rw [if_pos (by omega), if_pos (by omega), rd41 X i h1, if_neg hz, if_pos hi6]
      · have htk : X.take (i + 1) = X.take i ++ [X[i]] := by rw [List.take_succ_eq_append_getElem h1]
        refine Ev.step (fun k => ?_) (ih (i + 1) (by omega) (by
          intro t ht
          rw [htk] at ht
          rcases List.mem_append.1 ht with ht | ht
          · exact h60 t ht
          · simp only [List.mem_singleton] at ht
            subst ht
            rw [← size_lst]
            omega) (by omega))
        simp only [cellarerlaw13_TokenJoins.l0]
        rw [if_pos (by omega), if_pos (by omega), rd41 X i h1, if_neg hz, if_neg hi6, if_pos (by simp; omega), wrap_p1 (by omega), htk, List.map_append]
        rfl
theorem joins (X : List S41) : ∃ k, cellarerlaw13_TokenJoins.f k X = some true := by
  refine Ev.rounds (r := true) ?_
  unfold cellarerlaw13_TokenJoins.f
  refine Ev.bind awake_ev (Ev.congr (fun k => if_pos rfl) ?_)
  exact joins_loop X X.length 0 (by omega) (by simp) (by omega)
end Go.Proofs.YtenjbcjekjmaeaaDoor.PTok
