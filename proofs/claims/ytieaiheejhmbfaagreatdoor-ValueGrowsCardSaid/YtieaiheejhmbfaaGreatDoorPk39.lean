/- The plain laws of the enumeration: what is yielded, its cells; the reference's bound. No conditions. -/
import Derived.Test.YtieaiheejhmbfaaGreatDoorPk14
import Derived.Test.YtieaiheejhmbfaaGreatDoorPk16
namespace Go.Proofs.YtieaiheejhmbfaaGreatDoor.ML
open Go.RowKit
set_option linter.unusedVariables false
set_option linter.unusedSimpArgs false
/-! ### Lists cut at a length -/
theorem take_pre {α : Type} {m : Nat} {a b : List α} (h : a <+: b) (h2 : b.length ≤ a.length ∨ m ≤ (a.take m).length) : a.take m = b.take m := by
  obtain ⟨r, rfl⟩ := h
  rcases h2 with h2 | h2
  · have : r = [] := List.eq_nil_of_length_eq_zero (by simp at h2; omega)
    rw [this, List.append_nil]
  · rw [List.length_take] at h2
    rw [List.take_append_of_le_length (by omega)]
theorem take_push {α : Type} {m : Nat} {a : List α} {x : α} (h : (a.take m).length < m) : a.take m ++ [x] = (a ++ [x]).take m := by
  rw [List.length_take] at h
  rw [List.take_of_length_le (by omega : a.length ≤ m), List.take_of_length_le (by simp; omega)]
theorem take_app_take {α : Type} {m : Nat} (a b : List α) : (a ++ b.take m).take m = (a ++ b).take m := by
  rw [List.take_append, List.take_append, List.take_take, Nat.min_eq_left (by omega)]
theorem take_take_pre {α : Type} (i m : Nat) (l : List α) : (l.take m).take i <+: l := (List.take_prefix _ _).trans (List.take_prefix _ _)
theorem pre_map {α β : Type} {f : α → β} {a b : List α} (P : List β) (h : a <+: b) : P ++ a.map f <+: P ++ b.map f := by
  obtain ⟨r, rfl⟩ := h
  exact ⟨r.map f, by simp⟩
theorem take_flat_in {α β γ : Type} {m : Nat} (f : α → β → γ) (Y : List β) : ∀ (X : List α), (X.flatMap fun v => (Y.take m).map (f v)).take m = (X.flatMap fun v => Y.map (f v)).take m
  | [] => rfl
  | v :: X => by
    rcases Nat.lt_or_ge Y.length m with h | h
    · rw [List.take_of_length_le (Nat.le_of_lt h)]
    · rw [List.flatMap_cons, List.flatMap_cons, List.take_append_of_le_length (by simp; omega), List.take_append_of_le_length (by simp; omega), List.map_take, List.take_take, Nat.min_self]
theorem len_flat {α β γ : Type} (f : α → β → γ) (Y : List β) (hY : 0 < Y.length) : ∀ (X : List α), X.length ≤ (X.flatMap fun v => Y.map (f v)).length
  | [] => Nat.zero_le _
  | v :: X => by have := len_flat f Y hY X; simp only [List.flatMap_cons, List.length_append, List.length_map, List.length_cons]; omega
theorem take_flat_out {α β γ : Type} {m : Nat} (f : α → β → γ) (Y : List β) (X : List α) : ((X.take m).flatMap fun v => Y.map (f v)).take m = (X.flatMap fun v => Y.map (f v)).take m := by
  rcases Nat.eq_zero_or_pos Y.length with h | h
  · have : Y = [] := List.eq_nil_of_length_eq_zero h
    subst this
    have e : ∀ l : List α, (l.flatMap fun _ => ([] : List γ)) = [] := fun l => by induction l with | nil => rfl | cons a l ih => rw [List.flatMap_cons, ih]; rfl
    simp only [List.map_nil]; rw [e, e]
  · rcases Nat.lt_or_ge X.length m with hx | hx
    · rw [List.take_of_length_le (Nat.le_of_lt hx)]
    · refine take_pre ?_ (.inr ?_)
      · refine ⟨(X.drop m).flatMap fun v => Y.map (f v), ?_⟩
        rw [← List.flatMap_append, List.take_append_drop]
      · have := len_flat f Y h (X.take m)
        rw [List.length_take] at this ⊢
        omega
theorem take_two {α β γ : Type} {m : Nat} (f : α → β → γ) (P : List γ) (X : List α) (Y : List β) : (P ++ (X.take m).flatMap fun v => (Y.take m).map (f v)).take m = (P ++ X.flatMap fun v => Y.map (f v)).take m := by
  rw [← take_app_take P, take_flat_in f Y, take_flat_out f Y, take_app_take]
/-! ### The rounds of the reference's loops -/
def lsG (ex : Int → Nat → List VT) (t : Int) (ts : List Int) (k j : Nat) : List (List VT) := (ex t j).flatMap fun v => (lsV ex ts (k - j)).map (v :: ·)
def lsQ (ex : Int → Nat → List VT) (t : Int) (ts : List Int) (k j : Nat) : List (List VT) := (List.range j).flatMap (lsG ex t ts k)
theorem lsQ_0 (ex : Int → Nat → List VT) (t : Int) (ts : List Int) (k : Nat) : lsQ ex t ts k 0 = [] := rfl
theorem lsQ_succ (ex : Int → Nat → List VT) (t : Int) (ts : List Int) (k j : Nat) : lsQ ex t ts k (j + 1) = lsQ ex t ts k j ++ lsG ex t ts k j := by
  rw [lsQ, List.range_succ, List.flatMap_append]; simp [lsQ]
theorem lsQ_end (ex : Int → Nat → List VT) (t : Int) (ts : List Int) (k : Nat) : lsV ex (t :: ts) k = lsQ ex t ts k (k + 1) := by rw [lsV]; rfl
theorem range_pre {j k : Nat} (h : j ≤ k) : List.range j <+: List.range k := by
  obtain ⟨r, rfl⟩ : ∃ r, k = j + r := ⟨k - j, by omega⟩
  exact ⟨_, (List.range_add ..).symm⟩
theorem pre_flat {α β : Type} {f : α → List β} {a b : List α} (h : a <+: b) : a.flatMap f <+: b.flatMap f := by
  obtain ⟨r, rfl⟩ := h
  exact ⟨r.flatMap f, by simp⟩
theorem lsQ_pre (ex : Int → Nat → List VT) (t : Int) (ts : List Int) (k : Nat) {j j' : Nat} (h : j ≤ j') : lsQ ex t ts k j <+: lsQ ex t ts k j' := pre_flat (range_pre h)
theorem take_nil_of {α : Type} {m : Nat} {l : List α} (hm : 0 < m) (h : (l.take m).length = 0) : l = [] := by
  rw [List.length_take] at h
  exact List.eq_nil_of_length_eq_zero (by omega)
def cqV (ls : List Int → Nat → List (List VT)) (k : Nat) (cs : List CT) (c : Nat) : List VT := consV ls k 0 (cs.take c)
theorem consV_app (ls : List Int → Nat → List (List VT)) (k : Nat) : ∀ (a b : List CT) (i : Nat), consV ls k i (a ++ b) = consV ls k i a ++ consV ls k (i + a.length) b
  | [], b, i => rfl
  | x :: a, b, i => by rw [List.cons_append, consV, consV, consV_app ls k a b, List.append_assoc, List.length_cons, show i + 1 + a.length = i + (a.length + 1) by omega]
theorem cqV_succ (ls : List Int → Nat → List (List VT)) (k : Nat) (cs : List CT) (c : Nat) (h : c < cs.length) : cqV ls k cs (c + 1) = cqV ls k cs c ++ conV ls k c cs[c] := by
  rw [cqV, take_succ _ _ h, consV_app, cqV, consV, consV, List.append_nil, List.length_take, Nat.zero_add, Nat.min_eq_left (by omega)]
theorem cqV_pre (ls : List Int → Nat → List (List VT)) (k : Nat) (cs : List CT) (c : Nat) : cqV ls k cs c <+: consV ls k 0 cs := by
  refine ⟨consV ls k (0 + (cs.take c).length) (cs.drop c), ?_⟩
  rw [cqV, ← consV_app, List.take_append_drop]
theorem cqV_end (ls : List Int → Nat → List (List VT)) (k : Nat) (cs : List CT) (c : Nat) (h : cs.length ≤ c) : cqV ls k cs c = consV ls k 0 cs := by rw [cqV, List.take_of_length_le h]
def alQ (d : List DT) (t : Int) (k : Nat) : List VT := (List.range k).flatMap fun k => exV d t k
theorem alQ_succ (d : List DT) (t : Int) (k : Nat) : alQ d t (k + 1) = alQ d t k ++ exV d t k := by
  rw [alQ, List.range_succ, List.flatMap_append]; simp [alQ]
theorem alQ_pre (d : List DT) (t : Int) {j j' : Nat} (h : j ≤ j') : alQ d t j <+: alQ d t j' := pre_flat (range_pre h)
/-! ### Cells -/
mutual
def ceV : VT → Nat
  | .mk _ _ l => (if 0 < l.length then 1 else 0) + ceL l
def ceL : List VT → Nat
  | [] => 0
  | v :: l => ceV v + ceL l
end
theorem con_mem {ls : List Int → Nat → List (List VT)} {k i : Nat} {c : CT} {v : VT} (h : v ∈ conV ls k i c) : (c.fields = [] ∧ k = 0 ∧ v = ⟨0, i, []⟩) ∨ (c.fields ≠ [] ∧ k ≠ 0 ∧ ∃ l ∈ ls c.fields (k - 1), v = ⟨0, i, l⟩) := by
  unfold conV at h
  split at h
  · rename_i h0
    split at h
    · rename_i hk
      exact .inl ⟨List.eq_nil_of_length_eq_zero h0, hk, by simpa using h⟩
    · simp at h
  · rename_i h0
    split at h
    · simp at h
    · rename_i hk
      obtain ⟨l, hl, e⟩ := List.mem_map.1 h
      exact .inr ⟨fun e => h0 (by rw [e]; rfl), hk, l, hl, e.symm⟩
theorem cons_mem {ls : List Int → Nat → List (List VT)} {k : Nat} {v : VT} : ∀ (cs : List CT) (i : Nat), v ∈ consV ls k i cs → ∃ j, ∃ h : j < cs.length, v ∈ conV ls k (i + j) cs[j]
  | [], i, h => by simp [consV] at h
  | c :: cs, i, h => by
    rw [consV] at h
    rcases List.mem_append.1 h with h | h
    · exact ⟨0, by simp, by simpa using h⟩
    · obtain ⟨j, hj, h⟩ := cons_mem cs (i + 1) h
      exact ⟨j + 1, by simpa using hj, by rw [show i + (j + 1) = i + 1 + j by omega]; simpa using h⟩
theorem ls_mem {ex : Int → Nat → List VT} : ∀ (ts : List Int) (k : Nat) (l : List VT), l ∈ lsV ex ts k → l.length = ts.length ∧ ∃ js : List Nat, js.length = ts.length ∧ js.sum = k ∧ ∀ i (h : i < l.length) (h1 : i < ts.length) (h2 : i < js.length), l[i] ∈ ex ts[i] js[i]
  | [], k, l, h => by
    rw [lsV] at h
    split at h
    · rename_i hk
      have : l = [] := by simpa using h
      subst this
      exact ⟨rfl, [], rfl, by simp [hk], fun i h => by simp at h⟩
    · simp at h
  | t :: ts, k, l, h => by
    rw [lsV] at h
    obtain ⟨j, hj, h⟩ := List.mem_flatMap.1 h
    obtain ⟨v, hv, h⟩ := List.mem_flatMap.1 h
    obtain ⟨l', hl, rfl⟩ := List.mem_map.1 h
    obtain ⟨h1, js, h2, h3, h4⟩ := ls_mem ts (k - j) l' hl
    rw [List.mem_range] at hj
    refine ⟨by simp [h1], j :: js, by simp [h2], by simp [h3]; omega, fun i a b c => ?_⟩
    cases i with
    | zero => exact hv
    | succ i => simpa using h4 i (by simpa using a) (by simpa using b) (by simpa using c)
theorem ceL_sum : ∀ (l : List VT) (js : List Nat), js.length = l.length → (∀ i (h : i < l.length) (h' : i < js.length), ceV l[i] = js[i]) → ceL l = js.sum
  | [], [], _, _ => by rw [ceL]; rfl
  | [], _ :: _, h, _ => by simp at h
  | _ :: _, [], h, _ => by simp at h
  | v :: l, j :: js, h, hs => by
    rw [ceL, ceL_sum l js (by simpa using h) (fun i a b => hs (i + 1) (by simpa using a) (by simpa using b)), List.sum_cons]
    have := hs 0 (by simp) (by simp)
    simp at this
    rw [this]
theorem ex_sz (d : List DT) : ∀ (n : Nat) (t : Int) (k : Nat) (v : VT), v ∈ exA d n t k → ceV v = k
  | 0, _, _, v, h => by simp [exA] at h
  | n + 1, t, k, v, h => by
    rw [exA] at h
    split at h
    · split at h
      · rename_i hk
        simp at h
        rcases h with rfl | rfl <;> simp [ceV, ceL, hk]
      · simp at h
    · obtain ⟨j, hj, h⟩ := cons_mem _ _ h
      rcases con_mem h with ⟨_, hk, rfl⟩ | ⟨hf, hk, l, hl, rfl⟩
      · simp [ceV, ceL, hk]
      · obtain ⟨h1, js, h2, h3, h4⟩ := ls_mem _ _ _ hl
        have h5 := ceL_sum l js (by omega) fun i a b => ex_sz d n _ _ _ (h4 i a (by omega) b)
        have : 0 < l.length := by
          rw [h1]; exact List.length_pos_iff.2 hf
        rw [ceV, if_pos this, h5, h3]
        omega
theorem ex_ty (d : List DT) (hT : TypedP d) : ∀ (n : Nat) (t : Int) (k : Nat) (v : VT), (0 ≤ t ∧ t ≤ d.length) → v ∈ exA d n t k → TyV d t v
  | 0, _, _, v, _, h => by simp [exA] at h
  | n + 1, t, k, v, ht, h => by
    rw [exA] at h
    split at h
    · rename_i h0
      subst h0
      split at h
      · simp at h
        rcases h with rfl | rfl <;> exact .int
      · simp at h
    · obtain ⟨p, rfl⟩ : ∃ p : Nat, t = (p : Int) + 1 := ⟨(t - 1).toNat, by omega⟩
      have hp : p < d.length := by omega
      rw [consF_at d p hp] at h
      obtain ⟨j, hj, h⟩ := cons_mem _ _ h
      rw [Nat.zero_add] at h
      rcases con_mem h with ⟨hf, hk, rfl⟩ | ⟨hf, hk, l, hl, rfl⟩
      · exact .con hp hj (by simp [hf]) fun i h1 => by simp at h1
      · obtain ⟨h1, js, h2, h3, h4⟩ := ls_mem _ _ _ hl
        exact .con hp hj h1 fun i a b => ex_ty d hT n _ _ _ (hT p hp j hj _ (List.getElem_mem b)) (h4 i a b (by omega))
/-! ### No value twice -/
theorem map_nodup {α β : Type} {f : α → β} (hf : ∀ a b, f a = f b → a = b) {l : List α} (h : l.Nodup) : (l.map f).Nodup := by
  rw [List.Nodup, List.pairwise_map]
  exact h.imp fun hne e => hne (hf _ _ e)
theorem ls_nodup {ex : Int → Nat → List VT} (hs : ∀ t j v, v ∈ ex t j → ceV v = j) (hn : ∀ t j, (ex t j).Nodup) : ∀ (ts : List Int) (k : Nat), (lsV ex ts k).Nodup
  | [], k => by rw [lsV]; split <;> simp
  | t :: ts, k => by
    rw [lsV, List.Nodup, List.pairwise_flatMap]
    refine ⟨fun j _ => ?_, ?_⟩
    · rw [List.pairwise_flatMap]
      refine ⟨fun v _ => map_nodup (fun a b e => by simpa using e) (ls_nodup hs hn ts (k - j)), (hn t j).imp fun {a b} hne x hx y hy e => ?_⟩
      obtain ⟨x', _, rfl⟩ := List.mem_map.1 hx
      obtain ⟨y', _, rfl⟩ := List.mem_map.1 hy
      exact hne (by simp at e; exact e.1)
    · refine (List.nodup_range (n := k + 1)).imp fun {a b} hne x hx y hy e => ?_
      obtain ⟨v, hv, hx⟩ := List.mem_flatMap.1 hx
      obtain ⟨w, hw, hy⟩ := List.mem_flatMap.1 hy
      obtain ⟨x', _, rfl⟩ := List.mem_map.1 hx
      obtain ⟨y', _, rfl⟩ := List.mem_map.1 hy
      simp at e
      exact hne (by rw [← hs _ _ _ hv, ← hs _ _ _ hw, e.1])
theorem con_con {ls : List Int → Nat → List (List VT)} {k i : Nat} {c : CT} {v : VT} (h : v ∈ conV ls k i c) : v.con = i := by
  rcases con_mem h with ⟨_, _, rfl⟩ | ⟨_, _, l, _, rfl⟩ <;> rfl
theorem cons_con {ls : List Int → Nat → List (List VT)} {k i : Nat} {cs : List CT} {v : VT} (h : v ∈ consV ls k i cs) : (i : Int) ≤ v.con := by
  obtain ⟨j, _, h⟩ := cons_mem _ _ h
  rw [con_con h]; omega
theorem cons_nodup {ls : List Int → Nat → List (List VT)} (hn : ∀ ts k, (ls ts k).Nodup) (k : Nat) : ∀ (cs : List CT) (i : Nat), (consV ls k i cs).Nodup
  | [], i => by simp [consV]
  | c :: cs, i => by
    rw [consV, List.nodup_append]
    refine ⟨?_, cons_nodup hn k cs (i + 1), fun a ha b hb e => ?_⟩
    · unfold conV
      split
      · split <;> simp
      · split
        · simp
        · exact map_nodup (fun a b e => by simpa using e) (hn _ _)
    · have h1 := con_con ha
      have h2 := cons_con hb
      rw [e] at h1
      omega
theorem ex_nodup (d : List DT) : ∀ (n : Nat) (t : Int) (k : Nat), (exA d n t k).Nodup
  | 0, _, _ => by simp [exA]
  | n + 1, t, k => by
    rw [exA]
    split
    · split <;> simp
    · exact cons_nodup (fun ts k => ls_nodup (fun t j v h => ex_sz d n t j v h) (fun t j => ex_nodup d n t j) ts k) k _ 0
theorem al_nodup (d : List DT) (t : Int) (k : Nat) : (alQ d t k).Nodup := by
  rw [alQ, List.Nodup, List.pairwise_flatMap]
  refine ⟨fun j _ => ex_nodup d (j + 1) t j, (List.nodup_range (n := k)).imp fun {a b} hne x hx y hy e => ?_⟩
  exact hne (by rw [← ex_sz d _ _ _ _ hx, ← ex_sz d _ _ _ _ hy, e])
theorem al_up (d : List DT) (t : Int) (k : Nat) : (alQ d t k).Pairwise fun v w => ceV v ≤ ceV w := by
  rw [alQ, List.pairwise_flatMap]
  refine ⟨fun j _ => ?_, (List.pairwise_lt_range (n := k)).imp fun {a b} hlt x hx y hy => ?_⟩
  · have : ∀ x ∈ exV d t j, ceV x = j := fun x hx => ex_sz d _ _ _ _ hx
    exact List.Pairwise.imp_of_mem (fun {a b} ha hb _ => by rw [this a ha, this b hb]; exact Nat.le_refl _) (ex_nodup d (j + 1) t j)
  · rw [ex_sz d _ _ _ _ hx, ex_sz d _ _ _ _ hy]; omega
mutual
theorem same_eq : ∀ v w : VT, same v w = true → v = w
  | .mk n c l, .mk n' c' l', h => by
    rw [same] at h
    simp only [Bool.and_eq_true, decide_eq_true_eq] at h
    rw [h.1.1, h.1.2, sameL_eq l l' h.2]
theorem sameL_eq : ∀ l l' : List VT, sameL l l' = true → l = l'
  | [], [], _ => rfl
  | [], _ :: _, h => by simp [sameL] at h
  | _ :: _, [], h => by simp [sameL] at h
  | v :: l, w :: l', h => by
    rw [sameL, Bool.and_eq_true] at h
    rw [same_eq v w h.1, sameL_eq l l' h.2]
end
/-! ### What Cells says of it -/
theorem bad_ty {d : List DT} {t : Int} {v : VT} (h : TyV d t v) : badV d t v = false := by
  by_cases h0 : t = 0
  · subst h0
    obtain ⟨h1, h2⟩ := h.intE
    unfold badV
    rw [if_pos rfl, h1, h2]; rfl
  · obtain ⟨p, k, hp, hk, rfl, h1, h2, h3, _⟩ := h.conE h0
    rw [badV_at d p hp, decide_eq_false]
    rintro (hh | hh | hh | hh)
    · exact hh h1
    · omega
    · omega
    · apply hh; rw [h2, h3]; simp [List.getD, hk]
theorem w_ty (d : List DT) : ∀ (z : Nat) (v : VT) (t : Int) (n : Nat), SizeOf.sizeOf v < z → TyV d t v → n + ceV v ≤ 65536 → (wV d (fun (_ : Unit) _ _ => ()) t v n ()).1 = 0 ∧ (wV d (fun (_ : Unit) _ _ => ()) t v n ()).2.1 = n + ceV v
  | 0, _, _, _, hz, _, _ => by omega
  | z + 1, .mk num con l, t, n, hz, hty, hs => by
    have hb := bad_ty hty
    rw [wV, if_neg (by rw [hb]; decide)]
    by_cases h0 : t = 0
    · subst h0
      obtain ⟨h1, h2⟩ := hty.intE
      simp only [VT.args] at h2
      subst h2
      rw [if_pos rfl]
      exact ⟨rfl, by simp [ceV, ceL]⟩
    · obtain ⟨p, k, hp, hk, rfl, h1, h2, h3, h4⟩ := hty.conE h0
      rw [if_neg h0, fldV_at d p hp (.mk num con l) k h2 hk]
      rw [ceV] at hs ⊢
      simp only [VT.args] at h3 h4
      have key : ∀ (ts : List Int) (l : List VT) (n : Nat), l.length = ts.length → (∀ x ∈ l, SizeOf.sizeOf x < z) → (∀ i (h1 : i < l.length) (h2 : i < ts.length), TyV d ts[i] l[i]) → n + ceL l ≤ 65536 → (wL d (fun (_ : Unit) _ _ => ()) ts l n ()).1 = 0 ∧ (wL d (fun (_ : Unit) _ _ => ()) ts l n ()).2.1 = n + ceL l := by
        intro ts l
        induction l generalizing ts with
        | nil => intro n _ _ _ _; rw [wL_nil, ceL]; exact ⟨rfl, rfl⟩
        | cons x l ih =>
          intro n hl hx ht hn
          cases ts with
          | nil => simp at hl
          | cons t ts =>
            rw [ceL] at hn ⊢
            have h5 := w_ty d z x t n (hx x (List.mem_cons_self ..)) (ht 0 (by simp) (by simp)) (by omega)
            rw [wL, List.headD_cons, if_neg (by rw [h5.1]; exact fun h => h rfl), List.tail_cons, h5.2]
            have h6 := ih ts (n + ceV x) (by simpa using hl) (fun y hy => hx y (List.mem_cons_of_mem _ hy)) (fun i a b => ht (i + 1) (by simpa using a) (by simpa using b)) (by omega)
            exact ⟨h6.1, by rw [h6.2]; omega⟩
      have hmem : ∀ x ∈ l, SizeOf.sizeOf x < z := fun x hx => by have := List.sizeOf_lt_of_mem hx; simp at hz; omega
      by_cases hl : 0 < l.length
      · rw [if_pos hl] at hs
        rw [if_neg (show ¬ (0 < l.length ∧ n = 65536) from fun hh => by omega), if_pos hl, if_pos hl]
        have := key d[p].cons[k].fields l (n + 1) h3 hmem h4 (by omega)
        exact ⟨this.1, by rw [this.2]; omega⟩
      · rw [if_neg hl] at hs
        rw [if_neg (show ¬ (0 < l.length ∧ n = 65536) from fun hh => hl hh.1), if_neg hl, if_neg hl]
        have := key d[p].cons[k].fields l n h3 hmem h4 (by omega)
        exact ⟨this.1, by rw [this.2]; omega⟩
theorem cells_ty2 {d : List DT} {t : Int} {v : VT} (h : tableF d t = 0) (hty : TyV d t v) (hs : ceV v ≤ 65536) : cellsF d t v = ((ceV v : Int), 0) := by
  have h1 := w_ty d _ v t 0 (Nat.lt_succ_self _) hty (by omega)
  unfold cellsF
  rw [if_neg (fun hh => hh h), if_neg (fun hh => hh h1.1), h1.2, Nat.zero_add]
/-! ### The limit -/
theorem foldN_ge {most : Int} {cl : Int → Int} (hc : ∀ f, 0 ≤ cl f) {ex : Int → Nat → List VT} : ∀ (ts : List Int) (k : Nat) (n m : Int), (∀ t ∈ ts, ∀ j, j ≤ k → ex t j ≠ [] → (j : Int) ≤ most → (j : Int) ≤ cl t) → lsV ex ts k ≠ [] → 0 ≤ m → m ≤ n → m + k ≤ most → m + k ≤ ts.foldl (stepN most cl) n
  | [], k, n, m, _, hne, _, hmn, hk => by
    rw [lsV] at hne
    split at hne
    · rw [List.foldl_nil]; omega
    · exact absurd rfl hne
  | t :: ts, k, n, m, hex, hne, hm, hmn, hk => by
    obtain ⟨l, hl⟩ := List.exists_mem_of_ne_nil _ hne
    rw [lsV] at hl
    obtain ⟨j, hj, hl⟩ := List.mem_flatMap.1 hl
    obtain ⟨v, hv, hl⟩ := List.mem_flatMap.1 hl
    obtain ⟨l', hl2, rfl⟩ := List.mem_map.1 hl
    rw [List.mem_range] at hj
    have h1 := hex t (List.mem_cons_self ..) j (by omega) (List.ne_nil_of_mem hv) (by omega)
    have h2 : m + j ≤ stepN most cl n t := by unfold stepN; split <;> omega
    have h3 := foldN_ge hc ts (k - j) (stepN most cl n t) (m + j) (fun t' ht' i hi => hex t' (List.mem_cons_of_mem _ ht') i (by omega)) (List.ne_nil_of_mem hl2) (by omega) h2 (by omega)
    rw [List.foldl_cons]
    omega
theorem bestN_ge {most : Int} {cl : Int → Int} : ∀ (cs : List CT) (b : Int), b ≤ bestN most cl cs b ∧ ∀ c ∈ cs, sumN most cl c.fields ≤ bestN most cl cs b
  | [], b => ⟨Int.le_refl _, fun c hc => by simp at hc⟩
  | c :: cs, b => by
    have := bestN_ge (most := most) (cl := cl) cs (if sumN most cl c.fields > b then sumN most cl c.fields else b)
    have e : bestN most cl (c :: cs) b = bestN most cl cs (if sumN most cl c.fields > b then sumN most cl c.fields else b) := rfl
    rw [e]
    refine ⟨?_, fun x hx => ?_⟩
    · have h1 := this.1; split at h1 <;> omega
    · rcases List.mem_cons.1 hx with rfl | hx
      · have h1 := this.1; split at h1 <;> omega
      · exact this.2 x hx
theorem cl_ge {d : List DT} (hT : TypedP d) {most : Int} (hm : 0 ≤ most) : ∀ (s : Nat) (t : Int) (n k : Nat), (reachF d t).length < s → (∀ u ∈ reachF d t, recF d u = false) → (0 ≤ t ∧ t ≤ d.length) → exA d n t k ≠ [] → (k : Int) ≤ most → (k : Int) ≤ clF d most s t
  | 0, _, _, _, hs, _, _, _, _ => by omega
  | s + 1, t, 0, k, hs, hr, ht, hne, hk => absurd (by rw [exA]) hne
  | s + 1, t, n + 1, k, hs, hr, ht, hne, hk => by
    obtain ⟨v, hv⟩ := List.exists_mem_of_ne_nil _ hne
    rw [exA] at hv
    rw [clF]
    split at hv
    · rename_i h0
      split at hv
      · rename_i hk0; rw [if_pos h0, hk0]; exact Int.le_refl _
      · simp at hv
    · rename_i h0
      rw [if_neg h0]
      obtain ⟨j, hj, hv⟩ := cons_mem _ _ hv
      have hb := bestN_ge (most := most) (cl := clF d most s) (consF d t) 0
      rcases con_mem hv with ⟨hf, hk0, _⟩ | ⟨hf, hk0, l, hl, _⟩
      · have := hb.1; omega
      · refine Int.le_trans ?_ (hb.2 _ (List.getElem_mem hj))
        have hfm : ∀ f ∈ (consF d t)[j].fields, f ∈ fieldsF d t := fun f hf => List.mem_flatMap.2 ⟨_, List.getElem_mem hj, hf⟩
        have := foldN_ge (most := most) (cl := clF d most s) (fun f => (clF_bd hm s f).1) (ex := exA d n) (consF d t)[j].fields (k - 1) 1 1 (fun f hf i _ hi hi2 => by
          have hff := hfm f hf
          have hlt := reach_less (typed_fields hT) ht hff (hr _ (reach_closed (typed_fields hT) ht).1)
          exact cl_ge hT hm s f n i (by omega) (fun u hu => hr u (reach_sub (typed_fields hT) ht hff hu)) (typed_fields hT _ _ hff) hi hi2) (List.ne_nil_of_mem hl) (by omega) (by omega) (by omega)
        unfold sumN
        rw [if_neg hf]
        omega
theorem ex_lim {d : List DT} (hT : TypedP d) (hd8 : d.length ≤ 1000000) {most : Int} (hm : 0 ≤ most) {t : Int} (ht : 0 ≤ t ∧ t ≤ d.length) {k : Nat} (hk : (k : Int) ≤ most) (hne : exV d t k ≠ []) : (k : Int) ≤ limF d t most := by
  have hrl := (reach_ok d t).len
  unfold limF
  split
  · exact hk
  · rename_i hr
    have hr' : (reachF d t).any (recF d) = false := by simpa using hr
    have := cl_ge hT hm (d.length + 3) t (k + 1) k (by omega) (fun u hu => by rw [List.any_eq_false] at hr'; simpa using hr' u hu) ht hne hk
    split <;> omega
/-- The reference's enumeration is the program's. -/
theorem all_alQ {d : List DT} (hck : checkF d = 0) {t : Int} (ht : 0 ≤ t ∧ t ≤ d.length) {most : Nat} : allV d t most = alQ d t (most + 1) := by
  have hT := (checkF_ok hck).2.2.2.1
  have hdl := (checkF_bd hck).2
  have h0 : tableF d t = 0 := by unfold tableF; rw [if_neg (fun hh => hh hck), if_neg (by omega)]
  have hb := limF_bd d t (most := most) (by omega)
  rw [allV, if_neg (by rintro (h | h); exact h h0; omega)]
  obtain ⟨r, hr⟩ : ∃ r, most + 1 = (limF d t most).toNat + 1 + r := ⟨most - (limF d t most).toNat, by omega⟩
  rw [alQ, hr, show List.range ((limF d t most).toNat + 1 + r) = List.range ((limF d t most).toNat + 1) ++ (List.range r).map ((limF d t most).toNat + 1 + ·) from List.range_add, List.flatMap_append]
  have : ((List.range r).map ((limF d t most).toNat + 1 + ·)).flatMap (fun k => exV d t k) = [] := by
    rw [List.flatMap_eq_nil_iff]
    intro k hk
    obtain ⟨i, hi, rfl⟩ := List.mem_map.1 hk
    rw [List.mem_range] at hi
    refine Classical.byContradiction fun hne => ?_
    have := ex_lim hT (by omega) (most := most) (by omega) ht (k := (limF d t most).toNat + 1 + i) (by omega) hne
    omega
  rw [this, List.append_nil]
theorem al_bad {d : List DT} {t most : Int} (h : ¬ tableF d t = 0) : allV d t most = [] := by rw [allV, if_pos (.inl h)]
end Go.Proofs.YtieaiheejhmbfaaGreatDoor.ML
